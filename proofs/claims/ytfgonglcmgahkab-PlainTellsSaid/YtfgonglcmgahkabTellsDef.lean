/- What the halves tell, sign by sign. -/
import Derived.Test.YtfgonglcmgahkabWMini
import Derived.Laws.RangeAny
import Derived.Laws.RangeString
namespace Go.Proofs.Ytfgonglcmgahkab.L
open Go.RowKit Go.Proofs.YtfgonglcmgahkabW.PrintWords
/-- One place's sign against what lives there: false: it tells otherwise. -/
def tellOk (top low : Bool) (r : Int) : Bool := (top == (r == 9600 || r == 9608)) && (low == (r == 9604 || r == 9608)) && (top || low || r == 32)
def tellsL (lives : List Bool) (s : ByteArray) (W H : Int) : Nat → Nat → Int → Int → Int → Option Bool
  | 0, _, _, _, _ => none
  | n + 1, pos, x, y, lines =>
    if pos < s.size then
      (if ((Utf8.decode s pos).1 : Int) = 10 then (if x = W then tellsL lives s W H n (pos + (Utf8.decode s pos).2) 0 (wrap64 (y + 2)) (wrap64 (lines + 1)) else some false)
      else if W ≤ x then some false
      else if H ≤ y then some false
      else if 0 ≤ wrap64 (wrap64 (21 * y) + x) ∧ wrap64 (wrap64 (21 * y) + x) < lives.length ∧ 0 ≤ wrap64 (wrap64 (21 * wrap64 (y + 1)) + x) ∧ wrap64 (wrap64 (21 * wrap64 (y + 1)) + x) < lives.length then
        (if tellOk (lives.getD (wrap64 (wrap64 (21 * y) + x)).toNat false) (lives.getD (wrap64 (wrap64 (21 * wrap64 (y + 1)) + x)).toNat false) ((Utf8.decode s pos).1 : Int) = true then tellsL lives s W H n (pos + (Utf8.decode s pos).2) (wrap64 (x + 1)) y lines else some false)
      else none)
    else some (decide (lines = wrap64 (Int.tdiv (wrap64 (H + 1)) 2)) && decide (x = 0))
def tellsF (lives : List Bool) (s : ByteArray) (W H : Int) : Option Bool := tellsL lives s W H (s.size + 1) 0 0 0 0
theorem sign_cases (r : Int) : ((r == 9600) = true ∧ (r == 9608) = false ∧ (r == 9604) = false ∧ (r == 32) = false) ∨ ((r == 9600) = false ∧ (r == 9608) = true ∧ (r == 9604) = false ∧ (r == 32) = false) ∨ ((r == 9600) = false ∧ (r == 9608) = false ∧ (r == 9604) = true ∧ (r == 32) = false) ∨ ((r == 9600) = false ∧ (r == 9608) = false ∧ (r == 9604) = false ∧ (r == 32) = true) ∨ ((r == 9600) = false ∧ (r == 9608) = false ∧ (r == 9604) = false ∧ (r == 32) = false) := by
  by_cases e1 : r = 9600
  · subst e1; exact .inl ⟨rfl, rfl, rfl, rfl⟩
  · by_cases e2 : r = 9608
    · subst e2; exact .inr (.inl ⟨rfl, rfl, rfl, rfl⟩)
    · by_cases e3 : r = 9604
      · subst e3; exact .inr (.inr (.inl ⟨rfl, rfl, rfl, rfl⟩))
      · by_cases e4 : r = 32
        · subst e4; exact .inr (.inr (.inr (.inl ⟨rfl, rfl, rfl, rfl⟩)))
        · exact .inr (.inr (.inr (.inr ⟨beq_eq_false_iff_ne.mpr e1, beq_eq_false_iff_ne.mpr e2, beq_eq_false_iff_ne.mpr e3, beq_eq_false_iff_ne.mpr e4⟩)))
theorem bne_of {r c : Int} {b : Bool} (h : (r == c) = b) : (r != c) = !b := by rw [bne, h]
end Go.Proofs.Ytfgonglcmgahkab.L

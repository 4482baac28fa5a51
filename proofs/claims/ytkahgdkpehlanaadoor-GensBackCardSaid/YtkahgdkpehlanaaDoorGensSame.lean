/- A rule whose dead fade: the program's reading is the document's; what the examples say. -/
import Derived.Test.YtkahgdkpehlanaaDoorGensLib
import Derived.Test.YtkahgdkpehlanaaDoorPm8
import Derived.Test.YtkahgdkpehlanaaDoorPm14
import Derived.Test.YtkahgdkpehlanaaDoorGensAwake
namespace Go.Proofs.YtkahgdkpehlanaaDoor.L
open Go.RowKit Go.Proofs.YtkahgdkpehlanaaDoor.P Go.Proofs.YtkahgdkpehlanaaDoorW.PrintWords Go.Proofs.YtkahgdkpehlanaaDoorW.PrintLast Go.Proofs.YtkahgdkpehlanaaDoorW.PrintMore
/-- The two slashes, as the program looks for them. -/
def p1 (s : ByteArray) : Nat := fsb s 47 s.size 0
def p2 (s : ByteArray) : Nat := if p1 s < s.size then fsb s 47 (s.size - (p1 s + 1)) (p1 s + 1) else s.size
def bLet (s : ByteArray) : Prop := 0 < s.size ∧ (bt s 0 = 66 ∨ bt s 0 = 98)
instance (s : ByteArray) : Decidable (bLet s) := by unfold bLet; exact inferInstance
/-- What a text is read as. -/
def gensAll (s : ByteArray) : Int × Int × Int × Int × Int × Int :=
  if 1048576 < s.size then (0, 0, 0, 0, 0, 3) else
  let l := if bLet s then lifeParse (s.extract 0 (p2 s)) else gmAll s
  if l.2.2.2.2 = 0 then
    if p2 s < s.size then
      let t := stT (s.extract (p2 s + 1) s.size)
      if t.2.2 = true then (l.1, l.2.1, l.2.2.1, t.1, 0, 0) else (0, 0, 0, 0, ((p2 s + 1 : Nat) : Int) + t.2.1, 90)
    else (0, 0, 0, 0, (s.size : Int), 90)
  else (0, 0, 0, 0, l.2.2.2.1, l.2.2.2.2)
theorem p2_le (s : ByteArray) : p2 s ≤ s.size := by
  unfold p2
  by_cases c : p1 s < s.size
  · rw [if_pos c]; exact fsb_le s 47 _ _ c
  · rw [if_neg c]; exact Nat.le_refl _
theorem stT_range (t : ByteArray) : 0 ≤ (stT t).2.1 ∧ (stT t).2.1 ≤ t.size := by
  have hF := stF_le t
  have hc := cnt_le t (t.size - stF t) (stF t) (by omega)
  unfold stT
  have hcc : stC t = cnt t (t.size - stF t) (stF t) := rfl
  rw [← hcc] at hc
  by_cases c1 : stF t + stC t < t.size
  · rw [if_pos c1]; dsimp only; omega
  · rw [if_neg c1]
    by_cases c2 : stC t = 0
    · rw [if_pos c2]; dsimp only; omega
    · rw [if_neg c2]
      by_cases c3 : vv t (stC t) (stF t) 0 < 2 ∨ 256 < vv t (stC t) (stF t) 0
      · rw [if_pos c3]; dsimp only; omega
      · rw [if_neg c3]; dsimp only; omega
theorem w_add (a b c : Nat) (h : a + b = c) (hc : c ≤ 1048580) : wrap64 ((a : Int) + (b : Int)) = (c : Int) := by
  subst h
  rw [w64 (by omega) (by omega)]
  omega
theorem w_one (a : Nat) (h : a + 1 ≤ 1048577) : wrap64 ((a : Int) + 1) = ((a + 1 : Nat) : Int) := w_add a 1 (a + 1) rfl (by omega)
/-- Behind the lists, in the program. -/
theorem parse_j0 (s : ByteArray) (hs : s.size ≤ 1048576) (k : Nat) (hk : s.size + 50 ≤ k) (x5 x6 : ByteArray) (x7 : Bool)
    (h : (x7 = true ∧ p2 s < s.size ∧ x5 = s.extract 0 (p2 s) ∧ x6 = s.extract (p2 s + 1) s.size) ∨ (x7 = false ∧ p2 s = s.size ∧ x5 = s)) : gens_Parse.j0 k s x5 x6 x7 = some (gensAll s) := by
  have hx5 : x5 = s.extract 0 (p2 s) := by
    rcases h with ⟨_, _, h5, _⟩ | ⟨_, h2, h5⟩
    · exact h5
    · rw [h2, part_all]; exact h5
  have h66 := prefix_one s 66
  have h98 := prefix_one s 98
  obtain ⟨k, rfl⟩ : ∃ m, k = m + 1 := ⟨k - 1, by omega⟩
  have tail : ∀ k, s.size + 40 ≤ k → ∀ l : Int × Int × Int × Int × Int, (if bLet s then lifeParse (s.extract 0 (p2 s)) else gmAll s) = l → gens_Parse.j2 k s x5 x6 x7 l.2.2.2.1 l.2.2.2.2 l.1 l.2.1 l.2.2.1 = some (gensAll s) := fun k hk l hl => by
    obtain ⟨k, rfl⟩ : ∃ m, k = m + 1 := ⟨k - 1, by omega⟩
    unfold gensAll
    rw [if_neg (by omega), hl]
    dsimp only
    simp only [gens_Parse.j2]
    by_cases c : l.2.2.2.2 = 0
    · rw [if_pos c, if_pos c]
      rcases h with ⟨rfl, h2, h5, h6⟩ | ⟨rfl, h2, h5⟩
      · have hz : (s.extract (p2 s + 1) s.size).size = s.size - (p2 s + 1) := by rw [ByteArray.size_extract]; omega
        have hz5 : x5.size = p2 s := by rw [h5, ByteArray.size_extract]; omega
        have hr := stT_range x6
        rw [if_pos (by trivial), states_prog x6 (by rw [h6, hz]; omega) k (by rw [h6, hz]; omega), Option.bind_some, if_pos h2, ← h6, hz5]
        by_cases c2 : (stT x6).2.2 = true
        · rw [if_pos c2, if_pos c2]
        · have hz6 : x6.size = s.size - (p2 s + 1) := by rw [h6]; exact hz
          have y1 : -9223372036854775808 ≤ ((p2 s + 1 : Nat) : Int) + (stT x6).2.1 := by omega
          have y2 : ((p2 s + 1 : Nat) : Int) + (stT x6).2.1 ≤ 9223372036854775807 := by omega
          have y3 : p2 s + 1 ≤ 1048577 := by omega
          rw [if_neg c2, if_neg c2, w_one _ y3, w64 y1 y2]
      · rw [if_neg (by decide), if_neg (by omega)]
    · rw [if_neg c, if_neg c]
  have lists : ∀ k b, s.size + 45 ≤ k → b = decide (bLet s) → gens_Parse.j1 k s x5 x6 x7 b = some (gensAll s) := fun k b hk hb => by
    obtain ⟨k, rfl⟩ : ∃ m, k = m + 1 := ⟨k - 1, by omega⟩
    simp only [gens_Parse.j1]
    by_cases c : bLet s
    · rw [hb, if_pos (decide_eq_true c)]
      unfold life_Parse.f
      rw [Option.bind_some]
      exact tail k (by omega) _ (by rw [if_pos c, hx5])
    · rw [hb, if_neg (by rw [decide_eq_false c]; decide)]
      unfold gens_counts.f
      rw [if_pos (by omega), Option.bind_some]
      exact tail k (by omega) _ (by rw [if_neg c])
  simp only [gens_Parse.j0]
  rw [h66, Option.bind_some]
  by_cases c1 : 0 < s.size ∧ bt s 0 = ((66 : UInt8).toNat : Int)
  · rw [if_pos (decide_eq_true c1)]
    exact lists k true (by omega) (decide_eq_true (show bLet s from ⟨c1.1, Or.inl c1.2⟩)).symm
  · rw [if_neg (by rw [decide_eq_false c1]; decide), h98, Option.bind_some]
    refine lists k _ (by omega) ?_
    rw [Bool.eq_iff_iff, decide_eq_true_eq, decide_eq_true_eq]
    constructor
    · exact fun e => ⟨e.1, Or.inr e.2⟩
    · rintro ⟨e1, e2 | e2⟩
      · exact absurd ⟨e1, e2⟩ c1
      · exact ⟨e1, e2⟩
theorem parse_prog (s : ByteArray) (k : Nat) (hk : s.size + 100 ≤ k) : gens_Parse.f k s = some (gensAll s) := by
  unfold gens_Parse.f
  by_cases c : 1048576 < s.size
  · rw [if_pos (by omega)]
    unfold gensAll
    rw [if_pos c]
  · have hs : s.size ≤ 1048576 := by omega
    have h47 : (47 : Int).toNat.toUInt8 = 47 := by decide
    have hi1 := idx_from s 47 s.size 0 (by omega)
    rw [List.drop_zero] at hi1
    have e47 : ((47 : UInt8).toNat : Int) = 47 := rfl
    rw [e47, Nat.sub_zero] at hi1
    have hi1' : Lib.indexByte s.data.toList 47 = if p1 s < s.size then ((p1 s : Nat) : Int) else -1 := hi1
    rw [if_neg (by omega)]
    unfold strings_IndexByte.f
    rw [h47, hi1', Option.bind_some]
    by_cases c1 : p1 s < s.size
    · have hi2 := idx_from s 47 (s.size - (p1 s + 1)) (p1 s + 1) (by omega)
      rw [e47] at hi2
      have hge := fsb_ge s 47 (s.size - (p1 s + 1)) (p1 s + 1)
      have hp2 : p2 s = fsb s 47 (s.size - (p1 s + 1)) (p1 s + 1) := by unfold p2; rw [if_pos c1]
      have hi2' : Lib.indexByte (s.data.toList.drop (p1 s + 1)) 47 = if p2 s < s.size then ((p2 s - (p1 s + 1) : Nat) : Int) else -1 := by rw [hp2]; exact hi2
      rw [← hp2] at hge
      have hle := p2_le s
      have q1 : ((p1 s : Nat) : Int) ≥ 0 := by omega
      have q2 : 0 ≤ ((p1 s + 1 : Nat) : Int) := by omega
      have q3 : ((p1 s + 1 : Nat) : Int) ≤ (s.size : Int) := by omega
      have q4 : p1 s + 1 ≤ 1048577 := by omega
      have q5 : ((p2 s - (p1 s + 1) : Nat) : Int) ≥ 0 := by omega
      have q6 : 0 ≤ ((p2 s : Nat) : Int) := by omega
      have q7 : ((p2 s : Nat) : Int) ≤ (s.size : Int) := by omega
      have q8 : 0 ≤ ((p2 s + 1 : Nat) : Int) := by omega
      have hk2 : s.size + 50 ≤ k := by omega
      by_cases c2 : p2 s < s.size
      · have q9 : ((p2 s + 1 : Nat) : Int) ≤ (s.size : Int) := by omega
        have m2 : p1 s + 1 + (p2 s - (p1 s + 1)) = p2 s := by omega
        have m3 : p1 s + (p2 s - (p1 s + 1)) = p2 s - 1 := by omega
        have m4 : p2 s - 1 + 2 = p2 s + 1 := by omega
        have m5 : p2 s ≤ 1048580 := by omega
        have m6 : p2 s - 1 ≤ 1048580 := by omega
        have m7 : p2 s + 1 ≤ 1048580 := by omega
        have e2 := w_add (p1 s + 1) (p2 s - (p1 s + 1)) (p2 s) m2 m5
        have e3 := w_add (p1 s) (p2 s - (p1 s + 1)) (p2 s - 1) m3 m6
        have e4 : wrap64 (((p2 s - 1 : Nat) : Int) + 2) = ((p2 s + 1 : Nat) : Int) := w_add (p2 s - 1) 2 (p2 s + 1) m4 m7
        rw [if_pos c1, if_pos q1, w_one _ q4, if_pos q2, if_pos q3, Int.toNat_natCast, drop_part, hi2', Option.bind_some, if_pos c2, if_pos q5, e2, e3, e4, if_pos q6, if_pos q7, if_pos q8, if_pos q9, Int.toNat_natCast, Int.toNat_natCast]
        exact parse_j0 s hs k hk2 _ _ true (Or.inl ⟨rfl, c2, rfl, rfl⟩)
      · have q9 : p2 s = s.size := by omega
        rw [if_pos c1, if_pos q1, w_one _ q4, if_pos q2, if_pos q3, Int.toNat_natCast, drop_part, hi2', Option.bind_some, if_neg c2, if_neg (by decide)]
        exact parse_j0 s hs k hk2 _ _ false (Or.inr ⟨rfl, q9, rfl⟩)
    · have hp2 : p2 s = s.size := by unfold p2; rw [if_neg c1]
      rw [if_neg c1, if_neg (by decide)]
      exact parse_j0 s hs k (by omega) _ _ false (Or.inr ⟨rfl, hp2, rfl⟩)
end Go.Proofs.YtkahgdkpehlanaaDoor.L

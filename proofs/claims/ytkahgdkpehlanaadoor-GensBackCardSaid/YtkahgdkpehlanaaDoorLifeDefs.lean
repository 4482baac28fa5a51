/- What a text of a rule of births and stays is read as: plain functions, shared by the program's walk and the reference's. -/
import Derived.Test.YtkahgdkpehlanaaDoorPureLib
import Derived.Laws.BitsAllLaws
namespace Go.Proofs.YtkahgdkpehlanaaDoor.L
open Go.RowKit Go.Proofs.YtkahgdkpehlanaaDoorW.PrintWords
/-- The digits from a place on: is one told twice (then its place), else where they end; the digits told so far, as bits. -/
def digs (s : ByteArray) : Nat → Nat → Nat → Bool × Nat × Nat
  | 0, p, m => (false, p, m)
  | n + 1, p, m => if p < s.size ∧ 48 ≤ bt s p ∧ bt s p ≤ 57 then (if m.testBit (bt s p - 48).toNat = true then (true, p, m) else digs s n (p + 1) (m ||| 2 ^ (bt s p - 48).toNat)) else (false, p, m)
def isL (s : ByteArray) (p : Nat) (c : Int) : Prop := p < s.size ∧ (bt s p = c ∨ bt s p = c + 32)
instance (s : ByteArray) (p : Nat) (c : Int) : Decidable (isL s p c) := by unfold isL; exact inferInstance
/-- The first digit, from a place on, above a number. -/
def firstBig (s : ByteArray) (g : Int) : Nat → Nat → Option Nat
  | 0, _ => none
  | n + 1, p => if p < s.size then (if 48 ≤ bt s p ∧ bt s p ≤ 57 ∧ g < bt s p - 48 then some p else firstBig s g n (p + 1)) else none
def hoodOf (s : ByteArray) (p : Nat) : Int := if isL s p 86 then 2 else if isL s p 72 then 3 else 1
def mostOf (h : Int) : Int := if h = 2 then 4 else if h = 3 then 6 else 8
def lifeTail (s : ByteArray) (p m0 m1 : Nat) : Int × Int × Int × Int × Int :=
  if (if hoodOf s p = 1 then p else p + 1) < s.size then (0, 0, 0, ((if hoodOf s p = 1 then p else p + 1 : Nat) : Int), 80) else
  match firstBig s (mostOf (hoodOf s p)) s.size 0 with
  | some i => (0, 0, 0, (i : Int), 82)
  | none => (hoodOf s p, (m0 : Int), (m1 : Int), 0, 0)
def st2 (s : ByteArray) (p m0 m1 : Nat) : Int × Int × Int × Int × Int := if isL s p 83 then (match digs s s.size (p + 1) m1 with
    | (true, q, _) => (0, 0, 0, (q : Int), 81)
    | (false, q, m) => lifeTail s q m0 m) else (0, 0, 0, (p : Int), 80)
def st1 (s : ByteArray) (p m0 m1 : Nat) : Int × Int × Int × Int × Int := if p < s.size ∧ bt s p = 47 then st2 s (p + 1) m0 m1 else (0, 0, 0, (p : Int), 80)
def st0 (s : ByteArray) (p m0 m1 : Nat) : Int × Int × Int × Int × Int := if isL s p 66 then (match digs s s.size (p + 1) m0 with
    | (true, q, _) => (0, 0, 0, (q : Int), 81)
    | (false, q, m) => st1 s q m m1) else (0, 0, 0, (p : Int), 80)
def lifeStage (s : ByteArray) (i p m0 m1 : Nat) : Int × Int × Int × Int × Int := if i = 0 then st0 s p m0 m1 else if i = 1 then st1 s p m0 m1 else if i = 2 then st2 s p m0 m1 else lifeTail s p m0 m1
def lifeParse (s : ByteArray) : Int × Int × Int × Int × Int := if 1048576 < s.size then (0, 0, 0, 0, 3) else lifeStage s 0 0 0 0
theorem hood_v (s : ByteArray) (p : Nat) (h1 : p < s.size) (h2 : bt s (p : Int) = 86 ∨ bt s (p : Int) = 86 + 32) : hoodOf s p = 2 := by
  unfold hoodOf
  rw [if_pos (show isL s p 86 from ⟨h1, h2⟩)]
theorem hood_h (s : ByteArray) (p : Nat) (h1 : p < s.size) (h2 : ¬ (bt s (p : Int) = 86 ∨ bt s (p : Int) = 86 + 32)) (h3 : bt s (p : Int) = 72 ∨ bt s (p : Int) = 72 + 32) : hoodOf s p = 3 := by
  unfold hoodOf
  rw [if_neg (show ¬ isL s p 86 from fun e => h2 e.2), if_pos (show isL s p 72 from ⟨h1, h3⟩)]
theorem hood_n (s : ByteArray) (p : Nat) (h2 : ¬ isL s p 86) (h3 : ¬ isL s p 72) : hoodOf s p = 1 := by
  unfold hoodOf
  rw [if_neg h2, if_neg h3]
theorem tail_v (s : ByteArray) (p m0 m1 : Nat) (h : Int) (hh : hoodOf s p = h) (hn : h ≠ 1) : lifeTail s p m0 m1 = (if p + 1 < s.size then (0, 0, 0, ((p + 1 : Nat) : Int), (80 : Int)) else match firstBig s (mostOf h) s.size 0 with
    | some i => ((0 : Int), (0 : Int), (0 : Int), (i : Int), (82 : Int))
    | none => (h, (m0 : Int), (m1 : Int), 0, 0)) := by
  unfold lifeTail
  simp only [hh, if_neg hn]
theorem tail_n (s : ByteArray) (p m0 m1 : Nat) (hh : hoodOf s p = 1) : lifeTail s p m0 m1 = (if p < s.size then ((0 : Int), (0 : Int), (0 : Int), (p : Int), (80 : Int)) else match firstBig s (mostOf 1) s.size 0 with
    | some i => ((0 : Int), (0 : Int), (0 : Int), (i : Int), (82 : Int))
    | none => (1, (m0 : Int), (m1 : Int), 0, 0)) := by
  unfold lifeTail
  simp only [hh, if_true]
theorem pow_lt9 (d : Nat) (hd : d ≤ 9) : 2 ^ d < 65536 := by
  have h2 : 2 ^ d ≤ 2 ^ 9 := Nat.pow_le_pow_right (by omega) hd
  have h3 : (2 : Nat) ^ 9 = 512 := rfl
  omega
theorem wrap_pow (d : Nat) (hd : d ≤ 9) : IntKind.u16.wrap ((2 : Int) ^ d) = ((2 ^ d : Nat) : Int) := by
  rw [IntKind.wrap_u16]
  have h1 : ((2 : Int) ^ d) = ((2 ^ d : Nat) : Int) := (Int.natCast_pow 2 d).symm
  rw [h1]
  exact Int.emod_eq_of_lt (Int.natCast_nonneg _) (Int.ofNat_lt.mpr (pow_lt9 d hd))
theorem and_pow (m d : Nat) : (m &&& 2 ^ d = 0) = (m.testBit d = false) := by
  rw [eq_iff_iff]
  constructor
  · intro h
    have h2 : (m &&& 2 ^ d).testBit d = (0 : Nat).testBit d := by rw [h]
    rw [Nat.testBit_and, Nat.testBit_two_pow, Nat.zero_testBit, decide_eq_true rfl, Bool.and_true] at h2
    exact h2
  · intro h
    apply Nat.eq_of_testBit_eq
    intro j
    rw [Nat.testBit_and, Nat.testBit_two_pow, Nat.zero_testBit]
    by_cases e : d = j
    · subst e; rw [h]; rfl
    · rw [decide_eq_false e, Bool.and_false]
theorem bit_and (m d : Nat) (hm : m < 1024) (hd : d ≤ 9) : (bits .and .u16 (m : Int) (IntKind.u16.wrap ((2 : Int) ^ d)) != 0) = m.testBit d := by
  rw [wrap_pow d hd, u16_and_nat m (2 ^ d) (by omega) (pow_lt9 d hd)]
  have h := and_pow m d
  cases ht : m.testBit d with
  | false =>
    rw [ht] at h
    rw [h.mpr rfl]
    rfl
  | true =>
    rw [ht] at h
    rw [bne_iff_ne]
    intro e
    have e2 : m &&& 2 ^ d = 0 := by exact_mod_cast e
    exact absurd (h.mp e2) (by decide)
theorem bit_or (m d : Nat) (hm : m < 1024) (hd : d ≤ 9) : bits .or .u16 (m : Int) (IntKind.u16.wrap ((2 : Int) ^ d)) = ((m ||| 2 ^ d : Nat) : Int) := by
  rw [wrap_pow d hd, u16_or_nat m (2 ^ d) (by omega) (pow_lt9 d hd)]
theorem or_lt (m d : Nat) (hm : m < 1024) (hd : d ≤ 9) : m ||| 2 ^ d < 1024 := Nat.or_lt_two_pow (n := 10) hm (by
  have h2 : 2 ^ d ≤ 2 ^ 9 := Nat.pow_le_pow_right (by omega) hd
  have h3 : (2 : Nat) ^ 9 = 512 := rfl
  omega)
theorem digs_succ (s : ByteArray) (n p m : Nat) : digs s (n + 1) p m = if p < s.size ∧ 48 ≤ bt s p ∧ bt s p ≤ 57 then (if m.testBit (bt s p - 48).toNat = true then (true, p, m) else digs s n (p + 1) (m ||| 2 ^ (bt s p - 48).toNat)) else (false, p, m) := rfl
end Go.Proofs.YtkahgdkpehlanaaDoor.L

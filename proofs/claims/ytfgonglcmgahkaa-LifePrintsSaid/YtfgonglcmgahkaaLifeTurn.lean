/- The rule made out of any numbers, and the rule turned: plain functions of whole numbers. -/
import Derived.Test.YtfgonglcmgahkaaLifeLib
import Derived.Test.YtfgonglcmgahkaaP28
import Derived.Test.YtfgonglcmgahkaaP31
namespace Go.Proofs.Ytfgonglcmgahkaa.L
open Go.RowKit Go.Proofs.Ytfgonglcmgahkaa.P Go.Proofs.YtfgonglcmgahkaaW.PrintWords Go.Proofs.YtfgonglcmgahkaaW.PrintLast Go.Proofs.YtfgonglcmgahkaaW.PrintMore

/-- A rule that may be. -/
def May (H : Int) (B S : Nat) : Prop := (H = 1 ∧ B < 512 ∧ S < 512) ∨ (H = 2 ∧ B < 32 ∧ S < 32) ∨ (H = 3 ∧ B < 128 ∧ S < 128)
theorem May.lt {H : Int} {B S : Nat} (h : May H B S) : B < 512 ∧ S < 512 := by unfold May at h; omega
theorem May.hood {H : Int} {B S : Nat} (h : May H B S) : H = 1 ∨ H = 2 ∨ H = 3 := by unfold May at h; omega
theorem or_sh (b s n : Nat) (hb : b < 2 ^ n) (hs : s < 2 ^ n) : (b ||| s) >>> n = 0 := by
  rw [Nat.shiftRight_eq_div_pow]
  exact Nat.div_eq_of_lt (Nat.or_lt_two_pow hb hs)
theorem May.chk {H : Int} {B S : Nat} (h : May H B S) : chk H B S = 0 := by
  unfold L.chk
  rw [if_pos h.hood]
  rcases h with ⟨rfl, hb, hs⟩ | ⟨rfl, hb, hs⟩ | ⟨rfl, hb, hs⟩
  · rw [show (mostOf 1).toNat + 1 = 9 from rfl, or_sh B S 9 hb hs, if_pos rfl]
  · rw [show (mostOf 2).toNat + 1 = 5 from rfl, or_sh B S 5 hb hs, if_pos rfl]
  · rw [show (mostOf 3).toNat + 1 = 7 from rfl, or_sh B S 7 hb hs, if_pos rfl]
theorem made_eq (a : Int) (ha : 0 ≤ a) (b s : Nat) (hb : b < 65536) (hs : s < 65536) : ∃ (H : Int) (B S : Nat), vivariumlaw08_made.f a b s = some (H, (B : Int), (S : Int)) ∧ May H B S := by
  unfold vivariumlaw08_made.f
  rw [Option.bind_some]
  have e : Int.tmod a 3 = 0 ∨ Int.tmod a 3 = 1 ∨ Int.tmod a 3 = 2 := by rw [Int.tmod_eq_emod_of_nonneg ha]; omega
  have hl : ∀ x n : Nat, n < 2 ^ 16 → x &&& n ≤ n := fun x n _ => Nat.and_le_right
  rcases e with e | e | e
  · refine ⟨1, b &&& 511, s &&& 511, ?_, .inl ⟨rfl, by have := hl b 511 (by decide +kernel); omega, by have := hl s 511 (by decide +kernel); omega⟩⟩
    rw [e, if_pos (by decide +kernel), if_pos (by decide +kernel), show rd [1, 2, 3] 0 = 1 from rfl, show vivariumlaw08_most.f 1 = some 8 from rfl, Option.bind_some, if_pos (by decide +kernel), show IntKind.u16.wrap ((shl .u16 1 (IntKind.u64.wrap (wrap64 (8 + 1)))) - 1) = ((511 : Nat) : Int) from by decide +kernel, u16_and_nat b 511 hb (by decide +kernel), u16_and_nat s 511 hs (by decide +kernel)]
  · refine ⟨2, b &&& 31, s &&& 31, ?_, .inr (.inl ⟨rfl, by have := hl b 31 (by decide +kernel); omega, by have := hl s 31 (by decide +kernel); omega⟩)⟩
    rw [e, if_pos (by decide +kernel), if_pos (by decide +kernel), show rd [1, 2, 3] 1 = 2 from rfl, show vivariumlaw08_most.f 2 = some 4 from rfl, Option.bind_some, if_pos (by decide +kernel), show IntKind.u16.wrap ((shl .u16 1 (IntKind.u64.wrap (wrap64 (4 + 1)))) - 1) = ((31 : Nat) : Int) from by decide +kernel, u16_and_nat b 31 hb (by decide +kernel), u16_and_nat s 31 hs (by decide +kernel)]
  · refine ⟨3, b &&& 127, s &&& 127, ?_, .inr (.inr ⟨rfl, by have := hl b 127 (by decide +kernel); omega, by have := hl s 127 (by decide +kernel); omega⟩)⟩
    rw [e, if_pos (by decide +kernel), if_pos (by decide +kernel), show rd [1, 2, 3] 2 = 3 from rfl, show vivariumlaw08_most.f 3 = some 6 from rfl, Option.bind_some, if_pos (by decide +kernel), show IntKind.u16.wrap ((shl .u16 1 (IntKind.u64.wrap (wrap64 (6 + 1)))) - 1) = ((127 : Nat) : Int) from by decide +kernel, u16_and_nat b 127 hb (by decide +kernel), u16_and_nat s 127 hs (by decide +kernel)]

/-- Which bits are left, from a bit on. -/
def flipN (n s : Nat) : Nat → Nat → Nat → Nat
  | 0, _, t => t
  | d + 1, i, t => flipN n s d (i + 1) (if s.testBit i = true then t &&& (65535 - 2 ^ (n - i)) else t)
theorem bitq (v i : Nat) (hv : v < 65536) : (Go.bits .and .u16 ((v : Int) / 2 ^ ((i : Int)).toNat) 1 = 1) = (v.testBit i = true) := by
  rw [Int.toNat_natCast, show ((v : Int) / 2 ^ i) = ((v / 2 ^ i : Nat) : Int) from by rw [Int.natCast_ediv, Int.natCast_pow]; rfl]
  rw [show (1 : Int) = ((1 : Nat) : Int) from rfl, u16_and_nat (v / 2 ^ i) 1 (Nat.lt_of_le_of_lt (Nat.div_le_self _ _) hv) (by omega), Nat.and_one_is_mod, Nat.testBit_eq_decide_div_mod_eq, eq_iff_iff, decide_eq_true_iff]
  omega
theorem turned_go (n : Nat) (hn : n ≤ 8) (h : Int) (b s : Nat) (hb : b < 65536) (hs : s < 65536) : ∀ (d i k tb ts : Nat), n + 1 - i = d → i ≤ n + 1 → d < k → tb < 65536 → ts < 65536 → life_Turned.l0 k (n : Int) ((n + 1 : Nat) : Int) (i : Int) h b s h tb ts = some (h, ((flipN n s d i tb : Nat) : Int), ((flipN n b d i ts : Nat) : Int), 0) := by
  intro d
  induction d with
  | zero =>
    intro i k tb ts hd hi hk ht hu
    obtain ⟨k, rfl⟩ : ∃ m, k = m + 1 := ⟨k - 1, by omega⟩
    simp only [life_Turned.l0]
    rw [if_neg (by omega)]
    rfl
  | succ d ih =>
    intro i k tb ts hd hi hk ht hu
    obtain ⟨k, rfl⟩ : ∃ m, k = m + 1 := ⟨k - 1, by omega⟩
    have h9 : n - i ≤ 9 := by omega
    have q1 : (i : Int) < ((n + 1 : Nat) : Int) := by omega
    have q2 : (0 : Int) ≤ (i : Int) := by omega
    have q3 : (i : Int) ≤ 16 := by omega
    have q4 : (0 : Int) ≤ ((n - i : Nat) : Int) := by omega
    have q5 : ((n - i : Nat) : Int) ≤ 16 := by omega
    have key := fun t u => ih (i + 1) k t u (by omega) (by omega) (by omega)
    have hp : 2 ^ (n - i) < 65536 := pow_lt9 (n - i) h9
    have hand : ∀ t : Nat, t < 65536 → t &&& (65535 - 2 ^ (n - i)) < 65536 := fun t h => Nat.lt_of_le_of_lt Nat.and_le_left h
    have e3 := wrap_pow (n - i) h9
    have e1 : wrap64 ((n : Int) - (i : Int)) = ((n - i : Nat) : Int) := by rw [w64 (by omega) (by omega)]; omega
    have e2 : wrap64 ((i : Int) + 1) = ((i + 1 : Nat) : Int) := w64 (by omega) (by omega)
    simp only [life_Turned.l0, bitq b i hb, bitq s i hs]
    simp only [e1, e2, Int.toNat_natCast, e3, flipN, if_pos q1, if_pos q2, if_pos q3, if_pos q4, if_pos q5]
    rw [u16_andNot_nat tb _ ht hp, u16_andNot_nat ts _ hu hp]
    cases c1 : s.testBit i <;> cases c2 : b.testBit i <;> simp only [if_true, Bool.false_eq_true, if_false]
    · rw [key _ _ ht hu]
    · rw [key _ _ ht (hand _ hu)]
    · rw [key _ _ (hand _ ht) hu]
    · rw [key _ _ (hand _ ht) (hand _ hu)]
def flip (H : Int) (s : Nat) : Nat := if H = 2 then flipN 4 s 5 0 31 else if H = 3 then flipN 6 s 7 0 127 else flipN 8 s 9 0 511
def flipOk (n d m s : Nat) : Bool := flipN n s d 0 m < m + 1 && flipN n (flipN n s d 0 m) d 0 m == s && (List.range d).all fun j => (flipN n s d 0 m).testBit (n - j) == !s.testBit j
theorem flip_of {n d m N : Nat} (h : (List.range N).all (flipOk n d m) = true) (s : Nat) (hs : s < N) : flipN n s d 0 m < m + 1 ∧ flipN n (flipN n s d 0 m) d 0 m = s ∧ ∀ j < d, (flipN n s d 0 m).testBit (n - j) = !s.testBit j := by
  have h2 := List.all_eq_true.1 h s (List.mem_range.2 hs)
  unfold flipOk at h2
  rw [Bool.and_eq_true, Bool.and_eq_true] at h2
  obtain ⟨⟨h3, h4⟩, h5⟩ := h2
  exact ⟨of_decide_eq_true h3, eq_of_beq h4, fun j hj => eq_of_beq (List.all_eq_true.1 h5 j (List.mem_range.2 hj))⟩
theorem flip8 (s : Nat) (hs : s < 512) : flipN 8 s 9 0 511 < 512 ∧ flipN 8 (flipN 8 s 9 0 511) 9 0 511 = s ∧ ∀ j < 9, (flipN 8 s 9 0 511).testBit (8 - j) = !s.testBit j := flip_of (N := 512) (show (List.range 512).all (flipOk 8 9 511) = true by decide +kernel) s hs
theorem flip6 (s : Nat) (hs : s < 128) : flipN 6 s 7 0 127 < 128 ∧ flipN 6 (flipN 6 s 7 0 127) 7 0 127 = s ∧ ∀ j < 7, (flipN 6 s 7 0 127).testBit (6 - j) = !s.testBit j := flip_of (N := 128) (show (List.range 128).all (flipOk 6 7 127) = true by decide +kernel) s hs
theorem flip4 (s : Nat) (hs : s < 32) : flipN 4 s 5 0 31 < 32 ∧ flipN 4 (flipN 4 s 5 0 31) 5 0 31 = s ∧ ∀ j < 5, (flipN 4 s 5 0 31).testBit (4 - j) = !s.testBit j := flip_of (N := 32) (show (List.range 32).all (flipOk 4 5 31) = true by decide +kernel) s hs
attribute [irreducible] flipN
theorem flip_1 (s : Nat) : flip 1 s = flipN 8 s 9 0 511 := rfl
theorem flip_2 (s : Nat) : flip 2 s = flipN 4 s 5 0 31 := rfl
theorem flip_3 (s : Nat) : flip 3 s = flipN 6 s 7 0 127 := rfl
theorem May.flip {H : Int} {B S : Nat} (h : May H B S) : May H (flip H S) (flip H B) ∧ L.flip H (L.flip H S) = S ∧ L.flip H (L.flip H B) = B ∧ (∀ j : Nat, j ≤ (mostOf H).toNat → (L.flip H S).testBit ((mostOf H).toNat - j) = !S.testBit j ∧ (L.flip H B).testBit ((mostOf H).toNat - j) = !B.testBit j) := by
  rcases h with ⟨rfl, hb, hs⟩ | ⟨rfl, hb, hs⟩ | ⟨rfl, hb, hs⟩
  · rw [flip_1, flip_1, flip_1, flip_1, show (mostOf 1).toNat = 8 from rfl]
    exact ⟨.inl ⟨rfl, (flip8 S hs).1, (flip8 B hb).1⟩, (flip8 S hs).2.1, (flip8 B hb).2.1, fun j hj => ⟨(flip8 S hs).2.2 j (Nat.lt_succ_of_le hj), (flip8 B hb).2.2 j (Nat.lt_succ_of_le hj)⟩⟩
  · rw [flip_2, flip_2, flip_2, flip_2, show (mostOf 2).toNat = 4 from rfl]
    exact ⟨.inr (.inl ⟨rfl, (flip4 S hs).1, (flip4 B hb).1⟩), (flip4 S hs).2.1, (flip4 B hb).2.1, fun j hj => ⟨(flip4 S hs).2.2 j (Nat.lt_succ_of_le hj), (flip4 B hb).2.2 j (Nat.lt_succ_of_le hj)⟩⟩
  · rw [flip_3, flip_3, flip_3, flip_3, show (mostOf 3).toNat = 6 from rfl]
    exact ⟨.inr (.inr ⟨rfl, (flip6 S hs).1, (flip6 B hb).1⟩), (flip6 S hs).2.1, (flip6 B hb).2.1, fun j hj => ⟨(flip6 S hs).2.2 j (Nat.lt_succ_of_le hj), (flip6 B hb).2.2 j (Nat.lt_succ_of_le hj)⟩⟩
theorem turned_may {H : Int} {B S : Nat} (h : May H B S) (k : Nat) (hk : 20 ≤ k) : life_Turned.f k H B S = some (H, ((flip H S : Nat) : Int), ((flip H B : Nat) : Int), 0) := by
  have hc := h.chk
  have hh := h.hood
  have hl := h.lt
  unfold life_Turned.f
  rw [check_life H B S (by omega) (by omega), Option.bind_some, if_pos hc, greatest_eq, Option.bind_some, hood_most hh]
  dsimp only
  rcases hh with rfl | rfl | rfl
  · rw [flip_1, flip_1, show wrap64 (mostOf 1 + 1) = ((9 : Nat) : Int) from by decide +kernel, if_pos (by decide +kernel), if_pos (by decide +kernel), show IntKind.u16.wrap ((IntKind.u16.wrap (2 ^ (((9 : Nat) : Int)).toNat)) - 1) = ((511 : Nat) : Int) from by decide]
    exact turned_go 8 (by omega) 1 B S (by omega) (by omega) 9 0 k 511 511 rfl (by omega) (by omega) (by omega) (by omega)
  · rw [flip_2, flip_2, show wrap64 (mostOf 2 + 1) = ((5 : Nat) : Int) from by decide +kernel, if_pos (by decide +kernel), if_pos (by decide +kernel), show IntKind.u16.wrap ((IntKind.u16.wrap (2 ^ (((5 : Nat) : Int)).toNat)) - 1) = ((31 : Nat) : Int) from by decide]
    exact turned_go 4 (by omega) 2 B S (by omega) (by omega) 5 0 k 31 31 rfl (by omega) (by omega) (by omega) (by omega)
  · rw [flip_3, flip_3, show wrap64 (mostOf 3 + 1) = ((7 : Nat) : Int) from by decide +kernel, if_pos (by decide +kernel), if_pos (by decide +kernel), show IntKind.u16.wrap ((IntKind.u16.wrap (2 ^ (((7 : Nat) : Int)).toNat)) - 1) = ((127 : Nat) : Int) from by decide]
    exact turned_go 6 (by omega) 3 B S (by omega) (by omega) 7 0 k 127 127 rfl (by omega) (by omega) (by omega) (by omega)
theorem next_may {H : Int} {B S : Nat} (h : May H B S) (a : Int) (ha : a ≤ 1) (n : Nat) (hn : n ≤ (mostOf H).toNat) : nxt H B S a (n : Int) = (if (if a = 1 then S else B).testBit n = true then 1 else 0, 0) := by
  unfold nxt
  have hm := most_le H
  rw [if_pos h.chk, if_neg (by omega), if_neg (by omega), Int.toNat_natCast]
theorem most_law {H : Int} (h : H = 1 ∨ H = 2 ∨ H = 3) : vivariumlaw08_most.f H = some (((mostOf H).toNat : Nat) : Int) := by
  rcases h with rfl | rfl | rfl <;> rfl
end Go.Proofs.Ytfgonglcmgahkaa.L

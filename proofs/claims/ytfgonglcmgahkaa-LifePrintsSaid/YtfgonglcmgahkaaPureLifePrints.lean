/- Of every rule whether it may be, its text, the rule turned: the program's and the reference's are the same plain functions. -/
import Derived.Test.YtfgonglcmgahkaaP10
import Derived.Test.YtfgonglcmgahkaaLifeText
namespace Go.Proofs.Ytfgonglcmgahkaa.Pure
open Go.RowKit Go.Proofs.Ytfgonglcmgahkaa.P Go.Proofs.YtfgonglcmgahkaaW.PrintWords Go.Proofs.YtfgonglcmgahkaaW.PrintLast Go.Proofs.YtfgonglcmgahkaaW.PrintMore Go.Proofs.Ytfgonglcmgahkaa.L
theorem str_app (a b : List Int) : strOfNums a ++ strOfNums b = strOfNums (a ++ b) := by
  apply ByteArray.ext
  simp [strOfNums]
theorem or_split {b s n : Nat} (h : (b ||| s) >>> n = 0) : b < 2 ^ n ∧ s < 2 ^ n := by
  rw [Nat.shiftRight_eq_div_pow] at h
  have h2 : b ||| s < 2 ^ n := by
    rcases Nat.lt_or_ge (b ||| s) (2 ^ n) with h3 | h3
    · exact h3
    · have := Nat.div_pos h3 (Nat.two_pow_pos n); omega
  exact ⟨Nat.lt_of_le_of_lt Nat.left_le_or h2, Nat.lt_of_le_of_lt Nat.right_le_or h2⟩
theorem may_of {H : Int} {B S : Nat} (h : chk H B S = 0) : May H B S := by
  have hh := chk_hood h
  unfold chk at h
  rw [if_pos hh] at h
  by_cases c : (B ||| S) >>> ((mostOf H).toNat + 1) = 0
  · have h2 := or_split c
    rcases hh with rfl | rfl | rfl
    · exact .inl ⟨rfl, h2.1, h2.2⟩
    · exact .inr (.inl ⟨rfl, h2.1, h2.2⟩)
    · exact .inr (.inr ⟨rfl, h2.1, h2.2⟩)
  · rw [if_neg c] at h; exact absurd h (by decide)
set_option maxRecDepth 100000 in
theorem dl_step_all : (List.range 512).all (fun b => (List.range 10).all fun i => decide (Dl (b % 2 ^ (i + 1)) = Dl (b % 2 ^ i) ++ (if b.testBit i = true then [48 + (i : Int)] else []))) = true := by decide +kernel
theorem dl_step (b i : Nat) (hb : b < 512) (hi : i < 10) : Dl (b % 2 ^ (i + 1)) = Dl (b % 2 ^ i) ++ (if b.testBit i = true then [48 + (i : Int)] else []) :=
  of_decide_eq_true (List.all_eq_true.1 (List.all_eq_true.1 dl_step_all b (List.mem_range.2 hb)) i (List.mem_range.2 hi))
theorem dl_len (b : Nat) : (Dl b).length ≤ 10 := by
  unfold Dl
  rw [List.length_map]
  exact Nat.le_trans (List.length_filter_le _ _) (by rw [List.length_range]; omega)
theorem digits_go (b : Nat) (hb : b < 512) : ∀ (d i k : Nat) (x : ByteArray), 10 - i = d → i ≤ 10 → 20 + d < k → x = strOfNums (Dl (b % 2 ^ i)) → vivariumref08_digits.l0 k (b : Int) x (i : Int) = some (strOfNums (Dl b)) := by
  intro d
  induction d with
  | zero =>
    intro i k x hd hi hk hx
    obtain ⟨k, rfl⟩ : ∃ m, k = m + 1 := ⟨k - 1, by omega⟩
    obtain rfl : i = 10 := by omega
    simp only [vivariumref08_digits.l0]
    rw [if_neg (by omega), hx, Nat.mod_eq_of_lt (by omega)]
  | succ d ih =>
    intro i k x hd hi hk hx
    obtain ⟨k, rfl⟩ : ∃ m, k = m + 1 := ⟨k - 1, by omega⟩
    have hi10 : i < 10 := by omega
    have q1 : (i : Int) < 10 := by omega
    have q3 : i < k := by omega
    have q4 : i < 1000000 := by omega
    have hl := dl_len (b % 2 ^ i)
    have st := dl_step b i hb hi10
    have key := fun x => ih (i + 1) k x (by omega) (by omega) (by omega)
    have z1 : -9223372036854775808 ≤ (i : Int) + 1 := by omega
    have z2 : (i : Int) + 1 ≤ 9223372036854775807 := by omega
    have z3 : -9223372036854775808 ≤ 48 + (i : Int) := by omega
    have z4 : 48 + (i : Int) ≤ 9223372036854775807 := by omega
    have z5 : (48 + (i : Int)) % 256 = 48 + (i : Int) := by omega
    have hsz : x.size + (strOfNums [48 + (i : Int)]).size ≤ 9223372036854775807 := by rw [hx, strOfNums_size, strOfNums_size]; simp only [List.length_cons, List.length_nil]; omega
    have hb2 : b < 65536 := Nat.lt_trans hb (by decide)
    simp only [vivariumref08_digits.l0]
    rw [if_pos q1, bit_f k b i hb2 q3 q4, Option.bind_some, w64 z3 z4, z5, Option.bind_some, if_pos hsz, (w64 z1 z2 : wrap64 ((i : Int) + 1) = ((i + 1 : Nat) : Int))]
    cases hbit : b.testBit i with
    | true =>
      rw [hbit, if_pos rfl] at st
      rw [if_pos rfl]
      exact key _ (by rw [st, hx, str_app])
    | false =>
      rw [hbit, if_neg (by decide), List.append_nil] at st
      rw [if_neg (by decide)]
      exact key _ (by rw [st, hx])
theorem digits_ref (b : Nat) (hb : b < 512) (k : Nat) (hk : 40 ≤ k) : vivariumref08_digits.f k (b : Int) = some (strOfNums (Dl b)) :=
  digits_go b hb 10 0 k _ rfl (by omega) (by omega) (by rw [Nat.pow_zero, Nat.mod_one]; rfl)
theorem print_ref {H : Int} {B S : Nat} (h : May H B S) (k : Nat) (hk : 60 ≤ k) : vivariumref08_Print.f k H B S = some (strOfNums (lifeText H B S), 0) := by
  have hl := h.lt
  have h1 := (dl_run B hl.1).2.1
  have h2 := (dl_run S hl.2).2.1
  unfold vivariumref08_Print.f
  rw [check_ref H B S (by omega) (by omega) k (by omega), Option.bind_some, h.chk, if_pos rfl, digits_ref B hl.1 k (by omega), Option.bind_some, digits_ref S hl.2 k (by omega)]
  rw [if_pos (by rw [strOfNums_size]; omega), if_pos (by rw [strOfNums_size]; omega), Option.bind_some, if_pos (by rw [strOfNums_size, strOfNums_size]; omega)]
  have h5 : 1 + (strOfNums (Dl B)).size + 2 + (strOfNums (Dl S)).size + 1 ≤ 9223372036854775807 := by rw [strOfNums_size, strOfNums_size]; omega
  rw [show (⟨#[66]⟩ : ByteArray) = strOfNums [66] from rfl, show (⟨#[47, 83]⟩ : ByteArray) = strOfNums [47, 83] from rfl, show (⟨#[86]⟩ : ByteArray) = strOfNums [86] from rfl, show (⟨#[72]⟩ : ByteArray) = strOfNums [72] from rfl, if_pos h5]
  simp only [str_app]
  unfold lifeText tl
  by_cases c2 : H = 2
  · rw [if_pos c2, if_pos c2]; simp only [List.append_assoc]
  · rw [if_neg c2, if_neg c2]
    by_cases c3 : H = 3
    · rw [if_pos c3, if_pos c3, if_pos h5]; simp only [List.append_assoc]
    · rw [if_neg c3, if_neg c3]; simp only [List.append_assoc, List.append_nil]
def bitsP (s g : Nat) : Nat → Nat → Nat → Nat
  | 0, _, m => m
  | d + 1, n, m => bitsP s g d (n + 1) (updT m n (s.testBit (g - n)))
theorem bits_ref (k s g : Nat) (hs : s < 65536) (hg : g ≤ 8) (hk : 20 ≤ k) : ∀ (d n m : Nat), n + d = g + 1 → bitsT k (s : Int) g d n m = some (bitsP s g d n m)
  | 0, n, m, _ => rfl
  | d + 1, n, m, h => by
    unfold bitsT bitsP
    rw [show (g : Int) - (n : Int) = ((g - n : Nat) : Int) from by omega, bit_f k s (g - n) hs (by omega) (by omega), Option.bind_some]
    exact bits_ref k s g hs hg hk d (n + 1) _ (by omega)
def bitsOk (g d m s : Nat) : Bool := bitsP s g d 0 0 == flipN g s d 0 m
theorem bits8 : (List.range 512).all (bitsOk 8 9 511) = true := by decide +kernel
theorem bits6 : (List.range 128).all (bitsOk 6 7 127) = true := by decide +kernel
theorem bits4 : (List.range 32).all (bitsOk 4 5 31) = true := by decide +kernel
theorem bits_of {g d m N : Nat} (h : (List.range N).all (bitsOk g d m) = true) (s : Nat) (hs : s < N) : bitsP s g d 0 0 = flipN g s d 0 m :=
  eq_of_beq (List.all_eq_true.1 h s (List.mem_range.2 hs))
theorem turned_ref {H : Int} {B S : Nat} (h : May H B S) (k : Nat) (hk : 60 ≤ k) : vivariumref08_Turned.f k H B S = some (H, ((flip H S : Nat) : Int), ((flip H B : Nat) : Int), 0) := by
  have hc := h.chk
  have hh := h.hood
  have hl := h.lt
  unfold vivariumref08_Turned.f
  rw [check_ref H B S (by omega) (by omega) k (by omega), Option.bind_some, if_pos hc, most_ref hh, Option.bind_some]
  rcases h with ⟨rfl, hb, hs⟩ | ⟨rfl, hb, hs⟩ | ⟨rfl, hb, hs⟩
  · rw [flip_1, flip_1, if_pos (by decide), show (mostOf 1).toNat = 8 from rfl, bits_ref k S 8 (by omega) (by omega) (by omega) (8 + 1) 0 0 (by omega), Option.bind_some, bits_ref k B 8 (by omega) (by omega) (by omega) (8 + 1) 0 0 (by omega), Option.bind_some, bits_of bits8 S hs, bits_of bits8 B hb]
  · rw [flip_2, flip_2, if_pos (by decide), show (mostOf 2).toNat = 4 from rfl, bits_ref k S 4 (by omega) (by omega) (by omega) (4 + 1) 0 0 (by omega), Option.bind_some, bits_ref k B 4 (by omega) (by omega) (by omega) (4 + 1) 0 0 (by omega), Option.bind_some, bits_of bits4 S hs, bits_of bits4 B hb]
  · rw [flip_3, flip_3, if_pos (by decide), show (mostOf 3).toNat = 6 from rfl, bits_ref k S 6 (by omega) (by omega) (by omega) (6 + 1) 0 0 (by omega), Option.bind_some, bits_ref k B 6 (by omega) (by omega) (by omega) (6 + 1) 0 0 (by omega), Option.bind_some, bits_of bits6 S hs, bits_of bits6 B hb]
theorem LifePrints : vivariumlaw08_LifePrints.Pure := by
  intro h b s wh wb ws
  obtain ⟨b, rfl, hb⟩ := u16_nat wb
  obtain ⟨s, rfl, hs⟩ := u16_nat ws
  refine ⟨100, ?_⟩
  have c1 := check_life h b s hb hs
  have c2 := check_ref h b s hb hs 100 (by omega)
  unfold vivariumlaw08_LifePrints.f
  rw [alive_true, Option.bind_some]
  by_cases c : chk h b s = 0
  · have hm := may_of c
    rw [print_may hm 100 (by omega), Option.bind_some, print_ref hm 100 (by omega), Option.bind_some, turned_may hm 100 (by omega), Option.bind_some, turned_ref hm 100 (by omega), Option.bind_some, c1, c2]
    simp
  · have p1 : life_Print.f 100 h b s = some (⟨#[]⟩, chk h b s) := by unfold life_Print.f; rw [c1, Option.bind_some, if_neg c]
    have p2 : vivariumref08_Print.f 100 h b s = some (⟨#[]⟩, chk h b s) := by unfold vivariumref08_Print.f; rw [c2, Option.bind_some, if_neg c]
    have p3 : life_Turned.f 100 h b s = some (0, 0, 0, chk h b s) := by unfold life_Turned.f; rw [c1, Option.bind_some, if_neg c]
    have p4 : vivariumref08_Turned.f 100 h b s = some (0, 0, 0, chk h b s) := by unfold vivariumref08_Turned.f; rw [c2, Option.bind_some, if_neg c]
    rw [p1, Option.bind_some, p2, Option.bind_some, p3, Option.bind_some, p4, Option.bind_some, c1, c2]
    simp
end Go.Proofs.Ytfgonglcmgahkaa.Pure

/- The text of a rule of births and stays, the program's and the document's: one plain list of bytes. -/
import Derived.Test.YtkahgdkpehlanaaDoorGensRule
import Derived.Test.YtkahgdkpehlanaaDoorPm10
import Derived.Test.YtkahgdkpehlanaaDoorPm17
import Derived.Laws.BytesArg
import Derived.Laws.Strings
namespace Go.Proofs.YtkahgdkpehlanaaDoor.L
open Go.RowKit Go.Proofs.YtkahgdkpehlanaaDoor.P Go.Proofs.YtkahgdkpehlanaaDoorW.PrintWords Go.Proofs.YtkahgdkpehlanaaDoorW.PrintLast Go.Proofs.YtkahgdkpehlanaaDoorW.PrintMore
/-- A rule that may be. -/
def May (H : Int) (B S : Nat) : Prop := (H = 1 ∧ B < 512 ∧ S < 512) ∨ (H = 2 ∧ B < 32 ∧ S < 32) ∨ (H = 3 ∧ B < 128 ∧ S < 128)
theorem May.lt {H : Int} {B S : Nat} (h : May H B S) : B < 512 ∧ S < 512 := by unfold May at h; omega
theorem May.hood {H : Int} {B S : Nat} (h : May H B S) : H = 1 ∨ H = 2 ∨ H = 3 := by unfold May at h; omega
theorem or_sh (b s n : Nat) (hb : b < 2 ^ n) (hs : s < 2 ^ n) : (b ||| s) >>> n = 0 := by
  rw [Nat.shiftRight_eq_div_pow]
  exact Nat.div_eq_of_lt (Nat.or_lt_two_pow hb hs)
theorem May.chk {H : Int} {B S : Nat} (h : May H B S) : chk H B S = 0 := by
  unfold L.chk
  rw [if_pos h.hood]
  rcases h with ⟨rfl, hb, hs⟩ | ⟨rfl, hb, hs⟩ | ⟨rfl, hb, hs⟩
  · rw [show (mostOf 1).toNat + 1 = 9 from rfl, or_sh B S 9 hb hs, if_pos rfl]
  · rw [show (mostOf 2).toNat + 1 = 5 from rfl, or_sh B S 5 hb hs, if_pos rfl]
  · rw [show (mostOf 3).toNat + 1 = 7 from rfl, or_sh B S 7 hb hs, if_pos rfl]
def Dl (b : Nat) : List Int := ((List.range 10).filter fun i : Nat => b.testBit i).map fun i : Nat => 48 + (i : Int)
set_option maxRecDepth 100000 in
theorem dl_run : ∀ b < 512, (Dl b).length ≤ 9 ∧ life_digits.l0 20 [] (b : Int) 0 = some (Dl b) := by decide +kernel
theorem digits_pre (pre r : List Int) (hl : pre.length + r.length < 140737488355328) : ∀ (k : Nat) (a : List Int) (v n : Int), life_digits.l0 k a v n = some r → life_digits.l0 k (pre ++ a) v n = some (pre ++ r)
  | 0, _, _, _, h => by simp [life_digits.l0] at h
  | k + 1, a, v, n, h => by
    simp only [life_digits.l0] at h ⊢
    have hmono : ∀ k a v n, life_digits.l0 k a v n = some r → a.length ≤ r.length := by
      intro k
      induction k with
      | zero => intro a v n h; simp [life_digits.l0] at h
      | succ k ih =>
        intro a v n h
        simp only [life_digits.l0] at h
        by_cases c0 : v = 0
        · rw [if_pos c0] at h; cases h; exact Nat.le_refl _
        rw [if_neg c0] at h
        by_cases c1 : Go.bits .and .u16 v 1 = 1
        · rw [if_pos c1] at h
          by_cases c2 : a.length < 140737488355328
          · rw [if_pos c2] at h
            have := ih _ _ _ h
            simp only [List.length_append, List.length_cons, List.length_nil] at this
            omega
          · rw [if_neg c2] at h; cases h
        · rw [if_neg c1] at h; exact ih _ _ _ h
    by_cases c0 : v = 0
    · rw [if_pos c0] at h ⊢
      cases h
      rfl
    · rw [if_neg c0] at h ⊢
      by_cases c1 : Go.bits .and .u16 v 1 = 1
      · rw [if_pos c1] at h ⊢
        by_cases c2 : a.length < 140737488355328
        · rw [if_pos c2] at h
          have := hmono _ _ _ _ h
          simp only [List.length_append, List.length_cons, List.length_nil] at this
          rw [if_pos (by rw [List.length_append]; omega), List.append_assoc]
          exact digits_pre pre r hl k _ _ _ h
        · rw [if_neg c2] at h; cases h
      · rw [if_neg c1] at h ⊢
        exact digits_pre pre r hl k _ _ _ h
theorem digits_up (r a : List Int) (v : Int) : ∀ d, life_digits.f 20 a v = some r → life_digits.f (20 + d) a v = some r
  | 0, h => h
  | d + 1, h => life_digits.mono a v (20 + d) r (digits_up r a v d h)
theorem digits_f (k : Nat) (hk : 20 ≤ k) (pre : List Int) (hp : pre.length ≤ 1000) (b : Nat) (hb : b < 512) : life_digits.f k pre (b : Int) = some (pre ++ Dl b) := by
  obtain ⟨d, rfl⟩ : ∃ d, k = 20 + d := ⟨k - 20, by omega⟩
  have h := dl_run b hb
  refine digits_up _ _ _ d ?_
  have := digits_pre pre (Dl b) (by omega) 20 [] b 0 h.2
  rwa [List.append_nil] at this
def tl (H : Int) : List Int := if H = 2 then [86] else if H = 3 then [72] else []
def lifeText (H : Int) (B S : Nat) : List Int := [66] ++ (Dl B ++ ([47, 83] ++ (Dl S ++ tl H)))
theorem print_may {H : Int} {B S : Nat} (h : May H B S) (k : Nat) (hk : 20 ≤ k) : life_Print.f k H B S = some (strOfNums (lifeText H B S), 0) := by
  have hl := h.lt
  have h1 := (dl_run B hl.1).1
  have h2 := (dl_run S hl.2).1
  unfold life_Print.f
  rw [check_life H B S (by omega) (by omega), Option.bind_some, h.chk, if_pos rfl, digits_f k hk [66] (by simp) B hl.1, Option.bind_some, if_pos (by simp; omega), show bytesOf ⟨#[47, 83]⟩ = [47, 83] from rfl, digits_f k hk _ (by simp; omega) S hl.2, Option.bind_some, if_pos (by simp; omega)]
  congr 3
  unfold life_Print.tail lifeText tl
  by_cases c2 : H = 2
  · rw [if_pos c2, if_pos c2]; simp
  · rw [if_neg c2, if_neg c2]
    by_cases c3 : H = 3
    · rw [if_pos c3, if_pos c3]; simp
    · rw [if_neg c3, if_neg c3]; simp
theorem str_app (a b : List Int) : strOfNums a ++ strOfNums b = strOfNums (a ++ b) := by
  apply ByteArray.ext
  simp [strOfNums]
theorem or_split {b s n : Nat} (h : (b ||| s) >>> n = 0) : b < 2 ^ n ∧ s < 2 ^ n := by
  rw [Nat.shiftRight_eq_div_pow] at h
  have h2 : b ||| s < 2 ^ n := by
    rcases Nat.lt_or_ge (b ||| s) (2 ^ n) with h3 | h3
    · exact h3
    · have := Nat.div_pos h3 (Nat.two_pow_pos n); omega
  exact ⟨Nat.lt_of_le_of_lt Nat.left_le_or h2, Nat.lt_of_le_of_lt Nat.right_le_or h2⟩
theorem may_of {H : Int} {B S : Nat} (h : chk H B S = 0) : May H B S := by
  have hh := chk_hood h
  unfold chk at h
  rw [if_pos hh] at h
  by_cases c : (B ||| S) >>> ((mostOf H).toNat + 1) = 0
  · have h2 := or_split c
    rcases hh with rfl | rfl | rfl
    · exact .inl ⟨rfl, h2.1, h2.2⟩
    · exact .inr (.inl ⟨rfl, h2.1, h2.2⟩)
    · exact .inr (.inr ⟨rfl, h2.1, h2.2⟩)
  · rw [if_neg c] at h; exact absurd h (by decide)
set_option maxRecDepth 100000 in
theorem dl_step_all : (List.range 512).all (fun b => (List.range 10).all fun i => decide (Dl (b % 2 ^ (i + 1)) = Dl (b % 2 ^ i) ++ (if b.testBit i = true then [48 + (i : Int)] else []))) = true := by decide +kernel
theorem dl_step (b i : Nat) (hb : b < 512) (hi : i < 10) : Dl (b % 2 ^ (i + 1)) = Dl (b % 2 ^ i) ++ (if b.testBit i = true then [48 + (i : Int)] else []) :=
  of_decide_eq_true (List.all_eq_true.1 (List.all_eq_true.1 dl_step_all b (List.mem_range.2 hb)) i (List.mem_range.2 hi))
theorem dl_len (b : Nat) : (Dl b).length ≤ 10 := by
  unfold Dl
  rw [List.length_map]
  exact Nat.le_trans (List.length_filter_le _ _) (by rw [List.length_range]; omega)
theorem digits_go (b : Nat) (hb : b < 512) : ∀ (d i k : Nat) (x : ByteArray), 10 - i = d → i ≤ 10 → 20 + d < k → x = strOfNums (Dl (b % 2 ^ i)) → vivariumref08_digits.l0 k (b : Int) x (i : Int) = some (strOfNums (Dl b)) := by
  intro d
  induction d with
  | zero =>
    intro i k x hd hi hk hx
    obtain ⟨k, rfl⟩ : ∃ m, k = m + 1 := ⟨k - 1, by omega⟩
    obtain rfl : i = 10 := by omega
    simp only [vivariumref08_digits.l0]
    rw [if_neg (by omega), hx, Nat.mod_eq_of_lt (by omega)]
  | succ d ih =>
    intro i k x hd hi hk hx
    obtain ⟨k, rfl⟩ : ∃ m, k = m + 1 := ⟨k - 1, by omega⟩
    have hi10 : i < 10 := by omega
    have q1 : (i : Int) < 10 := by omega
    have q3 : i < k := by omega
    have q4 : i < 1000000 := by omega
    have hl := dl_len (b % 2 ^ i)
    have st := dl_step b i hb hi10
    have key := fun x => ih (i + 1) k x (by omega) (by omega) (by omega)
    have z1 : -9223372036854775808 ≤ (i : Int) + 1 := by omega
    have z2 : (i : Int) + 1 ≤ 9223372036854775807 := by omega
    have z3 : -9223372036854775808 ≤ 48 + (i : Int) := by omega
    have z4 : 48 + (i : Int) ≤ 9223372036854775807 := by omega
    have z5 : (48 + (i : Int)) % 256 = 48 + (i : Int) := by omega
    have hsz : x.size + (strOfNums [48 + (i : Int)]).size ≤ 9223372036854775807 := by rw [hx, strOfNums_size, strOfNums_size]; simp only [List.length_cons, List.length_nil]; omega
    have hb2 : b < 65536 := Nat.lt_trans hb (by decide)
    simp only [vivariumref08_digits.l0]
    rw [if_pos q1, bit_f k b i hb2 q3 q4, Option.bind_some, w64 z3 z4, z5, Option.bind_some, if_pos hsz, (w64 z1 z2 : wrap64 ((i : Int) + 1) = ((i + 1 : Nat) : Int))]
    cases hbit : b.testBit i with
    | true =>
      rw [hbit, if_pos rfl] at st
      rw [if_pos rfl]
      exact key _ (by rw [st, hx, str_app])
    | false =>
      rw [hbit, if_neg (by decide), List.append_nil] at st
      rw [if_neg (by decide)]
      exact key _ (by rw [st, hx])
theorem digits_ref (b : Nat) (hb : b < 512) (k : Nat) (hk : 40 ≤ k) : vivariumref08_digits.f k (b : Int) = some (strOfNums (Dl b)) :=
  digits_go b hb 10 0 k _ rfl (by omega) (by omega) (by rw [Nat.pow_zero, Nat.mod_one]; rfl)
theorem print_ref {H : Int} {B S : Nat} (h : May H B S) (k : Nat) (hk : 60 ≤ k) : vivariumref08_Print.f k H B S = some (strOfNums (lifeText H B S), 0) := by
  have hl := h.lt
  have h1 := (dl_run B hl.1).1
  have h2 := (dl_run S hl.2).1
  unfold vivariumref08_Print.f
  rw [check_ref H B S (by omega) (by omega) k (by omega), Option.bind_some, h.chk, if_pos rfl, digits_ref B hl.1 k (by omega), Option.bind_some, digits_ref S hl.2 k (by omega)]
  rw [if_pos (by rw [strOfNums_size]; omega), if_pos (by rw [strOfNums_size]; omega), Option.bind_some, if_pos (by rw [strOfNums_size, strOfNums_size]; omega)]
  have h5 : 1 + (strOfNums (Dl B)).size + 2 + (strOfNums (Dl S)).size + 1 ≤ 9223372036854775807 := by rw [strOfNums_size, strOfNums_size]; omega
  rw [show (⟨#[66]⟩ : ByteArray) = strOfNums [66] from rfl, show (⟨#[47, 83]⟩ : ByteArray) = strOfNums [47, 83] from rfl, show (⟨#[86]⟩ : ByteArray) = strOfNums [86] from rfl, show (⟨#[72]⟩ : ByteArray) = strOfNums [72] from rfl, if_pos h5]
  simp only [str_app]
  unfold lifeText tl
  by_cases c2 : H = 2
  · rw [if_pos c2, if_pos c2]; simp only [List.append_assoc]
  · rw [if_neg c2, if_neg c2]
    by_cases c3 : H = 3
    · rw [if_pos c3, if_pos c3, if_pos h5]; simp only [List.append_assoc]
    · rw [if_neg c3, if_neg c3]; simp only [List.append_assoc, List.append_nil]
end Go.Proofs.YtkahgdkpehlanaaDoor.L

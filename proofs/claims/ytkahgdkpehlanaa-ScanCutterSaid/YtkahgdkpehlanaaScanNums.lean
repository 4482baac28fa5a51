/- Numbers in tens: the program's and the reference's. -/
import Derived.Test.YtkahgdkpehlanaaScanLib
import Derived.Test.YtkahgdkpehlanaaNumLib
import Derived.Test.YtkahgdkpehlanaaPm8
namespace Go.Proofs.Ytkahgdkpehlanaa.L
open Go.RowKit Go.Proofs.Ytkahgdkpehlanaa.P Go.Proofs.YtkahgdkpehlanaaW.PrintWords Go.Proofs.YtkahgdkpehlanaaW.PrintLast Go.Proofs.YtkahgdkpehlanaaW.PrintMore
theorem digit_ref (b : Int) : vivariumref03_digit.f b = some (decide (48 ≤ b ∧ b ≤ 57)) := by
  unfold vivariumref03_digit.f
  by_cases c : b ≥ 48
  · rw [if_pos c]
    by_cases c2 : b ≤ 57
    · rw [decide_eq_true c2, decide_eq_true (show 48 ≤ b ∧ b ≤ 57 from ⟨c, c2⟩)]
    · rw [decide_eq_false c2, decide_eq_false (show ¬ (48 ≤ b ∧ b ≤ 57) from fun e => c2 e.2)]
  · rw [if_neg c, decide_eq_false (show ¬ (48 ≤ b ∧ b ≤ 57) from fun e => c e.1)]
/-- The reference's number, once it does not fit. -/
theorem number_bad (s : ByteArray) (hs : s.size ≤ 140737488351232) (n : Int) : ∀ (f i k : Nat), s.size ≤ i + f → i ≤ s.size → 2 * f + 2 < k → vivariumref03_number.l0 k s (i : Int) n false = some (n, ((i + cnt s f i : Nat) : Int), false) := by
  intro f
  induction f with
  | zero =>
    intro i k hf hi hk
    obtain ⟨k, rfl⟩ : ∃ m, k = m + 2 := ⟨k - 2, by omega⟩
    simp only [vivariumref03_number.l0]
    rw [if_neg (by omega)]
    simp only [vivariumref03_number.j1]
    rw [if_neg (by decide)]
    rfl
  | succ f ih =>
    intro i k hf hi hk
    obtain ⟨k, rfl⟩ : ∃ m, k = m + 2 := ⟨k - 2, by omega⟩
    simp only [vivariumref03_number.l0]
    rw [cnt_succ]
    by_cases c : i < s.size
    · have q1 : (i : Int) < (s.size : Int) := by omega
      have q2 : (0 : Int) ≤ (i : Int) := by omega
      have z1 : -9223372036854775808 ≤ (i : Int) + 1 := by omega
      have z2 : (i : Int) + 1 ≤ 9223372036854775807 := by omega
      rw [if_pos q1, if_pos q2, digit_ref, Option.bind_some]
      simp only [vivariumref03_number.j1]
      by_cases c2 : 48 ≤ bt s (i : Int) ∧ bt s (i : Int) ≤ 57
      · have hd : isD s i := ⟨c, c2⟩
        have key := ih (i + 1) k (by omega) (by omega) (by omega)
        rw [if_pos (decide_eq_true c2), if_pos q2, if_pos q1, w64 z1 z2, show (i : Int) + 1 = ((i + 1 : Nat) : Int) from rfl, key, if_pos hd, if_neg (show ¬ (false = true) by decide), ite_self]
        rw [show i + 1 + cnt s f (i + 1) = i + (cnt s f (i + 1) + 1) from by omega]
      · rw [if_neg (by rw [decide_eq_false c2]; decide), if_neg (show ¬ isD s i from fun e => c2 e.2)]
        rfl
    · rw [if_neg (by omega), if_neg (show ¬ isD s i from fun e => c e.1)]
      simp only [vivariumref03_number.j1]
      rw [if_neg (by decide)]
      rfl
theorem number_good (s : ByteArray) (hs : s.size ≤ 140737488351232) : ∀ (f i k : Nat) (n : Int), 0 ≤ n → n ≤ 9223372036854775807 → s.size ≤ i + f → i ≤ s.size → 2 * f + 2 < k → ∃ n', vivariumref03_number.l0 k s (i : Int) n true = some (n', ((i + cnt s f i : Nat) : Int), decide (vv s (cnt s f i) i n ≤ 9223372036854775807)) ∧ (vv s (cnt s f i) i n ≤ 9223372036854775807 → n' = vv s (cnt s f i) i n) := by
  intro f
  induction f with
  | zero =>
    intro i k n hn hn2 hf hi hk
    obtain ⟨k, rfl⟩ : ∃ m, k = m + 2 := ⟨k - 2, by omega⟩
    refine ⟨n, ?_, fun _ => rfl⟩
    simp only [vivariumref03_number.l0]
    rw [if_neg (by omega)]
    simp only [vivariumref03_number.j1]
    rw [if_neg (by decide), decide_eq_true (show vv s (cnt s 0 i) i n ≤ 9223372036854775807 from hn2)]
    rfl
  | succ f ih =>
    intro i k n hn hn2 hf hi hk
    obtain ⟨k, rfl⟩ : ∃ m, k = m + 2 := ⟨k - 2, by omega⟩
    simp only [vivariumref03_number.l0]
    rw [cnt_succ]
    by_cases c : i < s.size
    · have q1 : (i : Int) < (s.size : Int) := by omega
      have q2 : (0 : Int) ≤ (i : Int) := by omega
      have z1 : -9223372036854775808 ≤ (i : Int) + 1 := by omega
      have z2 : (i : Int) + 1 ≤ 9223372036854775807 := by omega
      rw [if_pos q1, if_pos q2, digit_ref, Option.bind_some]
      simp only [vivariumref03_number.j1]
      by_cases c2 : 48 ≤ bt s (i : Int) ∧ bt s (i : Int) ≤ 57
      · have hd : isD s i := ⟨c, c2⟩
        have hm : (bt s (i : Int) - 48) % 256 = bt s (i : Int) - 48 := by omega
        rw [if_pos (decide_eq_true c2), if_pos q2, if_pos q1, w64 z1 z2, show (i : Int) + 1 = ((i + 1 : Nat) : Int) from rfl, hm, if_pos hd]
        have hsum : i + 1 + cnt s f (i + 1) = i + (cnt s f (i + 1) + 1) := by omega
        by_cases c3 : n > (9223372036854775807 - (bt s (i : Int) - 48)) / 10
        · rw [if_pos c3]
          have hbig : 9223372036854775807 < n * 10 + (bt s (i : Int) - 48) := by omega
          have hvv : n * 10 + (bt s (i : Int) - 48) ≤ vv s (cnt s f (i + 1)) (i + 1) (n * 10 + (bt s (i : Int) - 48)) := vv_ge s _ _ _ (by omega) (fun j hj => cnt_digits s f (i + 1) j hj)
          have hno : ¬ vv s (cnt s f (i + 1) + 1) i n ≤ 9223372036854775807 := by show ¬ vv s (cnt s f (i + 1)) (i + 1) _ ≤ _; omega
          refine ⟨n, ?_, fun e => absurd e hno⟩
          rw [number_bad s hs n f (i + 1) k (by omega) (by omega) (by omega), decide_eq_false hno, hsum]
        · have hle : n * 10 + (bt s (i : Int) - 48) ≤ 9223372036854775807 := by omega
          have hge : 0 ≤ n * 10 + (bt s (i : Int) - 48) := by omega
          have y1 : -9223372036854775808 ≤ n * 10 := by omega
          have y2 : n * 10 ≤ 9223372036854775807 := by omega
          have y3 : -9223372036854775808 ≤ n * 10 + (bt s (i : Int) - 48) := by omega
          obtain ⟨n', h1, h2⟩ := ih (i + 1) k (n * 10 + (bt s (i : Int) - 48)) hge hle (by omega) (by omega) (by omega)
          refine ⟨n', ?_, h2⟩
          rw [if_neg c3, if_pos (by trivial), w64 y1 y2, w64 y3 hle, h1, hsum]
          rfl
      · refine ⟨n, ?_, fun _ => by rw [if_neg (show ¬ isD s i from fun e => c2 e.2)]; rfl⟩
        rw [if_neg (by rw [decide_eq_false c2]; decide), if_neg (show ¬ isD s i from fun e => c2 e.2), decide_eq_true (show vv s 0 i n ≤ 9223372036854775807 from hn2)]
        rfl
    · refine ⟨n, ?_, fun _ => by rw [if_neg (show ¬ isD s i from fun e => c e.1)]; rfl⟩
      rw [if_neg (by omega), if_neg (show ¬ isD s i from fun e => c e.1), decide_eq_true (show vv s 0 i n ≤ 9223372036854775807 from hn2)]
      simp only [vivariumref03_number.j1]
      rw [if_neg (by decide)]
      rfl
end Go.Proofs.Ytkahgdkpehlanaa.L

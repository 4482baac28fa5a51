/- Numbers in tens, as the program reads them. -/
import Derived.Test.YtkahgdkpehlanaaPureLib
import Derived.Test.YtkahgdkpehlanaaPm2
namespace Go.Proofs.Ytkahgdkpehlanaa.L
open Go.RowKit Go.Proofs.Ytkahgdkpehlanaa.P Go.Proofs.YtkahgdkpehlanaaW.PrintWords Go.Proofs.YtkahgdkpehlanaaW.PrintLast Go.Proofs.YtkahgdkpehlanaaW.PrintMore
def isD (s : ByteArray) (i : Nat) : Prop := i < s.size ∧ 48 ≤ bt s (i : Int) ∧ bt s (i : Int) ≤ 57
instance (s : ByteArray) (i : Nat) : Decidable (isD s i) := by unfold isD; exact inferInstance
/-- How many digits stand from a place on. -/
def cnt (s : ByteArray) : Nat → Nat → Nat
  | 0, _ => 0
  | n + 1, i => if isD s i then cnt s n (i + 1) + 1 else 0
theorem cnt_succ (s : ByteArray) (n i : Nat) : cnt s (n + 1) i = if isD s i then cnt s n (i + 1) + 1 else 0 := rfl
/-- Their value, behind a number. -/
def vv (s : ByteArray) : Nat → Nat → Int → Int
  | 0, _, n => n
  | d + 1, i, n => vv s d (i + 1) (n * 10 + (bt s (i : Int) - 48))
theorem vv_ge (s : ByteArray) : ∀ (d i : Nat) (n : Int), 0 ≤ n → (∀ j, j < d → isD s (i + j)) → n ≤ vv s d i n
  | 0, _, n, _, _ => Int.le_refl n
  | d + 1, i, n, h, hd => by
    have h0 := hd 0 (by omega)
    have := vv_ge s d (i + 1) (n * 10 + (bt s (i : Int) - 48)) (by have := h0.2.1; simp only [Nat.add_zero] at this; omega) (fun j hj => by have := hd (j + 1) (by omega); rwa [show i + (j + 1) = i + 1 + j from by omega] at this)
    have h1 := h0.2.1
    simp only [Nat.add_zero] at h1
    unfold vv
    omega
theorem cnt_digits (s : ByteArray) : ∀ (n i j : Nat), j < cnt s n i → isD s (i + j)
  | 0, _, j, h => by simp [cnt] at h
  | n + 1, i, j, h => by
    rw [cnt_succ] at h
    by_cases c : isD s i
    · rw [if_pos c] at h
      cases j with
      | zero => exact c
      | succ j =>
        have := cnt_digits s n (i + 1) j (by omega)
        rwa [show i + (j + 1) = i + 1 + j from by omega]
    · rw [if_neg c] at h; omega
theorem cnt_end (s : ByteArray) : ∀ (n i : Nat), s.size ≤ i + n → ¬ isD s (i + cnt s n i)
  | 0, i, h => by intro e; have := e.1; simp only [cnt] at this; omega
  | n + 1, i, h => by
    rw [cnt_succ]
    by_cases c : isD s i
    · rw [if_pos c, show i + (cnt s n (i + 1) + 1) = i + 1 + cnt s n (i + 1) from by omega]
      exact cnt_end s n (i + 1) (by omega)
    · rw [if_neg c]; exact c
theorem digit_prog (b : Int) : scan_isDigit.f b = some (decide (48 ≤ b ∧ b ≤ 57)) := by
  unfold scan_isDigit.f
  by_cases c : 48 ≤ b
  · rw [if_pos c]
    by_cases c2 : b ≤ 57
    · rw [decide_eq_true c2, decide_eq_true (show 48 ≤ b ∧ b ≤ 57 from ⟨c, c2⟩)]
    · rw [decide_eq_false c2, decide_eq_false (show ¬ (48 ≤ b ∧ b ≤ 57) from fun e => c2 e.2)]
  · rw [if_neg c, decide_eq_false (show ¬ (48 ≤ b ∧ b ≤ 57) from fun e => c e.1)]
/-! The program's. -/
theorem tdiv10_le (x : Int) (hx : x ≤ 9223372036854775807) : Int.tdiv x 10 ≤ 922337203685477580 := by
  rcases Int.le_total 0 x with h0 | h0
  · rw [Int.tdiv_eq_ediv_of_nonneg h0]; omega
  · have e : x = -(-x) := by omega
    rw [e, Int.neg_tdiv, Int.tdiv_eq_ediv_of_nonneg (by omega)]
    omega
theorem tdiv10_ge (x : Int) (hx : -9223372036854775808 ≤ x) : -922337203685477580 ≤ Int.tdiv x 10 := by
  rcases Int.le_total 0 x with h0 | h0
  · rw [Int.tdiv_eq_ediv_of_nonneg h0]; omega
  · have e : x = -(-x) := by omega
    rw [e, Int.neg_tdiv, Int.tdiv_eq_ediv_of_nonneg (by omega)]
    omega
theorem wrap64_ge (x : Int) : -9223372036854775808 ≤ wrap64 x := by unfold wrap64; omega
theorem wrap64_le (x : Int) : wrap64 x ≤ 9223372036854775807 := by unfold wrap64; omega
theorem mul10 (n : Int) (h0 : 0 ≤ n) (h1 : n ≤ 9223372036854775807) (k : Nat) (hk : 1 ≤ k) : whole_Mul_int.f k n 10 = some (if n * 10 ≤ 9223372036854775807 then (n * 10, true) else (0, false)) := by
  obtain ⟨k, rfl⟩ : ∃ m, k = m + 1 := ⟨k - 1, by omega⟩
  unfold whole_Mul_int.f
  by_cases c0 : n = 0
  · rw [if_pos c0]
    simp only [whole_Mul_int.j0]
    rw [if_pos (by trivial), if_pos (by omega), c0]
    rfl
  · rw [if_neg c0]
    simp only [whole_Mul_int.j0]
    rw [if_neg (by decide), if_neg (by decide)]
    by_cases c : n * 10 ≤ 9223372036854775807
    · have y1 : -9223372036854775808 ≤ n * 10 := by omega
      have y2 : -9223372036854775808 ≤ n := by omega
      rw [w64 y1 c, if_pos c, Int.mul_tdiv_cancel n (show (10 : Int) ≠ 0 by decide), w64 y2 h1, if_pos rfl, if_neg c0, Int.mul_tdiv_cancel_left 10 c0, if_pos (by unfold wrap64; omega)]
    · have h3 := tdiv10_le _ (wrap64_le (n * 10))
      have h4 := tdiv10_ge _ (wrap64_ge (n * 10))
      rw [if_neg c, w64 (by omega) (by omega), if_neg (by omega)]
theorem add_int (m d : Int) (h0 : 0 ≤ m) (h1 : m ≤ 9223372036854775807) (h2 : 0 ≤ d) (h3 : d ≤ 255) : whole_Add_int.f m d = some (if m + d ≤ 9223372036854775807 then (m + d, true) else (0, false)) := by
  unfold whole_Add_int.f
  rw [if_pos h2]
  by_cases c : m + d ≤ 9223372036854775807
  · have y1 : -9223372036854775808 ≤ m + d := by omega
    rw [w64 y1 c, if_pos c, if_neg (by omega), if_neg (by omega)]
  · have hw : wrap64 (m + d) < m := by unfold wrap64; omega
    rw [if_neg c, if_pos hw]
/-- The value of the first digits of a part of the text. -/
theorem value_go (s e : ByteArray) (i0 t : Nat) (he : e.size = t) (hb : ∀ j, j < t → bt e (j : Int) = bt s ((i0 + j : Nat) : Int)) (hd : ∀ j, j < t → isD s (i0 + j)) (ht : t ≤ 140737488351232) : ∀ (d j k : Nat) (n : Int), t - j = d → j ≤ t → d + 3 < k → 0 ≤ n → n ≤ 9223372036854775807 → scan_value.l0 k e n (j : Int) = some (if vv s d (i0 + j) n ≤ 9223372036854775807 then (vv s d (i0 + j) n, true) else (0, false)) := by
  intro d
  induction d with
  | zero =>
    intro j k n hdd hj hk h0 h1
    obtain ⟨k, rfl⟩ : ∃ m, k = m + 1 := ⟨k - 1, by omega⟩
    simp only [scan_value.l0]
    rw [if_neg (by omega)]
    show _ = some (if n ≤ 9223372036854775807 then (n, true) else (0, false))
    rw [if_pos h1]
  | succ d ih =>
    intro j k n hdd hj hk h0 h1
    obtain ⟨k, rfl⟩ : ∃ m, k = m + 1 := ⟨k - 1, by omega⟩
    have hjt : j < t := by omega
    have hD := hd j hjt
    have hB := hb j hjt
    have q1 : (j : Int) < (e.size : Int) := by omega
    have q2 : (0 : Int) ≤ (j : Int) := by omega
    have z1 : -9223372036854775808 ≤ (j : Int) + 1 := by omega
    have z2 : (j : Int) + 1 ≤ 9223372036854775807 := by omega
    obtain ⟨_, hd1, hd2⟩ := hD
    have hm : (bt s ((i0 + j : Nat) : Int) - 48) % 256 = bt s ((i0 + j : Nat) : Int) - 48 := by omega
    have hge : ∀ m : Int, 0 ≤ m → m ≤ vv s d (i0 + (j + 1)) m := fun m hm => vv_ge s d (i0 + (j + 1)) m hm (fun x hx => by have := hd (j + 1 + x) (by omega); rwa [show i0 + (j + 1 + x) = i0 + (j + 1) + x from by omega] at this)
    have hv : vv s (d + 1) (i0 + j) n = vv s d (i0 + (j + 1)) (n * 10 + (bt s ((i0 + j : Nat) : Int) - 48)) := rfl
    simp only [scan_value.l0]
    rw [if_pos q1, mul10 n h0 h1 k (by omega), Option.bind_some, hB, hm, hv]
    by_cases c : n * 10 ≤ 9223372036854775807
    · rw [if_pos c]
      dsimp only
      rw [if_pos (by trivial), if_pos q2, add_int (n * 10) _ (by omega) c (by omega) (by omega), Option.bind_some]
      by_cases c2 : n * 10 + (bt s ((i0 + j : Nat) : Int) - 48) ≤ 9223372036854775807
      · have key := ih (j + 1) k (n * 10 + (bt s ((i0 + j : Nat) : Int) - 48)) (by omega) (by omega) (by omega) (by omega) c2
        rw [if_pos c2]
        dsimp only
        rw [if_pos (by trivial), w64 z1 z2, show (j : Int) + 1 = ((j + 1 : Nat) : Int) from rfl]
        exact key
      · have h5 := hge (n * 10 + (bt s ((i0 + j : Nat) : Int) - 48)) (by omega)
        rw [if_neg c2]
        dsimp only
        rw [if_neg (by decide), if_neg (by omega)]
    · have h5 := hge (n * 10 + (bt s ((i0 + j : Nat) : Int) - 48)) (by omega)
      rw [if_neg c]
      dsimp only
      rw [if_neg (by decide), if_neg (by omega)]
theorem bt_part (s : ByteArray) (a b j : Nat) (h : a + j < b) (hb : b ≤ s.size) : bt (s.extract a b) (j : Int) = bt s ((a + j : Nat) : Int) := by
  have h1 : j < (s.extract a b).size := by rw [ByteArray.size_extract]; omega
  rw [bt_nat, bt_nat, dif_pos h1, dif_pos (show a + j < s.size by omega)]
  congr 1
  simp [ByteArray.getElem_extract]
/-- The program's count of digits. -/
theorem span_cnt (s : ByteArray) (a : Nat) (ha : a ≤ s.size) : ∀ (f i : Nat), a + i ≤ s.size → s.size ≤ a + i + f → spnO scan_isDigit.f (s.extract a s.size) (f + 1) i = some (i + cnt s f (a + i))
  | 0, i, h1, h2 => by
    rw [spnO_succ, if_neg (by rw [ByteArray.size_extract]; omega)]
    rfl
  | f + 1, i, h1, h2 => by
    rw [spnO_succ, cnt_succ, ByteArray.size_extract]
    by_cases c : a + i < s.size
    · rw [if_pos (by omega), bt_part s a s.size i c (Nat.le_refl _), digit_prog, Option.bind_some]
      by_cases c2 : 48 ≤ bt s ((a + i : Nat) : Int) ∧ bt s ((a + i : Nat) : Int) ≤ 57
      · rw [if_pos (decide_eq_true c2), if_pos (show isD s (a + i) from ⟨c, c2⟩), span_cnt s a ha f (i + 1) (by omega) (by omega)]
        congr 1
        rw [show a + (i + 1) = a + i + 1 from by omega]
        omega
      · rw [if_neg (by rw [decide_eq_false c2]; decide), if_neg (show ¬ isD s (a + i) from fun e => c2 e.2)]
        rfl
    · rw [if_neg (by omega), if_neg (show ¬ isD s (a + i) from fun e => c e.1)]
      rfl
end Go.Proofs.Ytkahgdkpehlanaa.L

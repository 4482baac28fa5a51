/- A text of one byte more than there may be; one of just as many. -/
import Derived.Test.YtkahgdkpehlanaaP5
import Derived.Test.YtkahgdkpehlanaaScanLib
import Derived.Laws.BytesArg
namespace Go.Proofs.Ytkahgdkpehlanaa.Pure
open Go.RowKit Go.Proofs.Ytkahgdkpehlanaa.P Go.Proofs.YtkahgdkpehlanaaW.PrintWords Go.Proofs.YtkahgdkpehlanaaW.PrintLast Go.Proofs.YtkahgdkpehlanaaW.PrintMore Go.Proofs.Ytkahgdkpehlanaa.L
/-- Blanks are gone over, up to the mark at the end. -/
theorem runs_blank (s : ByteArray) (m : Nat) (hm : m < 1048576) (hs : s.size = m + 1) (hb : ∀ i : Nat, i < m → bt s (i : Int) = 32) (he : bt s (m : Int) = 33) : ∀ (d i k : Nat), m - i = d → i ≤ m → 2 * d + 4 < k → scan_Runs.l0 k s [] (i : Int) = some ([], ((m + 1 : Nat) : Int), 0) := by
  intro d
  induction d with
  | zero =>
    intro i k hd hi hk
    obtain ⟨k, rfl⟩ : ∃ n, k = n + 2 := ⟨k - 2, by omega⟩
    obtain rfl : i = m := by omega
    have q1 : (i : Int) < (s.size : Int) := by omega
    have q2 : (0 : Int) ≤ (i : Int) := by omega
    have z1 : -9223372036854775808 ≤ (i : Int) + 1 := by omega
    have z2 : (i : Int) + 1 ≤ 9223372036854775807 := by omega
    simp only [scan_Runs.l0]
    rw [if_pos q1, if_pos q2, he, if_neg (by decide), if_neg (by decide), if_neg (by decide)]
    simp only [scan_Runs.j1]
    rw [if_neg (by decide), if_pos (by trivial), w64 z1 z2]
    rfl
  | succ d ih =>
    intro i k hd hi hk
    obtain ⟨k, rfl⟩ : ∃ n, k = n + 2 := ⟨k - 2, by omega⟩
    have q1 : (i : Int) < (s.size : Int) := by omega
    have q2 : (0 : Int) ≤ (i : Int) := by omega
    have z1 : -9223372036854775808 ≤ (i : Int) + 1 := by omega
    have z2 : (i : Int) + 1 ≤ 9223372036854775807 := by omega
    have hb1 := hb i (by omega)
    have key := ih (i + 1) k (by omega) (by omega) (by omega)
    simp only [scan_Runs.l0]
    rw [if_pos q1, if_pos q2, hb1, if_pos rfl]
    simp only [scan_Runs.j1]
    rw [if_pos (by decide), w64 z1 z2]
    exact key
/-- The row of blanks. -/
theorem fill_go (b : Bool) (k0 N : Nat) (hN : N ≤ 1048576) (r : Option Bool) (hr : vivariumlaw03_ScanLong.l0 (k0 + 1) b (List.replicate N 32) (N : Int) = r) : ∀ (d i : Nat) (l : List Int), N - i = d → i ≤ N → l = List.replicate i 32 ++ List.replicate (N - i) 0 → vivariumlaw03_ScanLong.l0 (k0 + 1 + d) b l (i : Int) = r := by
  intro d
  induction d with
  | zero =>
    intro i l hd hi hl
    obtain rfl : i = N := by omega
    rw [hl, Nat.sub_self, List.replicate_zero, List.append_nil]
    exact hr
  | succ d ih =>
    intro i l hd hi hl
    have hlen : l.length = N := by rw [hl, List.length_append, List.length_replicate, List.length_replicate]; omega
    have q1 : (i : Int) < (l.length : Int) := by omega
    have q2 : (0 : Int) ≤ (i : Int) := by omega
    have z1 : -9223372036854775808 ≤ (i : Int) + 1 := by omega
    have z2 : (i : Int) + 1 ≤ 9223372036854775807 := by omega
    have hset : l.set i 32 = List.replicate (i + 1) 32 ++ List.replicate (N - (i + 1)) 0 := by
      rw [hl, show N - i = (N - (i + 1)) + 1 from by omega, List.replicate_succ, List.set_append_right _ _ (by rw [List.length_replicate]; exact Nat.le_refl _), List.length_replicate, Nat.sub_self, List.set_cons_zero, List.replicate_succ', List.append_assoc]
      rfl
    have key := ih (i + 1) _ (by omega) (by omega) hset
    rw [show k0 + 1 + (d + 1) = (k0 + 1 + d) + 1 from rfl]
    simp only [vivariumlaw03_ScanLong.l0]
    rw [if_pos q1, if_pos q2, Int.toNat_natCast, w64 z1 z2]
    exact key
def longRow (n : Nat) : List Int := List.replicate n 32 ++ [33]
theorem longRow_length (n : Nat) : (longRow n).length = n + 1 := by unfold longRow; rw [List.length_append, List.length_replicate]; rfl
theorem longRow_get (n i : Nat) (hi : i < n + 1) : (longRow n)[i]? = some (if i < n then 32 else 33) := by
  unfold longRow
  by_cases c : i < n
  · rw [List.getElem?_append_left (by rw [List.length_replicate]; exact c), List.getElem?_replicate, if_pos c, if_pos c]
  · rw [List.getElem?_append_right (by rw [List.length_replicate]; omega), List.length_replicate, if_neg c, show i - n = 0 from by omega]
    rfl
theorem longRow_bt (n i : Nat) (hi : i < n + 1) : bt (strOfNums (longRow n)) (i : Int) = if i < n then 32 else 33 := by
  have hs : (strOfNums (longRow n)).size = n + 1 := by rw [strOfNums_size, longRow_length]
  have hg := longRow_get n i hi
  rw [bt_eq _ i (by rw [hs]; exact hi)]
  simp only [strOfNums_data, List.getElem_map]
  have h2 : (longRow n)[i]'(by rw [longRow_length]; exact hi) = if i < n then 32 else 33 := by
    rw [List.getElem?_eq_getElem (by rw [longRow_length]; exact hi)] at hg
    exact Option.some.inj hg
  rw [h2]
  by_cases c : i < n
  · rw [if_pos c]; rfl
  · rw [if_neg c]; rfl
theorem set_last (n : Nat) : (List.replicate (n + 1) (32 : Int)).set n 33 = longRow n := by
  unfold longRow
  rw [List.replicate_succ', List.set_append_right _ _ (by rw [List.length_replicate]; exact Nat.le_refl _), List.length_replicate, Nat.sub_self]
  rfl
attribute [irreducible] longRow
theorem long_runs (n : Nat) (hn : n < 1048576) (k : Nat) (hk : 2 * n + 4 < k) : scan_Runs.f k (strOfNums (longRow n)) = some ([], ((n + 1 : Nat) : Int), 0) := by
  have hs : (strOfNums (longRow n)).size = n + 1 := by rw [strOfNums_size, longRow_length]
  unfold scan_Runs.f
  rw [if_neg (by rw [hs]; omega)]
  exact runs_blank (strOfNums (longRow n)) n hn hs (fun i hi => (longRow_bt n i (by omega)).trans (if_pos hi)) ((longRow_bt n n (by omega)).trans (if_neg (by omega))) n 0 k rfl (by omega) (by omega)
theorem long_more (n : Nat) (hn : 1048576 ≤ n + 1) (k : Nat) : scan_Runs.f k ((⟨#[32]⟩ : ByteArray) ++ strOfNums (longRow n)) = some ([], 0, 3) := by
  have hs : (strOfNums (longRow n)).size = n + 1 := by rw [strOfNums_size, longRow_length]
  have h1 : ((⟨#[32]⟩ : ByteArray) ++ strOfNums (longRow n)).size = n + 2 := by
    rw [ByteArray.size_append, hs]
    show 1 + (n + 1) = n + 2
    omega
  unfold scan_Runs.f
  rw [if_pos (by rw [h1]; omega)]
theorem last_go (n k : Nat) (hn : n + 1 = 1048576) (hk : 2 * n + 4 < k) : vivariumlaw03_ScanLong.l0 (k + 1) true (List.replicate (n + 1) 32) ((n + 1 : Nat) : Int) = some true := by
  have hs : (strOfNums (longRow n)).size = n + 1 := by rw [strOfNums_size, longRow_length]
  have z0 : ((n + 1 : Nat) : Int) - 1 = (n : Int) := by omega
  have z1 : -9223372036854775808 ≤ (n : Int) := by omega
  have z2 : (n : Int) ≤ 9223372036854775807 := by omega
  have q1 : ¬ ((n + 1 : Nat) : Int) < ((n + 1 : Nat) : Int) := by omega
  have q2 : (0 : Int) ≤ (n : Int) := by omega
  have q3 : (n : Int) < ((n + 1 : Nat) : Int) := by omega
  have q4 : 1 + (n + 1) ≤ 9223372036854775807 := by omega
  have q5 : ((n + 1 : Nat) : Int) = 1048576 := by omega
  simp only [vivariumlaw03_ScanLong.l0]
  rw [List.length_replicate, if_neg q1, z0, w64 z1 z2, if_pos q2, if_pos q3, Int.toNat_natCast, set_last, Option.bind_some, long_runs n (by omega) k hk, Option.bind_some, hs, if_pos q4, long_more n (by omega), Option.bind_some, if_pos rfl]
  dsimp only
  rw [q5]
  rfl
theorem ScanLong : vivariumlaw03_ScanLong.Pure := by
  obtain ⟨n, hn⟩ : ∃ n, n + 1 = 1048576 := ⟨1048575, rfl⟩
  refine ⟨(3 * (n + 1) + 1000) + 1 + (n + 1), ?_⟩
  have h := fill_go true (3 * (n + 1) + 1000) (n + 1) (by omega) (some true) (last_go n _ hn (by omega)) (n + 1) 0 _ rfl (by omega) rfl
  rw [List.replicate_zero, List.nil_append, Nat.sub_zero] at h
  unfold vivariumlaw03_ScanLong.f
  rw [awake_true _ (by omega), Option.bind_some, if_pos (by decide), ← hn]
  exact h
end Go.Proofs.Ytkahgdkpehlanaa.Pure

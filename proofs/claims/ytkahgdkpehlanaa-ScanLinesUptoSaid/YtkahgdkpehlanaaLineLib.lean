/- The lines of a text, as a plain function; the reference's answer is it. -/
import Derived.Test.YtkahgdkpehlanaaPureLib
import Derived.Test.YtkahgdkpehlanaaP50
namespace Go.Proofs.Ytkahgdkpehlanaa.L
open Go.RowKit Go.Proofs.Ytkahgdkpehlanaa.P Go.Proofs.YtkahgdkpehlanaaW.PrintWords Go.Proofs.YtkahgdkpehlanaaW.PrintLast Go.Proofs.YtkahgdkpehlanaaW.PrintMore
/-- Where the line ends. -/
def eol (s : ByteArray) : Nat → Nat → Nat
  | 0, i => i
  | n + 1, i => if i < s.size ∧ bt s (i : Int) ≠ 10 then eol s n (i + 1) else i
theorem eol_succ (s : ByteArray) (n i : Nat) : eol s (n + 1) i = if i < s.size ∧ bt s (i : Int) ≠ 10 then eol s n (i + 1) else i := rfl
theorem eol_ge (s : ByteArray) : ∀ n i, i ≤ eol s n i
  | 0, i => Nat.le_refl i
  | n + 1, i => by
    rw [eol_succ]
    by_cases c : i < s.size ∧ bt s (i : Int) ≠ 10
    · rw [if_pos c]; have := eol_ge s n (i + 1); omega
    · rw [if_neg c]; exact Nat.le_refl i
theorem eol_le (s : ByteArray) : ∀ n i, i ≤ s.size → eol s n i ≤ s.size
  | 0, i, h => h
  | n + 1, i, h => by
    rw [eol_succ]
    by_cases c : i < s.size ∧ bt s (i : Int) ≠ 10
    · rw [if_pos c]; exact eol_le s n (i + 1) c.1
    · rw [if_neg c]; exact h
/-- The text of a line between two places. -/
def ltext (s : ByteArray) (i e : Nat) : ByteArray := if i < e ∧ bt s ((e - 1 : Nat) : Int) = 13 then s.extract i (e - 1) else s.extract i e
/-- The lines from a place on. -/
def lsp (s : ByteArray) : Nat → Nat → List S27
  | 0, _ => []
  | n + 1, i => if i < s.size then (⟨(i : Int), ltext s i (eol s (s.size - i) i)⟩ : S27) :: lsp s n (eol s (s.size - i) i + 1) else []
/-- A line's end: the line is told. -/
theorem ref_tell (s : ByteArray) (hs : s.size ≤ 140737488351232) (l : List S27) (hl : l.length ≤ 140737488351232 / 32) (i e k : Nat) (hie : i ≤ e) (he : e ≤ s.size) : vivariumref03_Lines.j1 (k + 1) s l (i : Int) (e : Int) false = vivariumref03_Lines.l0 k s (l ++ [(⟨(i : Int), ltext s i e⟩ : S27)]) ((e + 1 : Nat) : Int) ((e + 1 : Nat) : Int) := by
  have z1 : -9223372036854775808 ≤ (e : Int) + 1 := by omega
  have z2 : (e : Int) + 1 ≤ 9223372036854775807 := by omega
  have q1 : (0 : Int) ≤ (i : Int) := by omega
  have q2 : (i : Int) ≤ (e : Int) := by omega
  have q3 : (e : Int) ≤ (s.size : Int) := by omega
  have q4 : l.length < 5864062014805 := by omega
  have c1 : (e : Int) + 1 = ((e + 1 : Nat) : Int) := rfl
  simp only [vivariumref03_Lines.j1]
  rw [if_neg (by decide), w64 z1 z2, c1]
  unfold ltext
  by_cases c : i < e
  · have y1 : -9223372036854775808 ≤ (e : Int) - 1 := by omega
    have y2 : (e : Int) - 1 ≤ 9223372036854775807 := by omega
    have y3 : (e : Int) - 1 = ((e - 1 : Nat) : Int) := by omega
    have y4 : (0 : Int) ≤ ((e - 1 : Nat) : Int) := by omega
    have y5 : ((e - 1 : Nat) : Int) < (s.size : Int) := by omega
    have y6 : (i : Int) ≤ ((e - 1 : Nat) : Int) := by omega
    have y7 : ((e - 1 : Nat) : Int) ≤ (s.size : Int) := by omega
    rw [if_pos (show (e : Int) > (i : Int) by omega), w64 y1 y2, y3, if_pos y4, if_pos y5]
    by_cases c2 : bt s ((e - 1 : Nat) : Int) = 13
    · rw [if_pos c2, if_pos q1, if_pos y6, if_pos y7, if_pos q4, if_pos ⟨c, c2⟩, Int.toNat_natCast, Int.toNat_natCast]
    · rw [if_neg c2, if_pos q1, if_pos q2, if_pos q3, if_pos q4, if_neg (fun e => c2 e.2), Int.toNat_natCast, Int.toNat_natCast]
  · rw [if_neg (show ¬ (e : Int) > (i : Int) by omega), if_pos q1, if_pos q2, if_pos q3, if_pos q4, if_neg (fun e => c e.1), Int.toNat_natCast, Int.toNat_natCast]
theorem eol_stop (s : ByteArray) : ∀ n i, s.size ≤ i + n → i ≤ s.size → eol s n i < s.size → bt s ((eol s n i : Nat) : Int) = 10
  | 0, i, h, h2, h3 => by simp only [eol] at h3; omega
  | n + 1, i, h, h2, h3 => by
    rw [eol_succ] at h3 ⊢
    by_cases c : i < s.size ∧ bt s (i : Int) ≠ 10
    · rw [if_pos c] at h3 ⊢
      exact eol_stop s n (i + 1) (by omega) c.1 h3
    · rw [if_neg c] at h3 ⊢
      by_cases c2 : bt s (i : Int) = 10
      · exact c2
      · exact absurd ⟨h3, c2⟩ c
theorem ref_run (s : ByteArray) (hs : s.size ≤ 140737488351232) (l : List S27) (i k : Nat) : ∀ (m j : Nat), s.size - j = m → j ≤ s.size → vivariumref03_Lines.l0 (k + 2 * (eol s m j - j)) s l (i : Int) (j : Int) = vivariumref03_Lines.l0 k s l (i : Int) ((eol s m j : Nat) : Int) := by
  intro m
  induction m with
  | zero =>
    intro j hm hj
    show vivariumref03_Lines.l0 (k + 2 * (j - j)) s l (i : Int) (j : Int) = _
    rw [Nat.sub_self]
    rfl
  | succ m ih =>
    intro j hm hj
    by_cases c : j < s.size ∧ bt s (j : Int) ≠ 10
    · have h1 := eol_ge s m (j + 1)
      have z1 : -9223372036854775808 ≤ (j : Int) + 1 := by omega
      have z2 : (j : Int) + 1 ≤ 9223372036854775807 := by omega
      have q1 : (j : Int) ≤ (s.size : Int) := by omega
      have q2 : (j : Int) < (s.size : Int) := by omega
      have q3 : (0 : Int) ≤ (j : Int) := by omega
      have key := ih (j + 1) (by omega) c.1
      rw [eol_succ, if_pos c, show k + 2 * (eol s m (j + 1) - j) = (k + 2 * (eol s m (j + 1) - (j + 1))) + 1 + 1 from by omega]
      simp only [vivariumref03_Lines.l0]
      rw [if_pos q1, if_pos q2, if_pos q3, if_neg c.2]
      simp only [vivariumref03_Lines.j1]
      rw [if_pos (by trivial), w64 z1 z2, show (j : Int) + 1 = ((j + 1 : Nat) : Int) from rfl]
      exact key
    · rw [eol_succ, if_neg c, Nat.sub_self]
      rfl
theorem lines_go (s : ByteArray) (hs : s.size ≤ 140737488351232) : ∀ (n i : Nat) (l : List S27), s.size + 1 - i ≤ n → i ≤ s.size + 1 → l.length + (s.size + 1 - i) ≤ 140737488351232 / 32 → ∀ k, 2 * (s.size + 2 - i) + 4 ≤ k → vivariumref03_Lines.l0 k s l (i : Int) (i : Int) = some (l ++ lsp s n i) := by
  intro n
  induction n with
  | zero =>
    intro i l hn hi hl k hk
    obtain ⟨k, rfl⟩ : ∃ m, k = m + 1 := ⟨k - 1, by omega⟩
    simp only [vivariumref03_Lines.l0]
    rw [if_neg (by omega)]
    show some l = some (l ++ [])
    rw [List.append_nil]
  | succ n ih =>
    intro i l hn hi hl k hk
    by_cases c : i < s.size
    · have h1 := eol_ge s (s.size - i) i
      have h2 := eol_le s (s.size - i) i (by omega)
      have h3 := eol_stop s (s.size - i) i (by omega) (by omega)
      have hrun := fun k => ref_run s hs l i k (s.size - i) i rfl (by omega)
      obtain ⟨e, he⟩ : ∃ e, eol s (s.size - i) i = e := ⟨_, rfl⟩
      rw [he] at h1 h2 h3
      obtain ⟨k, rfl⟩ : ∃ m, k = (m + 2) + 2 * (e - i) := ⟨k - 2 * (e - i) - 2, by omega⟩
      have hr := hrun (k + 2)
      rw [he] at hr
      have tell := ref_tell s hs l (by omega) i e k h1 h2
      have key := ih (e + 1) (l ++ [(⟨(i : Int), ltext s i e⟩ : S27)]) (by omega) (by omega) (by rw [List.length_append]; simp only [List.length_cons, List.length_nil]; omega) k (by omega)
      have hl0 : vivariumref03_Lines.l0 (k + 2) s l (i : Int) (e : Int) = vivariumref03_Lines.j1 (k + 1) s l (i : Int) (e : Int) false := by
        simp only [vivariumref03_Lines.l0]
        rw [if_pos (show (e : Int) ≤ (s.size : Int) by omega)]
        by_cases c2 : e < s.size
        · rw [if_pos (show (e : Int) < (s.size : Int) by omega), if_pos (show (0 : Int) ≤ (e : Int) by omega), if_pos (h3 c2), if_neg (show ¬ (e : Int) = (s.size : Int) by omega)]
        · rw [if_neg (show ¬ (e : Int) < (s.size : Int) by omega), if_pos (show (e : Int) = (s.size : Int) by omega), beq_eq_false_iff_ne.mpr (show (i : Int) ≠ (e : Int) by omega)]
      rw [hr, hl0, tell, key]
      unfold lsp
      rw [if_pos c, he, List.append_assoc]
      cases n with
      | zero => exact absurd hn (by omega)
      | succ n => rfl
    · have hls : lsp s (n + 1) i = [] := by unfold lsp; rw [if_neg c]
      rw [hls, List.append_nil]
      obtain ⟨k, rfl⟩ : ∃ m, k = m + 3 := ⟨k - 3, by omega⟩
      by_cases c2 : i = s.size
      · subst c2
        have z1 : -9223372036854775808 ≤ (s.size : Int) + 1 := by omega
        have z2 : (s.size : Int) + 1 ≤ 9223372036854775807 := by omega
        simp only [vivariumref03_Lines.l0]
        rw [if_pos (by omega), if_neg (by omega), if_pos (by trivial), beq_self_eq_true]
        simp only [vivariumref03_Lines.j1]
        rw [if_pos (by trivial), w64 z1 z2]
        simp only [vivariumref03_Lines.l0]
        rw [if_neg (by omega)]
      · simp only [vivariumref03_Lines.l0]
        rw [if_neg (by omega)]
end Go.Proofs.Ytkahgdkpehlanaa.L

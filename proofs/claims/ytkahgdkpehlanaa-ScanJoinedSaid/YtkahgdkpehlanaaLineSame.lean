/- The program's iterator gives the plain function's lines. -/
import Derived.Test.YtkahgdkpehlanaaLineEq
import Derived.Test.YtkahgdkpehlanaaPm8
namespace Go.Proofs.Ytkahgdkpehlanaa.L
open Go.RowKit Go.Proofs.Ytkahgdkpehlanaa.P Go.Proofs.YtkahgdkpehlanaaW.PrintWords Go.Proofs.YtkahgdkpehlanaaW.PrintLast Go.Proofs.YtkahgdkpehlanaaW.PrintMore
theorem lns_eq (s : ByteArray) (hs : s.size ≤ 140737488351232) : ∀ (n i k : Nat), s.size + 1 - i ≤ n → i ≤ s.size + 1 → n < k → lns s k i = some (lsp s n i) := by
  intro n
  induction n with
  | zero =>
    intro i k hn hi hk
    obtain ⟨k, rfl⟩ : ∃ m, k = m + 1 := ⟨k - 1, by omega⟩
    rw [lns_succ, if_neg (by omega)]
    rfl
  | succ n ih =>
    intro i k hn hi hk
    obtain ⟨k, rfl⟩ : ∃ m, k = m + 1 := ⟨k - 1, by omega⟩
    rw [lns_succ]
    by_cases c : i < s.size
    · have hge := eol_ge s (s.size - i) i
      have hle := eol_le s (s.size - i) i (by omega)
      obtain ⟨c2, c3, hcut⟩ := cut_at s hs i c
      have hlsp : lsp s (n + 1) i = (⟨(i : Int), ltext s i (eol s (s.size - i) i)⟩ : S27) :: lsp s n (eol s (s.size - i) i + 1) := by unfold lsp; rw [if_pos c]; cases n <;> rfl
      rw [hlsp]
      obtain ⟨e, he⟩ : ∃ e, eol s (s.size - i) i = e := ⟨_, rfl⟩
      rw [he] at hge hle hcut ⊢
      have hz : (s.extract i e).size = e - i := by rw [ByteArray.size_extract]; omega
      have key := ih (e + 1) k (by omega) (by omega) (by omega)
      rw [if_pos c, hcut, Option.bind_some]
      dsimp only
      rw [trim_at s hs i e hge hle, Option.bind_some, hz, if_pos (by omega), show i + (e - i) + 1 = e + 1 from by omega, key]
      rfl
    · have hlsp : lsp s (n + 1) i = [] := by unfold lsp; rw [if_neg c]
      rw [if_neg c, hlsp]
end Go.Proofs.Ytkahgdkpehlanaa.L

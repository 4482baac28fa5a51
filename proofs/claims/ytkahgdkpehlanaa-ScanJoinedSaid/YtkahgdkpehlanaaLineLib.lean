/- The lines of a text, as a plain function; the reference's answer is it. -/
import Derived.Test.YtkahgdkpehlanaaPureLib
import Derived.Test.YtkahgdkpehlanaaP0
import Derived.Test.YtkahgdkpehlanaaLnDefs
namespace Go.Proofs.Ytkahgdkpehlanaa.L
open Go.RowKit Go.Proofs.Ytkahgdkpehlanaa.P Go.Proofs.YtkahgdkpehlanaaW.PrintWords Go.Proofs.YtkahgdkpehlanaaW.PrintLast Go.Proofs.YtkahgdkpehlanaaW.PrintMore
/-- Where the line ends. -/
def eol (s : ByteArray) : Nat → Nat → Nat
  | 0, i => i
  | n + 1, i => if i < s.size ∧ bt s (i : Int) ≠ 10 then eol s n (i + 1) else i
theorem eol_succ (s : ByteArray) (n i : Nat) : eol s (n + 1) i = if i < s.size ∧ bt s (i : Int) ≠ 10 then eol s n (i + 1) else i := rfl
theorem eol_ge (s : ByteArray) : ∀ n i, i ≤ eol s n i
  | 0, i => Nat.le_refl i
  | n + 1, i => by
    rw [eol_succ]
    by_cases c : i < s.size ∧ bt s (i : Int) ≠ 10
    · rw [if_pos c]; have := eol_ge s n (i + 1); omega
    · rw [if_neg c]; exact Nat.le_refl i
theorem eol_le (s : ByteArray) : ∀ n i, i ≤ s.size → eol s n i ≤ s.size
  | 0, i, h => h
  | n + 1, i, h => by
    rw [eol_succ]
    by_cases c : i < s.size ∧ bt s (i : Int) ≠ 10
    · rw [if_pos c]; exact eol_le s n (i + 1) c.1
    · rw [if_neg c]; exact h
/-- The text of a line between two places. -/
def ltext (s : ByteArray) (i e : Nat) : ByteArray := if i < e ∧ bt s ((e - 1 : Nat) : Int) = 13 then s.extract i (e - 1) else s.extract i e
/-- The lines from a place on. -/
def lsp (s : ByteArray) : Nat → Nat → List S27
  | 0, _ => []
  | n + 1, i => if i < s.size then (⟨(i : Int), ltext s i (eol s (s.size - i) i)⟩ : S27) :: lsp s n (eol s (s.size - i) i + 1) else []
theorem eol_stop (s : ByteArray) : ∀ n i, s.size ≤ i + n → i ≤ s.size → eol s n i < s.size → bt s ((eol s n i : Nat) : Int) = 10
  | 0, i, h, h2, h3 => by simp only [eol] at h3; omega
  | n + 1, i, h, h2, h3 => by
    rw [eol_succ] at h3 ⊢
    by_cases c : i < s.size ∧ bt s (i : Int) ≠ 10
    · rw [if_pos c] at h3 ⊢
      exact eol_stop s n (i + 1) (by omega) c.1 h3
    · rw [if_neg c] at h3 ⊢
      by_cases c2 : bt s (i : Int) = 10
      · exact c2
      · exact absurd ⟨h3, c2⟩ c
end Go.Proofs.Ytkahgdkpehlanaa.L

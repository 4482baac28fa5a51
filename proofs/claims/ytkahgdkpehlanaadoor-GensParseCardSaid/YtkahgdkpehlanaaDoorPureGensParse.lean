/- Of any text the rule, or the first fault and its place: the program's reading is the document's. -/
import Derived.Test.YtkahgdkpehlanaaDoorGensSame
import Derived.Test.YtkahgdkpehlanaaDoorPm11
namespace Go.Proofs.YtkahgdkpehlanaaDoor.Pure
open Go.RowKit Go.Proofs.YtkahgdkpehlanaaDoor.P Go.Proofs.YtkahgdkpehlanaaDoorW.PrintWords Go.Proofs.YtkahgdkpehlanaaDoorW.PrintLast Go.Proofs.YtkahgdkpehlanaaDoorW.PrintMore Go.Proofs.YtkahgdkpehlanaaDoor.L
theorem GensParse : vivariumlaw09_GensParse.Pure := by
 intro a0 a1 w0 w1
 obtain ⟨k, hk0, hk1, hk2⟩ : ∃ k, 1000 ≤ k ∧ a0.size + 100 ≤ k ∧ a1.size + 100 ≤ k := ⟨1000 + a0.size + a1.size + 100, by omega, by omega, by omega⟩
 obtain ⟨r, h1, h2⟩ := parse_same a0 w0 k hk1
 obtain ⟨q, h3, h4⟩ := parse_same a1 w1 k hk2
 refine ⟨k, ?_⟩
 unfold vivariumlaw09_GensParse.f vivariumlaw09_GensParse.f0
 rw [awake9_true k hk0, Option.bind_some, h2, Option.bind_some, h4, Option.bind_some, h1, Option.bind_some, h3, Option.bind_some, Option.bind_some]
 simp only [beq_self_eq_true, Bool.and_self, if_true, eq_self, Option.bind_some]
end Go.Proofs.YtkahgdkpehlanaaDoor.Pure

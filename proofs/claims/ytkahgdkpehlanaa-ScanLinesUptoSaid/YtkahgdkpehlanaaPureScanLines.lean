/- Of any text the lines, left anywhere, gone over again, and whole: where what comes in is of bulk at most 1048576. -/
import Derived.Test.YtkahgdkpehlanaaP8
import Derived.Test.YtkahgdkpehlanaaScanLib
namespace Go.Proofs.Ytkahgdkpehlanaa.Pure
open Go.RowKit Go.Proofs.Ytkahgdkpehlanaa.P Go.Proofs.YtkahgdkpehlanaaW.PrintWords Go.Proofs.YtkahgdkpehlanaaW.PrintLast Go.Proofs.YtkahgdkpehlanaaW.PrintMore Go.Proofs.Ytkahgdkpehlanaa.L
theorem ScanLinesUpto (a0 : ByteArray) (a1 : Int) (_ : a0.size ≤ 140737488351232) (_ : (Lit.int .i64 a1).wf = true) (b0 : a0.size ≤ 1048576) : ∃ k, vivariumlaw03_ScanLines.f k a0 a1 = some true := by
  refine ⟨1000, ?_⟩
  have c : a0.size ≤ 4398046510000 := by omega
  have h1 : vivariumlaw03_walk.f a0 a1 = some true := by unfold vivariumlaw03_walk.f; rw [if_pos c]
  have h2 : vivariumlaw03_walk.f a0 0 = some true := by unfold vivariumlaw03_walk.f; rw [if_pos c]
  unfold vivariumlaw03_ScanLines.f
  rw [awake_true 1000 (by omega), Option.bind_some, h1, Option.bind_some, h2, Option.bind_some, if_pos rfl, if_pos rfl]
end Go.Proofs.Ytkahgdkpehlanaa.Pure

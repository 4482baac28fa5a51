/- What the chapter's examples say is so. -/
import Derived.Test.YtkahgdkpehlanaaPureLib
import Derived.Test.YtkahgdkpehlanaaPm7
namespace Go.Proofs.Ytkahgdkpehlanaa.L
open Go.RowKit Go.Proofs.Ytkahgdkpehlanaa.P Go.Proofs.YtkahgdkpehlanaaW.PrintWords Go.Proofs.YtkahgdkpehlanaaW.PrintLast Go.Proofs.YtkahgdkpehlanaaW.PrintMore
set_option maxRecDepth 100000 in
theorem awake_100 : vivariumlaw03_awake.f 1000 = some true := by decide +kernel
theorem awake_true (k : Nat) (hk : 1000 ≤ k) : vivariumlaw03_awake.f k = some true := by
  obtain ⟨d, rfl⟩ : ∃ d, k = 1000 + d := ⟨k - 1000, by omega⟩
  induction d with
  | zero => exact awake_100
  | succ d ih => exact vivariumlaw03_awake.mono _ _ (ih (by omega))
end Go.Proofs.Ytkahgdkpehlanaa.L

/- The examples of the law's package answer as the document says. -/
import Derived.Test.YtkahgdkpehlanaaDoorPm14
namespace Go.Proofs.YtkahgdkpehlanaaDoor.L
open Go.RowKit Go.Proofs.YtkahgdkpehlanaaDoor.P Go.Proofs.YtkahgdkpehlanaaDoorW.PrintWords Go.Proofs.YtkahgdkpehlanaaDoorW.PrintLast Go.Proofs.YtkahgdkpehlanaaDoorW.PrintMore
theorem awake9_1000 : vivariumlaw09_awake.f 1000 = some true := by decide +kernel
theorem awake9_true (k : Nat) (hk : 1000 ≤ k) : vivariumlaw09_awake.f k = some true := by
  obtain ⟨d, rfl⟩ : ∃ d, k = 1000 + d := ⟨k - 1000, by omega⟩
  clear hk
  induction d with
  | zero => exact awake9_1000
  | succ d ih => exact vivariumlaw09_awake.mono _ _ ih
end Go.Proofs.YtkahgdkpehlanaaDoor.L

/- The examples of the law's package answer as the document says. -/
import Derived.Test.YtfgonglcmgahkaaPm4
namespace Go.Proofs.Ytfgonglcmgahkaa.L
open Go.RowKit Go.Proofs.Ytfgonglcmgahkaa.P Go.Proofs.YtfgonglcmgahkaaW.PrintWords Go.Proofs.YtfgonglcmgahkaaW.PrintLast Go.Proofs.YtfgonglcmgahkaaW.PrintMore
theorem alive23 : vivariumlaw23_alive.f = some true := rfl
end Go.Proofs.Ytfgonglcmgahkaa.L

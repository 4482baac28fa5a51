/- The examples of the law's package answer as the document says. -/
import Derived.Test.YtfgonglcmgahkabPm4
namespace Go.Proofs.Ytfgonglcmgahkab.L
open Go.RowKit Go.Proofs.Ytfgonglcmgahkab.P Go.Proofs.YtfgonglcmgahkabW.PrintWords Go.Proofs.YtfgonglcmgahkabW.PrintLast Go.Proofs.YtfgonglcmgahkabW.PrintMore
theorem alive23 : vivariumlaw23_alive.f = some true := rfl
end Go.Proofs.Ytfgonglcmgahkab.L

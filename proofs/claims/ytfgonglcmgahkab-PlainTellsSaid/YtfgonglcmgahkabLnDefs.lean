/- A line of a text: where it begins, and its text (where the seat has no struct of that form). -/
import Derived.Test.YtfgonglcmgahkabPureLib
namespace Go.Proofs.Ytfgonglcmgahkab.L
structure Ln where
  f0 : Int
  f1 : ByteArray
end Go.Proofs.Ytfgonglcmgahkab.L

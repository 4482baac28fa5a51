/- A line of a text: where it begins, and its text (where the seat has no struct of that form). -/
import Derived.Test.YtkahgdkpehlanaaPureLib
namespace Go.Proofs.Ytkahgdkpehlanaa.L
structure Ln where
  f0 : Int
  f1 : ByteArray
end Go.Proofs.Ytkahgdkpehlanaa.L

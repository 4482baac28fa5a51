/- Of every text the rule, or the first fault and its place: the program's and the reference's are one plain function. -/
import Derived.Test.YtfgonglcmgahkaaP6
import Derived.Test.YtfgonglcmgahkaaLifeLib
namespace Go.Proofs.Ytfgonglcmgahkaa.Pure
open Go.RowKit Go.Proofs.Ytfgonglcmgahkaa.P Go.Proofs.YtfgonglcmgahkaaW.PrintWords Go.Proofs.Ytfgonglcmgahkaa.L
theorem LifeParses : vivariumlaw08_LifeParses.Pure := by
  intro s hn
  refine ⟨100, ?_⟩
  unfold vivariumlaw08_LifeParses.f
  rw [alive_true, Option.bind_some, show life_Parse.f s = some (lifeParse s) from rfl, show vivariumref08_Parse.f s = some (lifeParse s) from rfl]
  simp
end Go.Proofs.Ytfgonglcmgahkaa.Pure

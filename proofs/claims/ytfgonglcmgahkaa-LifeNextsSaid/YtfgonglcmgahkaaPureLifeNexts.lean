/- Of every rule, state and count the next state: the program's and the reference's are one plain function. -/
import Derived.Test.YtfgonglcmgahkaaP7
import Derived.Test.YtfgonglcmgahkaaLifeLib
namespace Go.Proofs.Ytfgonglcmgahkaa.Pure
open Go.RowKit Go.Proofs.Ytfgonglcmgahkaa.P Go.Proofs.YtfgonglcmgahkaaW.PrintWords Go.Proofs.Ytfgonglcmgahkaa.L
theorem LifeNexts : vivariumlaw08_LifeNexts.Pure := by
  intro h b s a n wh wb ws wa wn
  obtain ⟨b, rfl, hb⟩ := u16_nat wb
  obtain ⟨s, rfl, hs⟩ := u16_nat ws
  have ha : 0 ≤ a := (Go.bounds_u8 wa).1
  refine ⟨100, ?_⟩
  unfold vivariumlaw08_LifeNexts.f
  rw [alive_true, next_life h b s hb hs a n 100 (by omega), next_ref h b s hb hs a n ha 100 (by omega)]
  simp
end Go.Proofs.Ytfgonglcmgahkaa.Pure

/- What a text is read as is written no longer than the text, and read again as the same; with the letters small it is read as the same, or refused at the same place. -/
import Derived.Test.YtfgonglcmgahkaaP8
import Derived.Test.YtfgonglcmgahkaaLifeSmall
namespace Go.Proofs.Ytfgonglcmgahkaa.Pure
open Go.RowKit Go.Proofs.Ytfgonglcmgahkaa.P Go.Proofs.YtfgonglcmgahkaaW.PrintWords Go.Proofs.YtfgonglcmgahkaaW.PrintLast Go.Proofs.YtfgonglcmgahkaaW.PrintMore Go.Proofs.Ytfgonglcmgahkaa.L
theorem LifeForm : vivariumlaw08_LifeForm.Pure := by
  intro s hn
  refine ⟨s.size + 100, ?_⟩
  have ha : vivariumlaw08_alive.f (s.size + 100) = some true := by
    have : ∀ d, vivariumlaw08_alive.f (100 + d) = some true := fun d => by
      induction d with
      | zero => exact alive_true
      | succ d ih => exact vivariumlaw08_alive.mono _ _ ih
    rw [Nat.add_comm]; exact this s.size
  unfold vivariumlaw08_LifeForm.f
  rw [ha, Option.bind_some, show life_Parse.f s = some (lifeParse s) from rfl, Option.bind_some, small_f s hn _ (by omega), Option.bind_some, show life_Parse.f (sm s) = some (lifeParse (sm s)) from rfl, sm_parse, Option.bind_some]
  simp only [beq_self_eq_true, Bool.not_true, Bool.or_self, if_true, Bool.false_eq_true, if_false]
  rcases read_parse s with ⟨e, i, he, hi, hr⟩ | ⟨H, B, S, h, hl, hr⟩
  · rw [hr]
    dsimp only
    rw [if_neg (by omega), decide_eq_false (by omega)]
    simp only [vivariumlaw08_LifeForm.j0]
    rw [if_neg (by decide), if_neg he]
    rfl
  · rw [hr]
    dsimp only
    rw [if_neg (by omega), decide_eq_false (by omega)]
    simp only [vivariumlaw08_LifeForm.j0]
    rw [if_neg (by decide), if_pos (by trivial), print_may h _ (by omega), Option.bind_some]
    dsimp only
    rw [show life_Parse.f (strOfNums (lifeText H B S)) = some (lifeParse (strOfNums (lifeText H B S))) from rfl, parse_print h, Option.bind_some]
    dsimp only
    rw [if_pos (by trivial), if_pos (by trivial), if_pos (by rw [strOfNums_size]; omega)]
    simp
end Go.Proofs.Ytfgonglcmgahkaa.Pure

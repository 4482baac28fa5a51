/- Of every state its sign, of every rune its state: the program's is the document's. -/
import Derived.Test.YtfgonglcmgahkaaPlainAlive
import Derived.Test.YtfgonglcmgahkaaPlainRefOf
import Derived.OpenShut
import Derived.Test.YtfgonglcmgahkaaPm5
namespace Go.Proofs.Ytfgonglcmgahkaa.Pure
open Go.RowKit Go.Proofs.Ytfgonglcmgahkaa.P Go.Proofs.YtfgonglcmgahkaaW.PrintWords Go.Proofs.YtfgonglcmgahkaaW.PrintLast Go.Proofs.YtfgonglcmgahkaaW.PrintMore Go.Proofs.Ytfgonglcmgahkaa.L
theorem PlainSigns : vivariumlaw23_PlainSigns.Pure := by
  intro a s w0 w1
  refine ⟨200, ?_⟩
  have h0 := Go.bounds_u8 w0
  have h1 := Go.bounds_i32 w1
  unfold vivariumlaw23_PlainSigns.f
  rw [alive23, Option.bind_some, of_is s (by omega) (by omega) 200 (by omega), Option.bind_some, ref_of s (by omega) (by omega) 200 (by omega), Option.bind_some, if_pos rfl]
  obtain ⟨r, hr⟩ : ∃ r, plain_Sign.f a = some r := by
    unfold plain_Sign.f
    by_cases c0 : a = 0
    · rw [if_pos c0]; exact ⟨_, rfl⟩
    · rw [if_neg c0]
      by_cases c1 : a = 1
      · rw [if_pos c1]; exact ⟨_, rfl⟩
      · rw [if_neg c1]; exact ⟨_, rfl⟩
  have hr2 : vivariumref23_Sign.f a = some r := hr
  rw [hr, Option.bind_some, hr2, Option.bind_some, if_pos rfl, if_pos rfl]
  simp
end Go.Proofs.Ytfgonglcmgahkaa.Pure

/- Each state has a sign of its own, that is read as it. -/
import Derived.Test.YtfgonglcmgahkabPlainAlive
import Derived.Test.YtfgonglcmgahkabPlainDefs
import Derived.OpenShut
import Derived.Test.YtfgonglcmgahkabPm4
namespace Go.Proofs.Ytfgonglcmgahkab.Pure
open Go.RowKit Go.Proofs.Ytfgonglcmgahkab.P Go.Proofs.YtfgonglcmgahkabW.PrintWords Go.Proofs.YtfgonglcmgahkabW.PrintLast Go.Proofs.YtfgonglcmgahkabW.PrintMore Go.Proofs.Ytfgonglcmgahkab.L
theorem sgn_is (a : Int) (h0 : 0 ≤ a) (h1 : a ≤ 255) : plain_Sign.f a = some (if a = 0 then 46 else if a = 1 then 79 else 10240 + a) := by
  unfold plain_Sign.f
  by_cases c0 : a = 0
  · rw [if_pos c0, if_pos c0]
  · rw [if_neg c0, if_neg c0]
    by_cases c1 : a = 1
    · rw [if_pos c1, if_pos c1]
    · rw [if_neg c1, if_neg c1]
      have e : wrap32 (10240 + wrap32 a) = 10240 + a := by unfold wrap32; omega
      rw [e]
theorem ofP_sgn (a : Int) (h0 : 0 ≤ a) (h1 : a ≤ 255) : ofP (if a = 0 then 46 else if a = 1 then 79 else 10240 + a) = (a, true) := by
  by_cases c0 : a = 0
  · subst c0; rfl
  · rw [if_neg c0]
    by_cases c1 : a = 1
    · subst c1; rfl
    · rw [if_neg c1]
      unfold ofP
      rw [if_neg (by omega), if_neg (by omega), if_pos (by omega)]
      congr 1
      omega
theorem PlainEach : vivariumlaw23_PlainEach.Pure := by
  intro a b w0 w1
  refine ⟨200, ?_⟩
  have h0 := Go.bounds_u8 w0
  have h1 := Go.bounds_u8 w1
  have ha := ofP_sgn a h0.1 h0.2
  have hb := ofP_sgn b h1.1 h1.2
  obtain ⟨x, hx⟩ : ∃ x, (if a = 0 then 46 else if a = 1 then 79 else 10240 + a : Int) = x := ⟨_, rfl⟩
  obtain ⟨y, hy⟩ : ∃ y, (if b = 0 then 46 else if b = 1 then 79 else 10240 + b : Int) = y := ⟨_, rfl⟩
  have hxr : 0 ≤ x ∧ x ≤ 20000 := by
    rw [← hx]
    by_cases c0 : a = 0
    · rw [if_pos c0]; omega
    · rw [if_neg c0]
      by_cases c1 : a = 1
      · rw [if_pos c1]; omega
      · rw [if_neg c1]; omega
  have hya := sgn_is a h0.1 h0.2
  have hyb := sgn_is b h1.1 h1.2
  rw [hx] at ha hya
  rw [hy] at hb hyb
  have hxy : x = y ↔ a = b := by
    constructor
    · intro e
      rw [e, hb] at ha
      exact (Prod.mk.inj ha).1.symm
    · intro e
      rw [← hx, ← hy, e]
  unfold vivariumlaw23_PlainEach.f
  rw [alive23, Option.bind_some, hya, Option.bind_some, hyb, Option.bind_some, of_is x (by omega) (by omega) 200 (by omega), Option.bind_some, ha]
  rw [if_pos rfl, if_pos rfl, if_pos rfl]
  congr 1
  rw [beq_iff_eq, Bool.eq_iff_iff, beq_iff_eq, beq_iff_eq]
  exact hxy
end Go.Proofs.Ytfgonglcmgahkab.Pure

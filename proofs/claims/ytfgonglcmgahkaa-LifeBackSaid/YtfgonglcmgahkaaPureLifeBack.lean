/- A rule that may be is written, and read again as it was; turned twice it is itself; another rule has another text. -/
import Derived.Test.YtfgonglcmgahkaaP11
import Derived.Test.YtfgonglcmgahkaaLifeText
namespace Go.Proofs.Ytfgonglcmgahkaa.Pure
open Go.RowKit Go.Proofs.Ytfgonglcmgahkaa.P Go.Proofs.YtfgonglcmgahkaaW.PrintWords Go.Proofs.YtfgonglcmgahkaaW.PrintLast Go.Proofs.YtfgonglcmgahkaaW.PrintMore Go.Proofs.Ytfgonglcmgahkaa.L
theorem LifeBack : vivariumlaw08_LifeBack.Pure := by
  intro a b s c d e wa wb ws wc wd we
  obtain ⟨b, rfl, hb⟩ := u16_nat wb
  obtain ⟨s, rfl, hs⟩ := u16_nat ws
  obtain ⟨d, rfl, hd⟩ := u16_nat wd
  obtain ⟨e, rfl, he⟩ := u16_nat we
  obtain ⟨H, B, S, h1, h⟩ := made_eq a (Go.bounds_u8 wa).1 b s hb hs
  obtain ⟨I, C, D, h2, i⟩ := made_eq c (Go.bounds_u8 wc).1 d e hd he
  have hl := h.lt
  have hf := h.flip
  refine ⟨100, ?_⟩
  unfold vivariumlaw08_LifeBack.f
  rw [alive_true, Option.bind_some, h1, Option.bind_some]
  dsimp only
  rw [print_may h 100 (by omega), Option.bind_some]
  dsimp only
  rw [show life_Parse.f (strOfNums (lifeText H B S)) = some (lifeParse (strOfNums (lifeText H B S))) from rfl, parse_print h, Option.bind_some]
  dsimp only
  rw [turned_may h 100 (by omega), Option.bind_some]
  dsimp only
  rw [turned_may hf.1 100 (by omega), Option.bind_some]
  dsimp only
  rw [hf.2.1, hf.2.2.1, if_pos rfl, check_life H B S (by omega) (by omega), Option.bind_some, h.chk]
  simp only [if_true, beq_self_eq_true, Bool.not_true, Bool.or_self, if_neg (show ¬ false = true by decide)]
  simp only [vivariumlaw08_LifeBack.j0]
  rw [if_neg (by decide), h2, Option.bind_some]
  dsimp only
  rw [print_may i 99 (by omega), Option.bind_some]
  dsimp only
  rw [if_pos rfl]
  congr 1
  by_cases q : I = H ∧ (C : Int) = (B : Int) ∧ (D : Int) = (S : Int)
  · obtain ⟨rfl, q2, q3⟩ := q
    have q2 : C = B := by omega
    have q3 : D = S := by omega
    subst q2 q3
    simp
  · have q1 : (I == H && ((C : Int) == (B : Int) && ((D : Int) == (S : Int)))) = false := by
      rw [Bool.eq_false_iff]
      intro e
      simp only [Bool.and_eq_true, beq_iff_eq] at e
      exact q e
    rw [q1]
    have q4 : ((strOfNums (lifeText I C D)).toList == (strOfNums (lifeText H B S)).toList) = false := by
      rw [Bool.eq_false_iff]
      intro e
      have e2 := eq_of_beq e
      rw [ByteArray.toList_eq, ByteArray.toList_eq] at e2
      have e3 : strOfNums (lifeText I C D) = strOfNums (lifeText H B S) := by
        apply ByteArray.ext
        exact Array.toList_inj.1 e2
      have e4 := parse_print i
      rw [e3, parse_print h] at e4
      simp only [Prod.mk.injEq] at e4
      exact q ⟨e4.1.symm, e4.2.1.symm, e4.2.2.1.symm⟩
    rw [q4]
    rfl
end Go.Proofs.Ytfgonglcmgahkaa.Pure

/- The rule turned does to the dead what the rule does to the living, at each state and count; Next tells each bit of the rule. -/
import Derived.Test.YtfgonglcmgahkaaP12
import Derived.Test.YtfgonglcmgahkaaLifeTurn
namespace Go.Proofs.Ytfgonglcmgahkaa.Pure
open Go.RowKit Go.Proofs.Ytfgonglcmgahkaa.P Go.Proofs.YtfgonglcmgahkaaW.PrintWords Go.Proofs.YtfgonglcmgahkaaW.PrintLast Go.Proofs.YtfgonglcmgahkaaW.PrintMore Go.Proofs.Ytfgonglcmgahkaa.L
theorem turns_go {H : Int} {B S : Nat} (h : May H B S) : ∀ (d i k : Nat), (mostOf H).toNat + 1 - i = d → i ≤ (mostOf H).toNat + 1 → 2 * d + 3 < k → vivariumlaw08_LifeTurns.l0 k (((mostOf H).toNat : Nat) : Int) (i : Int) H B S H ((flip H S : Nat) : Int) ((flip H B : Nat) : Int) = some true := by
  intro d
  have hm := most_le H
  have hf := h.flip
  have hl := h.lt
  have hl2 := hf.1.lt
  induction d with
  | zero =>
    intro i k hd hi hk
    obtain ⟨k, rfl⟩ : ∃ m, k = m + 1 := ⟨k - 1, by omega⟩
    simp only [vivariumlaw08_LifeTurns.l0]
    rw [if_neg (by omega)]
  | succ d ih =>
    intro i k hd hi hk
    obtain ⟨k, rfl⟩ : ∃ m, k = m + 2 := ⟨k - 2, by omega⟩
    have hi2 : i ≤ (mostOf H).toNat := by omega
    have q1 : (i : Int) ≤ (((mostOf H).toNat : Nat) : Int) := by omega
    have q2 : (0 : Int) ≤ (i : Int) := by omega
    have q3 : (i : Int) ≤ 8 := by omega
    have hB : B < 65536 := by omega
    have hS : S < 65536 := by omega
    have hB2 : flip H S < 65536 := by omega
    have hS2 : flip H B < 65536 := by omega
    have hk1 : 1 ≤ k + 1 := by omega
    have key := ih (i + 1) k (by omega) (by omega) (by omega)
    have e3 : IntKind.u64.wrap (i : Int) = (i : Int) := by rw [IntKind.wrap_u64]; omega
    have e1 : wrap64 ((((mostOf H).toNat : Nat) : Int) - (i : Int)) = (((mostOf H).toNat - i : Nat) : Int) := by rw [w64 (by omega) (by omega)]; omega
    have e2 : wrap64 ((i : Int) + 1) = ((i + 1 : Nat) : Int) := w64 (by omega) (by omega)
    have z0 : (0 : Int) ≤ 1 := by decide
    have z1 : (1 : Int) ≤ 1 := by decide
    simp only [vivariumlaw08_LifeTurns.l0]
    rw [if_pos q1, e1, next_life H B S hB hS 0 i _ hk1, next_life H B S hB hS 1 i _ hk1, next_life H _ _ hB2 hS2 0 _ _ hk1, next_life H _ _ hB2 hS2 1 _ _ hk1]
    rw [next_may h 0 z0 i hi2, next_may h 1 z1 i hi2, next_may hf.1 0 z0 _ (Nat.sub_le _ _), next_may hf.1 1 z1 _ (Nat.sub_le _ _)]
    simp only [Option.bind_some, if_true, if_neg (show ¬ (0 : Int) = 1 by decide), (hf.2.2.2 i hi2).1, (hf.2.2.2 i hi2).2]
    simp only [vivariumlaw08_LifeTurns.j2]
    rw [e3, if_neg (by decide), if_pos q2, bit_shr B hB i q2 q3, bit_shr S hS i q2 q3, Int.toNat_natCast, e2]
    cases B.testBit i <;> cases S.testBit i <;> exact key
theorem LifeTurns : vivariumlaw08_LifeTurns.Pure := by
  intro a b s wa wb ws
  obtain ⟨b, rfl, hb⟩ := u16_nat wb
  obtain ⟨s, rfl, hs⟩ := u16_nat ws
  obtain ⟨H, B, S, he, h⟩ := made_eq a (Go.bounds_u8 wa).1 b s hb hs
  have hm := most_le H
  refine ⟨100, ?_⟩
  unfold vivariumlaw08_LifeTurns.f
  rw [alive_true, Option.bind_some, he, Option.bind_some]
  dsimp only
  rw [turned_may h 100 (by omega), Option.bind_some]
  dsimp only
  rw [if_pos rfl, if_pos rfl]
  simp only [vivariumlaw08_LifeTurns.j0]
  rw [if_neg (by simp), most_law h.hood, Option.bind_some]
  exact turns_go h _ 0 99 rfl (by omega) (by omega)
end Go.Proofs.Ytfgonglcmgahkaa.Pure

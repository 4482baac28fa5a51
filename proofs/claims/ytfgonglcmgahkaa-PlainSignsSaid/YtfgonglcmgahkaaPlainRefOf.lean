/- The document's state of a rune. -/
import Derived.Test.YtfgonglcmgahkaaPlainDefs
import Derived.Test.YtfgonglcmgahkaaPm4
namespace Go.Proofs.Ytfgonglcmgahkaa.L
open Go.RowKit Go.Proofs.Ytfgonglcmgahkaa.P Go.Proofs.YtfgonglcmgahkaaW.PrintWords Go.Proofs.YtfgonglcmgahkaaW.PrintLast Go.Proofs.YtfgonglcmgahkaaW.PrintMore
theorem ref_1 (r : Int) (h0 : -2147483648 ≤ r) (h1 : r ≤ 2147483647) (k : Nat) (b : Bool) (hb : b = decide (r = 79 ∨ r = 111 ∨ r = 42 ∨ r = 35)) (h : ¬ (r = 46 ∨ r = 32 ∨ r = 95)) : vivariumref23_Of.j1 (k + 1) r b = some (ofP r) := by
  subst hb
  simp only [vivariumref23_Of.j1]
  unfold ofP
  rw [if_neg h]
  by_cases c1 : r = 79 ∨ r = 111 ∨ r = 42 ∨ r = 35
  · rw [if_pos c1, if_pos (decide_eq_true c1)]
  · rw [if_neg c1, if_neg (by rw [decide_eq_false c1]; decide)]
    by_cases c2 : r ≥ 10242
    · rw [if_pos c2]
      by_cases c3 : r ≤ 10495
      · rw [if_pos c3, if_pos ⟨c2, c3⟩]
        have e : wrap32 (r - 10240) % 256 = r - 10240 := by unfold wrap32; omega
        rw [e]
      · rw [if_neg c3, if_neg (fun e => c3 e.2)]
    · rw [if_neg c2, if_neg (fun e => c2 e.1)]
theorem ref_0 (r : Int) (h0 : -2147483648 ≤ r) (h1 : r ≤ 2147483647) (k : Nat) (b : Bool) (hb : b = decide (r = 46 ∨ r = 32 ∨ r = 95)) : vivariumref23_Of.j0 (k + 2) r r b = some (ofP r) := by
  subst hb
  simp only [vivariumref23_Of.j0]
  by_cases c : r = 46 ∨ r = 32 ∨ r = 95
  · rw [if_pos (decide_eq_true c)]
    unfold ofP
    rw [if_pos c]
  · rw [if_neg (by rw [decide_eq_false c]; decide)]
    by_cases c1 : r = 79
    · rw [if_pos c1, ref_1 r h0 h1 k _ (by rw [c1]; decide) c]
    · rw [if_neg c1]
      by_cases c2 : r = 111
      · rw [if_pos c2, ref_1 r h0 h1 k _ (by rw [c2]; decide) c]
      · rw [if_neg c2]
        by_cases c3 : r = 42
        · rw [if_pos c3, ref_1 r h0 h1 k _ (by rw [c3]; decide) c]
        · rw [if_neg c3, ref_1 r h0 h1 k _ (by rw [Bool.eq_iff_iff, beq_iff_eq, decide_eq_true_eq]; omega) c]
theorem ref_of (r : Int) (h0 : -2147483648 ≤ r) (h1 : r ≤ 2147483647) (k : Nat) (hk : 5 ≤ k) : vivariumref23_Of.f k r = some (ofP r) := by
  obtain ⟨k, rfl⟩ : ∃ m, k = m + 2 := ⟨k - 2, by omega⟩
  unfold vivariumref23_Of.f
  by_cases c1 : r = 46
  · rw [if_pos c1, ref_0 r h0 h1 k _ (by rw [c1]; decide)]
  · rw [if_neg c1]
    by_cases c2 : r = 32
    · rw [if_pos c2, ref_0 r h0 h1 k _ (by rw [c2]; decide)]
    · rw [if_neg c2, ref_0 r h0 h1 k _ (by rw [Bool.eq_iff_iff, beq_iff_eq, decide_eq_true_eq]; omega)]
end Go.Proofs.Ytfgonglcmgahkaa.L

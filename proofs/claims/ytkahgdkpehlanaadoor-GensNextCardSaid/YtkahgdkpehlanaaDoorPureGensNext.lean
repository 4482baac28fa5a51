/- Of any rule, state and count the next state, or the error: the program's is the document's. -/
import Derived.Test.YtkahgdkpehlanaaDoorGensRule
import Derived.Test.YtkahgdkpehlanaaDoorPm17
import Derived.Test.YtkahgdkpehlanaaDoorPm16
namespace Go.Proofs.YtkahgdkpehlanaaDoor.Pure
open Go.RowKit Go.Proofs.YtkahgdkpehlanaaDoor.P Go.Proofs.YtkahgdkpehlanaaDoorW.PrintWords Go.Proofs.YtkahgdkpehlanaaDoorW.PrintLast Go.Proofs.YtkahgdkpehlanaaDoorW.PrintMore Go.Proofs.YtkahgdkpehlanaaDoor.L
theorem bit_shl (v : Nat) (hv : v < 65536) (n : Int) (h0 : 0 ≤ n) (h1 : n ≤ 8) : (Go.bits .and .u16 (v : Int) (shl .u16 1 n) = 0) = (v.testBit n.toNat = false) := by
  obtain ⟨d, rfl⟩ : ∃ d : Nat, n = d := ⟨n.toNat, by omega⟩
  have hd : d ≤ 9 := by omega
  have e1 : shl .u16 1 (d : Int) = ((2 ^ d : Nat) : Int) := by
    unfold shl
    rw [Int.toNat_natCast, show min d IntKind.u16.bits = d from Nat.min_eq_left (show d ≤ 16 by omega), Int.one_mul]
    exact wrap_pow d hd
  rw [e1, u16_and_nat v (2 ^ d) hv (pow_lt9 d hd), Int.toNat_natCast, ← and_pow v d]
  exact propext ⟨fun h => by exact_mod_cast h, fun h => by rw [h]; rfl⟩
theorem ref_next (h : Int) (b s : Nat) (hb : b < 65536) (hs : s < 65536) (n a c : Int) (ha0 : 0 ≤ a) (ha1 : a ≤ 255) (k : Nat) (hk : 100 ≤ k) : vivariumref09_Next.f k h b s n a c = some (gnx h b s n a c) := by
  obtain ⟨k, rfl⟩ : ∃ m, k = m + 3 := ⟨k - 3, by omega⟩
  have hc : vivariumref09_Check.f (k + 3) h b s n = some (gchk h b s n) := by
    unfold vivariumref09_Check.f gchk
    rw [check_ref h b s hb hs (k + 3) (by omega), Option.bind_some]
    by_cases c0 : chk h b s = 0
    · rw [if_pos c0, if_pos c0]
      by_cases c1 : n < 2
      · rw [if_pos c1, if_pos (Or.inl c1)]
      · rw [if_neg c1]
        by_cases c2 : n > 256
        · rw [if_pos c2, if_pos (Or.inr c2)]
        · rw [if_neg c2, if_neg (by omega)]
    · rw [if_neg c0, if_neg c0]
  unfold vivariumref09_Next.f gnx
  rw [hc, Option.bind_some]
  by_cases c0 : gchk h b s n = 0
  · obtain ⟨hk0, hn2, hn3⟩ := gchk_ok c0
    have hh := chk_hood hk0
    have hm := most_le h
    rw [if_pos c0, if_pos c0, w64 (by omega) (by omega)]
    by_cases c1 : a ≥ n
    · rw [if_pos c1, if_pos c1]
    · rw [if_neg c1, if_neg c1]
      have key : ∀ m : Int, m = mostOf h → vivariumref09_Next.j1 (k + 2) a c m h b s n = some (if c < 0 ∨ c > mostOf h then (0, 2) else gst b s n a c) := fun m hm' => by
        have j2 : ∀ q : Bool, q = decide (c < 0 ∨ c > mostOf h) → vivariumref09_Next.j2 (k + 1) a c q h b s n = some (if c < 0 ∨ c > mostOf h then (0, 2) else gst b s n a c) := fun q hq => by
          simp only [vivariumref09_Next.j2]
          by_cases c2 : c < 0 ∨ c > mostOf h
          · rw [hq, if_pos (decide_eq_true c2), if_pos c2]
          · have hc0 : 0 ≤ c := by omega
            have hc8 : c ≤ 8 := by omega
            rw [hq, if_neg (by rw [decide_eq_false c2]; decide), if_neg c2, if_pos hc0]
            unfold gst
            by_cases a0 : a = 0
            · rw [if_pos a0, if_pos a0]
              by_cases t : b.testBit c.toNat = true
              · rw [if_neg (by rw [bit_shl b hb c hc0 hc8, t]; decide), if_neg (by omega), if_pos t]
              · rw [if_pos (by rw [bit_shl b hb c hc0 hc8]; exact Bool.eq_false_iff.mpr t), if_neg (by omega), if_neg t]
            · rw [if_neg a0, if_neg a0]
              by_cases a1 : a = 1
              · have e2 : wrap64 (wrap64 a + 1) = 2 := by rw [a1]; unfold wrap64; decide
                rw [if_pos a1, if_pos a1, e2]
                by_cases t : s.testBit c.toNat = true
                · rw [if_neg (by rw [bit_shl s hs c hc0 hc8, t]; decide), if_neg (by omega), if_pos t]
                · rw [if_pos (by rw [bit_shl s hs c hc0 hc8]; exact Bool.eq_false_iff.mpr t), if_neg t]
                  by_cases n2 : n = 2
                  · rw [if_pos (by omega), if_pos (by omega)]
                  · rw [if_neg (by omega), if_neg (by omega)]
              · have q1 : a + 1 ≤ 9223372036854775807 := by omega
                have q2 : -9223372036854775808 ≤ a + 1 := by omega
                have q3 : a ≤ 9223372036854775807 := by omega
                have q4 : -9223372036854775808 ≤ a := by omega
                rw [if_neg a1, if_neg a1, w64 q4 q3, w64 q2 q1]
                by_cases n2 : a + 1 = n
                · rw [if_pos (by omega), if_pos n2]
                · rw [if_neg (by omega), if_neg n2]
        simp only [vivariumref09_Next.j1]
        by_cases c2 : c < 0
        · rw [if_pos c2]
          exact j2 true (decide_eq_true (Or.inl c2)).symm
        · rw [if_neg c2, hm']
          refine j2 _ ?_
          rw [Bool.eq_iff_iff, decide_eq_true_eq, decide_eq_true_eq]
          omega
      have j0 : ∀ m : Int, (h ≠ 3 → m = mostOf h) → vivariumref09_Next.j0 (k + 3) a c m h b s n = some (if c < 0 ∨ c > mostOf h then (0, 2) else gst b s n a c) := fun m hm' => by
        simp only [vivariumref09_Next.j0]
        by_cases h3 : h = 3
        · rw [if_pos h3]
          exact key 6 (by rw [h3]; rfl)
        · rw [if_neg h3]
          exact key m (hm' h3)
      by_cases h2 : h = 2
      · rw [if_pos h2]
        exact j0 4 (fun _ => by rw [h2]; rfl)
      · rw [if_neg h2]
        exact j0 8 (fun h3 => by
          have : h = 1 := by omega
          rw [this]; rfl)
  · rw [if_neg c0, if_neg c0]
theorem GensNext : vivariumlaw09_GensNext.Pure := by
  intro a0_0 a0_1 a0_2 a0_3 a1 a2 w0 w1 w2 w3 w4 w5
  obtain ⟨b, rfl, hb⟩ := u16_nat w1
  obtain ⟨s, rfl, hs⟩ := u16_nat w2
  have ha : 0 ≤ a1 ∧ a1 ≤ 255 := by simpa [Lit.wf, IntKind.min, IntKind.max, IntKind.signed, IntKind.bits] using w4
  refine ⟨1000, ?_⟩
  unfold vivariumlaw09_GensNext.f vivariumlaw09_GensNext.f0
  rw [awake9_true 1000 (by omega), Option.bind_some, prog_next a0_0 b s hb hs a0_3 a1 a2 ha.1 ha.2 1000 (by omega), Option.bind_some, ref_next a0_0 b s hb hs a0_3 a1 a2 ha.1 ha.2 1000 (by omega), Option.bind_some]
  simp only [beq_self_eq_true, if_true, eq_self, Option.bind_some]
end Go.Proofs.YtkahgdkpehlanaaDoor.Pure

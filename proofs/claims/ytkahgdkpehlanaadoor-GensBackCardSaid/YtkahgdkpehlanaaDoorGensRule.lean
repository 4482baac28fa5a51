/- A rule whose dead fade: whether it may be, and the next state, as plain functions. -/
import Derived.Test.YtkahgdkpehlanaaDoorLifeCore
import Derived.Test.YtkahgdkpehlanaaDoorPm9
import Derived.Test.YtkahgdkpehlanaaDoorPm13
import Derived.Test.YtkahgdkpehlanaaDoorPm14
import Derived.Test.YtkahgdkpehlanaaDoorGensAwake
namespace Go.Proofs.YtkahgdkpehlanaaDoor.L
open Go.RowKit Go.Proofs.YtkahgdkpehlanaaDoor.P Go.Proofs.YtkahgdkpehlanaaDoorW.PrintWords Go.Proofs.YtkahgdkpehlanaaDoorW.PrintLast Go.Proofs.YtkahgdkpehlanaaDoorW.PrintMore
def gchk (h : Int) (b s : Nat) (n : Int) : Int := if chk h b s = 0 then (if n < 2 ∨ n > 256 then 90 else 0) else chk h b s
theorem gchk_ok {h : Int} {b s : Nat} {n : Int} (e : gchk h b s n = 0) : chk h b s = 0 ∧ 2 ≤ n ∧ n ≤ 256 := by
  unfold gchk at e
  by_cases c : chk h b s = 0
  · rw [if_pos c] at e
    by_cases c2 : n < 2 ∨ n > 256
    · rw [if_pos c2] at e; exact absurd e (by decide)
    · exact ⟨c, by omega, by omega⟩
  · rw [if_neg c] at e; exact absurd e c
theorem prog_check (h : Int) (b s : Nat) (hb : b < 65536) (hs : s < 65536) (n : Int) : gens_Check.f h b s n = some (gchk h b s n) := by
  unfold gens_Check.f gchk
  rw [check_life h b s hb hs, Option.bind_some]
  by_cases c0 : chk h b s = 0
  · rw [if_pos c0, if_pos c0]
    by_cases c1 : n < 2
    · rw [if_pos c1, if_pos (Or.inl c1)]
    · rw [if_neg c1]
      by_cases c2 : n > 256
      · rw [if_pos c2, if_pos (Or.inr c2)]
      · rw [if_neg c2, if_neg (by omega)]
  · rw [if_neg c0, if_neg c0]
/-- The state behind a state, of a rule and a count that may be. -/
def gst (b s : Nat) (n a c : Int) : Int × Int :=
  if a = 0 then (if b.testBit c.toNat = true then (1, 0) else (0, 0))
  else if a = 1 then (if s.testBit c.toNat = true then (1, 0) else if n ≤ 2 then (0, 0) else (2 % 256, 0))
  else if a + 1 = n then (0, 0) else ((a + 1) % 256, 0)
def gnx (h : Int) (b s : Nat) (n a c : Int) : Int × Int :=
  if gchk h b s n = 0 then (if a ≥ n then (0, 7) else if c < 0 ∨ c > mostOf h then (0, 2) else gst b s n a c) else (0, gchk h b s n)
theorem becomes_is (h : Int) (b s : Nat) (hb : b < 65536) (hs : s < 65536) (a c : Int) (k : Nat) (hk : 1 ≤ k) : gens_births_becomes.f k h b s a c = some (nxt h b s a c) := by
  unfold gens_births_becomes.f
  rw [next_life h b s hb hs a c k hk, Option.bind_some]
theorem nxt_one {h : Int} {b s : Nat} {a c : Int} (hk : chk h b s = 0) (ha : ¬ a > 1) : nxt h b s a c = if c < 0 ∨ c > mostOf h then (0, 2) else (if (if a = 1 then s else b).testBit c.toNat = true then 1 else 0, 0) := by
  unfold nxt
  rw [if_pos hk, if_neg ha]
theorem prog_next (h : Int) (b s : Nat) (hb : b < 65536) (hs : s < 65536) (n a c : Int) (ha0 : 0 ≤ a) (ha1 : a ≤ 255) (k : Nat) (hk : 10 ≤ k) : gens_Next.f k h b s n a c = some (gnx h b s n a c) := by
  obtain ⟨k, rfl⟩ : ∃ m, k = m + 1 := ⟨k - 1, by omega⟩
  unfold gens_Next.f gnx
  rw [prog_check h b s hb hs n, Option.bind_some]
  by_cases c0 : gchk h b s n = 0
  · obtain ⟨hk0, hn2, hn3⟩ := gchk_ok c0
    have q3 : a ≤ 9223372036854775807 := by omega
    have q4 : -9223372036854775808 ≤ a := by omega
    have q1 : a + 1 ≤ 9223372036854775807 := by omega
    have q2 : -9223372036854775808 ≤ a + 1 := by omega
    rw [if_pos c0, if_pos c0, w64 q4 q3]
    by_cases c1 : a ≥ n
    · rw [if_pos c1, if_pos c1]
    · rw [if_neg c1, if_neg c1]
      unfold gens_fading_next.f
      rw [w64 q4 q3, w64 q2 q1]
      by_cases c2 : a ≤ 1
      · rw [if_pos c2, becomes_is h b s hb hs a c (k + 1) (by omega), Option.bind_some]
        rw [nxt_one hk0 (show ¬ a > 1 by omega)]
        by_cases c3 : c < 0 ∨ c > mostOf h
        · rw [if_pos c3, if_pos c3, if_neg (by decide), Option.bind_some]
        · rw [if_neg c3, if_neg c3, if_pos (by trivial)]
          unfold gst
          simp only [gens_fading_next.j0]
          by_cases a0 : a = 0
          · rw [if_pos a0, if_neg (show ¬ a = 1 by omega)]
            by_cases t : b.testBit c.toNat = true
            · rw [if_pos t, if_pos t, if_pos (by trivial), if_pos (by trivial), Option.bind_some]
            · rw [if_neg t, if_neg t, if_neg (by decide), beq_iff_eq.mpr a0, if_pos (by trivial), Option.bind_some]
          · have a1 : a = 1 := by omega
            rw [if_neg a0, if_pos a1, if_pos a1]
            by_cases t : s.testBit c.toNat = true
            · rw [if_pos t, if_pos t, if_pos (by trivial), if_pos (by trivial), Option.bind_some]
            · rw [if_neg t, if_neg t, if_neg (by decide), beq_eq_false_iff_ne.mpr a0, if_neg (by decide)]
              by_cases n2 : n = 2
              · rw [if_pos (by omega), if_pos (by omega), Option.bind_some]
              · rw [if_neg (by omega), if_neg (by omega), Option.bind_some, a1]
                rfl
      · rw [if_neg c2, becomes_is h b s hb hs 0 c (k + 1) (by omega), Option.bind_some]
        rw [nxt_one hk0 (show ¬ (0 : Int) > 1 by omega)]
        by_cases c3 : c < 0 ∨ c > mostOf h
        · rw [if_pos c3, if_pos c3, if_neg (by decide), Option.bind_some]
        · rw [if_neg c3, if_neg c3, if_pos (by trivial)]
          unfold gst
          rw [if_neg (show ¬ a = 0 by omega), if_neg (show ¬ a = 1 by omega)]
          by_cases n2 : a + 1 = n
          · rw [if_pos n2, if_pos n2, Option.bind_some]
          · rw [if_neg n2, if_neg n2, Option.bind_some]
  · rw [if_neg c0, if_neg c0]
end Go.Proofs.YtkahgdkpehlanaaDoor.L

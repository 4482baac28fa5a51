/- What the program and the reference say of rules of births and stays, as plain functions of whole numbers. -/
import Derived.Test.YtkahgdkpehlanaaDoorLifeDefs
import Derived.OpenShut
import Derived.Test.YtkahgdkpehlanaaDoorPm9
import Derived.Test.YtkahgdkpehlanaaDoorPm11
namespace Go.Proofs.YtkahgdkpehlanaaDoor.L
open Go.RowKit Go.Proofs.YtkahgdkpehlanaaDoor.P Go.Proofs.YtkahgdkpehlanaaDoorW.PrintWords Go.Proofs.YtkahgdkpehlanaaDoorW.PrintLast Go.Proofs.YtkahgdkpehlanaaDoorW.PrintMore

set_option maxRecDepth 100000 in
theorem greatest_eq (h b s : Int) : life_greatest.f h b s = some (if h = 1 then (8, 0) else if h = 2 then (4, 0) else if h = 3 then (6, 0) else (0, 70)) := by
  unfold life_greatest.f hood_Size.f hood_Offsets.f
  by_cases h1 : h = 1
  · subst h1; rfl
  by_cases h2 : h = 2
  · subst h2; rfl
  by_cases h3 : h = 3
  · subst h3; rfl
  simp only [if_neg h1, if_neg h2, if_neg h3]
  rfl

theorem shr16 (n i : Nat) (hi : i ≤ 16) : shr .u16 (n : Int) (i : Int) = ((n >>> i : Nat) : Int) := by
  unfold shr
  rw [show min ((i : Int).toNat) (IntKind.u16.bits) = i from by rw [Int.toNat_natCast]; exact Nat.min_eq_left (by simpa [IntKind.bits] using hi), Nat.shiftRight_eq_div_pow]
  rw [Int.natCast_ediv, Int.natCast_pow]
  rfl

def chk (h : Int) (b s : Nat) : Int := if h = 1 ∨ h = 2 ∨ h = 3 then (if (b ||| s) >>> ((mostOf h).toNat + 1) = 0 then 0 else 82) else 70

theorem or16 (b s : Nat) (hb : b < 65536) (hs : s < 65536) : b ||| s < 65536 := Nat.or_lt_two_pow (n := 16) hb hs

theorem check_life (h : Int) (b s : Nat) (hb : b < 65536) (hs : s < 65536) : life_Check.f h b s = some (chk h b s) := by
  unfold life_Check.f chk
  rw [greatest_eq, Option.bind_some]
  by_cases h1 : h = 1
  · subst h1
    rw [if_pos rfl, if_pos (show (1 : Int) = 1 ∨ (1 : Int) = 2 ∨ (1 : Int) = 3 from .inl rfl)]
    dsimp only
    rw [if_pos rfl, w64 (by omega) (by omega), if_pos (by omega), u16_or_nat b s hb hs, show (8 : Int) + 1 = ((9 : Nat) : Int) from rfl, shr16 _ 9 (by omega), show (mostOf 1).toNat + 1 = 9 from rfl]
    by_cases e : (b ||| s) >>> 9 = 0
    · rw [if_pos e, if_pos (by rw [e]; rfl)]
    · rw [if_neg e, if_neg (by omega)]
  by_cases h2 : h = 2
  · subst h2
    rw [if_neg h1, if_pos rfl, if_pos (show (2 : Int) = 1 ∨ (2 : Int) = 2 ∨ (2 : Int) = 3 from .inr (.inl rfl))]
    dsimp only
    rw [if_pos rfl, w64 (by omega) (by omega), if_pos (by omega), u16_or_nat b s hb hs, show (4 : Int) + 1 = ((5 : Nat) : Int) from rfl, shr16 _ 5 (by omega), show (mostOf 2).toNat + 1 = 5 from rfl]
    by_cases e : (b ||| s) >>> 5 = 0
    · rw [if_pos e, if_pos (by rw [e]; rfl)]
    · rw [if_neg e, if_neg (by omega)]
  by_cases h3 : h = 3
  · subst h3
    rw [if_neg h1, if_neg h2, if_pos rfl, if_pos (show (3 : Int) = 1 ∨ (3 : Int) = 2 ∨ (3 : Int) = 3 from .inr (.inr rfl))]
    dsimp only
    rw [if_pos rfl, w64 (by omega) (by omega), if_pos (by omega), u16_or_nat b s hb hs, show (6 : Int) + 1 = ((7 : Nat) : Int) from rfl, shr16 _ 7 (by omega), show (mostOf 3).toNat + 1 = 7 from rfl]
    by_cases e : (b ||| s) >>> 7 = 0
    · rw [if_pos e, if_pos (by rw [e]; rfl)]
    · rw [if_neg e, if_neg (by omega)]
  rw [if_neg h1, if_neg h2, if_neg h3, if_neg (show ¬ (h = 1 ∨ h = 2 ∨ h = 3) from by omega)]
  rfl

theorem shift_step (v x : Nat) : v >>> x = 0 ↔ v.testBit x = false ∧ v >>> (x + 1) = 0 := by
  rw [Nat.testBit_eq_decide_div_mod_eq, Nat.shiftRight_eq_div_pow, Nat.shiftRight_eq_div_pow, Nat.pow_succ, ← Nat.div_div_eq_div_mul]
  generalize v / 2 ^ x = m
  rw [decide_eq_false_iff_not]
  omega

/-- The next state, in plain words. -/
def nxt (h : Int) (b s : Nat) (a n : Int) : Int × Int := if chk h b s = 0 then (if a > 1 then (0, 7) else if n < 0 ∨ n > mostOf h then (0, 2) else (if (if a = 1 then s else b).testBit n.toNat = true then 1 else 0, 0)) else (0, chk h b s)

theorem chk_hood {h : Int} {b s : Nat} (hc : chk h b s = 0) : h = 1 ∨ h = 2 ∨ h = 3 := by
  unfold chk at hc
  by_cases e : h = 1 ∨ h = 2 ∨ h = 3
  · exact e
  · rw [if_neg e] at hc; exact absurd hc (by decide)

theorem hood_most {h : Int} (e : h = 1 ∨ h = 2 ∨ h = 3) : (if h = 1 then ((8 : Int), (0 : Int)) else if h = 2 then (4, 0) else if h = 3 then (6, 0) else (0, 70)) = (mostOf h, 0) := by
  rcases e with rfl | rfl | rfl <;> rfl
theorem most_le (h : Int) : 4 ≤ mostOf h ∧ mostOf h ≤ 8 := by
  unfold mostOf
  by_cases h2 : h = 2
  · rw [if_pos h2]; omega
  by_cases h3 : h = 3
  · rw [if_neg h2, if_pos h3]; omega
  rw [if_neg h2, if_neg h3]; omega

theorem bit_shr (v : Nat) (hv : v < 65536) (n : Int) (h0 : 0 ≤ n) (h1 : n ≤ 8) : Go.bits .and .u16 (shr .u16 (v : Int) n) 1 = if v.testBit n.toNat = true then 1 else 0 := by
  obtain ⟨m, rfl⟩ : ∃ m : Nat, n = m := ⟨n.toNat, by omega⟩
  rw [Int.toNat_natCast, shr16 v m (by omega), show (1 : Int) = ((1 : Nat) : Int) from rfl, u16_and_nat (v >>> m) 1 (by rw [Nat.shiftRight_eq_div_pow]; exact Nat.lt_of_le_of_lt (Nat.div_le_self _ _) hv) (by omega), Nat.and_one_is_mod, Nat.testBit_eq_decide_div_mod_eq, Nat.shiftRight_eq_div_pow]
  by_cases e : v / 2 ^ m % 2 = 1
  · rw [e, decide_eq_true rfl, if_pos rfl]
  · rw [decide_eq_false e, if_neg (by decide), show v / 2 ^ m % 2 = 0 from by omega]; rfl

theorem next_life (h : Int) (b s : Nat) (hb : b < 65536) (hs : s < 65536) (a n : Int) (k : Nat) (hk : 1 ≤ k) : life_Next.f k h b s a n = some (nxt h b s a n) := by
  obtain ⟨k, rfl⟩ : ∃ m, k = m + 1 := ⟨k - 1, by omega⟩
  unfold life_Next.f nxt
  rw [check_life h b s hb hs, Option.bind_some]
  by_cases hc : chk h b s = 0
  · rw [if_pos hc, if_pos hc]
    by_cases ha : a > 1
    · rw [if_pos ha, if_pos ha]
    · have hm := most_le h
      rw [if_neg ha, if_neg ha, greatest_eq, Option.bind_some, hood_most (chk_hood hc)]
      dsimp only
      simp only [life_Next.j0]
      by_cases hn : n < 0
      · rw [if_pos hn, if_pos (Or.inl hn)]; rfl
      · rw [if_neg hn]
        by_cases hn2 : n > mostOf h
        · rw [if_pos (Or.inr hn2), if_pos (decide_eq_true hn2)]
        · rw [if_neg (show ¬ (decide (n > mostOf h) = true) from by rw [decide_eq_false hn2]; decide), if_neg (show ¬ (n < 0 ∨ n > mostOf h) from by omega)]
          have e0 : 0 ≤ n := by omega
          by_cases h1 : a = 1
          · rw [if_pos h1, if_pos h1, if_pos e0, bit_shr s hs n e0 (by omega)]
            cases s.testBit n.toNat <;> rfl
          · rw [if_neg h1, if_neg h1, if_pos e0, bit_shr b hb n e0 (by omega)]
            cases b.testBit n.toNat <;> rfl
  · rw [if_neg hc, if_neg hc]
theorem u16_nat {a : Int} (h : (Lit.int .u16 a).wf = true) : ∃ n : Nat, a = n ∧ n < 65536 := by
  have h2 := Go.bounds_u16 h
  exact ⟨a.toNat, by omega, by omega⟩
end Go.Proofs.YtkahgdkpehlanaaDoor.L

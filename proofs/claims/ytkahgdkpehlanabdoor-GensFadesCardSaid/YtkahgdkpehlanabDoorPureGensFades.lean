/- The dead fade in their time: a cell that has begun to fade is dead so many generations later, whatever its neighbours are; the dead and the living do what the rule of births and stays says. -/
import Derived.Test.YtkahgdkpehlanabDoorGensRule
import Derived.Test.YtkahgdkpehlanabDoorPm14
namespace Go.Proofs.YtkahgdkpehlanabDoor.Pure
open Go.RowKit Go.Proofs.YtkahgdkpehlanabDoor.P Go.Proofs.YtkahgdkpehlanabDoorW.PrintWords Go.Proofs.YtkahgdkpehlanabDoorW.PrintLast Go.Proofs.YtkahgdkpehlanabDoorW.PrintMore Go.Proofs.YtkahgdkpehlanabDoor.L
theorem tmod_in (x m : Int) (hm : 0 < m) : -m < Int.tmod x m ∧ Int.tmod x m < m := by
  rcases Int.le_total 0 x with h | h
  · rw [Int.tmod_eq_emod_of_nonneg h]
    have h1 := Int.emod_nonneg x (show m ≠ 0 by omega)
    have h2 := Int.emod_lt_of_pos x hm
    omega
  · have e : x = -(-x) := by omega
    rw [e, Int.neg_tmod, Int.tmod_eq_emod_of_nonneg (by omega)]
    have h1 := Int.emod_nonneg (-x) (show m ≠ 0 by omega)
    have h2 := Int.emod_lt_of_pos (-x) hm
    omega
theorem count_in (x m : Int) (h0 : 4 ≤ m) (h1 : m ≤ 8) : 0 ≤ Int.tmod (wrap64 (wrap64 (Int.tmod x (wrap64 (m + 1)) + m) + 1)) (wrap64 (m + 1)) ∧ Int.tmod (wrap64 (wrap64 (Int.tmod x (wrap64 (m + 1)) + m) + 1)) (wrap64 (m + 1)) ≤ m := by
  have e1 : wrap64 (m + 1) = m + 1 := w64 (by omega) (by omega)
  have h := tmod_in x (m + 1) (by clear e1; omega)
  rw [e1]
  clear e1
  obtain ⟨y, hy⟩ : ∃ y, Int.tmod x (m + 1) = y := ⟨_, rfl⟩
  rw [hy] at h ⊢
  have q1 : -9223372036854775808 ≤ y + m := by omega
  have q2 : y + m ≤ 9223372036854775807 := by omega
  have q3 : -9223372036854775808 ≤ y + m + 1 := by omega
  have q4 : y + m + 1 ≤ 9223372036854775807 := by omega
  rw [w64 q1 q2, w64 q3 q4, Int.tmod_eq_emod_of_nonneg (by omega)]
  have h1 := Int.emod_nonneg (y + m + 1) (show m + 1 ≠ 0 by omega)
  have h2 := Int.emod_lt_of_pos (y + m + 1) (show 0 < m + 1 by omega)
  omega
section
variable {h : Int} {b s : Nat} {n : Int} (hb : b < 65536) (hs : s < 65536) (hg : gchk h b s n = 0)
include hb hs hg
theorem next_at (a c : Int) (ha0 : 0 ≤ a) (ha1 : a < n) (hc0 : 0 ≤ c) (hc1 : c ≤ mostOf h) (k : Nat) (hk : 10 ≤ k) : gens_Next.f k h b s n a c = some (gst b s n a c) := by
  obtain ⟨h1, h2, h3⟩ := gchk_ok hg
  rw [prog_next h b s hb hs n a c ha0 (by omega) k hk]
  unfold gnx
  rw [if_pos hg, if_neg (by omega), if_neg (by omega)]
theorem life_at (a c : Int) (ha1 : a ≤ 1) (hc0 : 0 ≤ c) (hc1 : c ≤ mostOf h) (k : Nat) (hk : 1 ≤ k) : life_Next.f k h b s a c = some (if (if a = 1 then s else b).testBit c.toNat = true then 1 else 0, 0) := by
  obtain ⟨h1, h2, h3⟩ := gchk_ok hg
  rw [next_life h b s hb hs a c k hk, nxt_one h1 (by omega), if_neg (by omega)]
/-- The fading. -/
theorem fade_go (l : List Int) : ∀ (d i k : Nat), n - (i : Int) = d → 2 ≤ i → d + 20 < k → vivariumlaw09_GensFades.l2 k l true (mostOf h) (i : Int) (i : Int) h b s n = some true ∨ (d = 0 ∧ 2 < i) := by
  obtain ⟨g1, g2, g3⟩ := gchk_ok hg
  have hm := most_le h
  intro d
  induction d with
  | zero =>
    intro i k hd hi hk
    by_cases c : 2 < i
    · exact Or.inr ⟨rfl, c⟩
    · obtain ⟨k, rfl⟩ : ∃ m, k = m + 1 := ⟨k - 1, by omega⟩
      refine Or.inl ?_
      simp only [vivariumlaw09_GensFades.l2]
      rw [if_neg (by omega), if_pos (by trivial), beq_eq_false_iff_ne.mpr (show (i : Int) ≠ 0 by omega), decide_eq_false (show ¬ n > 2 by omega)]
      rfl
  | succ d ih =>
    intro i k hd hi hk
    obtain ⟨k, rfl⟩ : ∃ m, k = m + 1 := ⟨k - 1, by omega⟩
    refine Or.inl ?_
    have z1 : -9223372036854775808 ≤ (i : Int) + 1 := by omega
    have z2 : (i : Int) + 1 ≤ 9223372036854775807 := by omega
    have z3 : -9223372036854775808 ≤ n - 1 := by omega
    have z4 : n - 1 ≤ 9223372036854775807 := by omega
    have q1 : (i : Int) < n := by omega
    have q2 : (0 : Int) ≤ (i : Int) := by omega
    have q3 : ¬ (i : Int) = 0 := by omega
    have hk2 : 10 ≤ k := by omega
    have step : ∀ c : Int, 0 ≤ c → c ≤ mostOf h → ((gens_Next.f k h b s n (i : Int) c).bind fun bt264 => (if bt264.2 = 0 then (if (i : Int) = 0 then (some false) else (if ((bt264.1 == 0) != ((i : Int) == (wrap64 (n - 1)))) = true then (some false) else (vivariumlaw09_GensFades.l2 k l true (mostOf h) bt264.1 (wrap64 ((i : Int) + 1)) h b s n))) else (some false))) = some true := fun c hc0 hc1 => by
      rw [next_at hb hs hg (i : Int) c q2 q1 hc0 hc1 k hk2, Option.bind_some]
      unfold gst
      rw [if_neg q3, if_neg (show ¬ (i : Int) = 1 by omega), w64 z1 z2, w64 z3 z4]
      by_cases e : (i : Int) + 1 = n
      · rw [if_pos e]
        dsimp only
        rw [if_pos (by trivial), if_neg q3, beq_iff_eq.mpr (show (i : Int) = n - 1 by omega)]
        have hl2 : vivariumlaw09_GensFades.l2 k l true (mostOf h) 0 ((i : Int) + 1) h b s n = some true := by
          obtain ⟨k, rfl⟩ : ∃ m, k = m + 1 := ⟨k - 1, by omega⟩
          simp only [vivariumlaw09_GensFades.l2]
          rw [if_neg (by omega), if_pos (by trivial), decide_eq_true (show n > 2 by omega)]
          rfl
        rw [hl2]
        rfl
      · have e2 : ((i : Int) + 1) % 256 = ((i + 1 : Nat) : Int) := by omega
        rw [if_neg e]
        dsimp only
        rw [if_pos (by trivial), if_neg q3, e2, beq_eq_false_iff_ne.mpr (show ((i + 1 : Nat) : Int) ≠ 0 by omega), beq_eq_false_iff_ne.mpr (show (i : Int) ≠ n - 1 by omega), if_neg (by decide)]
        rcases ih (i + 1) k (by omega) (by omega) (by omega) with hx | ⟨hx, _⟩
        · exact hx
        · exact absurd hx (by omega)
    simp only [vivariumlaw09_GensFades.l2]
    rw [if_pos q1]
    by_cases cl : (i : Int) < (l.length : Int)
    · have hc := count_in (rd l (i : Int)) (mostOf h) hm.1 hm.2
      rw [if_pos cl, if_pos q2, if_neg (by rw [w64 (by omega) (by omega)]; omega)]
      exact step _ hc.1 hc.2
    · rw [if_neg cl]
      exact step 0 (by omega) (by omega)
/-- One row of counts. -/
theorem counts_go (l : List Int) (v : Int) (hv : v = 0 ∨ v = 1) : ∀ (d c k : Nat), mostOf h + 1 - (c : Int) = d → vivariumlaw09_GensFades.l1 (k + 3 * d + 20) l true (mostOf h) v (c : Int) h b s n = vivariumlaw09_GensFades.l0 (k + 19) l true (mostOf h) (v + 1) h b s n := by
  obtain ⟨g1, g2, g3⟩ := gchk_ok hg
  have hm := most_le h
  have ev : v % 256 = v := by omega
  have ew : wrap64 (v + 1) = v + 1 := w64 (by omega) (by omega)
  intro d
  induction d with
  | zero =>
    intro c k hd
    simp only [vivariumlaw09_GensFades.l1]
    rw [if_neg (by clear ev ew; omega), ew]
  | succ d ih =>
    intro c k hd
    have ihc := ih (c + 1) k (by clear ev ew; omega)
    have z1 : -9223372036854775808 ≤ (c : Int) + 1 := by clear ev ew; omega
    have z2 : (c : Int) + 1 ≤ 9223372036854775807 := by clear ev ew; omega
    have q0 : (c : Int) ≤ mostOf h := by clear ev ew; omega
    have q1 : 0 ≤ (c : Int) := by clear ev ew; omega
    have q2 : 0 ≤ v := by clear ev ew; omega
    have q3 : v < n := by clear ev ew; omega
    have q4 : v ≤ 1 := by clear ev ew; omega
    have q5 : k + 3 * (d + 1) + 20 = (k + 3 * d + 20) + 1 + 1 + 1 := by clear ev ew; omega
    have q6 : 10 ≤ k + 3 * d + 20 + 1 + 1 := by clear ev ew; omega
    have q7 : 1 ≤ k + 3 * d + 20 + 1 + 1 := by clear ev ew; omega
    rw [q5]
    simp only [vivariumlaw09_GensFades.l1]
    rw [if_pos q0, ev, next_at hb hs hg v (c : Int) q2 q3 q1 q0 _ q6, Option.bind_some, life_at hb hs hg v (c : Int) q4 q1 q0 _ q7, Option.bind_some]
    have fin : ∀ x y : Int, (gst b s n v (c : Int)).1 = x → (if (if v = 1 then s else b).testBit (c : Int).toNat = true then (1 : Int) else 0) = y → (gst b s n v (c : Int)).2 = 0 ∧ ((v = 1 ∧ y = 0 ∧ n > 2 ∧ x = 2) ∨ (¬ (v = 1 ∧ y = 0 ∧ n > 2) ∧ x = y)) := fun x y hx hy => by
      clear ev ew
      unfold gst at hx ⊢
      rcases hv with rfl | rfl
      · rw [if_pos rfl] at hx ⊢
        rw [if_neg (show ¬ (0 : Int) = 1 by decide)] at hy
        by_cases t : b.testBit (c : Int).toNat = true
        · rw [if_pos t] at hx hy ⊢
          exact ⟨rfl, Or.inr ⟨by omega, by rw [← hx, ← hy]⟩⟩
        · rw [if_neg t] at hx hy ⊢
          exact ⟨rfl, Or.inr ⟨by omega, by rw [← hx, ← hy]⟩⟩
      · rw [if_neg (by decide), if_pos rfl] at hx ⊢
        rw [if_pos rfl] at hy
        by_cases t : s.testBit (c : Int).toNat = true
        · rw [if_pos t] at hx hy ⊢
          exact ⟨rfl, Or.inr ⟨by omega, by rw [← hx, ← hy]⟩⟩
        · rw [if_neg t] at hx hy ⊢
          by_cases n2 : n ≤ 2
          · rw [if_pos n2] at hx ⊢
            exact ⟨rfl, Or.inr ⟨by omega, by rw [← hx, ← hy]⟩⟩
          · rw [if_neg n2] at hx ⊢
            exact ⟨rfl, Or.inl ⟨rfl, hy.symm, by omega, hx.symm⟩⟩
    obtain ⟨x, hx⟩ : ∃ x, (gst b s n v (c : Int)).1 = x := ⟨_, rfl⟩
    obtain ⟨y, hy⟩ : ∃ y, (if (if v = 1 then s else b).testBit (c : Int).toNat = true then (1 : Int) else 0) = y := ⟨_, rfl⟩
    obtain ⟨f1, f2⟩ := fin x y hx hy
    rw [f1, if_pos rfl, hx, hy]
    dsimp only
    rw [show ((0 : Int) != 0) = false from rfl]
    simp only [vivariumlaw09_GensFades.j4]
    rw [if_neg (by decide)]
    have ihc2 : vivariumlaw09_GensFades.l1 (k + 3 * d + 20) l true (mostOf h) v (wrap64 ((c : Int) + 1)) h b s n = vivariumlaw09_GensFades.l0 (k + 19) l true (mostOf h) (v + 1) h b s n := by rw [w64 z1 z2]; exact ihc
    rcases f2 with ⟨v1, y0, n2, x2⟩ | ⟨nn, xy⟩
    · rw [if_pos v1, if_pos y0, decide_eq_true n2]
      simp only [vivariumlaw09_GensFades.j5]
      rw [if_pos (by trivial), if_pos x2, ihc2]
    · by_cases v1 : v = 1
      · rw [if_pos v1]
        by_cases y0 : y = 0
        · rw [if_pos y0, decide_eq_false (fun e => nn ⟨v1, y0, e⟩)]
          simp only [vivariumlaw09_GensFades.j5]
          rw [if_neg (by decide), if_pos xy, ihc2]
        · rw [if_neg y0]
          simp only [vivariumlaw09_GensFades.j5]
          rw [if_neg (by decide), if_pos xy, ihc2]
      · rw [if_neg v1]
        simp only [vivariumlaw09_GensFades.j5]
        rw [if_neg (by decide), if_pos xy, ihc2]
theorem rows_go (l : List Int) (k : Nat) (hk : 1000 ≤ k) : vivariumlaw09_GensFades.l0 k l true (mostOf h) 0 h b s n = some true := by
  obtain ⟨g1, g2, g3⟩ := gchk_ok hg
  have hm := most_le h
  obtain ⟨d, hd⟩ : ∃ d : Nat, mostOf h + 1 - ((0 : Nat) : Int) = d := ⟨(mostOf h + 1).toNat, by omega⟩
  have hd9 : d ≤ 9 := by omega
  obtain ⟨q, hq⟩ : ∃ q, k = (((q + 1 + 3 * d + 20) - 19 + 1 + 3 * d + 20) + 1 : Nat) := ⟨k - 24 - 6 * d, by omega⟩
  have c0 := counts_go hb hs hg l 0 (Or.inl rfl) d 0 ((q + 1 + 3 * d + 20) - 19 + 1) hd
  have c1 := counts_go hb hs hg l 1 (Or.inr rfl) d 0 q hd
  have s0 : vivariumlaw09_GensFades.l0 (((q + 1 + 3 * d + 20) - 19 + 1 + 3 * d + 20) + 1) l true (mostOf h) 0 h b s n = vivariumlaw09_GensFades.l1 ((q + 1 + 3 * d + 20) - 19 + 1 + 3 * d + 20) l true (mostOf h) 0 ((0 : Nat) : Int) h b s n := by
    simp only [vivariumlaw09_GensFades.l0]
    rw [if_pos (by decide)]
    rfl
  have e1 : (q + 1 + 3 * d + 20) - 19 + 1 + 19 = (q + 3 * d + 20) + 1 + 1 := by omega
  have s1 : vivariumlaw09_GensFades.l0 ((q + 3 * d + 20) + 1 + 1) l true (mostOf h) (0 + 1) h b s n = vivariumlaw09_GensFades.l1 (q + 3 * d + 20 + 1) l true (mostOf h) 1 ((0 : Nat) : Int) h b s n := by
    simp only [vivariumlaw09_GensFades.l0]
    rw [if_pos (by decide)]
    rfl
  have c1' := counts_go hb hs hg l 1 (Or.inr rfl) d 0 (q + 1) hd
  have e2 : q + 1 + 3 * d + 20 = q + 3 * d + 20 + 1 := by omega
  have s2 : vivariumlaw09_GensFades.l0 (q + 1 + 19) l true (mostOf h) (1 + 1) h b s n = vivariumlaw09_GensFades.l2 (q + 19) l true (mostOf h) ((2 : Nat) : Int) ((2 : Nat) : Int) h b s n := by
    simp only [vivariumlaw09_GensFades.l0]
    rw [if_neg (by decide)]
    rfl
  rw [hq, s0, c0, e1, s1, ← e2, c1', s2]
  rcases fade_go hb hs hg l (n - 2).toNat 2 (q + 19) (by omega) (Nat.le_refl 2) (by omega) with hx | ⟨_, hx⟩
  · exact hx
  · exact absurd hx (by omega)
end
theorem GensFades : vivariumlaw09_GensFades.Pure := by
  intro a0_0 a0_1 a0_2 a0_3 l1 w0 w1 w2 w3 _ _ _
  obtain ⟨b, rfl, hb⟩ := u16_nat w1
  obtain ⟨s, rfl, hs⟩ := u16_nat w2
  refine ⟨2000, ?_⟩
  unfold vivariumlaw09_GensFades.f
  rw [awake9_true 2000 (by omega), Option.bind_some, prog_check a0_0 b s hb hs a0_3, Option.bind_some]
  by_cases hg : gchk a0_0 b s a0_3 = 0
  · have hh := chk_hood (gchk_ok hg).1
    have j1 : vivariumlaw09_GensFades.j1 1999 l1 true (mostOf a0_0) a0_0 b s a0_3 = some true := rows_go hb hs hg l1 1998 (by omega)
    rw [if_pos hg]
    by_cases h2 : a0_0 = 2
    · rw [if_pos h2]
      simp only [vivariumlaw09_GensFades.j0]
      rw [if_neg (by omega)]
      have e : mostOf a0_0 = 4 := by rw [h2]; rfl
      rw [← e]
      exact j1
    · rw [if_neg h2]
      simp only [vivariumlaw09_GensFades.j0]
      by_cases h3 : a0_0 = 3
      · have e : mostOf a0_0 = 6 := by rw [h3]; rfl
        rw [if_pos h3, ← e]
        exact j1
      · have e : mostOf a0_0 = 8 := by
          have : a0_0 = 1 := by omega
          rw [this]; rfl
        rw [if_neg h3, ← e]
        exact j1
  · rw [if_neg hg]
end Go.Proofs.YtkahgdkpehlanabDoor.Pure

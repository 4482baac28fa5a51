/- What is written is read as the living cells of the rectangle, moved. -/
import Derived.Test.YtfgonglcmgahkabPlainAlive
import Derived.Test.YtfgonglcmgahkabPlainMap
import Derived.OpenShut
import Derived.Test.YtfgonglcmgahkabPm5
set_option linter.unusedVariables false
namespace Go.Proofs.Ytfgonglcmgahkab.Pure
open Go.RowKit Go.Proofs.Ytfgonglcmgahkab.P Go.Proofs.YtfgonglcmgahkabW.PrintWords Go.Proofs.YtfgonglcmgahkabW.PrintLast Go.Proofs.YtfgonglcmgahkabW.PrintMore Go.Proofs.Ytfgonglcmgahkab.L
theorem up21 (a : Int) : ∃ n : Nat, n ≤ 20 ∧ vivariumlaw23_up.f a 21 = some (n : Int) := by
  have h1 := Int.tmod_lt_of_pos a (b := 21) (by decide)
  have h2 := Int.lt_tmod_of_pos a (b := 21) (by decide)
  unfold vivariumlaw23_up.f
  rw [if_neg (by decide)]
  obtain ⟨t, ht⟩ : ∃ t, Int.tmod a 21 = t := ⟨_, rfl⟩
  rw [ht] at h1 h2 ⊢
  have e : wrap64 (t + 21) = t + 21 := w64 (by omega) (by omega)
  rw [e]
  clear e
  rw [Int.tmod_eq_emod_of_nonneg (by omega)]
  exact ⟨((t + 21) % 21).toNat, by omega, by congr 1; omega⟩
theorem few_is (a b c d : Int) : ∃ (X Y : Int) (W H : Nat), (-1000 ≤ X ∧ X ≤ 1000) ∧ (-1000 ≤ Y ∧ Y ≤ 1000) ∧ W ≤ 20 ∧ H ≤ 20 ∧ vivariumlaw23_few.f a b c d = some (X, Y, (W : Int), (H : Int)) := by
  obtain ⟨W, hW, eW⟩ := up21 c
  obtain ⟨H, hH, eH⟩ := up21 d
  have h1 := Int.tmod_lt_of_pos a (b := 1001) (by decide)
  have h2 := Int.lt_tmod_of_pos a (b := 1001) (by decide)
  have h3 := Int.tmod_lt_of_pos b (b := 1001) (by decide)
  have h4 := Int.lt_tmod_of_pos b (b := 1001) (by decide)
  refine ⟨Int.tmod a 1001, Int.tmod b 1001, W, H, ⟨by omega, by omega⟩, ⟨by omega, by omega⟩, hW, hH, ?_⟩
  unfold vivariumlaw23_few.f
  rw [eW, Option.bind_some, eH, Option.bind_some]
/-- What is laid so far: by rows, near, no more than were counted. -/
def Laid (acc : List Cl) (k6 : Nat) (y x : Int) : Prop := acc.Pairwise ltC ∧ (∀ c ∈ acc, nearC c) ∧ (∀ c ∈ acc, c.f1 < y ∨ (c.f1 = y ∧ c.f0 < x)) ∧ acc.length ≤ k6
theorem laid_row (S : List Int) (hS : ∀ x ∈ S, 0 ≤ x ∧ x ≤ 255) (X Y W H : Int) (hX : -1000 ≤ X ∧ X ≤ 1000) (hW : 0 ≤ W ∧ W ≤ 20) (y : Int) (hy : -2000 ≤ y ∧ y ≤ 2000) : ∀ (n k k6 : Nat) (x : Int) (acc : List Cl), x + n = X + W + 1 → X - 1 ≤ x → k6 + n ≤ 1000 → Laid acc k6 y x →
    ∃ acc2 k62, vivariumlaw23_laid.l1 (k + n + 1) S acc (k6 : Int) y x X Y W H = vivariumlaw23_laid.l0 k S acc2 ((k62 : Nat) : Int) (y + 1) X Y W H ∧ Laid acc2 k62 (y + 1) (X - 1) ∧ k62 = k6 + n
  | 0, k, k6, x, acc, hx, hx0, hk6, hL => by
    have e1 : wrap64 (X + W) = X + W := w64 (by omega) (by omega)
    have e2 : wrap64 (y + 1) = y + 1 := w64 (by omega) (by omega)
    simp only [vivariumlaw23_laid.l1]
    rw [e1, e2]
    clear e1 e2
    rw [if_neg (by omega)]
    refine ⟨acc, k6, rfl, ⟨hL.1, hL.2.1, fun c hc => ?_, hL.2.2.2⟩, by omega⟩
    have := hL.2.2.1 c hc
    omega
  | n + 1, k, k6, x, acc, hx, hx0, hk6, hL => by
    have e1 : wrap64 (X + W) = X + W := w64 (by omega) (by omega)
    have e2 : wrap64 (x + 1) = x + 1 := w64 (by omega) (by omega)
    have e3 : wrap64 ((k6 : Int) + 1) = ((k6 + 1 : Nat) : Int) := w64 (by omega) (by omega)
    obtain ⟨K, hK⟩ : ∃ K, k + n + 1 = K := ⟨_, rfl⟩
    rw [show k + (n + 1) + 1 = K + 1 from by omega]
    simp only [vivariumlaw23_laid.l1]
    rw [e1, e2, e3]
    clear e1 e2 e3
    have hlen := hL.2.2.2
    rw [if_pos (by omega)]
    by_cases c : (k6 : Int) < (S.length : Int)
    · have hr : 0 ≤ rd S (k6 : Int) ∧ rd S (k6 : Int) ≤ 255 := by
        have hk : k6 < S.length := by omega
        have e : rd S (k6 : Int) = S[k6] := by
          unfold rd
          rw [Int.toNat_natCast, List.getD_eq_getElem?_getD, List.getElem?_eq_getElem hk]
          rfl
        rw [e]
        exact hS _ (List.getElem_mem hk)
      have hnew : Laid (acc ++ [⟨x, y, rd S (k6 : Int)⟩]) (k6 + 1) y (x + 1) := by
        refine ⟨List.pairwise_append.2 ⟨hL.1, List.pairwise_singleton _ _, fun a ha b hb => ?_⟩, fun c hc => ?_, fun c hc => ?_, by rw [List.length_append, List.length_singleton]; omega⟩
        · rw [List.mem_singleton] at hb
          subst hb
          have := hL.2.2.1 a ha
          unfold ltC
          dsimp only
          omega
        · rcases List.mem_append.1 hc with hc | hc
          · exact hL.2.1 c hc
          · rw [List.mem_singleton] at hc
            subst hc
            exact ⟨by dsimp only; omega, by dsimp only; omega, hr⟩
        · rcases List.mem_append.1 hc with hc | hc
          · have := hL.2.2.1 c hc; omega
          · rw [List.mem_singleton] at hc
            subst hc
            dsimp only
            omega
      rw [if_pos c, if_pos (by omega), if_pos (by omega)]
      obtain ⟨a2, k2, h1, h2, h3⟩ := laid_row S hS X Y W H hX hW y hy n k (k6 + 1) (x + 1) _ (by omega) (by omega) (by omega) hnew
      rw [hK] at h1
      exact ⟨a2, k2, h1, h2, by omega⟩
    · have hnew : Laid acc (k6 + 1) y (x + 1) := ⟨hL.1, hL.2.1, fun c hc => by have := hL.2.2.1 c hc; omega, by omega⟩
      rw [if_neg c]
      obtain ⟨a2, k2, h1, h2, h3⟩ := laid_row S hS X Y W H hX hW y hy n k (k6 + 1) (x + 1) _ (by omega) (by omega) (by omega) hnew
      rw [hK] at h1
      exact ⟨a2, k2, h1, h2, by omega⟩
theorem laid_rows (S : List Int) (hS : ∀ x ∈ S, 0 ≤ x ∧ x ≤ 255) (X Y W H : Int) (hX : -1000 ≤ X ∧ X ≤ 1000) (hY : -1000 ≤ Y ∧ Y ≤ 1000) (hW : 0 ≤ W ∧ W ≤ 20) (hH : 0 ≤ H ∧ H ≤ 20) : ∀ (m k k6 : Nat) (y : Int) (acc : List Cl), y + m = Y + H + 1 → Y - 1 ≤ y → k6 + 22 * m ≤ 500 → 30 * m + 5 ≤ k → Laid acc k6 y (X - 1) →
    ∃ C, vivariumlaw23_laid.l0 k S acc (k6 : Int) y X Y W H = some C ∧ C.Pairwise ltC ∧ (∀ c ∈ C, nearC c) ∧ C.length ≤ 500
  | 0, k, k6, y, acc, hy, hy0, hk6, hk, hL => by
    obtain ⟨k, rfl⟩ : ∃ j, k = j + 1 := ⟨k - 1, by omega⟩
    have e1 : wrap64 (Y + H) = Y + H := w64 (by omega) (by omega)
    simp only [vivariumlaw23_laid.l0]
    rw [e1]
    clear e1
    rw [if_neg (by omega)]
    have := hL.2.2.2
    exact ⟨acc, rfl, hL.1, hL.2.1, by omega⟩
  | m + 1, k, k6, y, acc, hy, hy0, hk6, hk, hL => by
    obtain ⟨n, hn⟩ : ∃ n : Nat, (n : Int) = W + 2 := ⟨(W + 2).toNat, by omega⟩
    obtain ⟨k, rfl⟩ : ∃ j, k = (j + n + 1) + 1 := ⟨k - n - 2, by omega⟩
    have e1 : wrap64 (Y + H) = Y + H := w64 (by omega) (by omega)
    have e2 : wrap64 (X - 1) = X - 1 := w64 (by omega) (by omega)
    simp only [vivariumlaw23_laid.l0]
    rw [e1, e2]
    clear e1 e2
    rw [if_pos (by omega)]
    obtain ⟨a2, k2, h1, h2, h3⟩ := laid_row S hS X Y W H hX hW y (by omega) n k k6 (X - 1) acc (by omega) (by omega) (by omega) hL
    rw [h1]
    exact laid_rows S hS X Y W H hX hY hW hH m k k2 (y + 1) a2 (by omega) (by omega) (by omega) (by omega) h2
theorem same_go (l : List Cl) (hl : l.length ≤ 1000000) : ∀ (d i k : Nat), i + d = l.length → d < k → vivariumlaw23_same.l0 k l l (i : Int) = some true
  | 0, i, k, h, hk => by
    obtain ⟨k, rfl⟩ : ∃ j, k = j + 1 := ⟨k - 1, by omega⟩
    simp only [vivariumlaw23_same.l0]
    rw [if_neg (by omega)]
  | d + 1, i, k, h, hk => by
    obtain ⟨k, rfl⟩ : ∃ j, k = j + 1 := ⟨k - 1, by omega⟩
    have e : wrap64 ((i : Int) + 1) = ((i + 1 : Nat) : Int) := w64 (by omega) (by omega)
    have ih := same_go l hl d (i + 1) k (by omega) (by omega)
    simp only [vivariumlaw23_same.l0]
    rw [e]
    clear e
    rw [if_pos (by omega), if_pos (by omega), if_pos (by omega)]
    simp only [beq_self_eq_true, Bool.not_true, Bool.or_self, Bool.false_eq_true, if_false]
    exact ih
theorem same_refl (l : List Cl) (hl : l.length ≤ 1000000) (k : Nat) (hk : l.length < k) : vivariumlaw23_same.f k l l = some true := by
  unfold vivariumlaw23_same.f
  rw [if_pos rfl]
  exact same_go l hl l.length 0 k (by omega) hk
theorem wantOf_app (A B : List Cl) (X Y W H : Int) : wantOf (A ++ B) X Y W H = wantOf A X Y W H ++ wantOf B X Y W H := by unfold wantOf; rw [List.filterMap_append]
theorem wantOf_len (A : List Cl) (X Y W H : Int) : (wantOf A X Y W H).length ≤ A.length := by unfold wantOf; exact List.length_filterMap_le _ _
theorem wantOf_one (c : Cl) (X Y W H : Int) : wantOf [c] X Y W H = if inR X Y W H c then [⟨c.f0 - X, c.f1 - Y, c.f2⟩] else [] := by
  unfold wantOf
  by_cases h : inR X Y W H c
  · rw [if_pos h]; simp [h]
  · rw [if_neg h]; simp [h]
theorem back_go (C : List Cl) (hC : ∀ c ∈ C, nearC c) (hl : C.length ≤ 500) (X Y : Int) (W H : Nat) (hX : -1000 ≤ X ∧ X ≤ 1000) (hY : -1000 ≤ Y ∧ Y ≤ 1000) (hW : W ≤ 20) (hH : H ≤ 20) : ∀ (d i k : Nat), i + d = C.length → d + 600 ≤ k → vivariumlaw23_PlainBack.l0 k true C 0 (wantOf C X Y W H) 0 0 (wantOf (C.take i) X Y W H) (i : Int) X Y W H = some true
  | 0, i, k, h, hk => by
    obtain ⟨k, rfl⟩ : ∃ j, k = j + 1 := ⟨k - 1, by omega⟩
    have hwl := wantOf_len C X Y W H
    simp only [vivariumlaw23_PlainBack.l0]
    rw [if_neg (by omega)]
    simp only [if_true]
    rw [List.take_of_length_le (by omega), same_refl _ (by omega) k (by omega), Option.bind_some]
  | d + 1, i, k, h, hk => by
    obtain ⟨k, rfl⟩ : ∃ j, k = j + 1 := ⟨k - 1, by omega⟩
    have hi : i < C.length := by omega
    have hwl := wantOf_len (C.take i) X Y W H
    have htl : (C.take i).length ≤ 500 := by rw [List.length_take]; omega
    have ht : C.take (i + 1) = C.take i ++ [C[i]] := by rw [List.take_add_one, List.getElem?_eq_getElem hi]; rfl
    have ih := back_go C hC hl X Y W H hX hY hW hH d (i + 1) k (by omega) (by omega)
    rw [ht, wantOf_app, wantOf_one] at ih
    have hn := hC C[i] (List.getElem_mem hi)
    have e : wrap64 ((i : Int) + 1) = ((i + 1 : Nat) : Int) := w64 (by omega) (by omega)
    simp only [vivariumlaw23_PlainBack.l0]
    rw [rd_get C i hi, e]
    clear e
    obtain ⟨c, hc⟩ : ∃ c, C[i] = c := ⟨_, rfl⟩
    rw [hc] at ih hn ⊢
    obtain ⟨⟨n1, n2⟩, ⟨n3, n4⟩, n5, n6⟩ := hn
    have e1 : wrap64 (c.f0 - X) = c.f0 - X := w64 (by omega) (by omega)
    have e2 : wrap64 (c.f1 - Y) = c.f1 - Y := w64 (by omega) (by omega)
    rw [e1, e2]
    clear e1 e2 hc ht
    rw [if_pos (by omega), if_pos (by omega)]
    by_cases h0 : c.f2 > 0
    · rw [if_pos h0]
      by_cases h1 : c.f0 - X ≥ 0
      · rw [if_pos h1]
        by_cases h2 : c.f0 - X < (W : Int)
        · rw [if_pos h2]
          by_cases h3 : c.f1 - Y ≥ 0
          · rw [if_pos h3]
            by_cases h4 : c.f1 - Y < (H : Int)
            · rw [if_pos h4, if_pos (by omega)]
              rw [if_pos ⟨h0, ⟨h1, h2⟩, h3, h4⟩] at ih
              exact ih
            · rw [if_neg h4]
              rw [if_neg (fun q => h4 q.2.2.2), List.append_nil] at ih
              exact ih
          · rw [if_neg h3]
            rw [if_neg (fun q => h3 q.2.2.1), List.append_nil] at ih
            exact ih
        · rw [if_neg h2]
          rw [if_neg (fun q => h2 q.2.1.2), List.append_nil] at ih
          exact ih
      · rw [if_neg h1]
        rw [if_neg (fun q => h1 q.2.1.1), List.append_nil] at ih
        exact ih
    · rw [if_neg h0]
      rw [if_neg (fun q => h0 q.1), List.append_nil] at ih
      exact ih
theorem PlainBack : vivariumlaw23_PlainBack.Pure := by
  intro a b c d S w0 w1 w2 w3 _ _ hS
  obtain ⟨X, Y, W, H, hX, hY, hW, hH, hf⟩ := few_is a b c d
  have hS2 : ∀ x ∈ S, 0 ≤ x ∧ x ≤ 255 := fun x hx => Go.bounds_u8 (hS x hx)
  obtain ⟨C, h1, h2, h3, h4⟩ := laid_rows S hS2 X Y W H hX hY (by omega) (by omega) (H + 2) 2000 0 (Y - 1) [] (by omega) (by omega) (by omega) (by omega) ⟨List.Pairwise.nil, by simp, by simp, by simp⟩
  have hr := rowsB_len (gOf (stOf C X Y)) W H 0
  have hr2 : H * (4 * W + 1) ≤ 20 * 81 := Nat.mul_le_mul hH (by omega)
  have hr3 : (W + 1) * H ≤ 21 * 20 := Nat.mul_le_mul (by omega) hH
  obtain ⟨q1, q2⟩ := write_read C X Y W H (by omega) (by omega) (by omega) (by omega) (by omega) h3 h2 (by omega) (by omega)
  have hg := back_go C h3 h4 X Y W H hX hY hW hH C.length 0 2000 (by omega) (by omega)
  rw [List.take_zero] at hg
  have hy : wrap64 (Y - 1) = Y - 1 := w64 (by omega) (by omega)
  have hlf : vivariumlaw23_laid.f 2000 X Y W H S = some C := by
    unfold vivariumlaw23_laid.f
    rw [hy]
    exact h1
  refine ⟨2000, ?_⟩
  unfold vivariumlaw23_PlainBack.f
  rw [alive23, Option.bind_some, hf, Option.bind_some]
  dsimp only
  rw [hlf, Option.bind_some, q1, Option.bind_some]
  dsimp only
  rw [q2, Option.bind_some]
  exact hg
end Go.Proofs.Ytfgonglcmgahkab.Pure

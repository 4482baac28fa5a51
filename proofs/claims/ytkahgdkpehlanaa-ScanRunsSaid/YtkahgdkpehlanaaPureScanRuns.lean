/- Of any text the runs and where they end, or the first thing that is otherwise. -/
import Derived.Test.YtkahgdkpehlanaaP4
import Derived.Test.YtkahgdkpehlanaaScanNums
import Derived.Test.YtkahgdkpehlanaaScanState
namespace Go.Proofs.Ytkahgdkpehlanaa.Pure
open Go.RowKit Go.Proofs.Ytkahgdkpehlanaa.P Go.Proofs.YtkahgdkpehlanaaW.PrintWords Go.Proofs.YtkahgdkpehlanaaW.PrintLast Go.Proofs.YtkahgdkpehlanaaW.PrintMore Go.Proofs.Ytkahgdkpehlanaa.L
abbrev Both (s : ByteArray) (B : Nat) (l : List S35) (q : Nat) : Prop := ∃ r : List S35 × Int × Int, r.1.length ≤ s.size ∧ (∀ k, B ≤ k → scan_Runs.l0 k s l (q : Int) = some r) ∧ (∀ k, B ≤ k → vivariumref03_Runs.l0 k s l (q : Int) = some r)
theorem one_list (s : ByteArray) (p : Nat) (hp : p < s.size) : ∃ a : UInt8, (s.extract p (p + 1)).data.toList = [a] ∧ (a.toNat : Int) = bt s (p : Int) := by
  have hz : (s.extract p (p + 1)).data.toList.length = 1 := by
    rw [Array.length_toList]
    show (s.extract p (p + 1)).size = 1
    rw [ByteArray.size_extract]; omega
  obtain ⟨a, ha⟩ := List.length_eq_one_iff.1 hz
  refine ⟨a, ha, ?_⟩
  have h := bt_eq (s.extract p (p + 1)) 0 (by rw [ByteArray.size_extract]; omega)
  have h2 := bt_part s p (p + 1) 0 (by omega) (by omega)
  simp only [ha, List.getElem_cons_zero] at h
  rw [← h, h2, Nat.add_zero]
theorem two_len (s : ByteArray) (p : Nat) (hp : p + 2 ≤ s.size) : (s.extract p (p + 2)).data.toList.length = 2 := by
  rw [Array.length_toList]
  show (s.extract p (p + 2)).size = 2
  rw [ByteArray.size_extract]; omega
theorem tag_both (s : ByteArray) (hs : s.size ≤ 1048576) (B : Nat) (hB : 1000 ≤ B) (l : List S35) (p : Nat) (hp : p < s.size) (hl : l.length ≤ p) (c i : Int) (IH : ∀ (q : Nat) (l' : List S35), p < q → q ≤ s.size → l'.length ≤ q → Both s B l' q) :
    ∃ r : List S35 × Int × Int, r.1.length ≤ s.size ∧ (∀ k, B + 10 ≤ k → scan_Runs.j3 k s l (p : Int) c ⟨#[]⟩ i = some r) ∧ (∀ k, B + 10 ≤ k → vivariumref03_Runs.j1 k s l (p : Int) c ⟨#[]⟩ i = some r) := by
  obtain ⟨a, ha, hac⟩ := one_list s p hp
  have h0 : (0 : Int) ≤ (p : Int) := by omega
  have hps : (p : Int) < (s.size : Int) := by omega
  have hpn : ¬ (p : Int) = (s.size : Int) := by omega
  have n1 : ((p : Int) + 1).toNat = p + 1 := by omega
  have n2 : ((p : Int) + 2).toNat = p + 2 := by omega
  have z1 : -9223372036854775808 ≤ (p : Int) + 1 := by omega
  have z2 : (p : Int) + 1 ≤ 9223372036854775807 := by omega
  have z3 : -9223372036854775808 ≤ (p : Int) + 2 := by omega
  have z4 : (p : Int) + 2 ≤ 9223372036854775807 := by omega
  have b1 : (p : Int) ≤ (p : Int) + 1 := by omega
  have b2 : (p : Int) + 1 ≤ (s.size : Int) := by omega
  have b3 : (p : Int) ≤ (p : Int) + 2 := by omega
  have hll : l.length < 4398046511104 := by omega
  have hone : ∀ k, 300 ≤ k → vivariumref03_State.f k (s.extract p (p + 1)) = some (svr [a]) := fun k hk => by rw [state_ref _ k hk, ha]
  have hone2 : ∀ k, 10 ≤ k → scan_State.f k (s.extract p (p + 1)) = some (svr [a]) := fun k hk => by rw [state_prog _ k hk, ha]
  have htl : (s.extract p (p + 1)).toList = [a] := by rw [ByteArray.toList_eq, ha]
  have h36 : ([a] = ([36] : List UInt8)) ↔ a.toNat = 36 := by
    rw [show (36 : UInt8) = UInt8.ofNat 36 from rfl]; simp only [List.cons.injEq, and_true]; exact u8_eq a 36 (by omega)
  by_cases c1 : 112 ≤ bt s (p : Int) ∧ bt s (p : Int) ≤ 121
  · have hsv : svr [a] = (0, false) := by
      simp only [svr, sv]
      rw [if_neg (by omega), if_neg (by omega), if_neg (by omega)]
    by_cases c2 : p + 2 ≤ s.size
    · have b4 : ¬ (p : Int) + 2 > (s.size : Int) := by omega
      have b5 : (p : Int) + 2 ≤ (s.size : Int) := by omega
      have b6 : ¬ (p : Int) + 1 = (s.size : Int) := by omega
      have h2l : ¬ (s.extract p (p + 2)).toList = ([36] : List UInt8) := fun e => by
        rw [ByteArray.toList_eq] at e
        have := two_len s p c2
        rw [e] at this
        simp at this
      obtain ⟨r, hr0, hr1, hr2⟩ := IH (p + 2) (l ++ [(⟨c, s.extract p (p + 2), i⟩ : S35)]) (by omega) c2 (by rw [List.length_append]; simp only [List.length_cons, List.length_nil]; omega)
      refine ⟨if (svr (s.extract p (p + 2)).data.toList).2 = true then r else ([], (p : Int), 31), (by split <;> first | exact hr0 | exact Nat.zero_le _), fun k hk => ?_, fun k hk => ?_⟩
      · obtain ⟨k, rfl⟩ : ∃ m, k = m + 2 := ⟨k - 2, by omega⟩
        have hk2 : B ≤ k := by omega
        have hk3 : 10 ≤ k := by omega
        simp only [scan_Runs.j3]
        rw [if_pos h0, if_pos hps, if_pos c1.1]
        simp only [scan_Runs.j4]
        rw [if_pos (decide_eq_true c1.2), w64 z3 z4, if_neg b4, if_pos h0, if_pos b3, if_pos b5, Int.toNat_natCast, n2, state_prog _ k hk3, Option.bind_some]
        by_cases c3 : (svr (s.extract p (p + 2)).data.toList).2 = true
        · rw [if_pos c3, if_pos hll, if_pos c3]
          exact hr1 k hk2
        · rw [if_neg c3, if_neg h2l, if_neg c3]
      · obtain ⟨k, rfl⟩ : ∃ m, k = m + 2 := ⟨k - 2, by omega⟩
        have hk2 : B ≤ k + 1 := by omega
        have hk3 : 300 ≤ k := by omega
        have hk4 : 300 ≤ k + 1 := by omega
        have htag : vivariumref03_tagAt.f (k + 1) s (p : Int) = some (if (svr (s.extract p (p + 2)).data.toList).2 = true then 2 else 0) := by
          unfold vivariumref03_tagAt.f
          rw [if_neg hpn, if_pos h0, if_pos hps, if_neg (show ¬ bt s (p : Int) = 36 by omega), w64 z1 z2, if_pos b1, if_pos b2, Int.toNat_natCast, n1, hone _ hk4, Option.bind_some, hsv, if_neg (by decide), if_neg (show ¬ bt s (p : Int) < 112 by omega)]
          simp only [vivariumref03_tagAt.j0]
          rw [if_neg (by rw [decide_eq_false (show ¬ bt s (p : Int) > 121 by omega)]; decide), w64 z1 z2, if_neg b6, if_pos h0, w64 z3 z4, if_pos b3, if_pos b5, Int.toNat_natCast, n2, state_ref _ k hk3, Option.bind_some]
          by_cases c3 : (svr (s.extract p (p + 2)).data.toList).2 = true
          · rw [if_pos c3, if_pos c3]
          · rw [if_neg c3, if_neg c3]
        simp only [vivariumref03_Runs.j1]
        rw [htag, Option.bind_some]
        by_cases c3 : (svr (s.extract p (p + 2)).data.toList).2 = true
        · rw [if_pos c3, if_neg (by decide), if_neg (by decide), if_pos h0, w64 z3 z4, if_pos b3, if_pos b5, if_pos hll, if_pos c3, Int.toNat_natCast, n2]
          exact hr2 _ hk2
        · rw [if_neg c3, if_neg (by decide), if_pos rfl, if_neg c3]
    · have b4 : (p : Int) + 2 > (s.size : Int) := by omega
      have b6 : (p : Int) + 1 = (s.size : Int) := by omega
      refine ⟨([], (s.size : Int), 30), Nat.zero_le _, fun k hk => ?_, fun k hk => ?_⟩
      · obtain ⟨k, rfl⟩ : ∃ m, k = m + 2 := ⟨k - 2, by omega⟩
        simp only [scan_Runs.j3]
        rw [if_pos h0, if_pos hps, if_pos c1.1]
        simp only [scan_Runs.j4]
        rw [if_pos (decide_eq_true c1.2), w64 z3 z4, if_pos b4]
      · obtain ⟨k, rfl⟩ : ∃ m, k = m + 2 := ⟨k - 2, by omega⟩
        have hk4 : 300 ≤ k + 1 := by omega
        have htag : vivariumref03_tagAt.f (k + 1) s (p : Int) = some (-1) := by
          unfold vivariumref03_tagAt.f
          rw [if_neg hpn, if_pos h0, if_pos hps, if_neg (show ¬ bt s (p : Int) = 36 by omega), w64 z1 z2, if_pos b1, if_pos b2, Int.toNat_natCast, n1, hone _ hk4, Option.bind_some, hsv, if_neg (by decide), if_neg (show ¬ bt s (p : Int) < 112 by omega)]
          simp only [vivariumref03_tagAt.j0]
          rw [if_neg (by rw [decide_eq_false (show ¬ bt s (p : Int) > 121 by omega)]; decide), w64 z1 z2, if_pos b6]
        simp only [vivariumref03_Runs.j1]
        rw [htag, Option.bind_some, if_pos (by decide)]
  · have hj4 : ∀ k, scan_Runs.j3 (k + 1) s l (p : Int) c ⟨#[]⟩ i = scan_Runs.j4 k s l (p : Int) 1 false c ⟨#[]⟩ i := fun k => by
      simp only [scan_Runs.j3]
      rw [if_pos h0, if_pos hps]
      by_cases c2 : 112 ≤ bt s (p : Int)
      · rw [if_pos c2, decide_eq_false (show ¬ bt s (p : Int) ≤ 121 by omega)]
      · rw [if_neg c2]
    obtain ⟨r, hr0, hr1, hr2⟩ := IH (p + 1) (l ++ [(⟨c, s.extract p (p + 1), i⟩ : S35)]) (by omega) (by omega) (by rw [List.length_append]; simp only [List.length_cons, List.length_nil]; omega)
    have hsv36 : a.toNat = 36 → (svr [a]).2 = false := fun e => by
      simp only [svr, sv]
      rw [if_neg (by omega), if_neg (by omega), if_neg (by omega)]
    refine ⟨if (svr [a]).2 = true ∨ a.toNat = 36 then r else ([], (p : Int), 31), (by split <;> first | exact hr0 | exact Nat.zero_le _), fun k hk => ?_, fun k hk => ?_⟩
    · obtain ⟨k, rfl⟩ : ∃ m, k = m + 2 := ⟨k - 2, by omega⟩
      have hk2 : B ≤ k := by omega
      have hk3 : 10 ≤ k := by omega
      rw [hj4]
      simp only [scan_Runs.j4]
      rw [if_neg (by decide), if_pos h0, w64 z1 z2, if_pos b1, if_pos b2, Int.toNat_natCast, n1, hone2 k hk3, Option.bind_some, htl]
      by_cases c3 : (svr [a]).2 = true
      · rw [if_pos c3, if_pos hll, if_pos (.inl c3)]
        exact hr1 k hk2
      · rw [if_neg c3]
        by_cases c4 : a.toNat = 36
        · rw [if_pos (h36.2 c4), if_pos hll, if_pos (.inr c4)]
          exact hr1 k hk2
        · rw [if_neg (fun e => c4 (h36.1 e)), if_neg (show ¬ ((svr [a]).2 = true ∨ a.toNat = 36) from fun e => e.elim c3 c4)]
    · obtain ⟨k, rfl⟩ : ∃ m, k = m + 2 := ⟨k - 2, by omega⟩
      have hk2 : B ≤ k + 1 := by omega
      have hk4 : 300 ≤ k + 1 := by omega
      have htag : vivariumref03_tagAt.f (k + 1) s (p : Int) = some (if (svr [a]).2 = true ∨ a.toNat = 36 then 1 else 0) := by
        unfold vivariumref03_tagAt.f
        rw [if_neg hpn, if_pos h0, if_pos hps]
        by_cases c4 : a.toNat = 36
        · rw [if_pos (show bt s (p : Int) = 36 by omega), if_pos (.inr c4)]
        · rw [if_neg (show ¬ bt s (p : Int) = 36 by omega), w64 z1 z2, if_pos b1, if_pos b2, Int.toNat_natCast, n1, hone _ hk4, Option.bind_some]
          by_cases c3 : (svr [a]).2 = true
          · rw [if_pos c3, if_pos (.inl c3)]
          · rw [if_neg c3, if_neg (show ¬ ((svr [a]).2 = true ∨ a.toNat = 36) from fun e => e.elim c3 c4)]
            by_cases c5 : bt s (p : Int) < 112
            · rw [if_pos c5]
              simp only [vivariumref03_tagAt.j0]
              rw [if_pos (by trivial)]
            · rw [if_neg c5]
              simp only [vivariumref03_tagAt.j0]
              rw [if_pos (decide_eq_true (show bt s (p : Int) > 121 by omega))]
      simp only [vivariumref03_Runs.j1]
      rw [htag, Option.bind_some]
      by_cases c3 : (svr [a]).2 = true ∨ a.toNat = 36
      · rw [if_pos c3, if_neg (by decide), if_neg (by decide), if_pos h0, w64 z1 z2, if_pos b1, if_pos b2, if_pos hll, if_pos c3, Int.toNat_natCast, n1]
        exact hr2 _ hk2
      · rw [if_neg c3, if_neg (by decide), if_pos rfl, if_neg c3]
theorem Both.up {s : ByteArray} {B B' : Nat} {l : List S35} {q : Nat} (h : Both s B l q) (hb : B ≤ B') : Both s B' l q := by
  obtain ⟨r, h00, h1, h2⟩ := h
  exact ⟨r, h00, fun k hk => h1 k (by omega), fun k hk => h2 k (by omega)⟩
def isW (b : Int) : Prop := b = 32 ∨ b = 9 ∨ b = 10 ∨ b = 13
instance (b : Int) : Decidable (isW b) := by unfold isW; exact inferInstance
theorem prog_l0 (s : ByteArray) (l : List S35) (i : Nat) (hi : i < s.size) (k : Nat) : scan_Runs.l0 (k + 1) s l (i : Int) = scan_Runs.j1 k s l (i : Int) (bt s (i : Int)) (decide (isW (bt s (i : Int)))) := by
  simp only [scan_Runs.l0]
  rw [if_pos (show (i : Int) < (s.size : Int) by omega), if_pos (show (0 : Int) ≤ (i : Int) by omega)]
  by_cases c1 : bt s (i : Int) = 32
  · rw [if_pos c1, c1]; rfl
  · rw [if_neg c1]
    by_cases c2 : bt s (i : Int) = 9
    · rw [if_pos c2, c2]; rfl
    · rw [if_neg c2]
      by_cases c3 : bt s (i : Int) = 10
      · rw [if_pos c3, c3]; rfl
      · rw [if_neg c3]
        by_cases c4 : bt s (i : Int) = 13
        · rw [c4]; rfl
        · rw [decide_eq_false (show ¬ isW (bt s (i : Int)) from fun e => e.elim c1 (fun e => e.elim c2 (fun e => e.elim c3 c4))), beq_eq_false_iff_ne.mpr c4]
theorem white_ref (b : Int) : vivariumref03_white.f b = some (decide (isW b)) := by
  unfold vivariumref03_white.f
  by_cases c1 : b = 32
  · rw [if_pos c1, c1]; rfl
  · rw [if_neg c1]
    by_cases c2 : b = 9
    · rw [if_pos c2, c2]; rfl
    · rw [if_neg c2]
      by_cases c3 : b = 10
      · rw [if_pos c3, c3]; rfl
      · rw [if_neg c3]
        by_cases c4 : b = 13
        · rw [c4]; rfl
        · rw [decide_eq_false (show ¬ isW b from fun e => e.elim c1 (fun e => e.elim c2 (fun e => e.elim c3 c4))), beq_eq_false_iff_ne.mpr c4]
theorem span_f (s : ByteArray) (hs : s.size ≤ 1048576) (i : Nat) (hi : i ≤ s.size) : scan_span.f (s.extract i s.size) 38 = some ((cnt s (s.size - i) i : Nat) : Int) := by
  have hz : (s.extract i s.size).size = s.size - i := by rw [ByteArray.size_extract]; omega
  have h := span_cnt s i hi (s.size - i) 0 (by omega) (by omega)
  unfold scan_span.f
  rw [if_pos (by rw [hz]; omega), if_pos rfl, hz, h, Nat.zero_add, Nat.add_zero]
  rfl
theorem runs_go (s : ByteArray) (hs : s.size ≤ 1048576) : ∀ (d i : Nat) (l : List S35), s.size - i ≤ d → i ≤ s.size → l.length ≤ i → Both s (20 * d + 4 * s.size + 1000) l i := by
  intro d
  have hend : ∀ (B : Nat) (l : List S35), 1 ≤ B → Both s B l s.size := fun B l hB => by
    refine ⟨([], (s.size : Int), 30), Nat.zero_le _, fun k hk => ?_, fun k hk => ?_⟩
    · obtain ⟨k, rfl⟩ : ∃ m, k = m + 1 := ⟨k - 1, by omega⟩
      simp only [scan_Runs.l0]
      rw [if_neg (by omega)]
    · obtain ⟨k, rfl⟩ : ∃ m, k = m + 1 := ⟨k - 1, by omega⟩
      simp only [vivariumref03_Runs.l0]
      rw [if_neg (by omega)]
  induction d with
  | zero =>
    intro i l hd hi hl
    obtain rfl : i = s.size := by omega
    exact hend _ l (by omega)
  | succ d ih =>
    intro i l hd hi hl
    by_cases hi2 : i < s.size
    · have IH : ∀ (q : Nat) (l' : List S35), i < q → q ≤ s.size → l'.length ≤ q → Both s (20 * d + 4 * s.size + 1000) l' q := fun q l' h1 h2 h3 => ih q l' (by omega) h2 h3
      have q0 : (0 : Int) ≤ (i : Int) := by omega
      have q1 : (i : Int) < (s.size : Int) := by omega
      have q2 : (i : Int) ≤ (s.size : Int) := by omega
      have z1 : -9223372036854775808 ≤ (i : Int) + 1 := by omega
      have z2 : (i : Int) + 1 ≤ 9223372036854775807 := by omega
      have hl1 : l.length ≤ i + 1 := by omega
      have cast1 : (i : Int) + 1 = ((i + 1 : Nat) : Int) := rfl
      by_cases c1 : isW (bt s (i : Int))
      · obtain ⟨r, h00, h1, h2⟩ := IH (i + 1) l (by omega) hi2 hl1
        refine ⟨r, h00, fun k hk => ?_, fun k hk => ?_⟩
        · obtain ⟨k, rfl⟩ : ∃ m, k = m + 2 := ⟨k - 2, by omega⟩
          have hk2 : 20 * d + 4 * s.size + 1000 ≤ k := by omega
          rw [prog_l0 s l i hi2, decide_eq_true c1]
          simp only [scan_Runs.j1]
          rw [if_pos (by trivial), w64 z1 z2, cast1]
          exact h1 k hk2
        · obtain ⟨k, rfl⟩ : ∃ m, k = m + 1 := ⟨k - 1, by omega⟩
          have hk2 : 20 * d + 4 * s.size + 1000 ≤ k := by omega
          simp only [vivariumref03_Runs.l0]
          rw [if_pos q1, if_pos q0, white_ref, Option.bind_some, if_pos (decide_eq_true c1), w64 z1 z2, cast1]
          exact h2 k hk2
      · by_cases c2 : bt s (i : Int) = 33
        · refine ⟨(l, ((i + 1 : Nat) : Int), 0), (show l.length ≤ s.size by omega), fun k hk => ?_, fun k hk => ?_⟩
          · obtain ⟨k, rfl⟩ : ∃ m, k = m + 2 := ⟨k - 2, by omega⟩
            rw [prog_l0 s l i hi2, decide_eq_false c1]
            simp only [scan_Runs.j1]
            rw [if_neg (by decide), if_pos c2, w64 z1 z2, cast1]
          · obtain ⟨k, rfl⟩ : ∃ m, k = m + 1 := ⟨k - 1, by omega⟩
            simp only [vivariumref03_Runs.l0]
            rw [if_pos q1, if_pos q0, white_ref, Option.bind_some, if_neg (by rw [decide_eq_false c1]; decide), if_pos c2, w64 z1 z2, cast1]
        · obtain ⟨t, ht⟩ : ∃ t, cnt s (s.size - i) i = t := ⟨_, rfl⟩
          have hspan := span_f s hs i hi
          rw [ht] at hspan
          have hdig : ∀ j, j < t → isD s (i + j) := fun j hj => cnt_digits s (s.size - i) i j (by rw [ht]; exact hj)
          by_cases c3 : isD s i
          · have ht1 : 1 ≤ t := by
              rw [← ht, show s.size - i = (s.size - i - 1) + 1 from by omega, cnt_succ, if_pos c3]
              omega
            have htn : i + t ≤ s.size := by
              have := (hdig (t - 1) (by omega)).1
              omega
            obtain ⟨v, hv⟩ : ∃ v, vv s t i 0 = v := ⟨_, rfl⟩
            have hv0 : 0 ≤ v := by rw [← hv]; exact vv_ge s t i 0 (by omega) hdig
            have hval : ∀ k, t + 3 < k → scan_value.f k (s.extract i (i + t)) = some (if v ≤ 9223372036854775807 then (v, true) else (0, false)) := fun k hk => by
              have h := value_go s (s.extract i (i + t)) i t (by rw [ByteArray.size_extract]; omega) (fun j hj => bt_part s i (i + t) j (by omega) htn) hdig (by omega) t 0 k 0 rfl (by omega) (by omega) (by omega) (by omega)
              rw [Nat.add_zero, hv] at h
              exact h
            have hnum : ∀ k, 2 * s.size + 2 < k → ∃ n', vivariumref03_number.f k s (i : Int) = some (n', ((i + t : Nat) : Int), decide (v ≤ 9223372036854775807)) ∧ (v ≤ 9223372036854775807 → n' = v) := fun k hk => by
              have h := number_good s hs (s.size - i) i k 0 (by omega) (by omega) (by omega) hi (by omega)
              rw [ht, hv] at h
              exact h
            have e1 : -9223372036854775808 ≤ (i : Int) + (t : Int) := by omega
            have e2 : (i : Int) + (t : Int) ≤ 9223372036854775807 := by omega
            have e3 : (i : Int) + (t : Int) = ((i + t : Nat) : Int) := rfl
            have e4 : (i : Int) ≤ ((i + t : Nat) : Int) := by omega
            have e5 : ((i + t : Nat) : Int) ≤ (s.size : Int) := by omega
            have e6 : (t : Int) > 0 := by omega
            have prog : ∀ k, t + 4 < k → scan_Runs.l0 (k + 2) s l (i : Int) = scan_Runs.j2 k s l (i : Int) (t : Int) (if v ≤ 9223372036854775807 then v else 0) (decide (¬ (v ≤ 9223372036854775807 ∧ 1 ≤ v ∧ v ≤ 1099511627776))) 1 ⟨#[]⟩ (i : Int) := fun k hk => by
              rw [prog_l0 s l i hi2, decide_eq_false c1]
              simp only [scan_Runs.j1]
              rw [if_neg (by decide), if_neg c2, if_pos q0, if_pos q2, Int.toNat_natCast, hspan, Option.bind_some, if_pos e6, w64 e1 e2, e3, if_pos e4, if_pos e5, Int.toNat_natCast, hval k (by omega), Option.bind_some]
              by_cases c4 : v ≤ 9223372036854775807
              · rw [if_pos c4, if_pos c4]
                dsimp only
                rw [if_pos (by trivial)]
                by_cases c5 : v < 1
                · rw [if_pos c5, decide_eq_true (show ¬ (v ≤ 9223372036854775807 ∧ 1 ≤ v ∧ v ≤ 1099511627776) by omega)]
                · rw [if_neg c5]
                  by_cases c6 : v > 1099511627776
                  · rw [decide_eq_true c6, decide_eq_true (show ¬ (v ≤ 9223372036854775807 ∧ 1 ≤ v ∧ v ≤ 1099511627776) by omega)]
                  · rw [decide_eq_false c6, decide_eq_false (show ¬ ¬ (v ≤ 9223372036854775807 ∧ 1 ≤ v ∧ v ≤ 1099511627776) by omega)]
              · rw [if_neg c4, if_neg c4]
                dsimp only
                rw [if_neg (by decide), decide_eq_true (show ¬ (v ≤ 9223372036854775807 ∧ 1 ≤ v ∧ v ≤ 1099511627776) by omega)]
            have refl0 : ∀ k, 2 * s.size + 2 < k → vivariumref03_Runs.l0 (k + 1) s l (i : Int) = if v ≤ 9223372036854775807 ∧ 1 ≤ v ∧ v ≤ 1099511627776 then vivariumref03_Runs.j1 k s l ((i + t : Nat) : Int) v ⟨#[]⟩ (i : Int) else some ([], (i : Int), 11) := fun k hk => by
              obtain ⟨n', hn1, hn2⟩ := hnum k hk
              simp only [vivariumref03_Runs.l0]
              rw [if_pos q1, if_pos q0, white_ref, Option.bind_some, if_neg (by rw [decide_eq_false c1]; decide), if_neg c2, digit_ref, Option.bind_some, if_pos (decide_eq_true c3.2), hn1, Option.bind_some]
              dsimp only
              by_cases c4 : v ≤ 9223372036854775807
              · obtain rfl := hn2 c4
                rw [if_pos (decide_eq_true c4)]
                by_cases c5 : n' < 1
                · rw [if_pos c5, if_neg (by omega)]
                · rw [if_neg c5]
                  by_cases c6 : n' > 1099511627776
                  · rw [if_pos c6, if_neg (by omega)]
                  · rw [if_neg c6, if_pos (by omega)]
              · rw [if_neg (by rw [decide_eq_false c4]; decide), if_neg (by omega)]
            by_cases c4 : v ≤ 9223372036854775807 ∧ 1 ≤ v ∧ v ≤ 1099511627776
            · by_cases c5 : i + t = s.size
              · have c5' : ((i + t : Nat) : Int) = (s.size : Int) := by omega
                refine ⟨([], (s.size : Int), 30), Nat.zero_le _, fun k hk => ?_, fun k hk => ?_⟩
                · obtain ⟨k, rfl⟩ : ∃ m, k = m + 3 := ⟨k - 3, by omega⟩
                  rw [prog (k + 1) (by omega), decide_eq_false (fun e => e c4)]
                  simp only [scan_Runs.j2]
                  rw [if_neg (by decide), w64 e1 e2, e3, if_pos c5']
                · obtain ⟨k, rfl⟩ : ∃ m, k = m + 2 := ⟨k - 2, by omega⟩
                  rw [refl0 (k + 1) (by omega), if_pos c4]
                  simp only [vivariumref03_Runs.j1]
                  unfold vivariumref03_tagAt.f
                  rw [if_pos c5', Option.bind_some, if_pos (by decide)]
              · have c5' : ¬ ((i + t : Nat) : Int) = (s.size : Int) := by omega
                obtain ⟨r, h00, h1, h2⟩ := tag_both s hs (20 * d + 4 * s.size + 1000) (by omega) l (i + t) (by omega) (by omega) v (i : Int) (fun q l' a b c => IH q l' (by omega) b c)
                refine ⟨r, h00, fun k hk => ?_, fun k hk => ?_⟩
                · obtain ⟨k, rfl⟩ : ∃ m, k = m + 3 := ⟨k - 3, by omega⟩
                  have hk2 : 20 * d + 4 * s.size + 1000 + 10 ≤ k := by omega
                  rw [prog (k + 1) (by omega), decide_eq_false (fun e => e c4)]
                  simp only [scan_Runs.j2]
                  rw [if_neg (by decide), w64 e1 e2, e3, if_neg c5', if_pos c4.1]
                  exact h1 k hk2
                · obtain ⟨k, rfl⟩ : ∃ m, k = m + 1 := ⟨k - 1, by omega⟩
                  have hk2 : 20 * d + 4 * s.size + 1000 + 10 ≤ k := by omega
                  rw [refl0 k (by omega), if_pos c4]
                  exact h2 k hk2
            · refine ⟨([], (i : Int), 11), Nat.zero_le _, fun k hk => ?_, fun k hk => ?_⟩
              · obtain ⟨k, rfl⟩ : ∃ m, k = m + 3 := ⟨k - 3, by omega⟩
                rw [prog (k + 1) (by omega), decide_eq_true c4]
                simp only [scan_Runs.j2]
                rw [if_pos (by trivial)]
              · obtain ⟨k, rfl⟩ : ∃ m, k = m + 1 := ⟨k - 1, by omega⟩
                rw [refl0 k (by omega), if_neg c4]
          · have ht0 : t = 0 := by
              rw [← ht, show s.size - i = (s.size - i - 1) + 1 from by omega, cnt_succ, if_neg c3]
            subst ht0
            have c3' : ¬ (48 ≤ bt s (i : Int) ∧ bt s (i : Int) ≤ 57) := fun e => c3 ⟨hi2, e⟩
            obtain ⟨r, h00, h1, h2⟩ := tag_both s hs (20 * d + 4 * s.size + 1000) (by omega) l i hi2 hl 1 (i : Int) IH
            refine ⟨r, h00, fun k hk => ?_, fun k hk => ?_⟩
            · obtain ⟨k, rfl⟩ : ∃ m, k = m + 2 := ⟨k - 2, by omega⟩
              have hk2 : 20 * d + 4 * s.size + 1000 + 10 ≤ k := by omega
              rw [prog_l0 s l i hi2, decide_eq_false c1]
              simp only [scan_Runs.j1]
              rw [if_neg (by decide), if_neg c2, if_pos q0, if_pos q2, Int.toNat_natCast, hspan, Option.bind_some, if_neg (by decide)]
              exact h1 k hk2
            · obtain ⟨k, rfl⟩ : ∃ m, k = m + 1 := ⟨k - 1, by omega⟩
              have hk2 : 20 * d + 4 * s.size + 1000 + 10 ≤ k := by omega
              simp only [vivariumref03_Runs.l0]
              rw [if_pos q1, if_pos q0, white_ref, Option.bind_some, if_neg (by rw [decide_eq_false c1]; decide), if_neg c2, digit_ref, Option.bind_some, if_neg (by rw [decide_eq_false c3']; decide)]
              exact h2 k hk2
    · obtain rfl : i = s.size := by omega
      exact hend _ l (by omega)
theorem runs_f (s : ByteArray) : ∃ r : List S35 × Int × Int, r.1.length ≤ 1048576 ∧ (∀ k, 24 * s.size + 1000 ≤ k → scan_Runs.f k s = some r) ∧ (∀ k, 24 * s.size + 1000 ≤ k → vivariumref03_Runs.f k s = some r) := by
  by_cases c : (s.size : Int) > 1048576
  · refine ⟨([], 0, 3), Nat.zero_le _, fun k _ => ?_, fun k _ => ?_⟩
    · unfold scan_Runs.f; rw [if_pos c]
    · unfold vivariumref03_Runs.f; rw [if_pos c]
  · obtain ⟨r, h0, h1, h2⟩ := runs_go s (by omega) s.size 0 [] (by omega) (by omega) (by simp)
    refine ⟨r, by omega, fun k hk => ?_, fun k hk => ?_⟩
    · unfold scan_Runs.f; rw [if_neg c]; exact h1 k (by omega)
    · unfold vivariumref03_Runs.f; rw [if_neg c]; exact h2 k (by omega)
theorem same_go (l : List S35) (hl : l.length ≤ 1048576) : ∀ (d i k : Nat), l.length - i = d → i ≤ l.length → d < k → vivariumref03_SameRuns.l0 k l l (i : Int) = some true := by
  intro d
  induction d with
  | zero =>
    intro i k hd hi hk
    obtain ⟨k, rfl⟩ : ∃ m, k = m + 1 := ⟨k - 1, by omega⟩
    simp only [vivariumref03_SameRuns.l0]
    rw [if_neg (by omega)]
  | succ d ih =>
    intro i k hd hi hk
    obtain ⟨k, rfl⟩ : ∃ m, k = m + 1 := ⟨k - 1, by omega⟩
    have q1 : (i : Int) < (l.length : Int) := by omega
    have q2 : (0 : Int) ≤ (i : Int) := by omega
    have z1 : -9223372036854775808 ≤ (i : Int) + 1 := by omega
    have z2 : (i : Int) + 1 ≤ 9223372036854775807 := by omega
    have key := ih (i + 1) k (by omega) (by omega) (by omega)
    simp only [vivariumref03_SameRuns.l0]
    rw [if_pos q1, if_pos q2, if_pos q1, if_neg (by simp), w64 z1 z2, show (i : Int) + 1 = ((i + 1 : Nat) : Int) from rfl]
    exact key
theorem same_f (l : List S35) (hl : l.length ≤ 1048576) (k : Nat) (hk : 1048576 < k) : vivariumref03_SameRuns.f k l l = some true := by
  unfold vivariumref03_SameRuns.f
  rw [if_pos rfl]
  exact same_go l hl l.length 0 k rfl (by omega) (by omega)
theorem law_l1 (s : ByteArray) (R R1 : List S35) (at0 e0 at1 e1 : Int) (K : Nat) (hR : R.length ≤ 1048576) (hR1 : R1.length ≤ 1048576) (hK : 1048576 < K) (hr : ∀ k, K ≤ k → scan_Runs.f k s = some (R, at0, e0)) : ∀ (d i : Nat) (x : List S35), 20 - i = d → i ≤ 20 → x.length ≤ 1048576 + i → vivariumlaw03_ScanRuns.l1 (K + 1 + d) s true R at0 e0 R1 at1 e1 x R1 at1 e1 true (i : Int) = some true := by
  intro d
  induction d with
  | zero =>
    intro i x hd hi hx
    have q1 : ¬ (i : Int) < 20 := by omega
    rw [Nat.add_zero]
    simp only [vivariumlaw03_ScanRuns.l1]
    rw [if_neg q1, hr K (Nat.le_refl _), Option.bind_some, if_pos (by trivial), if_pos (by trivial), same_f R1 hR1 K hK, Option.bind_some, if_pos (by trivial), if_pos (by trivial), if_pos (by trivial), if_pos (by trivial), if_pos (by trivial), same_f R hR K hK]
    rfl
  | succ d ih =>
    intro i x hd hi hx
    have q1 : (i : Int) < 20 := by omega
    have q2 : x.length < 4398046511104 := by omega
    have z1 : -9223372036854775808 ≤ (i : Int) + 1 := by omega
    have z2 : (i : Int) + 1 ≤ 9223372036854775807 := by omega
    have key := ih (i + 1) (x ++ [(⟨(-6), (⟨#[]⟩ : ByteArray), 0⟩ : S35)]) (by omega) (by omega) (by rw [List.length_append]; simp only [List.length_cons, List.length_nil]; omega)
    rw [show K + 1 + (d + 1) = (K + 1 + d) + 1 from rfl]
    simp only [vivariumlaw03_ScanRuns.l1]
    rw [if_pos q1, if_pos q2, w64 z1 z2, show (i : Int) + 1 = ((i + 1 : Nat) : Int) from rfl]
    exact key
theorem law_l0 (s : ByteArray) (R R1 : List S35) (at0 e0 at1 e1 : Int) (K : Nat) (hR : R.length ≤ 1048576) (hR1 : R1.length ≤ 1048576) (hK : 1048576 < K) (hr : ∀ k, K ≤ k → scan_Runs.f k s = some (R, at0, e0)) : ∀ (d i : Nat) (x : List S35), x.length - i = d → i ≤ x.length → x.length ≤ 1048576 → vivariumlaw03_ScanRuns.l0 (K + 1 + 20 + 1 + d) s true R at0 e0 R1 at1 e1 x R1 at1 e1 true (i : Int) = some true := by
  intro d
  induction d with
  | zero =>
    intro i x hd hi hx
    have q1 : ¬ (i : Int) < (x.length : Int) := by omega
    rw [Nat.add_zero]
    simp only [vivariumlaw03_ScanRuns.l0]
    rw [if_neg q1]
    exact law_l1 s R R1 at0 e0 at1 e1 K hR hR1 hK hr 20 0 x rfl (by omega) (by omega)
  | succ d ih =>
    intro i x hd hi hx
    have q1 : (i : Int) < (x.length : Int) := by omega
    have q2 : (0 : Int) ≤ (i : Int) := by omega
    have z1 : -9223372036854775808 ≤ (i : Int) + 1 := by omega
    have z2 : (i : Int) + 1 ≤ 9223372036854775807 := by omega
    have key := ih (i + 1) (x.set i (⟨(-5), (⟨#[]⟩ : ByteArray), 0⟩ : S35)) (by rw [List.length_set]; omega) (by rw [List.length_set]; omega) (by rw [List.length_set]; omega)
    rw [show K + 1 + 20 + 1 + (d + 1) = (K + 1 + 20 + 1 + d) + 1 from rfl]
    simp only [vivariumlaw03_ScanRuns.l0]
    rw [if_pos q1, if_pos q2, Int.toNat_natCast, w64 z1 z2, show (i : Int) + 1 = ((i + 1 : Nat) : Int) from rfl]
    exact key
theorem ScanRuns : vivariumlaw03_ScanRuns.Pure := by
  intro s t ws wt
  obtain ⟨⟨R, at0, e0⟩, h0, h1, h2⟩ := runs_f s
  obtain ⟨⟨R1, at1, e1⟩, g0, g1, g2⟩ := runs_f t
  obtain ⟨K, hK⟩ : ∃ K, 24 * s.size + 24 * t.size + 1000 + 1048577 = K := ⟨_, rfl⟩
  have hj := law_l0 s R R1 at0 e0 at1 e1 K h0 g0 (by omega) (fun k hk => h1 k (by omega)) R.length 0 R (by omega) (by omega) h0
  refine ⟨K + 1 + 20 + 1 + R.length + 1, ?_⟩
  unfold vivariumlaw03_ScanRuns.f
  rw [awake_true _ (by omega), Option.bind_some, h2 _ (by omega), Option.bind_some, g2 _ (by omega), Option.bind_some, h1 _ (by omega), Option.bind_some, g1 _ (by omega), Option.bind_some, if_pos rfl, if_pos rfl, same_f R h0 _ (by omega), Option.bind_some]
  simp only [vivariumlaw03_ScanRuns.j0]
  exact hj
end Go.Proofs.Ytkahgdkpehlanaa.Pure

/- Of any line the pieces; asked again, the first answer being written over: where what comes in is of bulk at most 1048576. -/
import Derived.Test.YtkahgdkpehlanaaPm9
import Derived.Test.YtkahgdkpehlanaaScanLib
import Derived.Test.YtkahgdkpehlanaaEvLib
set_option linter.unusedVariables false
namespace Go.Proofs.Ytkahgdkpehlanaa.Pure
open Go.RowKit Go.Proofs.Ytkahgdkpehlanaa.P Go.Proofs.YtkahgdkpehlanaaW.PrintWords Go.Proofs.YtkahgdkpehlanaaW.PrintLast Go.Proofs.YtkahgdkpehlanaaW.PrintMore Go.Proofs.Ytkahgdkpehlanaa.L
abbrev Sp := S27
def whB (s : ByteArray) (i : Nat) : Prop := bt s (i : Int) = 32 ∨ bt s (i : Int) = 9
instance (s : ByteArray) (i : Nat) : Decidable (whB s i) := inferInstanceAs (Decidable (_ ∨ _))
theorem isBlank_is (s : ByteArray) (i : Nat) : scan_isBlank.f (bt s (i : Int)) = some (decide (whB s i)) := by
  unfold scan_isBlank.f
  by_cases c : bt s (i : Int) = 32
  · rw [if_pos c, decide_eq_true (p := whB s i) (Or.inl c)]
  · rw [if_neg c]
    by_cases c2 : bt s (i : Int) = 9
    · have h9 : (bt s (i : Int) == 9) = true := beq_iff_eq.mpr c2
      rw [h9, decide_eq_true (p := whB s i) (Or.inr c2)]
    · have h9 : (bt s (i : Int) == 9) = false := beq_eq_false_iff_ne.mpr c2
      rw [h9, decide_eq_false (p := whB s i) (fun h => Or.elim h c c2)]
theorem blank_is (s : ByteArray) (i : Nat) : vivariumref03_blank.f (bt s (i : Int)) = some (decide (whB s i)) := by
  unfold vivariumref03_blank.f
  by_cases c : bt s (i : Int) = 32
  · rw [if_pos c, decide_eq_true (p := whB s i) (Or.inl c)]
  · rw [if_neg c]
    by_cases c2 : bt s (i : Int) = 9
    · have h9 : (bt s (i : Int) == 9) = true := beq_iff_eq.mpr c2
      rw [h9, decide_eq_true (p := whB s i) (Or.inr c2)]
    · have h9 : (bt s (i : Int) == 9) = false := beq_eq_false_iff_ne.mpr c2
      rw [h9, decide_eq_false (p := whB s i) (fun h => Or.elim h c c2)]
theorem end_ex (s : ByteArray) : ∀ (d i : Nat), i + d = s.size → ∃ e, i ≤ e ∧ e ≤ s.size ∧ (∀ j, i ≤ j → j < e → ¬ whB s j) ∧ (e < s.size → whB s e)
  | 0, i, h => ⟨i, Nat.le_refl _, by omega, fun j a b => by omega, fun a => by omega⟩
  | d + 1, i, h => by
    by_cases c : whB s i
    · exact ⟨i, Nat.le_refl _, by omega, fun j a b => by omega, fun _ => c⟩
    · obtain ⟨e, h1, h2, h3, h4⟩ := end_ex s d (i + 1) (by omega)
      refine ⟨e, by omega, h2, fun j a b => ?_, h4⟩
      by_cases cj : j = i
      · subst cj; exact c
      · exact h3 j (by omega) b
theorem byte_wh (s : ByteArray) (i : Nat) (h : i < s.size) : ([32, 9] : List UInt8).contains (s[i]'h) = decide (whB s i) := by
  have hb : bt s (i : Int) = ((s[i]'h).toNat : Int) := by
    rw [bt_eq s i h]
    rfl
  have this : ∀ x : UInt8, ([32, 9] : List UInt8).contains x = true ↔ (((x.toNat : Nat) : Int) = 32 ∨ ((x.toNat : Nat) : Int) = 9) := by
    intro x
    have h32 : x = 32 ↔ x.toNat = 32 := ⟨fun e => by rw [e]; rfl, fun e => UInt8.toNat_inj.1 e⟩
    have h9 : x = 9 ↔ x.toNat = 9 := ⟨fun e => by rw [e]; rfl, fun e => UInt8.toNat_inj.1 e⟩
    simp only [List.contains_cons, List.contains_nil, Bool.or_false, Bool.or_eq_true, beq_iff_eq, h32, h9]
    omega
  rw [Bool.eq_iff_iff, decide_eq_true_eq, this]
  unfold whB
  rw [hb]
theorem len_is (s : ByteArray) (i e : Nat) (h1 : i ≤ e) (h2 : e ≤ s.size) (h3 : ∀ j, i ≤ j → j < e → ¬ whB s j) (h4 : e < s.size → whB s e) : lenAt s i = ((e - i : Nat) : Int) := by
  have hl : (s.extract i s.size).data.toList = s.data.toList.drop i := by
    rw [ByteArray.data_extract, Array.toList_extract, List.extract_eq_take_drop, List.take_of_length_le]
    rw [List.length_drop, Array.length_toList]
    exact Nat.le_refl _
  have hg : ∀ j, i + j < s.size → (s.data.toList.drop i)[j]? = some (s[i + j]!) := fun j hj => by
    rw [List.getElem?_drop, Lib.data_getElem? s (i + j) hj]
    rw [getElem!_pos s (i + j) hj]
  have hN : Lib.NoAny (s.data.toList.drop i) [32, 9] (e - i) := fun j b hj hb => by
    have hlt : i + j < s.size := by omega
    rw [hg j hlt, getElem!_pos s (i + j) hlt] at hb
    cases hb
    rw [byte_wh s (i + j) hlt, decide_eq_false (h3 (i + j) (by omega) (by omega))]
  unfold lenAt
  rw [hl]
  by_cases c : e < s.size
  · have hx := hg (e - i) (by omega)
    have hie : i + (e - i) = e := by omega
    rw [hie, getElem!_pos s e c] at hx
    have := Lib.indexAny_hit hN hx (by rw [byte_wh s e c, decide_eq_true (h4 c)])
    rw [this, if_neg (by omega)]
  · have hee : e = s.size := by omega
    subst hee
    have := Lib.indexAny_none (s := s.data.toList.drop i) (chars := [32, 9]) (by rw [List.length_drop, Array.length_toList]; exact hN)
    rw [this, if_pos (by decide)]
    omega
theorem piece_go (s : ByteArray) (hs : s.size ≤ 1048576) (i e : Nat) (h2 : e ≤ s.size) (h3 : ∀ j, i ≤ j → j < e → ¬ whB s j) (h4 : e < s.size → whB s e) (acc R : List Sp) (ha : acc.length ≤ 2000000) (hR : Evn (fun k => vivariumref03_Fields.l0 k s (acc ++ [⟨(i : Int), s.extract i e⟩]) ((e + 1 : Nat) : Int)) R) : ∀ (d j : Nat), j + d = e → i ≤ j → Evn (fun k => vivariumref03_Fields.l1 k s acc (i : Int) (j : Int)) R
  | 0, j, h, hij => by
    obtain rfl : j = e := by omega
    have e1 : wrap64 ((j : Int) + 1) = ((j + 1 : Nat) : Int) := w64 (by omega) (by omega)
    refine hR.step (fun k => ?_)
    simp only [vivariumref03_Fields.l1]
    rw [e1, Int.toNat_natCast, Int.toNat_natCast]
    by_cases c : j < s.size
    · rw [if_pos (by omega), if_pos (by omega), blank_is, Option.bind_some, decide_eq_true (h4 c), if_pos rfl, if_pos (by omega), if_pos (by omega), if_pos (by omega), if_pos (by omega)]
    · rw [if_neg (by omega), if_pos (by omega), if_pos (by omega), if_pos (by omega), if_pos (by omega)]
  | d + 1, j, h, hij => by
    have e1 : wrap64 ((j : Int) + 1) = ((j + 1 : Nat) : Int) := w64 (by omega) (by omega)
    refine (piece_go s hs i e h2 h3 h4 acc R ha hR d (j + 1) (by omega) (by omega)).step (fun k => ?_)
    simp only [vivariumref03_Fields.l1]
    rw [e1, if_pos (by omega), if_pos (by omega), blank_is, Option.bind_some, decide_eq_false (h3 j hij (by omega)), if_neg (by decide)]
theorem fields_go (s : ByteArray) (hs : s.size ≤ 1048576) : ∀ (n i : Nat), s.size ≤ i + n → ∃ L : List Sp, (∀ k, n < k → pcs s k i = some L) ∧ 2 * L.length ≤ n + 1 ∧ ∀ acc : List Sp, acc.length + n ≤ 2000000 → Evn (fun k => vivariumref03_Fields.l0 k s acc (i : Int)) (acc ++ L) := by
  intro n
  induction n using Nat.strongRecOn with
  | ind n ih =>
    intro i h
    by_cases hi : i < s.size
    · obtain ⟨n, rfl⟩ : ∃ m, n = m + 1 := ⟨n - 1, by omega⟩
      have e1 : wrap64 ((i : Int) + 1) = ((i + 1 : Nat) : Int) := w64 (by omega) (by omega)
      have E1 := Aside0.mk e1
      clear e1
      by_cases c : whB s i
      · obtain ⟨L, h1, h2, h3⟩ := ih n (by omega) (i + 1) (by omega)
        refine ⟨L, fun k hk => ?_, by omega, fun acc ha => ?_⟩
        · obtain ⟨k, rfl⟩ : ∃ m, k = m + 1 := ⟨k - 1, by omega⟩
          rw [pcs_succ, if_pos hi, isBlank_is, Option.bind_some, decide_eq_true c, if_pos rfl]
          exact h1 k (by omega)
        · refine (h3 acc (by omega)).step (fun k => ?_)
          simp only [vivariumref03_Fields.l0]
          rw [if_pos (by omega), if_pos (by omega), blank_is, Option.bind_some, decide_eq_true c, if_pos rfl, E1.out]
      · obtain ⟨e, g1, g2, g3, g4⟩ := end_ex s (s.size - i) i (by omega)
        have hie : i < e := by
          by_cases q : i = e
          · subst q; exact absurd (g4 hi) c
          · omega
        have hlen := len_is s i e g1 g2 g3 g4
        obtain ⟨L, h1, h2, h3⟩ := ih (n + 1 - (e + 1 - i)) (by omega) (e + 1) (by omega)
        have he : ∀ k, n + 1 - (e - i) < k → pcs s k e = some L := fun k hk => by
          obtain ⟨k, rfl⟩ : ∃ m, k = m + 1 := ⟨k - 1, by omega⟩
          by_cases ce : e < s.size
          · rw [pcs_succ, if_pos ce, isBlank_is, Option.bind_some, decide_eq_true (g4 ce), if_pos rfl]
            exact h1 k (by omega)
          · have hL := h1 (n + 2) (by omega)
            rw [pcs_succ, if_neg (by omega)] at hL
            rw [pcs_succ, if_neg ce]
            exact hL
        refine ⟨⟨(i : Int), s.extract i e⟩ :: L, fun k hk => ?_, ?_, fun acc ha => ?_⟩
        · obtain ⟨k, rfl⟩ : ∃ m, k = m + 1 := ⟨k - 1, by omega⟩
          have hsum : (i : Int) + lenAt s i = (e : Int) := by rw [hlen]; omega
          rw [pcs_succ, if_pos hi, isBlank_is, Option.bind_some, decide_eq_false c, if_neg (by decide), if_pos ⟨by rw [hlen]; omega, by rw [hsum]; omega⟩, hsum, Int.toNat_natCast, he k (by omega)]
          rfl
        · rw [List.length_cons]
          omega
        · have h5 := h3 (acc ++ [⟨(i : Int), s.extract i e⟩]) (by rw [List.length_append, List.length_singleton]; omega)
          rw [List.append_assoc] at h5
          have h6 := piece_go s hs i e g2 g3 g4 acc _ (by omega) h5 (e - i) i (by omega) (Nat.le_refl _)
          refine h6.step (fun k => ?_)
          simp only [vivariumref03_Fields.l0]
          rw [if_pos (by omega), if_pos (by omega), blank_is, Option.bind_some, decide_eq_false c, if_neg (by decide)]
    · refine ⟨[], fun k hk => ?_, by simp, fun acc ha => ?_⟩
      · obtain ⟨k, rfl⟩ : ∃ m, k = m + 1 := ⟨k - 1, by omega⟩
        rw [pcs_succ, if_neg hi]
      · refine Evn.const.step (g' := fun _ => some _) (fun k => ?_)
        simp only [vivariumref03_Fields.l0]
        rw [if_neg (by omega), List.append_nil]
theorem fields_ev (s : ByteArray) (hs : s.size ≤ 1048576) : ∃ L : List Sp, scan_Fields.f s = some L ∧ L.length ≤ 1000000 ∧ Evn (fun k => vivariumref03_Fields.f k s) L := by
  obtain ⟨L, h1, h2, h3⟩ := fields_go s hs s.size 0 (by omega)
  refine ⟨L, ?_, by omega, ?_⟩
  · unfold scan_Fields.f
    rw [if_pos (by omega), h1 (s.size + 1) (by omega), Option.bind_some, if_pos (by omega)]
  · have := h3 [] (by rw [List.length_nil]; omega)
    rw [List.nil_append] at this
    exact this
theorem span_ev (l : List Sp) (hl : l.length ≤ 1000000) : Evn (fun k => vivariumref03_SameSpans.f k l l) true := by
  have : ∀ (d i : Nat), i + d = l.length → Evn (fun k => vivariumref03_SameSpans.l0 k l l (i : Int)) true := by
    intro d
    induction d with
    | zero =>
      intro i h
      refine Evn.const.step (g' := fun _ => some true) (fun k => ?_)
      simp only [vivariumref03_SameSpans.l0]
      rw [if_neg (by omega)]
    | succ d ih =>
      intro i h
      have e : wrap64 ((i : Int) + 1) = ((i + 1 : Nat) : Int) := w64 (by omega) (by omega)
      refine (ih (i + 1) (by omega)).step (fun k => ?_)
      simp only [vivariumref03_SameSpans.l0]
      rw [e, if_pos (by omega), if_pos (by omega), if_pos (by omega)]
      simp only [beq_self_eq_true, Bool.not_true, Bool.or_self, Bool.false_eq_true, if_false]
  refine (this l.length 0 (by omega)).congr (fun k => ?_)
  unfold vivariumref03_SameSpans.f
  rw [if_pos rfl]
  rfl
theorem over_1 (s t : ByteArray) (A B : List Sp) (hfs : scan_Fields.f s = some A) (hrt : Evn (fun k => vivariumref03_Fields.f k t) B) (hA : A.length ≤ 1000000) (hB : B.length ≤ 1000000) : ∀ (d i : Nat) (x7 : List Sp), i + d = 20 → x7.length ≤ 2000000 + i → Evn (fun k => vivariumlaw03_ScanFields.l1 k s t true A x7 B true (i : Int)) true
  | 0, i, x7, h, hx => by
    obtain rfl : i = 20 := by omega
    obtain ⟨K1, k1⟩ := hrt
    obtain ⟨K2, k2⟩ := span_ev A hA
    obtain ⟨K3, k3⟩ := span_ev B hB
    refine ⟨K1 + K2 + K3 + 1, fun k hk => ?_⟩
    obtain ⟨k, rfl⟩ : ∃ m, k = m + 1 := ⟨k - 1, by omega⟩
    have a1 : vivariumref03_Fields.f k t = some B := k1 k (by omega)
    have a2 : vivariumref03_SameSpans.f k A A = some true := k2 k (by omega)
    have a3 : vivariumref03_SameSpans.f k B B = some true := k3 k (by omega)
    simp only [vivariumlaw03_ScanFields.l1]
    rw [if_neg (by omega), hfs, Option.bind_some, a1, Option.bind_some, a3, Option.bind_some, a2]
    rfl
  | d + 1, i, x7, h, hx => by
    have e : wrap64 ((i : Int) + 1) = ((i + 1 : Nat) : Int) := w64 (by omega) (by omega)
    refine (over_1 s t A B hfs hrt hA hB d (i + 1) (x7 ++ [⟨-6, ⟨#[]⟩⟩]) (by omega) (by rw [List.length_append, List.length_singleton]; omega)).step (fun k => ?_)
    simp only [vivariumlaw03_ScanFields.l1]
    rw [if_pos (by omega), if_pos (by omega), e]
theorem over_0 (s t : ByteArray) (A B : List Sp) (hfs : scan_Fields.f s = some A) (hrt : Evn (fun k => vivariumref03_Fields.f k t) B) (hA : A.length ≤ 1000000) (hB : B.length ≤ 1000000) : ∀ (d i : Nat) (x7 : List Sp), i + d = x7.length → x7.length ≤ 1000000 → Evn (fun k => vivariumlaw03_ScanFields.l0 k s t true A x7 B true (i : Int)) true
  | 0, i, x7, h, hx => by
    refine (over_1 s t A B hfs hrt hA hB 20 0 x7 (by omega) (by omega)).step (fun k => ?_)
    simp only [vivariumlaw03_ScanFields.l0]
    rw [if_neg (by omega)]
    rfl
  | d + 1, i, x7, h, hx => by
    have e : wrap64 ((i : Int) + 1) = ((i + 1 : Nat) : Int) := w64 (by omega) (by omega)
    refine (over_0 s t A B hfs hrt hA hB d (i + 1) (x7.set i ⟨-5, ⟨#[]⟩⟩) (by rw [List.length_set]; omega) (by rw [List.length_set]; exact hx)).step (fun k => ?_)
    simp only [vivariumlaw03_ScanFields.l0]
    rw [if_pos (by omega), if_pos (by omega), e, Int.toNat_natCast]
theorem ScanFieldsUpto (a0 a1 : ByteArray) (_ : a0.size ≤ 140737488351232) (_ : a1.size ≤ 140737488351232) (b0 : a0.size ≤ 1048576) (b1 : a1.size ≤ 1048576) : ∃ k, vivariumlaw03_ScanFields.f k a0 a1 = some true := by
  obtain ⟨A, f1, f2, f3⟩ := fields_ev a0 b0
  obtain ⟨B, g1, g2, g3⟩ := fields_ev a1 b1
  obtain ⟨K1, k1⟩ := f3
  obtain ⟨K2, k2⟩ := span_ev A f2
  obtain ⟨K3, k3⟩ := over_0 a0 a1 A B f1 g3 f2 g2 A.length 0 A (by omega) f2
  refine ⟨1000 + K1 + K2 + K3, ?_⟩
  have a1' : vivariumref03_Fields.f (1000 + K1 + K2 + K3) a0 = some A := k1 _ (by omega)
  have a2' : vivariumref03_SameSpans.f (1000 + K1 + K2 + K3) A A = some true := k2 _ (by omega)
  have a3' := k3 (1000 + K1 + K2 + K3) (by omega)
  unfold vivariumlaw03_ScanFields.f
  rw [awake_true _ (by omega), Option.bind_some, a1', Option.bind_some, f1, Option.bind_some, g1, Option.bind_some, a2', Option.bind_some]
  exact a3'
end Go.Proofs.Ytkahgdkpehlanaa.Pure

/- Two cutters at one place answer alike: the program's and the document's. -/
import Derived.Test.YtkahgdkpehlanaaScanNums
import Derived.Test.YtkahgdkpehlanaaEvLib
import Derived.OpenShut
import Derived.Test.YtkahgdkpehlanaaPm5
import Derived.Test.YtkahgdkpehlanaaPm6
import Derived.Test.YtkahgdkpehlanaaPm9
import Derived.Test.YtkahgdkpehlanaaPm8
import Derived.Test.YtkahgdkpehlanaaPm10
set_option linter.unusedVariables false
namespace Go.Proofs.Ytkahgdkpehlanaa.L
open Go.RowKit Go.Proofs.Ytkahgdkpehlanaa.P Go.Proofs.YtkahgdkpehlanaaW.PrintWords Go.Proofs.YtkahgdkpehlanaaW.PrintLast Go.Proofs.YtkahgdkpehlanaaW.PrintMore
theorem bt_n256 (s : ByteArray) (i : Nat) : ∃ n : Nat, n < 256 ∧ bt s (i : Int) = (n : Int) := by
  rw [bt_nat]
  by_cases h : i < s.size
  · rw [dif_pos h]; exact ⟨_, (s[i]'h).toNat_lt, rfl⟩
  · rw [dif_neg h]; exact ⟨0, by decide, rfl⟩
def whi (b : Int) : Bool := (vivariumref03_blank.f b).getD false
def goi (b : Int) : Bool := (vivariumref03_goes.f b).getD false
theorem whi_prog (b : Int) : scan_isBlank.f b = some (whi b) := by
  unfold scan_isBlank.f whi vivariumref03_blank.f
  by_cases c : b = 32
  · rw [if_pos c]; rfl
  · rw [if_neg c]; rfl
theorem whi_ref (b : Int) : vivariumref03_blank.f b = some (whi b) := by
  unfold whi vivariumref03_blank.f
  by_cases c : b = 32
  · rw [if_pos c]; rfl
  · rw [if_neg c]; rfl
theorem goi_both : ∀ n : Nat, n < 256 → scan_inName.f (n : Int) = some (goi n) ∧ vivariumref03_goes.f (n : Int) = some (goi n) ∧ scan_isLetter.f (n : Int) = vivariumref03_letter.f (n : Int) ∧ (vivariumref03_letter.f (n : Int)).isSome = true := by decide +kernel
/-- Where a stretch of bytes ends. -/
theorem stretch (p : Int → Bool) (s : ByteArray) : ∀ (d i : Nat), i + d = s.size → ∃ e, i ≤ e ∧ e ≤ s.size ∧ (∀ j : Nat, i ≤ j → j < e → p (bt s (j : Int)) = true) ∧ (e < s.size → p (bt s (e : Int)) = false)
  | 0, i, h => ⟨i, Nat.le_refl _, by omega, fun j a b => by omega, fun a => by omega⟩
  | d + 1, i, h => by
    by_cases c : p (bt s (i : Int)) = true
    · obtain ⟨e, h1, h2, h3, h4⟩ := stretch p s d (i + 1) (by omega)
      refine ⟨e, by omega, h2, fun j a b => ?_, h4⟩
      by_cases cj : j = i
      · subst cj; exact c
      · exact h3 j (by omega) b
    · exact ⟨i, Nat.le_refl _, by omega, fun j a b => by omega, fun _ => Bool.eq_false_iff.mpr c⟩
theorem spn_is (g : Int → Option Bool) (p : Int → Bool) (s : ByteArray) (a e : Nat) (hg : ∀ j : Nat, g (bt s (j : Int)) = some (p (bt s (j : Int)))) (h2 : e ≤ s.size) (h3 : ∀ j : Nat, a ≤ j → j < e → p (bt s (j : Int)) = true) (h4 : e < s.size → p (bt s (e : Int)) = false) : ∀ (d i k : Nat), a + i + d = e → d < k → spnO g (s.extract a s.size) k i = some (e - a)
  | 0, i, k, h, hk => by
    obtain ⟨k, rfl⟩ : ∃ m, k = m + 1 := ⟨k - 1, by omega⟩
    have hz : (s.extract a s.size).size = s.size - a := by rw [ByteArray.size_extract]; omega
    rw [spnO_succ, hz]
    by_cases c : e < s.size
    · rw [if_pos (by omega), bt_part s a s.size i (by omega) (Nat.le_refl _), hg, Option.bind_some, show a + i = e from by omega, h4 c, if_neg (by decide)]
      congr 1
      omega
    · rw [if_neg (by omega)]
      congr 1
      omega
  | d + 1, i, k, h, hk => by
    obtain ⟨k, rfl⟩ : ∃ m, k = m + 1 := ⟨k - 1, by omega⟩
    have hz : (s.extract a s.size).size = s.size - a := by rw [ByteArray.size_extract]; omega
    rw [spnO_succ, hz, if_pos (by omega), bt_part s a s.size i (by omega) (Nat.le_refl _), hg, Option.bind_some, h3 (a + i) (by omega) (by omega), if_pos rfl]
    exact spn_is g p s a e hg h2 h3 h4 d (i + 1) k (by omega) (by omega)
theorem rest_is (t : ByteArray) (a : Nat) (ha : a ≤ t.size) : scan_Cutter_rest.f t (a : Int) true = some (t.extract a t.size, t, (a : Int), true) := by
  unfold scan_Cutter_rest.f scan_Cutter_there.f
  rw [Option.bind_some]
  dsimp only
  rw [if_pos rfl, if_pos (by omega), if_pos (by omega), Int.toNat_natCast]
theorem at_both (t : ByteArray) (a : Nat) : scan_Cutter_At.f t (a : Int) true = some ((a : Int), t, (a : Int), true) ∧ vivariumref03_Cutter_At.f t (a : Int) = some ((a : Int), t, (a : Int)) := ⟨rfl, rfl⟩
theorem done_both (t : ByteArray) (a : Nat) : scan_Cutter_Done.f t (a : Int) true = some (((a : Int) == (t.size : Int)), t, (a : Int), true) ∧ vivariumref03_Cutter_Done.f t (a : Int) = some (((a : Int) == (t.size : Int)), t, (a : Int)) := ⟨rfl, rfl⟩
theorem peek_both (t : ByteArray) (a : Nat) (ha : a ≤ t.size) : ∃ (r : Int) (b : Bool), scan_Cutter_Peek.f t (a : Int) true = some (r, b, t, (a : Int), true) ∧ vivariumref03_Cutter_Peek.f t (a : Int) = some (r, b, t, (a : Int)) ∧ (b = true ↔ a < t.size) ∧ (b = true → r = bt t (a : Int)) := by
  have hz : (t.extract a t.size).size = t.size - a := by rw [ByteArray.size_extract]; omega
  have hl : (t.extract a t.size).toList.length = t.size - a := by rw [ByteArray.toList_eq, Array.length_toList]; exact hz
  unfold scan_Cutter_Peek.f vivariumref03_Cutter_Peek.f
  rw [rest_is t a ha, Option.bind_some]
  dsimp only
  by_cases c : a = t.size
  · have e : (t.extract a t.size).toList = [] := List.eq_nil_of_length_eq_zero (by omega)
    rw [if_pos e, if_pos (by omega)]
    exact ⟨_, _, rfl, rfl, ⟨fun h => by simp at h, fun h => by omega⟩, fun h => by simp at h⟩
  · have e : ¬ (t.extract a t.size).toList = [] := fun h => by rw [h, List.length_nil] at hl; omega
    rw [if_neg e, if_pos (show (0 : Int) < ((t.extract a t.size).size : Int) by rw [hz]; omega), if_neg (show ¬ (a : Int) = (t.size : Int) by omega), if_pos (show (0 : Int) ≤ (a : Int) by omega), if_pos (show (a : Int) < (t.size : Int) by omega)]
    have hb := bt_part t a t.size 0 (by omega) (Nat.le_refl _)
    rw [Nat.add_zero] at hb
    exact ⟨bt t (a : Int), true, by rw [show ((0 : Int)) = ((0 : Nat) : Int) from rfl, hb], rfl, ⟨fun _ => by omega, fun _ => rfl⟩, fun _ => rfl⟩
theorem take_both (t : ByteArray) (ht : t.size ≤ 140737488351232) (a : Nat) (ha : a ≤ t.size) (c : Int) : ∃ (b : Bool) (a' : Nat), a' ≤ t.size ∧ scan_Cutter_Take.f t (a : Int) true c = some (b, t, (a' : Int), true) ∧ vivariumref03_Cutter_Take.f t (a : Int) c = some (b, t, (a' : Int)) := by
  obtain ⟨r, b, h1, h2, h3, h4⟩ := peek_both t a ha
  unfold scan_Cutter_Take.f vivariumref03_Cutter_Take.f
  rw [h1, Option.bind_some]
  dsimp only
  by_cases cb : b = true
  · have hlt := h3.1 cb
    rw [if_pos cb, h4 cb, if_neg (show ¬ (a : Int) = (t.size : Int) by omega), if_pos (show (0 : Int) ≤ (a : Int) by omega), if_pos (show (a : Int) < (t.size : Int) by omega)]
    have e : wrap64 ((a : Int) + 1) = ((a + 1 : Nat) : Int) := w64 (by omega) (by omega)
    by_cases cc : bt t (a : Int) = c
    · rw [if_pos cc, if_pos cc, e]
      exact ⟨true, a + 1, by clear e; omega, rfl, rfl⟩
    · rw [if_neg cc, if_neg cc]
      exact ⟨false, a, ha, rfl, rfl⟩
  · have hge : a = t.size := Classical.byContradiction fun f => cb (h3.2 (by omega))
    rw [if_neg cb, if_pos (by omega)]
    exact ⟨false, a, ha, rfl, rfl⟩
theorem blanks_ref (t : ByteArray) (ht : t.size ≤ 140737488351232) (e : Nat) (h2 : e ≤ t.size) (a : Nat) (h3 : ∀ j : Nat, a ≤ j → j < e → whi (bt t (j : Int)) = true) (h4 : e < t.size → whi (bt t (e : Int)) = false) : ∀ (d j n : Nat), j + d = e → a ≤ j → n ≤ j → Evn (fun k => vivariumref03_Cutter_Blanks.l0 k (n : Int) t (j : Int)) (((n + d : Nat) : Int), t, (e : Int))
  | 0, j, n, h, hj, hn => by
    obtain rfl : j = e := by omega
    refine Evn.const.step (g' := fun _ => some _) (fun k => ?_)
    simp only [vivariumref03_Cutter_Blanks.l0]
    by_cases c : j < t.size
    · rw [if_pos (by omega), if_pos (by omega), whi_ref, Option.bind_some, h4 c, if_neg (by decide)]
      rfl
    · rw [if_neg (by omega)]
      rfl
  | d + 1, j, n, h, hj, hn => by
    have ih := blanks_ref t ht e h2 a h3 h4 d (j + 1) (n + 1) (by omega) (by omega) (by omega)
    rw [show n + 1 + d = n + (d + 1) from by omega] at ih
    have E1 : Aside0 (wrap64 ((n : Int) + 1) = ((n + 1 : Nat) : Int)) := ⟨w64 (by omega) (by omega)⟩
    have E2 : Aside0 (wrap64 ((j : Int) + 1) = ((j + 1 : Nat) : Int)) := ⟨w64 (by omega) (by omega)⟩
    refine ih.step (fun k => ?_)
    simp only [vivariumref03_Cutter_Blanks.l0]
    rw [if_pos (by omega), if_pos (by omega), whi_ref, Option.bind_some, h3 j hj (by omega), if_pos rfl, E1.out, E2.out]
theorem blanks_both (t : ByteArray) (ht : t.size ≤ 140737488351232) (a : Nat) (ha : a ≤ t.size) : ∃ (r : Int) (a' : Nat), a' ≤ t.size ∧ scan_Cutter_Blanks.f t (a : Int) true = some (r, t, (a' : Int), true) ∧ Evn (fun k => vivariumref03_Cutter_Blanks.f k t (a : Int)) (r, t, (a' : Int)) := by
  obtain ⟨e, g1, g2, g3, g4⟩ := stretch whi t (t.size - a) a (by omega)
  have hz : (t.extract a t.size).size = t.size - a := by rw [ByteArray.size_extract]; omega
  have hs := spn_is scan_isBlank.f whi t a e (fun j => whi_prog _) g2 g3 g4 (e - a) 0 ((t.extract a t.size).size + 1) (by omega) (by omega)
  have hr := blanks_ref t ht e g2 a g3 g4 (e - a) a 0 (by omega) (Nat.le_refl _) (Nat.zero_le _)
  rw [Nat.zero_add] at hr
  refine ⟨((e - a : Nat) : Int), e, g2, ?_, hr⟩
  unfold scan_Cutter_Blanks.f scan_span.f
  rw [rest_is t a ha, Option.bind_some]
  dsimp only
  rw [if_pos (by omega), if_neg (by decide), if_pos rfl, hs, Option.map_some, Option.bind_some]
  by_cases c : e = a
  · rw [if_neg (by omega), c]
  · have E1 : wrap64 ((a : Int) + ((e - a : Nat) : Int)) = (e : Int) := by rw [w64 (by omega) (by omega)]; omega
    rw [E1, if_pos (by clear E1; omega)]
theorem name_ref (t : ByteArray) (ht : t.size ≤ 140737488351232) (e : Nat) (h2 : e ≤ t.size) (a : Nat) (hae : a ≤ e) (h3 : ∀ j : Nat, a ≤ j → j < e → goi (bt t (j : Int)) = true) (h4 : e < t.size → goi (bt t (e : Int)) = false) : ∀ (d j : Nat), j + d = e → a ≤ j → Evn (fun k => vivariumref03_Cutter_Name.l0 k (j : Int) t (a : Int)) (if ((e - a : Nat) : Int) > 32 then ((⟨#[]⟩ : ByteArray), 6, t, (a : Int)) else (t.extract a e, 0, t, (e : Int)))
  | 0, j, h, hj => by
    obtain rfl : j = e := by omega
    have E1 : Aside0 (wrap64 ((j : Int) - (a : Int)) = ((j - a : Nat) : Int)) := ⟨by rw [w64 (by omega) (by omega)]; omega⟩
    refine Evn.const.step (g' := fun _ => some _) (fun k => ?_)
    simp only [vivariumref03_Cutter_Name.l0]
    rw [E1.out, Int.toNat_natCast, Int.toNat_natCast]
    by_cases c : j < t.size
    · obtain ⟨n, hn, hb⟩ := bt_n256 t j
      have hg : vivariumref03_goes.f (bt t (j : Int)) = some (goi (bt t (j : Int))) := by rw [hb]; exact (goi_both n hn).2.1
      rw [if_pos (by omega), if_pos (by omega), hg, Option.bind_some, h4 c, if_neg (by decide)]
      by_cases cc : ((j - a : Nat) : Int) > 32
      · rw [if_pos cc, if_pos cc]
      · rw [if_neg cc, if_neg cc, if_pos (by omega), if_pos (by omega), if_pos (by omega)]
    · rw [if_neg (by omega)]
      by_cases cc : ((j - a : Nat) : Int) > 32
      · rw [if_pos cc, if_pos cc]
      · rw [if_neg cc, if_neg cc, if_pos (by omega), if_pos (by omega), if_pos (by omega)]
  | d + 1, j, h, hj => by
    have ih := name_ref t ht e h2 a hae h3 h4 d (j + 1) (by omega) (by omega)
    have E2 : Aside0 (wrap64 ((j : Int) + 1) = ((j + 1 : Nat) : Int)) := ⟨w64 (by omega) (by omega)⟩
    obtain ⟨n, hn, hb⟩ := bt_n256 t j
    have hg : vivariumref03_goes.f (bt t (j : Int)) = some (goi (bt t (j : Int))) := by rw [hb]; exact (goi_both n hn).2.1
    refine ih.step (fun k => ?_)
    simp only [vivariumref03_Cutter_Name.l0]
    rw [if_pos (by omega), if_pos (by omega), hg, Option.bind_some, h3 j hj (by omega), if_pos rfl, E2.out]
theorem extract_ext (t : ByteArray) (a e : Nat) (h : a ≤ e) (h2 : e ≤ t.size) : (t.extract a t.size).extract 0 (e - a) = t.extract a e := by
  apply ByteArray.ext
  apply Array.toList_inj.1
  simp only [ByteArray.data_extract, Array.toList_extract, List.extract_eq_take_drop, List.drop_zero, Nat.sub_zero]
  rw [List.take_take]
  congr 1
  have : t.size = t.data.size := rfl
  omega
theorem name_both (t : ByteArray) (ht : t.size ≤ 140737488351232) (a : Nat) (ha : a ≤ t.size) : ∃ (r : ByteArray) (f : Int) (a' : Nat), a' ≤ t.size ∧ Evn (fun k => scan_Cutter_Name.f k t (a : Int) true) (r, f, t, (a' : Int), true) ∧ Evn (fun k => vivariumref03_Cutter_Name.f k t (a : Int)) (r, f, t, (a' : Int)) := by
  have hz : (t.extract a t.size).size = t.size - a := by rw [ByteArray.size_extract]; omega
  have hl : (t.extract a t.size).toList.length = t.size - a := by rw [ByteArray.toList_eq, Array.length_toList]; exact hz
  have bad : ∀ (g : Nat → Option (ByteArray × Int × ByteArray × Int × Bool)), (∀ k, g k = scan_Cutter_Name.j0 k (t.extract a t.size) true t (a : Int) true) → Evn g (⟨#[]⟩, 31, t, (a : Int), true) := fun g hg => by
    refine (Evn.step (g := fun k => scan_Cutter_Name.j0 k (t.extract a t.size) true t (a : Int) true) (g' := fun _ => some (⟨#[]⟩, 31, t, (a : Int), true)) Evn.const (fun k => ?_)).congr hg
    simp only [scan_Cutter_Name.j0, if_true]
  have bad2 : ∀ (g : Nat → Option (ByteArray × Int × ByteArray × Int)), (∀ k, g k = vivariumref03_Cutter_Name.j0 k true t (a : Int)) → Evn g (⟨#[]⟩, 31, t, (a : Int)) := fun g hg => by
    refine (Evn.step (g := fun k => vivariumref03_Cutter_Name.j0 k true t (a : Int)) (g' := fun _ => some (⟨#[]⟩, 31, t, (a : Int))) Evn.const (fun k => ?_)).congr hg
    simp only [vivariumref03_Cutter_Name.j0, if_true]
  have hthere : ∀ k, scan_Cutter_Name.f k t (a : Int) true = (if (t.extract a t.size).toList = ([] : List UInt8) then (scan_Cutter_Name.j0 k (t.extract a t.size) true t (a : Int) true) else (if 0 < ((t.extract a t.size).size : Int) then ((scan_isLetter.f (bt (t.extract a t.size) 0)).bind fun t155 => (scan_Cutter_Name.j0 k (t.extract a t.size) (!t155) t (a : Int) true)) else (none))) := fun k => by
    unfold scan_Cutter_Name.f scan_Cutter_there.f
    rw [Option.bind_some]
    dsimp only
    rw [if_pos rfl, rest_is t a ha, Option.bind_some]
  by_cases c : a = t.size
  · have e : (t.extract a t.size).toList = [] := List.eq_nil_of_length_eq_zero (by omega)
    refine ⟨⟨#[]⟩, 31, a, ha, bad _ (fun k => ?_), bad2 _ (fun k => ?_)⟩
    · rw [hthere, if_pos e]
    · unfold vivariumref03_Cutter_Name.f
      rw [if_pos (by omega)]
  · have e : ¬ (t.extract a t.size).toList = [] := fun h => by rw [h, List.length_nil] at hl; omega
    have hb0 := bt_part t a t.size 0 (by omega) (Nat.le_refl _)
    rw [Nat.add_zero] at hb0
    have hb0' : bt (t.extract a t.size) 0 = bt t (a : Int) := hb0
    obtain ⟨n, hn, hb⟩ := bt_n256 t a
    obtain ⟨_, _, q3, q4⟩ := goi_both n hn
    obtain ⟨lt, hlt⟩ := Option.isSome_iff_exists.1 q4
    have p1 : ∀ k, scan_Cutter_Name.f k t (a : Int) true = scan_Cutter_Name.j0 k (t.extract a t.size) (!lt) t (a : Int) true := fun k => by
      rw [hthere, if_neg e, if_pos (by rw [hz]; omega), hb0', hb, q3, hlt, Option.bind_some]
    have p2 : ∀ k, vivariumref03_Cutter_Name.f k t (a : Int) = vivariumref03_Cutter_Name.j0 k (!lt) t (a : Int) := fun k => by
      unfold vivariumref03_Cutter_Name.f
      rw [if_neg (by omega), if_pos (by omega), if_pos (by omega), hb, hlt, Option.bind_some]
    cases lt
    · exact ⟨⟨#[]⟩, 31, a, ha, bad _ p1, bad2 _ p2⟩
    · obtain ⟨e, g1, g2, g3, g4⟩ := stretch goi t (t.size - a) a (by omega)
      have hs := spn_is scan_inName.f goi t a e (fun j => by obtain ⟨n, hn, hb⟩ := bt_n256 t j; rw [hb]; exact (goi_both n hn).1) g2 g3 g4 (e - a) 0 ((t.extract a t.size).size + 1) (by omega) (by omega)
      have hr := name_ref t ht e g2 a g1 g3 g4 (e - a) a (by omega) (Nat.le_refl _)
      have hsp : scan_span.f (t.extract a t.size) 56 = some ((e - a : Nat) : Int) := by
        unfold scan_span.f
        rw [if_pos (by omega), if_neg (by decide), if_neg (by decide), if_pos rfl, hs]
        rfl
      have hj0 : ∀ k, scan_Cutter_Name.j0 (k + 1) (t.extract a t.size) false t (a : Int) true = some (if ((e - a : Nat) : Int) > 32 then ((⟨#[]⟩ : ByteArray), 6, t, (a : Int), true) else (t.extract a e, 0, t, (e : Int), true)) := fun k => by
        have E1 : wrap64 ((a : Int) + ((e - a : Nat) : Int)) = (e : Int) := by rw [w64 (by omega) (by omega)]; omega
        simp only [scan_Cutter_Name.j0]
        rw [if_neg (by decide), hsp, Option.bind_some, E1]
        clear E1
        by_cases cc : ((e - a : Nat) : Int) > 32
        · rw [if_pos cc, if_pos cc]
        · rw [if_neg cc, if_neg cc, if_pos (by omega), if_pos (by rw [hz]; omega), Int.toNat_natCast, extract_ext t a e g1 g2]
      have hj2 : ∀ k, vivariumref03_Cutter_Name.j0 (k + 1) false t (a : Int) = vivariumref03_Cutter_Name.l0 k (a : Int) t (a : Int) := fun k => by
        simp only [vivariumref03_Cutter_Name.j0]
        rw [if_neg (by decide)]
      by_cases cc : ((e - a : Nat) : Int) > 32
      · rw [if_pos cc] at hr
        refine ⟨⟨#[]⟩, 6, a, ha, ?_, ?_⟩
        · refine (Evn.step (g := fun k => scan_Cutter_Name.j0 k (t.extract a t.size) false t (a : Int) true) (g' := fun _ => some (⟨#[]⟩, 6, t, (a : Int), true)) Evn.const (fun k => ?_)).congr p1
          rw [hj0, if_pos cc]
        · exact (hr.step (g := fun k => vivariumref03_Cutter_Name.j0 k false t (a : Int)) hj2).congr p2
      · rw [if_neg cc] at hr
        refine ⟨t.extract a e, 0, e, g2, ?_, ?_⟩
        · refine (Evn.step (g := fun k => scan_Cutter_Name.j0 k (t.extract a t.size) false t (a : Int) true) (g' := fun _ => some (t.extract a e, 0, t, (e : Int), true)) Evn.const (fun k => ?_)).congr p1
          rw [hj0, if_neg cc]
        · exact (hr.step (g := fun k => vivariumref03_Cutter_Name.j0 k false t (a : Int)) hj2).congr p2
theorem number_both (t : ByteArray) (ht : t.size ≤ 140737488351232) (a : Nat) (ha : a ≤ t.size) : ∃ (r : Int) (f : Int) (a' : Nat), a' ≤ t.size ∧ Evn (fun k => scan_Cutter_Number.f k t (a : Int) true) (r, f, t, (a' : Int), true) ∧ Evn (fun k => vivariumref03_Cutter_Number.f k t (a : Int)) (r, f, t, (a' : Int)) := by
  have hz : (t.extract a t.size).size = t.size - a := by rw [ByteArray.size_extract]; omega
  obtain ⟨c, hc⟩ : ∃ c, cnt t (t.size - a) a = c := ⟨_, rfl⟩
  have hac : a + c ≤ t.size := by
    by_cases q : c = 0
    · omega
    · have := (cnt_digits t (t.size - a) a (c - 1) (by omega)).1
      omega
  have hsp : scan_span.f (t.extract a t.size) 38 = some (c : Int) := by
    have h := span_cnt t a ha (t.size - a) 0 (by omega) (by omega)
    unfold scan_span.f
    rw [if_pos (by omega), if_pos rfl, hz, h, Nat.zero_add, Nat.add_zero, hc]
    rfl
  have hthere : ∀ k, scan_Cutter_Number.f k t (a : Int) true = (if (c : Int) = 0 then (some (0, 10, t, (a : Int), true)) else (if 0 ≤ (c : Int) then (if (c : Int) ≤ ((t.extract a t.size).size : Int) then ((scan_value.f k ((t.extract a t.size).extract 0 ((c : Int)).toNat)).bind fun bt145 => (if bt145.2 = true then (some (bt145.1, 0, t, wrap64 ((a : Int) + (c : Int)), true)) else (some (0, 11, t, (a : Int), true)))) else (none)) else (none))) := fun k => by
    unfold scan_Cutter_Number.f scan_Cutter_there.f
    rw [Option.bind_some]
    dsimp only
    rw [if_pos rfl, rest_is t a ha, Option.bind_some]
    dsimp only
    rw [hsp, Option.bind_some]
  have href : ∀ k, 2 * (t.size - a) + 2 < k → ∃ n', vivariumref03_number.f k t (a : Int) = some (n', ((a + c : Nat) : Int), decide (vv t c a 0 ≤ 9223372036854775807)) ∧ (vv t c a 0 ≤ 9223372036854775807 → n' = vv t c a 0) := fun k hk => by
    obtain ⟨n', h1, h2⟩ := number_good t ht (t.size - a) a k 0 (by decide) (by decide) (by omega) ha hk
    rw [hc] at h1 h2
    exact ⟨n', h1, h2⟩
  by_cases q : c = 0
  · subst q
    refine ⟨0, 10, a, ha, Evn.const.congr (fun k => ?_), ⟨2 * (t.size - a) + 3, fun k hk => ?_⟩⟩
    · rw [hthere, if_pos (show ((0 : Nat) : Int) = 0 from rfl)]
    · obtain ⟨n', h1, h2⟩ := href k (by omega)
      show vivariumref03_Cutter_Number.f k t (a : Int) = _
      unfold vivariumref03_Cutter_Number.f
      rw [h1, Option.bind_some]
      dsimp only
      rw [if_pos (by omega)]
  · have hv : ∀ k, c + 3 < k → scan_value.f k ((t.extract a t.size).extract 0 c) = some (if vv t c a 0 ≤ 9223372036854775807 then (vv t c a 0, true) else (0, false)) := fun k hk => by
      have hex : (t.extract a t.size).extract 0 c = t.extract a (a + c) := by
        have := extract_ext t a (a + c) (by omega) hac
        rwa [Nat.add_sub_cancel_left] at this
      rw [hex]
      exact value_go t (t.extract a (a + c)) a c (by rw [ByteArray.size_extract]; omega) (fun j hj => bt_part t a (a + c) j (by omega) hac) (fun j hj => cnt_digits t (t.size - a) a j (by omega)) (by omega) c 0 k 0 (by omega) (by omega) (by omega) (by omega) (by omega)
    have E1 : Aside0 (wrap64 ((a : Int) + (c : Int)) = ((a + c : Nat) : Int)) := ⟨w64 (by omega) (by omega)⟩
    by_cases fit : vv t c a 0 ≤ 9223372036854775807
    · refine ⟨vv t c a 0, 0, a + c, hac, ⟨c + 4, fun k hk => ?_⟩, ⟨2 * (t.size - a) + 3, fun k hk => ?_⟩⟩
      · show scan_Cutter_Number.f k t (a : Int) true = _
        rw [hthere, if_neg (by omega), if_pos (by omega), if_pos (by rw [hz]; omega), Int.toNat_natCast, hv k (by omega), Option.bind_some, if_pos fit, if_pos rfl, E1.out]
      · obtain ⟨n', h1, h2⟩ := href k (by omega)
        show vivariumref03_Cutter_Number.f k t (a : Int) = _
        unfold vivariumref03_Cutter_Number.f
        rw [h1, Option.bind_some]
        dsimp only
        rw [if_neg (by omega), if_pos (decide_eq_true fit), h2 fit]
    · refine ⟨0, 11, a, ha, ⟨c + 4, fun k hk => ?_⟩, ⟨2 * (t.size - a) + 3, fun k hk => ?_⟩⟩
      · show scan_Cutter_Number.f k t (a : Int) true = _
        rw [hthere, if_neg (by omega), if_pos (by omega), if_pos (by rw [hz]; omega), Int.toNat_natCast, hv k (by omega), Option.bind_some, if_neg fit, if_neg (by decide)]
      · obtain ⟨n', h1, h2⟩ := href k (by omega)
        show vivariumref03_Cutter_Number.f k t (a : Int) = _
        unfold vivariumref03_Cutter_Number.f
        rw [h1, Option.bind_some]
        dsimp only
        rw [if_neg (by omega), if_neg (by rw [decide_eq_true_eq]; exact fit)]
end Go.Proofs.Ytkahgdkpehlanaa.L

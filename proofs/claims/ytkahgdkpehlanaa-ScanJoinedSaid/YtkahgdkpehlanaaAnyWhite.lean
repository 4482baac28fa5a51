/- strings.IndexAny at " \t" and any text: the first blank byte. -/
import Derived.Test.YtkahgdkpehlanaaShelf
import Derived.Test.YtkahgdkpehlanaaWWords
import Derived.Test.YtkahgdkpehlanaaWLast
import Derived.Laws.Runes
import Derived.Laws.RangeAny
import Derived.Laws.RangeString
import Derived.WalkLawsBesides
import Derived.Deep.DeepMust
import Derived.RangeFuncOwn
import Derived.WalkKit
import Derived.LoopTactic
import Derived.Deep.LoopGhost
import Derived.Deep.QuietTactic
import Derived.BigQuiet
namespace Go.Proofs.Ytkahgdkpehlanaa.L
open Go.Shelf Go.RowKit Go.Proofs.YtkahgdkpehlanaaW.PrintWords Go.Proofs.YtkahgdkpehlanaaW.PrintLast
/-- Blank and tab. -/
def wht : ByteArray := ⟨#[32, 9]⟩
theorem wht_size : wht.size = 2 := rfl
theorem dec0 : Utf8.decode wht 0 = (32, 1) := by decide +kernel
theorem dec1 : Utf8.decode wht 1 = (9, 1) := by decide +kernel
set_option maxHeartbeats 4000000 in
set_option maxRecDepth 100000 in
/-- The replacement's rune is none of them. -/
theorem ixr_bad (w : World) : Calls Try.prog 66 #[.string wht, .int .i32 65533] w fun e w' => e = .returned (.int .i64 (-1)) ∧ Below w.heap.size w w' := by
  go_enter Try.func66, Try.ntmps66
  go_wp2_with (first | go_step3 | fail)
  go_loopw [5, 6] (fun _ _ wr => ∃ pos : Nat, pos ≤ 2 ∧ wr = w.iter wht pos) (fun _ _ wr => 2 - wr.iterPos w.heap.size)
  case atStart => exact ⟨0, by omega, rfl⟩
  case round =>
    obtain ⟨pos, hp, rfl⟩ := hrel
    rcases (by omega : pos = 0 ∨ pos = 1 ∨ pos = 2) with rfl | rfl | rfl
    · have hnx := fun ty => run_next_any (P := Try.prog) w wht 0 ty (by decide)
      simp only [dec0] at hnx
      go_wp2_with (first | go_step3 | fail)
      go_roundw
      case rel => exact ⟨1, by omega, rfl⟩
      case measure => simp
    · have hnx := fun ty => run_next_any (P := Try.prog) w wht 1 ty (by decide)
      simp only [dec1] at hnx
      go_wp2_with (first | go_step3 | fail)
      go_roundw
      case rel => exact ⟨2, by omega, rfl⟩
      case measure => simp
    · have hnx : ∀ ty, (Instr.next (.pointer (some ⟨w.heap.size, 0, none⟩)) true ty).run Try.prog (w.iter wht 2) = .ok (.tuple #[.bool false]) (w.iter wht 2) := fun ty => run_next_end (P := Try.prog) w wht 2 ty (by decide)
      go_wp2_with (first | go_step3 | fail)
      try rw [Exit.noGoto_ret]
      go_ret
      exact ⟨rfl, (Below.refl _ w).alloc (Nat.le_refl _) _⟩
set_option maxHeartbeats 4000000 in
set_option maxRecDepth 100000 in
/-- A rune that is none is none of them. -/
theorem ixr_none (r : Int) (h0 : 128 ≤ r) (h1 : r ≠ 65533) (hv : Lib.validRune r = false) (w : World) : Calls Try.prog 66 #[.string wht, .int .i32 r] w fun e w' => e = .returned (.int .i64 (-1)) ∧ Below w.heap.size w w' := by
  have b1 : (r == 65533) = false := beq_eq_false_iff_ne.mpr h1
  have b2 : decide (r < 128) = false := decide_eq_false (by omega)
  have b3 : decide (0 ≤ r) = true := decide_eq_true (by omega)
  clear h1
  go_enter Try.func66, Try.ntmps66
  go_wp2_with (first | go_step3 | (go_at_call 73; refine (Try.utf8_ValidRune r _).mono ?_; rintro e w' ⟨rfl, hw⟩; rw [hw, hv]))
  try rw [Exit.noGoto_ret]
  go_ret
  exact ⟨rfl, Below.refl _ w⟩
set_option maxHeartbeats 4000000 in
set_option maxRecDepth 100000 in
theorem ixr_long (r : Int) (h0 : 128 ≤ r) (h1 : r ≠ 65533) (hv : Lib.validRune r = true) (t : ByteArray) (ht : Utf8.encode r = t) (hz : 3 ≤ t.size ∧ t.size ≤ 4) (w : World) : Calls Try.prog 66 #[.string wht, .int .i32 r] w fun e w' => e = .returned (.int .i64 (-1)) ∧ Below w.heap.size w w' := by
  have b1 : (r == 65533) = false := beq_eq_false_iff_ne.mpr h1
  have b2 : decide (r < 128) = false := decide_eq_false (by omega)
  have b3 : decide (0 ≤ r) = true := decide_eq_true (by omega)
  have b4 : ¬ (t.size : Int) - 1 < (wht.size : Int) := by rw [wht_size]; omega
  have b5 : ¬ (t.size : Int) - 1 < 2 := by omega
  clear h1
  go_enter Try.func66, Try.ntmps66
  go_wp2_with (first | go_step3 | (go_at_call 73; refine (Try.utf8_ValidRune r _).mono ?_; rintro e w' ⟨rfl, hw⟩; rw [hw, hv]))
  refine wp_loop_rounds 1 ?_
  rw [rounds_succ]
  go_wp2_with (first | go_step3 | fail)
  try rw [Exit.noGoto_ret]
  go_ret
  exact ⟨rfl, Below.refl _ w⟩
theorem ixb_nil (c : Int) (w : World) : Calls Try.prog 72 #[.string ⟨#[]⟩, .int .u8 c] w fun e w' => e = .returned (.int .i64 (-1)) ∧ Drawn0 w w' := by
  refine (Try.strings_IndexByte ⟨#[]⟩ c w).mono ?_
  rintro e w' ⟨rfl, rfl⟩
  exact ⟨rfl, Drawn0.refl _⟩
set_option maxHeartbeats 4000000 in
set_option maxRecDepth 100000 in
theorem ixr_two (r : Int) (h0 : 128 ≤ r) (h1 : r ≠ 65533) (hv : Lib.validRune r = true) (t : ByteArray) (ht : Utf8.encode r = t) (hz : t.size = 2) (hb : ∀ h : 1 < t.size, 128 ≤ (t[1]'h).toNat) (w : World) : Calls Try.prog 66 #[.string wht, .int .i32 r] w fun e w' => e = .returned (.int .i64 (-1)) ∧ Below w.heap.size w w' := by
  have b1 : (r == 65533) = false := beq_eq_false_iff_ne.mpr h1
  have b2 : decide (r < 128) = false := decide_eq_false (by omega)
  have b3 : decide (0 ≤ r) = true := decide_eq_true (by omega)
  obtain ⟨x, hx⟩ : ∃ x : UInt8, t[1]'(by omega) = x := ⟨_, rfl⟩
  have hx128 : 128 ≤ x.toNat := by rw [← hx]; exact hb (by omega)
  have b6 : ((9 : Int) != (x.toNat : Int)) = true := bne_iff_ne.mpr (by omega)
  have hwr : IntKind.i64.wrap 2 = 2 := by decide
  have hw2 : decide ((1 : Int) < (wht.size : Int)) = true := rfl
  have hs7 : ∀ w : World, (Instr.slice 9 (.string wht) (some (.int .i64 2)) none none).run Try.prog w = .ok (.string ⟨#[]⟩) w := fun w => by kernel_rfl
  have i1 : ∀ w : World, (Instr.index 9 (.string wht) (.int .i64 1)).run Try.prog w = .ok (.int .u8 9) w := fun w => by kernel_rfl
  have i2 : ∀ w : World, (Instr.index 9 (.string t) (.int .i64 1)).run Try.prog w = .ok (.int .u8 x.toNat) w := fun w => by
    have h := run_index_string (P := Try.prog) (w := w) 9 t .i64 1 Try.underlying9
    rw [h, dif_pos ⟨by omega, by omega⟩, ← hx]
    rfl
  clear h1 hb hx
  go_enter Try.func66, Try.ntmps66
  go_wp2_with (first | go_step3 | (go_at_call 73; refine (Try.utf8_ValidRune r _).mono ?_; rintro e w' ⟨rfl, hw⟩; rw [hw, hv]))
  refine wp_loop_rounds 1 ?_
  rw [rounds_succ]
  go_wp2_with (first | go_step3 | fail)
  go_quiet (fail)
  go_wp2_with (first | go_step3 | fail)
  go_quiet (first | (go_at_call 72; (with_reducible refine (ixb_nil _ _).mono ?_); rintro e w' ⟨rfl, ⟨nd, rfl⟩⟩; (try first | exact ⟨rfl, _, World.drewN_drewN _ _ _⟩ | exact ⟨rfl, _, Eq.trans (World.drewN_drewN _ _ _) (congrArg (World.drewN _) (Nat.add_assoc _ _ _))⟩)))
  go_wp2_with (first | go_step3 | fail)
  repeat (first | rw [Exit.noGoto_ret] | simp only [Exit.inBlock, Exit.then])
  go_ret
  exact ⟨rfl, pw_below_drewN (Below.refl _ w) _⟩
/-- A rune that is none of them. -/
theorem ixr_high (r : Int) (h0 : 128 ≤ r) (w : World) : Calls Try.prog 66 #[.string wht, .int .i32 r] w fun e w' => e = .returned (.int .i64 (-1)) ∧ Below w.heap.size w w' := by
  by_cases h1 : r = 65533
  · subst h1; exact ixr_bad w
  · by_cases hv : Lib.validRune r = true
    · have hv2 : Utf8.valid r = true := by
        unfold Lib.validRune at hv
        unfold Utf8.valid
        rw [decide_eq_true_eq] at hv
        simp only [Bool.or_eq_true, Bool.and_eq_true, decide_eq_true_eq]
        omega
      obtain ⟨z1, z2, z3⟩ := encode_facts r hv2 h0
      obtain ⟨t, ht⟩ : ∃ t, Utf8.encode r = t := ⟨_, rfl⟩
      rw [ht] at z1 z2
      by_cases c : t.size = 2
      · refine ixr_two r h0 h1 hv t ht c (fun h => ?_) w
        subst ht
        have := z3 (by omega)
        simp only [c] at this
        exact this
      · exact ixr_long r h0 h1 hv t ht ⟨by omega, z2⟩ w
    · exact ixr_none r h0 h1 (Bool.eq_false_iff.mpr hv) w
theorem nx_at {P : Program} (W : World) (g : Nat) (s : ByteArray) (pos : Nat) (ty : TypeId) (h : pos < s.size) (hg : W.heap[g]? = some (.stringIter s pos)) :
    (Instr.next (.pointer (some ⟨g, 0, none⟩)) true ty).run P W = .ok (.tuple #[.bool true, .int .i64 pos, .int .i32 (Utf8.decode s pos).1]) (W.putObj g (.stringIter s (pos + (Utf8.decode s pos).2))) := by
  simp only [Instr.next, getObj, setObj, Sem.run_bind, Sem.run, hg, Result.andThen, h, if_true]
  simp [goInt, World.putObj]
theorem nx_end {P : Program} (W : World) (g : Nat) (s : ByteArray) (pos : Nat) (ty : TypeId) (h : ¬ pos < s.size) (hg : W.heap[g]? = some (.stringIter s pos)) :
    (Instr.next (.pointer (some ⟨g, 0, none⟩)) true ty).run P W = .ok (.tuple #[.bool false]) W := by
  simp [Instr.next, getObj, Sem.run, hg, h]
theorem get_bang (s : ByteArray) (i : Nat) (h : i < s.size) : s.get! i = s[i]'h := by
  have := get_at s i h
  rwa [Nat.add_zero] at this
/-- What a rune's bytes go over: no byte below 128, if the first one is none. -/
theorem dec_skip (s : ByteArray) (pos : Nat) (h : pos < s.size) (ha : 128 ≤ (s[pos]'h).toNat) : pos + (Utf8.decode s pos).2 ≤ s.size ∧ ∀ j, pos ≤ j → j < pos + (Utf8.decode s pos).2 → ∀ hj : j < s.size, 128 ≤ (s[j]'hj).toNat := by
  have h0 : ∀ j, pos ≤ j → j < pos + 1 → ∀ hj : j < s.size, 128 ≤ (s[j]'hj).toNat := fun j h1 h2 hj => by
    obtain rfl : j = pos := by omega
    exact ha
  have hc : ∀ k, (decide (pos + k < s.size) && (s.get! (pos + k)).toNat / 64 == 2) = true → pos + k < s.size ∧ ∀ hj : pos + k < s.size, 128 ≤ (s[pos + k]'hj).toNat := fun k e => by
    simp only [Bool.and_eq_true, decide_eq_true_eq, beq_iff_eq] at e
    refine ⟨e.1, fun hj => ?_⟩
    rw [← get_bang s (pos + k) hj]
    omega
  have hn : ¬ (s[pos]'h).toNat < 128 := by omega
  simp only [Utf8.decode, get_at s pos h, hn, if_false]
  split
  · rename_i e1
    rw [Bool.and_eq_true] at e1
    obtain ⟨c1, d1⟩ := hc 1 e1.2
    split
    · refine ⟨by dsimp only; omega, fun j h1 h2 hj => ?_⟩
      dsimp only at h2
      rcases (by omega : j = pos ∨ j = pos + 1) with rfl | rfl
      · exact ha
      · exact d1 hj
    · exact ⟨by dsimp only; omega, h0⟩
  · split
    · rename_i e1
      rw [Bool.and_eq_true, Bool.and_eq_true] at e1
      obtain ⟨c1, d1⟩ := hc 1 e1.1.2
      obtain ⟨c2, d2⟩ := hc 2 e1.2
      split
      · refine ⟨by dsimp only; omega, fun j h1 h2 hj => ?_⟩
        dsimp only at h2
        rcases (by omega : j = pos ∨ j = pos + 1 ∨ j = pos + 2) with rfl | rfl | rfl
        · exact ha
        · exact d1 hj
        · exact d2 hj
      · exact ⟨by dsimp only; omega, h0⟩
    · split
      · rename_i e1
        rw [Bool.and_eq_true, Bool.and_eq_true, Bool.and_eq_true] at e1
        obtain ⟨c1, d1⟩ := hc 1 e1.1.1.2
        obtain ⟨c2, d2⟩ := hc 2 e1.1.2
        obtain ⟨c3, d3⟩ := hc 3 e1.2
        split
        · refine ⟨by dsimp only; omega, fun j h1 h2 hj => ?_⟩
          dsimp only at h2
          rcases (by omega : j = pos ∨ j = pos + 1 ∨ j = pos + 2 ∨ j = pos + 3) with rfl | rfl | rfl | rfl
          · exact ha
          · exact d1 hj
          · exact d2 hj
          · exact d3 hj
        · exact ⟨by dsimp only; omega, h0⟩
      · exact ⟨by dsimp only; omega, h0⟩
theorem noany_to {s : ByteArray} {i : Nat} : ∀ (d : Nat), Lib.NoAny s.data.toList [32, 9] i → i + d ≤ s.size → (∀ j, i ≤ j → j < i + d → ∀ hj : j < s.size, 128 ≤ (s[j]'hj).toNat) → Lib.NoAny s.data.toList [32, 9] (i + d)
  | 0, h, _, _ => h
  | d + 1, h, h1, h2 => by
    have ih := noany_to d h (by omega) (fun j a b hj => h2 j a (by omega) hj)
    have hlt : i + d < s.size := by omega
    have hx := h2 (i + d) (by omega) (by omega) hlt
    refine ih.succ (x := s[i + d]'hlt) (Lib.data_getElem? s (i + d) hlt) ?_
    simp only [List.contains_cons, List.contains_nil, Bool.or_false, Bool.or_eq_false_iff, beq_eq_false_iff_ne]
    constructor <;> intro e <;> rw [e] at hx <;> exact absurd hx (by decide)
set_option maxHeartbeats 8000000 in
set_option maxRecDepth 1000000 in
/-- A short text, of any bytes. -/
theorem anyw_short (s : ByteArray) (h8 : s.size ≤ 8) (w : World) : Calls Try.prog 59 #[.string s, .string wht] w fun e w' => e = .returned (.int .i64 (Lib.indexAny s.data.toList [32, 9])) ∧ Below w.heap.size w w' := by
  have h8z : decide ((8 : Int) < (s.size : Int)) = false := decide_eq_false (by omega)
  have hemp : wht.toList.isEmpty = false := by decide +kernel
  have hn1 : ((wht.size : Int) == 1) = false := rfl
  go_enter Try.func59, Try.ntmps59
  go_wp2_with (go_at_call 67; refine (Try.strings_shouldUseASCIISet _ _).mono ?_; rintro e w' ⟨rfl, hw⟩; rw [hw, h8z])
  go_loopw [9, 10] (fun _ _ wr => ∃ i : Nat, i ≤ s.size ∧ Aside0 (Lib.NoAny s.data.toList [32, 9] i) ∧ Aside0 (wr.heap[w.heap.size]? = some (.stringIter s i)) ∧ Aside0 (Below w.heap.size w wr)) (fun _ _ wr => s.size - wr.iterPos w.heap.size)
  case atStart => exact ⟨0, Nat.zero_le _, ⟨Lib.NoAny.zero _ _⟩, ⟨World.iter_heap w s 0⟩, ⟨(Below.refl _ w).alloc (Nat.le_refl _) _⟩⟩
  case round =>
    obtain ⟨i, hi0, HN, HIt, HB⟩ := hrel
    have hglt := (Array.getElem?_eq_some_iff.1 HIt.out).1
    have HIP : Aside0 (wr.iterPos w.heap.size = i) := ⟨by simp only [World.iterPos, HIt.out]⟩
    by_cases hi : i < s.size
    · have hnx0 : ∀ ty, (Instr.next (.pointer (some ⟨w.heap.size, 0, none⟩)) true ty).run Try.prog wr = _ := fun ty => nx_at wr w.heap.size s i ty hi HIt.out
      by_cases ha : (s[i]'hi).toNat < 128
      · have hd := decode_ascii s i hi ha
        obtain ⟨x, hx⟩ : ∃ x : UInt8, s[i]'hi = x := ⟨_, rfl⟩
        have Hx : Aside0 (s.data.toList[i]? = some x) := ⟨by rw [← hx]; exact Lib.data_getElem? s i hi⟩
        rw [hx] at hd ha
        rw [hd] at hnx0
        dsimp only at hnx0
        have HIp : Aside0 ((wr.putObj w.heap.size (.stringIter s (i + 1))).heap[w.heap.size]? = some (.stringIter s (i + 1))) := ⟨World.putObj_heap_same hglt⟩
        have HBp : Aside0 (Below w.heap.size w (wr.putObj w.heap.size (.stringIter s (i + 1)))) := ⟨HB.out.grown (grownBy_putObj' _ _ _) HB.out.size (fun k e => by cases e; exact Nat.le_refl _)⟩
        have hback : ((x.toNat : Int)).toNat.toUInt8 = x := by simp
        have hcon := Lib.contains_iff_indexByte [32, 9] x
        have hasc := Try.strings_IndexRune_ascii wht (x.toNat : Int) (wr.putObj w.heap.size (.stringIter s (i + 1))) (by omega) (by omega)
        rw [hback, show wht.data.toList = [32, 9] from rfl] at hasc
        have HA := Aside0.mk hasc
        clear hx hd hback hasc HIt HB
        cases hin : [32, 9].contains x
        · rw [hin] at hcon
          have hlt : decide ((0 : Int) ≤ Lib.indexByte [32, 9] x) = false := hcon.symm
          have HI2 := Aside0.mk hin
          clear hcon hin
          go_wp2_with (go_at_call 66; refine HA.out.mono ?_; rintro e w' ⟨rfl, rfl⟩)
          go_roundw
          case rel => exact ⟨i + 1, by omega, ⟨HN.out.succ Hx.out HI2.out⟩, HIp, HBp⟩
          case measure => rw [HIP.out, show (wr.putObj w.heap.size (.stringIter s (i + 1))).iterPos w.heap.size = i + 1 from by simp only [World.iterPos, HIp.out]]; omega
        · rw [hin] at hcon
          have hlt : decide ((0 : Int) ≤ Lib.indexByte [32, 9] x) = true := hcon.symm
          have HI2 := Aside0.mk hin
          clear hcon hin
          go_wp2_with (go_at_call 66; refine HA.out.mono ?_; rintro e w' ⟨rfl, rfl⟩)
          go_ret
          exact ⟨by rw [Lib.indexAny_hit HN.out Hx.out HI2.out]; rfl, HBp.out⟩
      · have hk := dec_skip s i hi (by omega)
        have hh := decode_high s i hi (by omega)
        have HNX := Aside0.mk (noany_to (Utf8.decode s i).2 HN.out hk.1 hk.2)
        have hk1 := hk.1
        clear hk ha
        obtain ⟨⟨rn, wd⟩, hde⟩ : ∃ d, Utf8.decode s i = d := ⟨_, rfl⟩
        rw [hde] at hnx0 hh HNX hk1
        dsimp only at hnx0 hh HNX hk1
        have HIp : Aside0 ((wr.putObj w.heap.size (.stringIter s (i + wd))).heap[w.heap.size]? = some (.stringIter s (i + wd))) := ⟨World.putObj_heap_same hglt⟩
        have HBp : Aside0 (Below w.heap.size w (wr.putObj w.heap.size (.stringIter s (i + wd)))) := ⟨HB.out.grown (grownBy_putObj' _ _ _) HB.out.size (fun k e => by cases e; exact Nat.le_refl _)⟩
        have HH := Aside0.mk hh
        have HK := Aside0.mk hk1
        clear hde HIt HB hh hk1
        go_wp2_with (go_at_call 66; refine (ixr_high (rn : Int) (by have := HH.out.1; omega) _).mono ?_; rintro e w' ⟨rfl, hb⟩; have HB2 := Aside0.mk hb; clear hb)
        go_roundw
        case rel =>
          have hg2 : w.heap.size < (wr.putObj w.heap.size (.stringIter s (i + wd))).heap.size := by rw [World.putObj_size]; exact hglt
          exact ⟨i + wd, HK.out, HNX, ⟨(HB2.out.block _ hg2).trans HIp.out⟩, ⟨HBp.out.trans (HB2.out.mono HBp.out.size)⟩⟩
        case measure =>
          have hg2 : w.heap.size < (wr.putObj w.heap.size (.stringIter s (i + wd))).heap.size := by rw [World.putObj_size]; exact hglt
          rw [HIP.out, show w'.iterPos w.heap.size = i + wd from by simp only [World.iterPos, (HB2.out.block _ hg2).trans HIp.out]]
          have := HH.out.2
          omega
    · have hnx0 : ∀ ty, (Instr.next (.pointer (some ⟨w.heap.size, 0, none⟩)) true ty).run Try.prog wr = _ := fun ty => nx_end wr w.heap.size s i ty hi HIt.out
      have hie : i = s.size := by omega
      have HE := Aside0.mk hie
      clear hie hi hi0
      go_wp2
      go_ret
      exact ⟨by rw [Lib.indexAny_none (by rw [Array.length_toList]; have := HN.out; rw [HE.out] at this; exact this)]; rfl, HB.out⟩
/-- THE FIRST BLANK of any text. -/
theorem anyw (s : ByteArray) (hs : s.size < 4294967281) (w : World) : Calls Try.prog 59 #[.string s, .string ⟨#[32, 9]⟩] w fun e w' => e = .returned (.int .i64 (Lib.indexAny s.data.toList [32, 9])) ∧ Below w.heap.size w w' := by
  by_cases h8 : s.size ≤ 8
  · exact anyw_short s h8 w
  · refine (Try.strings_IndexAny_long (fun w => by kernel_rfl) s ⟨#[32, 9]⟩ w (by decide) (by omega) hs (by decide) (fun j b hb => ?_)).mono ?_
    · match j, hb with
      | 0, hb => cases hb; decide
      | 1, hb => cases hb; decide
      | j + 2, hb => simp at hb
    · rintro e w' ⟨rfl, rfl⟩
      exact ⟨rfl, ((Below.refl _ w).alloc (Nat.le_refl _) _).alloc (by simp) _⟩
end Go.Proofs.Ytkahgdkpehlanaa.L

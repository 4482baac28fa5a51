-- Written by a program of this session (wip/tools/shake.py): texts of this claim, of each what the claim names.
import Derived.Test.YtajhfkcmfmhnaaaDoorC1
import Derived.Test.YtajhfkcmfmhnaaaDoorC2
import Derived.Test.YtajhfkcmfmhnaaaDoorProg
import Derived.WalkKit
import Derived.Below
import Derived.Deep.DeepMust
section
namespace Go.Proofs.YtajhfkcmfmhnaaaDoor.P
open Go.RowKit Go.Proofs.YtajhfkcmfmhnaaaDoorW.PrintWords Go.Proofs.YtajhfkcmfmhnaaaDoorW.PrintLast Go.Proofs.YtajhfkcmfmhnaaaDoorW.PrintMore
attribute [local go_sem] max2_int min2_int max_two min_two max_three min_three max_four min_four   -- for this text's walks alone
set_option linter.unusedVariables false
set_option linter.unusedSimpArgs false
mutual
def vivariumref03_Cutter_Name.j0 : Nat → Bool → ByteArray → Int → Option (ByteArray × Int × ByteArray × Int)
 | 0, _, _, _ => none
 | k + 1, x30, x1000, x1001 => if x30 = true then (some ((⟨#[]⟩ : ByteArray), 31, x1000, x1001)) else (vivariumref03_Cutter_Name.l0 k x1001 x1000 x1001)
def vivariumref03_Cutter_Name.l0 : Nat → Int → ByteArray → Int → Option (ByteArray × Int × ByteArray × Int)
 | 0, _, _, _ => none
 | k + 1, x4, x1000, x1001 => if x4 < (x1000.size : Int) then (if 0 ≤ x4 then ((vivariumref03_goes.f (bt x1000 x4)).bind fun t123 => (if t123 = true then (vivariumref03_Cutter_Name.l0 k (wrap64 (x4 + 1)) x1000 x1001) else (if (wrap64 (x4 - x1001)) > 32 then (some ((⟨#[]⟩ : ByteArray), 6, x1000, x1001)) else (if 0 ≤ x1001 then (if x1001 ≤ x4 then (if x4 ≤ (x1000.size : Int) then (some (x1000.extract (x1001 : Int).toNat (x4 : Int).toNat, 0, x1000, x4)) else (none)) else (none)) else (none))))) else (none)) else (if (wrap64 (x4 - x1001)) > 32 then (some ((⟨#[]⟩ : ByteArray), 6, x1000, x1001)) else (if 0 ≤ x1001 then (if x1001 ≤ x4 then (if x4 ≤ (x1000.size : Int) then (some (x1000.extract (x1001 : Int).toNat (x4 : Int).toNat, 0, x1000, x4)) else (none)) else (none)) else (none)))
end
def vivariumref03_Cutter_Name.f (k : Nat) (s0_0 : ByteArray) (s0_1 : Int) : Option (ByteArray × Int × ByteArray × Int) := if s0_1 = (s0_0.size : Int) then (vivariumref03_Cutter_Name.j0 k true s0_0 s0_1) else (if 0 ≤ s0_1 then (if s0_1 < (s0_0.size : Int) then ((vivariumref03_letter.f (bt s0_0 s0_1)).bind fun t122 => (vivariumref03_Cutter_Name.j0 k (!t122) s0_0 s0_1)) else (none)) else (none))
set_option maxHeartbeats 8000000 in
set_option maxRecDepth 100000 in
theorem vivariumref03_Cutter_Name.calls (k : Nat) (g : Nat) (s0_0 : ByteArray) (s0_1 : Int) (r1 : ByteArray) (r2 : Int) (r3 : ByteArray) (r4 : Int) (w0 w : World) (hI : IsS99 w0 w g s0_0 s0_1) (hB : Below w0.heap.size w0 w) (h : vivariumref03_Cutter_Name.f k s0_0 s0_1 = some (r1, r2, r3, r4)) :
  Calls Tryd.prog 44 #[.pointer (some ⟨g, 0, none⟩)] w fun e w' => e = .returned (.tuple #[.string r1, .int .i64 r2]) ∧ IsS99 w0 w' g r3 r4 ∧ Below w0.heap.size w0 w' ∧ KeepBut w w' g none := by
 have HI0 := Aside0.mk hI
 have HK := Aside0.mk (KeepBut.refl w g none)
 have HL := Aside0.mk hB.size
 clear hI
 have HW0 := Aside0.mk hB.size
 have HB := Aside0.mk hB
 clear hB
 have H : (if s0_1 = (s0_0.size : Int) then (vivariumref03_Cutter_Name.j0 k true s0_0 s0_1) else (if 0 ≤ s0_1 then (if s0_1 < (s0_0.size : Int) then ((vivariumref03_letter.f (bt s0_0 s0_1)).bind fun t122 => (vivariumref03_Cutter_Name.j0 k (!t122) s0_0 s0_1)) else (none)) else (none))) = some (r1, r2, r3, r4) := h
 clear h
 have HC2 := Aside0.mk H
 clear H
 go_enter Tryd.func44, Tryd.ntmps44
 go_upto_region 3 with (fail)
 repeat (go_quiet (fail); go_upto_region 3 with (fail))
 go_cut [30] (fun v30 wc => ∃ (kq : Nat) (x30_1 : Bool), v30 = .bool x30_1 ∧ Aside0 (vivariumref03_Cutter_Name.j0 kq x30_1 s0_0 s0_1 = some (r1, r2, r3, r4)) ∧ Aside0 (kq ≤ k) ∧ Aside0 (IsS99 w0 wc g s0_0 s0_1) ∧ Aside0 (KeepBut w wc g none) ∧ Aside0 (Below w0.heap.size w0 wc))
 case first =>
  have H := HC2.out
  clear HC2
  by_cases c3 : s0_1 = (s0_0.size : Int)
  ·rw [if_pos c3] at H
   have c3b0 : (s0_1 == (s0_0.size : Int)) = true := beq_iff_eq.mpr c3
   have c3b1 : (s0_1 != (s0_0.size : Int)) = false := bne_eq_false_iff_eq.mpr c3
   clear c3
   (first | rw [c3b0] | (simp only [i64_w, i32_w]; rw [c3b0]) | skip)
   have H' := Aside0.mk H
   clear H
   obtain ⟨HGz4, hgz4⟩ := HI0.out
   have hcz4_0 := cellS99_0 HGz4
   have hcz4_1 := cellS99_1 HGz4
   have hfz4_0 := blk_frozen HGz4 0
   have hfz4_1 := blk_frozen HGz4 1
   clear HGz4 hgz4
   go_wp2
   repeat (go_quiet (fail); try go_wp2)
   go_meet
   case rel => exact ⟨_, (true), (by first | rfl | (simp; done) | (simp [*]; done)), H', ⟨by first | omega | exact Nat.le_refl _⟩, ⟨by repeat (first | (with_reducible first | exact HI0.out | apply IsS99.alloc | apply IsS99.drewN | apply IsS99.drew | apply IsS99.set_0 | apply IsS99.set_1) | exact HI0.out)⟩, ⟨by repeat (first | (with_reducible first | exact HK.out | apply KeepBut.set_ | apply keep_drewN | apply keep_drew | apply keep_alloc) | exact HK.out)⟩, ⟨by repeat (first | (with_reducible first | exact HB.out | apply below_alloc | apply pw_below_drewN | apply below_drew1 | refine below_set ?_ (IsS99.ge HI0.out)) | exact HB.out)⟩⟩
  ·rw [if_neg c3] at H
   have c3b0 : (s0_1 == (s0_0.size : Int)) = false := beq_eq_false_iff_ne.mpr c3
   have c3b1 : (s0_1 != (s0_0.size : Int)) = true := bne_iff_ne.mpr c3
   (first | rw [c3b0] | (simp only [i64_w, i32_w]; rw [c3b0]) | skip)
   by_cases c5 : 0 ≤ s0_1
   ·rw [if_pos c5] at H
    have c5b0 : decide (0 ≤ s0_1) = true := decide_eq_true c5
    clear c5
    by_cases c6 : s0_1 < (s0_0.size : Int)
    ·rw [if_pos c6] at H
     have c6b0 : decide (s0_1 < (s0_0.size : Int)) = true := decide_eq_true c6
     clear c6
     replace H := Option.bind_eq_some_iff.mp H
     obtain ⟨t122, A80, H⟩ := H
     replace H : (vivariumref03_Cutter_Name.j0 k (!t122) s0_0 s0_1) = some (r1, r2, r3, r4) := H
     have A8 := Aside0.mk A80
     clear A80
     have H' := Aside0.mk H
     clear H
     obtain ⟨HGz9, hgz9⟩ := HI0.out
     have hcz9_0 := cellS99_0 HGz9
     have hcz9_1 := cellS99_1 HGz9
     have hfz9_0 := blk_frozen HGz9 0
     have hfz9_1 := blk_frozen HGz9 1
     clear HGz9 hgz9
     have p7 : 0 ≤ (s0_1 : Int) := of_decide_eq_true (by first | (with_reducible assumption) | assumption)
     have q7 : s0_1 < (s0_0.size : Int) := of_decide_eq_true (by first | (with_reducible assumption) | assumption)
     have hx7 := bt_at s0_0 s0_1
     replace p7 := eq_true p7
     replace q7 := eq_true q7
     go_wp2_with (first | (go_at_call 54; (with_reducible refine (vivariumref03_letter.calls (bt s0_0 s0_1) t122 _ A8.out).mono ?_); rintro e w' ⟨rfl, ⟨nd, rfl⟩⟩; (try first | exact ⟨rfl, _, World.drewN_drewN _ _ _⟩ | exact ⟨rfl, _, Eq.trans (World.drewN_drewN _ _ _) (congrArg (World.drewN _) (Nat.add_assoc _ _ _))⟩)))
     repeat (go_quiet (first | (go_at_call 54; (with_reducible refine (vivariumref03_letter.calls (bt s0_0 s0_1) t122 _ A8.out).mono ?_); rintro e w' ⟨rfl, ⟨nd, rfl⟩⟩; (try first | exact ⟨rfl, _, World.drewN_drewN _ _ _⟩ | exact ⟨rfl, _, Eq.trans (World.drewN_drewN _ _ _) (congrArg (World.drewN _) (Nat.add_assoc _ _ _))⟩))); try go_wp2_with (first | (go_at_call 54; (with_reducible refine (vivariumref03_letter.calls (bt s0_0 s0_1) t122 _ A8.out).mono ?_); rintro e w' ⟨rfl, ⟨nd, rfl⟩⟩; (try first | exact ⟨rfl, _, World.drewN_drewN _ _ _⟩ | exact ⟨rfl, _, Eq.trans (World.drewN_drewN _ _ _) (congrArg (World.drewN _) (Nat.add_assoc _ _ _))⟩))))
     go_meet
     case rel => exact ⟨_, (!t122), (by first | rfl | (simp; done) | (simp [*]; done)), H', ⟨by first | omega | exact Nat.le_refl _⟩, ⟨by repeat (first | (with_reducible first | exact HI0.out | apply IsS99.alloc | apply IsS99.drewN | apply IsS99.drew | apply IsS99.set_0 | apply IsS99.set_1) | exact HI0.out)⟩, ⟨by repeat (first | (with_reducible first | exact HK.out | apply KeepBut.set_ | apply keep_drewN | apply keep_drew | apply keep_alloc) | exact HK.out)⟩, ⟨by repeat (first | (with_reducible first | exact HB.out | apply below_alloc | apply pw_below_drewN | apply below_drew1 | refine below_set ?_ (IsS99.ge HI0.out)) | exact HB.out)⟩⟩
    ·rw [if_neg c6] at H
     exact absurd H (by simp)
   ·rw [if_neg c5] at H
    exact absurd H (by simp)
 case rest =>
  clear HC2
  try clear p2
  try clear c3
  try clear c3b0
  try clear c3b1
  try clear c4
  try clear c5
  try clear c5b0
  try clear c6
  try clear c6b0
  try clear p7
  try clear q7
  try clear hx7
  try clear hcz4_0
  try clear hcz4_1
  try clear hcz9_0
  try clear hcz9_1
  try clear hfz4_0
  try clear hfz4_1
  try clear hfz9_0
  try clear hfz9_1
  try clear p7
  try clear q7
  obtain ⟨kq, x30_1, rfl, HA, HJ1, HI0, HK, HB⟩ := hcut
  cases kq with
  | zero => exact absurd HA.out (by simp [vivariumref03_Cutter_Name.j0])
  | succ kj1 =>
   have H := HA.out
   clear HA
   simp only [vivariumref03_Cutter_Name.j0] at H
   by_cases c10 : x30_1 = true
   ·subst c10
    have H1 : (some ((⟨#[]⟩ : ByteArray), 31, s0_0, s0_1)) = some (r1, r2, r3, r4) := by rw [if_pos rfl] at H; exact H
    clear H
    have H := H1
    clear H1
    simp only [Option.some.injEq, Prod.mk.injEq] at H
    obtain ⟨rfl, rfl, rfl, rfl⟩ := H
    go_wp2
    repeat (go_quiet (fail); try go_wp2)
    go_ret2
    exact ⟨by first | rfl | (simp [errW_none, errW_some] <;> rfl) | (simp [*, errW_none, errW_some] <;> rfl), by repeat (first | (with_reducible first | exact HI0.out | apply IsS99.alloc | apply IsS99.drewN | apply IsS99.drew | apply IsS99.set_0 | apply IsS99.set_1) | exact HI0.out), by repeat (first | (with_reducible first | exact HB.out | apply below_alloc | apply pw_below_drewN | apply below_drew1 | refine below_set ?_ (IsS99.ge HI0.out)) | exact HB.out), by repeat (first | (with_reducible first | exact HK.out | apply KeepBut.set_ | apply keep_drewN | apply keep_drew | apply keep_alloc) | exact HK.out)⟩
   ·replace c10 := Bool.eq_false_iff.mpr c10
    subst c10
    have H1 : (vivariumref03_Cutter_Name.l0 kj1 s0_1 s0_0 s0_1) = some (r1, r2, r3, r4) := by rw [if_neg (show ¬ (false = true) by decide)] at H; exact H
    clear H
    have H := H1
    clear H1
    have H' := Aside0.mk H
    clear H
    obtain ⟨HGz11, hgz11⟩ := HI0.out
    have hcz11_0 := cellS99_0 HGz11
    have hcz11_1 := cellS99_1 HGz11
    have hfz11_0 := blk_frozen HGz11 0
    have hfz11_1 := blk_frozen HGz11 1
    clear HGz11 hgz11
    go_wp2
    repeat (go_quiet (fail); try go_wp2)
    go_loopg [4] kj1 (fun kq v4 w' => ∃ (x4_2 : Int), v4 = .int .i64 x4_2 ∧ Aside0 (vivariumref03_Cutter_Name.l0 kq x4_2 s0_0 s0_1 = some (r1, r2, r3, r4)) ∧ Aside0 (kq ≤ kj1) ∧ Aside0 (IsS99 w0 w' g s0_0 s0_1) ∧ Aside0 (KeepBut w w' g none) ∧ Aside0 (Below w0.heap.size w0 w'))
    case atStart => exact ⟨(s0_1), (by first | rfl | (simp; done) | (simp [*]; done)), H', ⟨Nat.le_refl _⟩, ⟨by repeat (first | (with_reducible first | exact HI0.out | apply IsS99.alloc | apply IsS99.drewN | apply IsS99.drew | apply IsS99.set_0 | apply IsS99.set_1) | exact HI0.out)⟩, ⟨by repeat (first | (with_reducible first | exact HK.out | apply KeepBut.set_ | apply keep_drewN | apply keep_drew | apply keep_alloc) | exact HK.out)⟩, ⟨by repeat (first | (with_reducible first | exact HB.out | apply below_alloc | apply pw_below_drewN | apply below_drew1 | refine below_set ?_ (IsS99.ge HI0.out)) | exact HB.out)⟩⟩
    case round =>
     clear H'
     try clear c1
     try clear p2
     try clear c3
     try clear c3b0
     try clear c3b1
     try clear c4
     try clear c5
     try clear c5b0
     try clear c6
     try clear c6b0
     try clear p7
     try clear q7
     try clear hx7
     try clear c10
     try clear hcz11_0
     try clear hcz11_1
     try clear hcz4_0
     try clear hcz4_1
     try clear hcz9_0
     try clear hcz9_1
     try clear hfz11_0
     try clear hfz11_1
     try clear hfz4_0
     try clear hfz4_1
     try clear hfz9_0
     try clear hfz9_1
     try clear p2
     try clear p7
     try clear q7
     obtain ⟨x4_2, rfl, HA, HK2, HI0, HK, HB⟩ := hrel
     cases gk with
     | zero => exact absurd HA.out (by simp [vivariumref03_Cutter_Name.l0])
     | succ k2 =>
      have H := HA.out
      clear HA
      simp only [vivariumref03_Cutter_Name.l0] at H
      by_cases c12 : x4_2 < (s0_0.size : Int)
      ·rw [if_pos c12] at H
       have c12b0 : decide (x4_2 < (s0_0.size : Int)) = true := decide_eq_true c12
       clear c12
       by_cases c13 : 0 ≤ x4_2
       ·rw [if_pos c13] at H
        have c13b0 : decide (0 ≤ x4_2) = true := decide_eq_true c13
        clear c13
        replace H := Option.bind_eq_some_iff.mp H
        obtain ⟨t123, A150, H⟩ := H
        replace H : (if t123 = true then (vivariumref03_Cutter_Name.l0 k2 (wrap64 (x4_2 + 1)) s0_0 s0_1) else (if (wrap64 (x4_2 - s0_1)) > 32 then (some ((⟨#[]⟩ : ByteArray), 6, s0_0, s0_1)) else (if 0 ≤ s0_1 then (if s0_1 ≤ x4_2 then (if x4_2 ≤ (s0_0.size : Int) then (some (s0_0.extract (s0_1 : Int).toNat (x4_2 : Int).toNat, 0, s0_0, x4_2)) else (none)) else (none)) else (none)))) = some (r1, r2, r3, r4) := H
        have A15 := Aside0.mk A150
        clear A150
        by_cases c16 : t123 = true
        ·subst c16
         have H1 : (vivariumref03_Cutter_Name.l0 k2 (wrap64 (x4_2 + 1)) s0_0 s0_1) = some (r1, r2, r3, r4) := by rw [if_pos rfl] at H; exact H
         clear H
         have H := H1
         clear H1
         have H' := Aside0.mk H
         clear H
         obtain ⟨HGz17, hgz17⟩ := HI0.out
         have hcz17_0 := cellS99_0 HGz17
         have hcz17_1 := cellS99_1 HGz17
         have hfz17_0 := blk_frozen HGz17 0
         have hfz17_1 := blk_frozen HGz17 1
         clear HGz17 hgz17
         have p14 : 0 ≤ (x4_2 : Int) := of_decide_eq_true (by first | (with_reducible assumption) | assumption)
         have q14 : x4_2 < (s0_0.size : Int) := of_decide_eq_true (by first | (with_reducible assumption) | assumption)
         have hx14 := bt_at s0_0 x4_2
         replace p14 := eq_true p14
         replace q14 := eq_true q14
         go_wp2_with (first | (go_at_call 55; (with_reducible refine (vivariumref03_goes.calls (bt s0_0 x4_2) true _ A15.out).mono ?_); rintro e w' ⟨rfl, ⟨nd, rfl⟩⟩; (try first | exact ⟨rfl, _, World.drewN_drewN _ _ _⟩ | exact ⟨rfl, _, Eq.trans (World.drewN_drewN _ _ _) (congrArg (World.drewN _) (Nat.add_assoc _ _ _))⟩)))
         repeat (go_quiet (first | (go_at_call 55; (with_reducible refine (vivariumref03_goes.calls (bt s0_0 x4_2) true _ A15.out).mono ?_); rintro e w' ⟨rfl, ⟨nd, rfl⟩⟩; (try first | exact ⟨rfl, _, World.drewN_drewN _ _ _⟩ | exact ⟨rfl, _, Eq.trans (World.drewN_drewN _ _ _) (congrArg (World.drewN _) (Nat.add_assoc _ _ _))⟩))); try go_wp2_with (first | (go_at_call 55; (with_reducible refine (vivariumref03_goes.calls (bt s0_0 x4_2) true _ A15.out).mono ?_); rintro e w' ⟨rfl, ⟨nd, rfl⟩⟩; (try first | exact ⟨rfl, _, World.drewN_drewN _ _ _⟩ | exact ⟨rfl, _, Eq.trans (World.drewN_drewN _ _ _) (congrArg (World.drewN _) (Nat.add_assoc _ _ _))⟩))))
         go_roundg k2
         case measure => have := HJ1.out; have := HK2.out; omega
         case rel => exact ⟨(wrap64 (x4_2 + 1)), (by first | rfl | (simp; done) | (simp [*]; done)), H', ⟨by have := HJ1.out; have := HK2.out; omega⟩, ⟨by repeat (first | (with_reducible first | exact HI0.out | apply IsS99.alloc | apply IsS99.drewN | apply IsS99.drew | apply IsS99.set_0 | apply IsS99.set_1) | exact HI0.out)⟩, ⟨by repeat (first | (with_reducible first | exact HK.out | apply KeepBut.set_ | apply keep_drewN | apply keep_drew | apply keep_alloc) | exact HK.out)⟩, ⟨by repeat (first | (with_reducible first | exact HB.out | apply below_alloc | apply pw_below_drewN | apply below_drew1 | refine below_set ?_ (IsS99.ge HI0.out)) | exact HB.out)⟩⟩
        ·replace c16 := Bool.eq_false_iff.mpr c16
         subst c16
         have H1 : (if (wrap64 (x4_2 - s0_1)) > 32 then (some ((⟨#[]⟩ : ByteArray), 6, s0_0, s0_1)) else (if 0 ≤ s0_1 then (if s0_1 ≤ x4_2 then (if x4_2 ≤ (s0_0.size : Int) then (some (s0_0.extract (s0_1 : Int).toNat (x4_2 : Int).toNat, 0, s0_0, x4_2)) else (none)) else (none)) else (none))) = some (r1, r2, r3, r4) := by rw [if_neg (show ¬ (false = true) by decide)] at H; exact H
         clear H
         have H := H1
         clear H1
         by_cases c18 : (wrap64 (x4_2 - s0_1)) > 32
         ·rw [if_pos c18] at H
          have c18b0 : decide (32 < (wrap64 (x4_2 - s0_1))) = true := decide_eq_true c18
          clear c18
          simp only [Option.some.injEq, Prod.mk.injEq] at H
          obtain ⟨rfl, rfl, rfl, rfl⟩ := H
          obtain ⟨HGz19, hgz19⟩ := HI0.out
          have hcz19_0 := cellS99_0 HGz19
          have hcz19_1 := cellS99_1 HGz19
          have hfz19_0 := blk_frozen HGz19 0
          have hfz19_1 := blk_frozen HGz19 1
          clear HGz19 hgz19
          have p14 : 0 ≤ (x4_2 : Int) := of_decide_eq_true (by first | (with_reducible assumption) | assumption)
          have q14 : x4_2 < (s0_0.size : Int) := of_decide_eq_true (by first | (with_reducible assumption) | assumption)
          have hx14 := bt_at s0_0 x4_2
          replace p14 := eq_true p14
          replace q14 := eq_true q14
          go_wp2_with (first | (go_at_call 55; (with_reducible refine (vivariumref03_goes.calls (bt s0_0 x4_2) false _ A15.out).mono ?_); rintro e w' ⟨rfl, ⟨nd, rfl⟩⟩; (try first | exact ⟨rfl, _, World.drewN_drewN _ _ _⟩ | exact ⟨rfl, _, Eq.trans (World.drewN_drewN _ _ _) (congrArg (World.drewN _) (Nat.add_assoc _ _ _))⟩)))
          repeat (go_quiet (first | (go_at_call 55; (with_reducible refine (vivariumref03_goes.calls (bt s0_0 x4_2) false _ A15.out).mono ?_); rintro e w' ⟨rfl, ⟨nd, rfl⟩⟩; (try first | exact ⟨rfl, _, World.drewN_drewN _ _ _⟩ | exact ⟨rfl, _, Eq.trans (World.drewN_drewN _ _ _) (congrArg (World.drewN _) (Nat.add_assoc _ _ _))⟩))); try go_wp2_with (first | (go_at_call 55; (with_reducible refine (vivariumref03_goes.calls (bt s0_0 x4_2) false _ A15.out).mono ?_); rintro e w' ⟨rfl, ⟨nd, rfl⟩⟩; (try first | exact ⟨rfl, _, World.drewN_drewN _ _ _⟩ | exact ⟨rfl, _, Eq.trans (World.drewN_drewN _ _ _) (congrArg (World.drewN _) (Nat.add_assoc _ _ _))⟩))))
          go_ret2
          exact ⟨by first | rfl | (simp [errW_none, errW_some] <;> rfl) | (simp [*, errW_none, errW_some] <;> rfl), by repeat (first | (with_reducible first | exact HI0.out | apply IsS99.alloc | apply IsS99.drewN | apply IsS99.drew | apply IsS99.set_0 | apply IsS99.set_1) | exact HI0.out), by repeat (first | (with_reducible first | exact HB.out | apply below_alloc | apply pw_below_drewN | apply below_drew1 | refine below_set ?_ (IsS99.ge HI0.out)) | exact HB.out), by repeat (first | (with_reducible first | exact HK.out | apply KeepBut.set_ | apply keep_drewN | apply keep_drew | apply keep_alloc) | exact HK.out)⟩
         ·rw [if_neg c18] at H
          have c18b0 : decide (32 < (wrap64 (x4_2 - s0_1))) = false := decide_eq_false c18
          clear c18
          by_cases c20 : 0 ≤ s0_1
          ·rw [if_pos c20] at H
           have c20b0 := eq_true c20
           have c20b1 : decide (0 ≤ s0_1) = true := decide_eq_true c20
           clear c20
           by_cases c21 : s0_1 ≤ x4_2
           ·rw [if_pos c21] at H
            have c21b0 := eq_true c21
            have c21b1 : decide (s0_1 ≤ x4_2) = true := decide_eq_true c21
            clear c21
            by_cases c22 : x4_2 ≤ (s0_0.size : Int)
            ·rw [if_pos c22] at H
             have c22b0 := eq_true c22
             have c22b1 : decide (x4_2 ≤ (s0_0.size : Int)) = true := decide_eq_true c22
             clear c22
             simp only [Option.some.injEq, Prod.mk.injEq] at H
             obtain ⟨rfl, rfl, rfl, rfl⟩ := H
             obtain ⟨HGz23, hgz23⟩ := HI0.out
             have hcz23_0 := cellS99_0 HGz23
             have hcz23_1 := cellS99_1 HGz23
             have hfz23_0 := blk_frozen HGz23 0
             have hfz23_1 := blk_frozen HGz23 1
             clear HGz23 hgz23
             have p14 : 0 ≤ (x4_2 : Int) := of_decide_eq_true (by first | (with_reducible assumption) | assumption)
             have q14 : x4_2 < (s0_0.size : Int) := of_decide_eq_true (by first | (with_reducible assumption) | assumption)
             have hx14 := bt_at s0_0 x4_2
             replace p14 := eq_true p14
             replace q14 := eq_true q14
             go_wp2_with (first | (go_at_call 55; (with_reducible refine (vivariumref03_goes.calls (bt s0_0 x4_2) false _ A15.out).mono ?_); rintro e w' ⟨rfl, ⟨nd, rfl⟩⟩; (try first | exact ⟨rfl, _, World.drewN_drewN _ _ _⟩ | exact ⟨rfl, _, Eq.trans (World.drewN_drewN _ _ _) (congrArg (World.drewN _) (Nat.add_assoc _ _ _))⟩)))
             repeat (go_quiet (first | (go_at_call 55; (with_reducible refine (vivariumref03_goes.calls (bt s0_0 x4_2) false _ A15.out).mono ?_); rintro e w' ⟨rfl, ⟨nd, rfl⟩⟩; (try first | exact ⟨rfl, _, World.drewN_drewN _ _ _⟩ | exact ⟨rfl, _, Eq.trans (World.drewN_drewN _ _ _) (congrArg (World.drewN _) (Nat.add_assoc _ _ _))⟩))); try go_wp2_with (first | (go_at_call 55; (with_reducible refine (vivariumref03_goes.calls (bt s0_0 x4_2) false _ A15.out).mono ?_); rintro e w' ⟨rfl, ⟨nd, rfl⟩⟩; (try first | exact ⟨rfl, _, World.drewN_drewN _ _ _⟩ | exact ⟨rfl, _, Eq.trans (World.drewN_drewN _ _ _) (congrArg (World.drewN _) (Nat.add_assoc _ _ _))⟩))))
             go_ret2
             exact ⟨by first | rfl | (simp [errW_none, errW_some] <;> rfl) | (simp [*, errW_none, errW_some] <;> rfl), by repeat (first | (with_reducible first | exact HI0.out | apply IsS99.alloc | apply IsS99.drewN | apply IsS99.drew | apply IsS99.set_0 | apply IsS99.set_1) | exact HI0.out), by repeat (first | (with_reducible first | exact HB.out | apply below_alloc | apply pw_below_drewN | apply below_drew1 | refine below_set ?_ (IsS99.ge HI0.out)) | exact HB.out), by repeat (first | (with_reducible first | exact HK.out | apply KeepBut.set_ | apply keep_drewN | apply keep_drew | apply keep_alloc) | exact HK.out)⟩
            ·rw [if_neg c22] at H
             exact absurd H (by simp)
           ·rw [if_neg c21] at H
            exact absurd H (by simp)
          ·rw [if_neg c20] at H
           exact absurd H (by simp)
       ·rw [if_neg c13] at H
        exact absurd H (by simp)
      ·rw [if_neg c12] at H
       have c12b0 : decide (x4_2 < (s0_0.size : Int)) = false := decide_eq_false c12
       clear c12
       by_cases c24 : (wrap64 (x4_2 - s0_1)) > 32
       ·rw [if_pos c24] at H
        have c24b0 : decide (32 < (wrap64 (x4_2 - s0_1))) = true := decide_eq_true c24
        clear c24
        simp only [Option.some.injEq, Prod.mk.injEq] at H
        obtain ⟨rfl, rfl, rfl, rfl⟩ := H
        obtain ⟨HGz25, hgz25⟩ := HI0.out
        have hcz25_0 := cellS99_0 HGz25
        have hcz25_1 := cellS99_1 HGz25
        have hfz25_0 := blk_frozen HGz25 0
        have hfz25_1 := blk_frozen HGz25 1
        clear HGz25 hgz25
        go_wp2
        repeat (go_quiet (fail); try go_wp2)
        go_ret2
        exact ⟨by first | rfl | (simp [errW_none, errW_some] <;> rfl) | (simp [*, errW_none, errW_some] <;> rfl), by repeat (first | (with_reducible first | exact HI0.out | apply IsS99.alloc | apply IsS99.drewN | apply IsS99.drew | apply IsS99.set_0 | apply IsS99.set_1) | exact HI0.out), by repeat (first | (with_reducible first | exact HB.out | apply below_alloc | apply pw_below_drewN | apply below_drew1 | refine below_set ?_ (IsS99.ge HI0.out)) | exact HB.out), by repeat (first | (with_reducible first | exact HK.out | apply KeepBut.set_ | apply keep_drewN | apply keep_drew | apply keep_alloc) | exact HK.out)⟩
       ·rw [if_neg c24] at H
        have c24b0 : decide (32 < (wrap64 (x4_2 - s0_1))) = false := decide_eq_false c24
        clear c24
        by_cases c26 : 0 ≤ s0_1
        ·rw [if_pos c26] at H
         have c26b0 := eq_true c26
         have c26b1 : decide (0 ≤ s0_1) = true := decide_eq_true c26
         clear c26
         by_cases c27 : s0_1 ≤ x4_2
         ·rw [if_pos c27] at H
          have c27b0 := eq_true c27
          have c27b1 : decide (s0_1 ≤ x4_2) = true := decide_eq_true c27
          clear c27
          by_cases c28 : x4_2 ≤ (s0_0.size : Int)
          ·rw [if_pos c28] at H
           have c28b0 := eq_true c28
           have c28b1 : decide (x4_2 ≤ (s0_0.size : Int)) = true := decide_eq_true c28
           clear c28
           simp only [Option.some.injEq, Prod.mk.injEq] at H
           obtain ⟨rfl, rfl, rfl, rfl⟩ := H
           obtain ⟨HGz29, hgz29⟩ := HI0.out
           have hcz29_0 := cellS99_0 HGz29
           have hcz29_1 := cellS99_1 HGz29
           have hfz29_0 := blk_frozen HGz29 0
           have hfz29_1 := blk_frozen HGz29 1
           clear HGz29 hgz29
           go_wp2
           repeat (go_quiet (fail); try go_wp2)
           go_ret2
           exact ⟨by first | rfl | (simp [errW_none, errW_some] <;> rfl) | (simp [*, errW_none, errW_some] <;> rfl), by repeat (first | (with_reducible first | exact HI0.out | apply IsS99.alloc | apply IsS99.drewN | apply IsS99.drew | apply IsS99.set_0 | apply IsS99.set_1) | exact HI0.out), by repeat (first | (with_reducible first | exact HB.out | apply below_alloc | apply pw_below_drewN | apply below_drew1 | refine below_set ?_ (IsS99.ge HI0.out)) | exact HB.out), by repeat (first | (with_reducible first | exact HK.out | apply KeepBut.set_ | apply keep_drewN | apply keep_drew | apply keep_alloc) | exact HK.out)⟩
          ·rw [if_neg c28] at H
           exact absurd H (by simp)
         ·rw [if_neg c27] at H
          exact absurd H (by simp)
        ·rw [if_neg c26] at H
         exact absurd H (by simp)
end Go.Proofs.YtajhfkcmfmhnaaaDoor.P
namespace Go.Proofs.YtajhfkcmfmhnaaaDoor.P
open Go.RowKit Go.Proofs.YtajhfkcmfmhnaaaDoorW.PrintWords Go.Proofs.YtajhfkcmfmhnaaaDoorW.PrintLast Go.Proofs.YtajhfkcmfmhnaaaDoorW.PrintMore
attribute [local go_sem] max2_int min2_int max_two min_two max_three min_three max_four min_four   -- for this text's walks alone
set_option linter.unusedVariables false
set_option linter.unusedSimpArgs false
def vivariumref10_isName.f (k : Nat) (a0 : ByteArray) : Option (Bool) := (vivariumref03_New.f a0).bind fun bt124 => ((vivariumref03_Cutter_Name.f k bt124.1 bt124.2).bind fun bt127 => (if bt127.2.1 = 0 then (some (bt127.1.toList == a0.toList)) else (some false)))
set_option maxHeartbeats 8000000 in
set_option maxRecDepth 100000 in
theorem vivariumref10_isName.calls (k : Nat) (a0 : ByteArray) (r : Bool) (w : World) (h : vivariumref10_isName.f k a0 = some r) :
  Calls Tryd.prog 34 #[.string a0] w fun e w' => e = .returned (.bool r) ∧ Below w.heap.size w w' := by
 have HB := Aside0.mk (Below.refl w.heap.size w)
 have H : ((vivariumref03_New.f a0).bind fun bt124 => ((vivariumref03_Cutter_Name.f k bt124.1 bt124.2).bind fun bt127 => (if bt127.2.1 = 0 then (some (bt127.1.toList == a0.toList)) else (some false)))) = some r := h
 clear h
 replace H := Option.bind_eq_some_iff.mp H
 obtain ⟨⟨t124, t125⟩, A20, H⟩ := H
 replace H : ((vivariumref03_Cutter_Name.f k t124 t125).bind fun bt127 => (if bt127.2.1 = 0 then (some (bt127.1.toList == a0.toList)) else (some false))) = some r := H
 have A2 := Aside0.mk A20
 clear A20
 replace H := Option.bind_eq_some_iff.mp H
 obtain ⟨⟨t127, t128, t129, t130⟩, A30, H⟩ := H
 replace H : (if t128 = 0 then (some (t127.toList == a0.toList)) else (some false)) = some r := H
 have A3 := Aside0.mk A30
 clear A30
 by_cases c4 : t128 = 0
 ·rw [if_pos c4] at H
  have c4b0 : (t128 == 0) = true := beq_iff_eq.mpr c4
  have c4b1 : (t128 != 0) = false := bne_eq_false_iff_eq.mpr c4
  clear c4
  obtain rfl := Option.some.inj H
  go_enter Tryd.func34, Tryd.ntmps34
  go_wp2_with (first | ((with_reducible refine gate_callee (f := 43) rfl ?_); refine goesL_ (some 7) rfl rfl Tryd.func43 (by kernel_rfl) rfl #[.string a0] rfl (by (try simp only [List.map_toArray, List.map_cons, List.map_nil]); first | done | rfl | (simp only [List.length_drop, List.length_take]; rfl)) ?_; (with_reducible refine (vivariumref03_New.calls a0 t124 t125 w _ ?side1 A2.out).mono ?_); (case side1 => repeat (first | (with_reducible first | exact HB.out | apply below_alloc | apply pw_below_drewN | apply below_drew1) | exact HB.out)); rintro e w5 ⟨g126, rfl, hi, hb, hb2⟩; refine ⟨_, rfl, ?_⟩; have n0_ := Aside0.mk (hb); have n1_ := Aside0.mk (hi); clear HB; have HB := n0_; have HI126 := n1_; clear n0_ n1_; (try clear hb); (try clear hb2); (try clear hk); (try clear hi)) | ((with_reducible refine gate_callee (f := 44) rfl ?_); refine goesL_ (some 10) rfl rfl Tryd.func44 (by kernel_rfl) rfl #[.pointer (some ⟨g126, 0, none⟩)] rfl (by (try simp only [List.map_toArray, List.map_cons, List.map_nil]); first | done | rfl | (simp only [List.length_drop, List.length_take]; rfl)) ?_; (with_reducible refine (vivariumref03_Cutter_Name.calls k g126 t124 t125 t127 t128 t129 t130 w _ ?side1 ?side2 A3.out).mono ?_); (case side1 => repeat (first | (with_reducible first | exact HI126.out | apply IsS99.alloc | apply IsS99.drewN | apply IsS99.drew | apply IsS99.set_0 | apply IsS99.set_1) | exact HI126.out)); (case side2 => repeat (first | (with_reducible first | exact HB.out | apply below_alloc | apply pw_below_drewN | apply below_drew1 | refine below_set ?_ (IsS99.ge HI126.out)) | exact HB.out)); rintro e w6 ⟨rfl, hi, hb, hk⟩; refine ⟨_, rfl, ?_⟩; have n0_ := Aside0.mk (hb); have n1_ := Aside0.mk (hi); clear HB; clear HI126; have HB := n0_; have HI126 := n1_; clear n0_ n1_; (try clear hb); (try clear hb2); (try clear hk); (try clear hi)))
  go_ret
  exact ⟨by first | rfl | (simp [errW_none, errW_some] <;> rfl) | (simp [*, errW_none, errW_some] <;> rfl), by repeat (first | (with_reducible first | exact HB.out | apply below_alloc | apply pw_below_drewN | apply below_drew1 | refine below_set ?_ (IsS99.ge HI126.out)) | exact HB.out)⟩
 ·rw [if_neg c4] at H
  have c4b0 : (t128 == 0) = false := beq_eq_false_iff_ne.mpr c4
  have c4b1 : (t128 != 0) = true := bne_iff_ne.mpr c4
  obtain rfl := Option.some.inj H
  go_enter Tryd.func34, Tryd.ntmps34
  go_wp2_with (first | ((with_reducible refine gate_callee (f := 43) rfl ?_); refine goesL_ (some 7) rfl rfl Tryd.func43 (by kernel_rfl) rfl #[.string a0] rfl (by (try simp only [List.map_toArray, List.map_cons, List.map_nil]); first | done | rfl | (simp only [List.length_drop, List.length_take]; rfl)) ?_; (with_reducible refine (vivariumref03_New.calls a0 t124 t125 w _ ?side1 A2.out).mono ?_); (case side1 => repeat (first | (with_reducible first | exact HB.out | apply below_alloc | apply pw_below_drewN | apply below_drew1) | exact HB.out)); rintro e w7 ⟨g126, rfl, hi, hb, hb2⟩; refine ⟨_, rfl, ?_⟩; have n0_ := Aside0.mk (hb); have n1_ := Aside0.mk (hi); clear HB; have HB := n0_; have HI126 := n1_; clear n0_ n1_; (try clear hb); (try clear hb2); (try clear hk); (try clear hi)) | ((with_reducible refine gate_callee (f := 44) rfl ?_); refine goesL_ (some 10) rfl rfl Tryd.func44 (by kernel_rfl) rfl #[.pointer (some ⟨g126, 0, none⟩)] rfl (by (try simp only [List.map_toArray, List.map_cons, List.map_nil]); first | done | rfl | (simp only [List.length_drop, List.length_take]; rfl)) ?_; (with_reducible refine (vivariumref03_Cutter_Name.calls k g126 t124 t125 t127 t128 t129 t130 w _ ?side1 ?side2 A3.out).mono ?_); (case side1 => repeat (first | (with_reducible first | exact HI126.out | apply IsS99.alloc | apply IsS99.drewN | apply IsS99.drew | apply IsS99.set_0 | apply IsS99.set_1) | exact HI126.out)); (case side2 => repeat (first | (with_reducible first | exact HB.out | apply below_alloc | apply pw_below_drewN | apply below_drew1 | refine below_set ?_ (IsS99.ge HI126.out)) | exact HB.out)); rintro e w8 ⟨rfl, hi, hb, hk⟩; refine ⟨_, rfl, ?_⟩; have n0_ := Aside0.mk (hb); have n1_ := Aside0.mk (hi); clear HB; clear HI126; have HB := n0_; have HI126 := n1_; clear n0_ n1_; (try clear hb); (try clear hb2); (try clear hk); (try clear hi)))
  go_ret
  exact ⟨by first | rfl | (simp [errW_none, errW_some] <;> rfl) | (simp [*, errW_none, errW_some] <;> rfl), by repeat (first | (with_reducible first | exact HB.out | apply below_alloc | apply pw_below_drewN | apply below_drew1 | refine below_set ?_ (IsS99.ge HI126.out)) | exact HB.out)⟩
end Go.Proofs.YtajhfkcmfmhnaaaDoor.P
end
section
set_option linter.unusedVariables false
namespace Go.Proofs.YtajhfkcmfmhnaaaDoor.L
open Go.RowKit Go.Proofs.YtajhfkcmfmhnaaaDoor.P Go.Proofs.YtajhfkcmfmhnaaaDoorW.PrintWords Go.Proofs.YtajhfkcmfmhnaaaDoorW.PrintLast Go.Proofs.YtajhfkcmfmhnaaaDoorW.PrintMore
theorem bt_part (s : ByteArray) (a b j : Nat) (h : a + j < b) (hb : b ≤ s.size) : bt (s.extract a b) (j : Int) = bt s ((a + j : Nat) : Int) := by
 have h1 : j < (s.extract a b).size := by rw [ByteArray.size_extract]; omega
 rw [bt_nat, bt_nat, dif_pos h1, dif_pos (show a + j < s.size by omega)]
 congr 1
 simp [ByteArray.getElem_extract]
theorem bt_n256 (s : ByteArray) (i : Nat) : ∃ n : Nat, n < 256 ∧ bt s (i : Int) = (n : Int) := by
 rw [bt_nat]
 by_cases h : i < s.size
 ·rw [dif_pos h]; exact ⟨_, (s[i]'h).toNat_lt, rfl⟩
 ·rw [dif_neg h]; exact ⟨0, by decide, rfl⟩
def goi (b : Int) : Bool := (vivariumref03_goes.f b).getD false
theorem goi_both : ∀ n : Nat, n < 256 → scan_inName.f (n : Int) = some (goi n) ∧ vivariumref03_goes.f (n : Int) = some (goi n) ∧ scan_isLetter.f (n : Int) = vivariumref03_letter.f (n : Int) ∧ (vivariumref03_letter.f (n : Int)).isSome = true := by decide +kernel
/-- Where a stretch of bytes ends. -/
theorem stretch (p : Int → Bool) (s : ByteArray) : ∀ (d i : Nat), i + d = s.size → ∃ e, i ≤ e ∧ e ≤ s.size ∧ (∀ j : Nat, i ≤ j → j < e → p (bt s (j : Int)) = true) ∧ (e < s.size → p (bt s (e : Int)) = false)
 | 0, i, h => ⟨i, Nat.le_refl _, by omega, fun j a b => by omega, fun a => by omega⟩
 | d + 1, i, h => by
  by_cases c : p (bt s (i : Int)) = true
  ·obtain ⟨e, h1, h2, h3, h4⟩ := stretch p s d (i + 1) (by omega)
   refine ⟨e, by omega, h2, fun j a b => ?_, h4⟩
   by_cases cj : j = i
   ·subst cj; exact c
   ·exact h3 j (by omega) b
  ·exact ⟨i, Nat.le_refl _, by omega, fun j a b => by omega, fun _ => Bool.eq_false_iff.mpr c⟩
theorem spn_is (g : Int → Option Bool) (p : Int → Bool) (s : ByteArray) (a e : Nat) (hg : ∀ j : Nat, g (bt s (j : Int)) = some (p (bt s (j : Int)))) (h2 : e ≤ s.size) (h3 : ∀ j : Nat, a ≤ j → j < e → p (bt s (j : Int)) = true) (h4 : e < s.size → p (bt s (e : Int)) = false) : ∀ (d i k : Nat), a + i + d = e → d < k → spnO g (s.extract a s.size) k i = some (e - a)
 | 0, i, k, h, hk => by
  obtain ⟨k, rfl⟩ : ∃ m, k = m + 1 := ⟨k - 1, by omega⟩
  have hz : (s.extract a s.size).size = s.size - a := by rw [ByteArray.size_extract]; omega
  rw [spnO_succ, hz]
  by_cases c : e < s.size
  ·rw [if_pos (by omega), bt_part s a s.size i (by omega) (Nat.le_refl _), hg, Option.bind_some, show a + i = e from by omega, h4 c, if_neg (by decide)]
   congr 1
   omega
  ·rw [if_neg (by omega)]
   congr 1
   omega
 | d + 1, i, k, h, hk => by
  obtain ⟨k, rfl⟩ : ∃ m, k = m + 1 := ⟨k - 1, by omega⟩
  have hz : (s.extract a s.size).size = s.size - a := by rw [ByteArray.size_extract]; omega
  rw [spnO_succ, hz, if_pos (by omega), bt_part s a s.size i (by omega) (Nat.le_refl _), hg, Option.bind_some, h3 (a + i) (by omega) (by omega), if_pos rfl]
  exact spn_is g p s a e hg h2 h3 h4 d (i + 1) k (by omega) (by omega)
theorem rest_is (t : ByteArray) (a : Nat) (ha : a ≤ t.size) : scan_Cutter_rest.f t (a : Int) true = some (t.extract a t.size, t, (a : Int), true) := by
 unfold scan_Cutter_rest.f scan_Cutter_there.f
 rw [Option.bind_some]
 dsimp only
 rw [if_pos rfl, if_pos (by omega), if_pos (by omega), Int.toNat_natCast]
theorem name_ref (t : ByteArray) (ht : t.size ≤ 140737488351232) (e : Nat) (h2 : e ≤ t.size) (a : Nat) (hae : a ≤ e) (h3 : ∀ j : Nat, a ≤ j → j < e → goi (bt t (j : Int)) = true) (h4 : e < t.size → goi (bt t (e : Int)) = false) : ∀ (d j : Nat), j + d = e → a ≤ j → Evn (fun k => vivariumref03_Cutter_Name.l0 k (j : Int) t (a : Int)) (if ((e - a : Nat) : Int) > 32 then ((⟨#[]⟩ : ByteArray), 6, t, (a : Int)) else (t.extract a e, 0, t, (e : Int)))
 | 0, j, h, hj => by
  obtain rfl : j = e := by omega
  have E1 : Aside0 (wrap64 ((j : Int) - (a : Int)) = ((j - a : Nat) : Int)) := ⟨by rw [w64 (by omega) (by omega)]; omega⟩
  refine Evn.const.step (g' := fun _ => some _) (fun k => ?_)
  simp only [vivariumref03_Cutter_Name.l0]
  rw [E1.out, Int.toNat_natCast, Int.toNat_natCast]
  by_cases c : j < t.size
  ·obtain ⟨n, hn, hb⟩ := bt_n256 t j
   have hg : vivariumref03_goes.f (bt t (j : Int)) = some (goi (bt t (j : Int))) := by rw [hb]; exact (goi_both n hn).2.1
   rw [if_pos (by omega), if_pos (by omega), hg, Option.bind_some, h4 c, if_neg (by decide)]
   by_cases cc : ((j - a : Nat) : Int) > 32
   ·rw [if_pos cc, if_pos cc]
   ·rw [if_neg cc, if_neg cc, if_pos (by omega), if_pos (by omega), if_pos (by omega)]
  ·rw [if_neg (by omega)]
   by_cases cc : ((j - a : Nat) : Int) > 32
   ·rw [if_pos cc, if_pos cc]
   ·rw [if_neg cc, if_neg cc, if_pos (by omega), if_pos (by omega), if_pos (by omega)]
 | d + 1, j, h, hj => by
  have ih := name_ref t ht e h2 a hae h3 h4 d (j + 1) (by omega) (by omega)
  have E2 : Aside0 (wrap64 ((j : Int) + 1) = ((j + 1 : Nat) : Int)) := ⟨w64 (by omega) (by omega)⟩
  obtain ⟨n, hn, hb⟩ := bt_n256 t j
  have hg : vivariumref03_goes.f (bt t (j : Int)) = some (goi (bt t (j : Int))) := by rw [hb]; exact (goi_both n hn).2.1
  refine ih.step (fun k => ?_)
  simp only [vivariumref03_Cutter_Name.l0]
  rw [if_pos (by omega), if_pos (by omega), hg, Option.bind_some, h3 j hj (by omega), if_pos rfl, E2.out]
theorem extract_ext (t : ByteArray) (a e : Nat) (h : a ≤ e) (h2 : e ≤ t.size) : (t.extract a t.size).extract 0 (e - a) = t.extract a e := by
 apply ByteArray.ext
 apply Array.toList_inj.1
 simp only [ByteArray.data_extract, Array.toList_extract, List.extract_eq_take_drop, List.drop_zero, Nat.sub_zero]
 rw [List.take_take]
 congr 1
 have : t.size = t.data.size := rfl
 omega
theorem name_both (t : ByteArray) (ht : t.size ≤ 140737488351232) (a : Nat) (ha : a ≤ t.size) : ∃ (r : ByteArray) (f : Int) (a' : Nat), a' ≤ t.size ∧ (f = 0 → a ≤ a' ∧ r = t.extract a a' ∧ a' ≤ a + 32) ∧ Evn (fun k => scan_Cutter_Name.f k t (a : Int) true) (r, f, t, (a' : Int), true) ∧ Evn (fun k => vivariumref03_Cutter_Name.f k t (a : Int)) (r, f, t, (a' : Int)) := by
 have hz : (t.extract a t.size).size = t.size - a := by rw [ByteArray.size_extract]; omega
 have hl : (t.extract a t.size).toList.length = t.size - a := by rw [ByteArray.toList_eq, Array.length_toList]; exact hz
 have bad : ∀ (g : Nat → Option (ByteArray × Int × ByteArray × Int × Bool)), (∀ k, g k = scan_Cutter_Name.j0 k (t.extract a t.size) true t (a : Int) true) → Evn g (⟨#[]⟩, 31, t, (a : Int), true) := fun g hg => by
  refine (Evn.step (g := fun k => scan_Cutter_Name.j0 k (t.extract a t.size) true t (a : Int) true) (g' := fun _ => some (⟨#[]⟩, 31, t, (a : Int), true)) Evn.const (fun k => ?_)).congr hg
  simp only [scan_Cutter_Name.j0, if_true]
 have bad2 : ∀ (g : Nat → Option (ByteArray × Int × ByteArray × Int)), (∀ k, g k = vivariumref03_Cutter_Name.j0 k true t (a : Int)) → Evn g (⟨#[]⟩, 31, t, (a : Int)) := fun g hg => by
  refine (Evn.step (g := fun k => vivariumref03_Cutter_Name.j0 k true t (a : Int)) (g' := fun _ => some (⟨#[]⟩, 31, t, (a : Int))) Evn.const (fun k => ?_)).congr hg
  simp only [vivariumref03_Cutter_Name.j0, if_true]
 have hthere : ∀ k, scan_Cutter_Name.f k t (a : Int) true = (if (t.extract a t.size).toList = ([] : List UInt8) then (scan_Cutter_Name.j0 k (t.extract a t.size) true t (a : Int) true) else (if 0 < ((t.extract a t.size).size : Int) then ((scan_isLetter.f (bt (t.extract a t.size) 0)).bind fun t155 => (scan_Cutter_Name.j0 k (t.extract a t.size) (!t155) t (a : Int) true)) else (none))) := fun k => by
  unfold scan_Cutter_Name.f scan_Cutter_there.f
  rw [Option.bind_some]
  dsimp only
  rw [if_pos rfl, rest_is t a ha, Option.bind_some]
 by_cases c : a = t.size
 ·have e : (t.extract a t.size).toList = [] := List.eq_nil_of_length_eq_zero (by omega)
  refine ⟨⟨#[]⟩, 31, a, ha, fun h => by simp at h, bad _ (fun k => ?_), bad2 _ (fun k => ?_)⟩
  ·rw [hthere, if_pos e]
  ·unfold vivariumref03_Cutter_Name.f
   rw [if_pos (by omega)]
 ·have e : ¬ (t.extract a t.size).toList = [] := fun h => by rw [h, List.length_nil] at hl; omega
  have hb0 := bt_part t a t.size 0 (by omega) (Nat.le_refl _)
  rw [Nat.add_zero] at hb0
  have hb0' : bt (t.extract a t.size) 0 = bt t (a : Int) := hb0
  obtain ⟨n, hn, hb⟩ := bt_n256 t a
  obtain ⟨_, _, q3, q4⟩ := goi_both n hn
  obtain ⟨lt, hlt⟩ := Option.isSome_iff_exists.1 q4
  have p1 : ∀ k, scan_Cutter_Name.f k t (a : Int) true = scan_Cutter_Name.j0 k (t.extract a t.size) (!lt) t (a : Int) true := fun k => by
   rw [hthere, if_neg e, if_pos (by rw [hz]; omega), hb0', hb, q3, hlt, Option.bind_some]
  have p2 : ∀ k, vivariumref03_Cutter_Name.f k t (a : Int) = vivariumref03_Cutter_Name.j0 k (!lt) t (a : Int) := fun k => by
   unfold vivariumref03_Cutter_Name.f
   rw [if_neg (by omega), if_pos (by omega), if_pos (by omega), hb, hlt, Option.bind_some]
  cases lt
  ·exact ⟨⟨#[]⟩, 31, a, ha, fun h => by simp at h, bad _ p1, bad2 _ p2⟩
  ·obtain ⟨e, g1, g2, g3, g4⟩ := stretch goi t (t.size - a) a (by omega)
   have hs := spn_is scan_inName.f goi t a e (fun j => by obtain ⟨n, hn, hb⟩ := bt_n256 t j; rw [hb]; exact (goi_both n hn).1) g2 g3 g4 (e - a) 0 ((t.extract a t.size).size + 1) (by omega) (by omega)
   have hr := name_ref t ht e g2 a g1 g3 g4 (e - a) a (by omega) (Nat.le_refl _)
   have hsp : scan_span.f (t.extract a t.size) 51 = some ((e - a : Nat) : Int) := by
    unfold scan_span.f
    rw [if_pos (by omega)]
    repeat (rw [if_neg (by decide)])
    rw [if_pos rfl, hs]
    rfl
   have hj0 : ∀ k, scan_Cutter_Name.j0 (k + 1) (t.extract a t.size) false t (a : Int) true = some (if ((e - a : Nat) : Int) > 32 then ((⟨#[]⟩ : ByteArray), 6, t, (a : Int), true) else (t.extract a e, 0, t, (e : Int), true)) := fun k => by
    have E1 : wrap64 ((a : Int) + ((e - a : Nat) : Int)) = (e : Int) := by rw [w64 (by omega) (by omega)]; omega
    simp only [scan_Cutter_Name.j0]
    rw [if_neg (by decide), hsp, Option.bind_some, E1]
    clear E1
    by_cases cc : ((e - a : Nat) : Int) > 32
    ·rw [if_pos cc, if_pos cc]
    ·rw [if_neg cc, if_neg cc, if_pos (by omega), if_pos (by rw [hz]; omega), Int.toNat_natCast, extract_ext t a e g1 g2]
   have hj2 : ∀ k, vivariumref03_Cutter_Name.j0 (k + 1) false t (a : Int) = vivariumref03_Cutter_Name.l0 k (a : Int) t (a : Int) := fun k => by
    simp only [vivariumref03_Cutter_Name.j0]
    rw [if_neg (by decide)]
   by_cases cc : ((e - a : Nat) : Int) > 32
   ·rw [if_pos cc] at hr
    refine ⟨⟨#[]⟩, 6, a, ha, fun h => by simp at h, ?_, ?_⟩
    ·refine (Evn.step (g := fun k => scan_Cutter_Name.j0 k (t.extract a t.size) false t (a : Int) true) (g' := fun _ => some (⟨#[]⟩, 6, t, (a : Int), true)) Evn.const (fun k => ?_)).congr p1
     rw [hj0, if_pos cc]
    ·exact (hr.step (g := fun k => vivariumref03_Cutter_Name.j0 k false t (a : Int)) hj2).congr p2
   ·rw [if_neg cc] at hr
    refine ⟨t.extract a e, 0, e, g2, fun _ => ⟨g1, rfl, by omega⟩, ?_, ?_⟩
    ·refine (Evn.step (g := fun k => scan_Cutter_Name.j0 k (t.extract a t.size) false t (a : Int) true) (g' := fun _ => some (t.extract a e, 0, t, (e : Int), true)) Evn.const (fun k => ?_)).congr p1
     rw [hj0, if_neg cc]
    ·exact (hr.step (g := fun k => vivariumref03_Cutter_Name.j0 k false t (a : Int)) hj2).congr p2
theorem ext_inj0 (t : ByteArray) (a : Nat) (ha : a ≤ t.size) : (t.extract 0 a).toList = t.toList ↔ a = t.size := by
 constructor
 ·intro h
  have h2 := congrArg List.length h
  rw [ByteArray.toList_eq, ByteArray.toList_eq, Array.length_toList, Array.length_toList] at h2
  have h3 : (t.extract 0 a).size = t.size := h2
  rw [ByteArray.size_extract] at h3
  omega
 ·rintro rfl
  congr 1
  apply ByteArray.ext
  simp
/-- Both say whether a text is a name (the program: and not 'var'). -/
theorem named_both' (t : ByteArray) (ht : t.size ≤ 140737488351232) : ∃ b : Bool, (b = true → t.size ≤ 32) ∧ Evn (fun k => vivariumref10_isName.f k t) b ∧ Evn (fun k => table_named.f k t) (b && (t.toList != ([118, 97, 114] : List UInt8))) := by
 obtain ⟨r, f, a', h1, h2, h3, h4⟩ := name_both t ht 0 (Nat.zero_le _)
 refine ⟨decide (f = 0) && decide (a' = t.size), fun hb => ?_, ?_, ?_⟩
 ·rw [Bool.and_eq_true, decide_eq_true_eq, decide_eq_true_eq] at hb
  obtain ⟨_, _, h5⟩ := h2 hb.1
  omega
 ·refine Evn.congr (g' := fun k => (vivariumref03_Cutter_Name.f k t ((0 : Nat) : Int)).bind fun x => if x.2.1 = 0 then some (x.1.toList == t.toList) else some false) ?_ (fun k => rfl)
  refine Evn.bind h4 ?_
  by_cases c : f = 0
  ·obtain ⟨_, rfl, _⟩ := h2 c
   refine Evn.of ?_
   dsimp only
   rw [if_pos c, decide_eq_true c, Bool.true_and]
   congr 1
   by_cases c2 : a' = t.size
   ·rw [decide_eq_true c2, beq_iff_eq]; exact (ext_inj0 t a' h1).2 c2
   ·rw [decide_eq_false c2, beq_eq_false_iff_ne]; exact fun h => c2 ((ext_inj0 t a' h1).1 h)
  ·refine Evn.of ?_
   dsimp only
   rw [if_neg c, decide_eq_false c, Bool.false_and]
 ·refine Evn.congr (g' := fun k => (scan_Cutter_Name.f k t ((0 : Nat) : Int) true).bind fun x => if x.2.1 = 0 then ((scan_Cutter_Done.f x.2.2.1 x.2.2.2.1 x.2.2.2.2).bind fun y => if y.1 = true then some (t.toList != ([118, 97, 114] : List UInt8)) else some false) else some false) ?_ (fun k => rfl)
  refine Evn.bind h3 ?_
  by_cases c : f = 0
  ·refine Evn.of ?_
   dsimp only
   rw [if_pos c, decide_eq_true c, Bool.true_and]
   unfold scan_Cutter_Done.f
   rw [Option.bind_some]
   dsimp only
   rw [Bool.true_and]
   by_cases c2 : a' = t.size
   ·rw [if_pos (by rw [c2]; exact beq_self_eq_true _), decide_eq_true c2, Bool.true_and]
   ·rw [if_neg (by rw [beq_iff_eq]; omega), decide_eq_false c2, Bool.false_and]
  ·refine Evn.of ?_
   dsimp only
   rw [if_neg c, decide_eq_false c, Bool.false_and, Bool.false_and]
theorem named_both (t : ByteArray) (ht : t.size ≤ 140737488351232) : ∃ b : Bool, Evn (fun k => vivariumref10_isName.f k t) b ∧ Evn (fun k => table_named.f k t) (b && (t.toList != ([118, 97, 114] : List UInt8))) := by
 obtain ⟨b, _, h⟩ := named_both' t ht
 exact ⟨b, h⟩
theorem name_small (t : ByteArray) (ht : t.size ≤ 140737488351232) (h : Evn (fun k => vivariumref10_isName.f k t) true) : t.size ≤ 32 := by
 obtain ⟨b, h1, h2, _⟩ := named_both' t ht
 exact h1 (Evn.one h2 h)
end Go.Proofs.YtajhfkcmfmhnaaaDoor.L
end
section
namespace Go.Proofs.YtajhfkcmfmhnaaaDoor.L
open Go.RowKit Go.Proofs.YtajhfkcmfmhnaaaDoor.P Go.Proofs.YtajhfkcmfmhnaaaDoorW.PrintWords Go.Proofs.YtajhfkcmfmhnaaaDoorW.PrintLast Go.Proofs.YtajhfkcmfmhnaaaDoorW.PrintMore
set_option linter.unusedVariables false
set_option linter.unusedSimpArgs false
/-- A variable of a table, a term, a row. -/
abbrev Vr := S49
abbrev Tm := S38
abbrev Rw := S41
/-- Which state each variable has; below 0: none yet. -/
abbrev Bd := Nat → Int
def upd (b : Bd) (v : Nat) (s : Int) : Bd := fun i => if i = v then s else b i
def vrAt (vs : List Vr) (x : Tm) : List Int := (vs.getD x.f1.toNat z49).f1
/-- Does a term take a state .. -/
def fitB (vs : List Vr) (b : Bd) (x : Tm) (s : Int) : Bool := if x.f1 < 0 then x.f0 == s else if 0 ≤ b x.f1.toNat then b x.f1.toNat == s else (vrAt vs x).contains s
/-- .. and what the variables have from then on. -/
def fitU (vs : List Vr) (b : Bd) (x : Tm) (s : Int) : Bd := if x.f1 < 0 then b else if 0 ≤ b x.f1.toNat then b else if (vrAt vs x).contains s = true then upd b x.f1.toNat s else b
/-- The first of d numbers from k on that has an answer. -/
def fk (f : Nat → Option Int) : Nat → Nat → Option Int
 | _, 0 => none
 | k, d + 1 => match f k with
  | some v => some v
  | none => fk f (k + 1) d
/-- All orders, the least first (the document). -/
def anyF (vs : List Vr) (out : Bd → Int) (around : List Int) : List Tm → (Nat → Bool) → Bd → Option Int
 | [], _, b => some (out b)
 | x :: xs, tk, b => fk (fun k => if tk k = true then none else if fitB vs b x (rd around k) = true then anyF vs out around xs (fun i => if i = k then true else tk i) (fitU vs b x (rd around k)) else none) 0 around.length
def frK (around : List Int) (tk : Nat → Bool) (f : Nat → Option Int) : Nat → Nat → (Int → Bool) → Option Int
 | _, 0, _ => none
 | k, d + 1, tr => if (tk k || tr (rd around k)) = true then frK around tk f (k + 1) d tr else match f k with
  | some v => some v
  | none => frK around tk f (k + 1) d (fun s => if s = rd around k then true else tr s)
/-- .. another neighbour of a state that was tried is passed over (the program). -/
def freeF (vs : List Vr) (out : Bd → Int) (around : List Int) : List Tm → (Nat → Bool) → Bd → Option Int
 | [], _, b => some (out b)
 | x :: xs, tk, b => frK around tk (fun k => if fitB vs b x (rd around k) = true then freeF vs out around xs (fun i => if i = k then true else tk i) (fitU vs b x (rd around k)) else none) 0 around.length (fun _ => false)
theorem fk_isSome (f : Nat → Option Int) : ∀ (d k : Nat), (fk f k d).isSome = true ↔ ∃ i, k ≤ i ∧ i < k + d ∧ (f i).isSome = true
 | 0, k => by simp [fk]; intro i h1 h2; omega
 | d + 1, k => by
  rw [fk]
  cases h : f k with
  | some v => simp only [Option.isSome_some, true_iff]; exact ⟨k, Nat.le_refl _, by omega, by rw [h]; rfl⟩
  | none =>
   simp only
   rw [fk_isSome f d (k + 1)]
   constructor
   ·rintro ⟨i, h1, h2, h3⟩; exact ⟨i, by omega, by omega, h3⟩
   ·rintro ⟨i, h1, h2, h3⟩
    refine ⟨i, ?_, by omega, h3⟩
    rcases Nat.lt_or_ge k i with h4 | h4
    ·exact h4
    ·have : i = k := by omega
     rw [this, h] at h3; simp at h3
/-- Two places of one state may be exchanged. -/
def swp (a c i : Nat) : Nat := if i = a then c else if i = c then a else i
theorem swp_swp (a c i : Nat) : swp a c (swp a c i) = i := by
 unfold swp
 by_cases h1 : i = a
 ·by_cases h2 : c = a
  ·simp [h1, h2]
  ·simp [h1, h2]
 ·by_cases h2 : i = c
  ·simp [h1, h2]
  ·simp [h1, h2]
theorem swp_lt {a c i n : Nat} (ha : a < n) (hc : c < n) (hi : i < n) : swp a c i < n := by
 unfold swp; split
 ·exact hc
 ·split <;> assumption
theorem swp_rd {around : List Int} {a c : Nat} (h : rd around a = rd around c) (i : Nat) : rd around (swp a c i : Nat) = rd around i := by
 unfold swp
 by_cases h1 : i = a
 ·rw [if_pos h1, h1, h]
 ·rw [if_neg h1]
  by_cases h2 : i = c
  ·rw [if_pos h2, h2, h]
  ·rw [if_neg h2]
theorem any_isSome_cons (vs : List Vr) (out : Bd → Int) (around : List Int) (x : Tm) (xs : List Tm) (tk : Nat → Bool) (b : Bd) :
  (anyF vs out around (x :: xs) tk b).isSome = true ↔ ∃ i, i < around.length ∧ tk i = false ∧ fitB vs b x (rd around i) = true ∧ (anyF vs out around xs (fun j => if j = i then true else tk j) (fitU vs b x (rd around i))).isSome = true := by
 rw [anyF, fk_isSome]
 constructor
 ·rintro ⟨i, _, h2, h3⟩
  by_cases h4 : tk i = true
  ·rw [if_pos h4] at h3; simp at h3
  ·rw [if_neg h4] at h3
   by_cases h5 : fitB vs b x (rd around i) = true
   ·rw [if_pos h5] at h3; exact ⟨i, by omega, by simpa using h4, h5, h3⟩
   ·rw [if_neg h5] at h3; simp at h3
 ·rintro ⟨i, h1, h2, h3, h4⟩
  refine ⟨i, Nat.zero_le _, by omega, ?_⟩
  rw [if_neg (by rw [h2]; simp), if_pos h3]
  exact h4
theorem any_swap (vs : List Vr) (out : Bd → Int) (around : List Int) {a c : Nat} (ha : a < around.length) (hc : c < around.length) (h : rd around a = rd around c) :
  ∀ (xs : List Tm) (tk tk' : Nat → Bool) (b : Bd), (∀ i, tk' i = tk (swp a c i)) → (anyF vs out around xs tk b).isSome = true → (anyF vs out around xs tk' b).isSome = true
 | [], tk, tk', b, ht, hs => by simp [anyF]
 | x :: xs, tk, tk', b, ht, hs => by
  rw [any_isSome_cons] at hs ⊢
  obtain ⟨i, h1, h2, h3, h4⟩ := hs
  refine ⟨swp a c i, swp_lt ha hc h1, by rw [ht, swp_swp]; exact h2, by rw [swp_rd h]; exact h3, ?_⟩
  rw [swp_rd h]
  refine any_swap vs out around ha hc h xs _ _ _ (fun j => ?_) h4
  by_cases h5 : j = swp a c i
  ·subst h5; simp [swp_swp]
  ·rw [if_neg h5]
   have : swp a c j ≠ i := fun h6 => h5 (by rw [← h6, swp_swp])
   rw [if_neg this, ht]
theorem any_one (vs : List Vr) (out : Bd → Int) (around : List Int) {a c : Nat} (ha : a < around.length) (hc : c < around.length) (h : rd around a = rd around c) (xs : List Tm) (tk : Nat → Bool) (b : Bd) (hta : tk a = false) (htc : tk c = false)
  (hn : anyF vs out around xs (fun i => if i = a then true else tk i) b = none) : anyF vs out around xs (fun i => if i = c then true else tk i) b = none := by
 cases h1 : anyF vs out around xs (fun i => if i = c then true else tk i) b with
 | none => rfl
 | some v =>
  have := any_swap vs out around ha hc h xs (fun i => if i = c then true else tk i) (fun i => if i = a then true else tk i) b (fun i => by
   unfold swp
   by_cases e1 : i = a
   ·simp [e1]
   ·by_cases e2 : i = c
    ·subst e2; rw [if_neg e1, if_neg e1, if_pos rfl, if_neg (fun e3 => e1 e3.symm), hta, htc]
    ·simp [e1, e2]) (by rw [h1]; rfl)
  rw [hn] at this; simp at this
theorem frK_eq (around : List Int) (tk : Nat → Bool) (f : Nat → Option Int) (hsym : ∀ a c, a < around.length → c < around.length → tk a = false → tk c = false → rd around a = rd around c → f a = none → f c = none) :
  ∀ (d k : Nat) (tr : Int → Bool), k + d = around.length → (∀ s, tr s = true → ∀ c, c < around.length → tk c = false → rd around c = s → f c = none) → frK around tk f k d tr = fk (fun k => if tk k = true then none else f k) k d
 | 0, k, tr, _, _ => rfl
 | d + 1, k, tr, hk, htr => by
  rw [frK, fk]
  by_cases h1 : tk k = true
  ·rw [if_pos (by simp [h1])]
   simp only [h1, if_true]
   exact frK_eq around tk f hsym d (k + 1) tr (by omega) htr
  ·have h1' : tk k = false := by simpa using h1
   by_cases h2 : tr (rd around k) = true
   ·rw [if_pos (by simp [h2])]
    simp only [h1']
    rw [if_neg (by simp), htr _ h2 k (by omega) h1' rfl]
    exact frK_eq around tk f hsym d (k + 1) tr (by omega) htr
   ·rw [if_neg (by simp [h1', h2])]
    simp only [h1']
    rw [if_neg (by simp)]
    cases h3 : f k with
    | some v => rfl
    | none =>
     simp only
     refine frK_eq around tk f hsym d (k + 1) _ (by omega) (fun s hs c hc htc hrc => ?_)
     by_cases h4 : s = rd around k
     ·exact hsym k c (by omega) hc h1' htc (by rw [hrc, h4]) h3
     ·rw [if_neg h4] at hs; exact htr s hs c hc htc hrc
theorem free_eq (vs : List Vr) (out : Bd → Int) (around : List Int) : ∀ (ts : List Tm) (tk : Nat → Bool) (b : Bd), freeF vs out around ts tk b = anyF vs out around ts tk b
 | [], _, _ => rfl
 | x :: xs, tk, b => by
  rw [freeF, anyF]
  have e : (fun k : Nat => if fitB vs b x (rd around k) = true then freeF vs out around xs (fun i => if i = k then true else tk i) (fitU vs b x (rd around k)) else none) = (fun k : Nat => if fitB vs b x (rd around k) = true then anyF vs out around xs (fun i => if i = k then true else tk i) (fitU vs b x (rd around k)) else none) := by
   funext k; rw [free_eq vs out around xs]
  rw [e]
  rw [frK_eq around tk _ ?_ around.length 0 _ (by omega) (fun s hs => by simp at hs)]
  intro a c ha hc hta htc hac hn
  rw [hac] at hn
  by_cases h1 : fitB vs b x (rd around c) = true
  ·rw [if_pos h1] at hn ⊢
   exact any_one vs out around ha hc hac xs tk _ hta htc hn
  ·rw [if_neg h1]
end Go.Proofs.YtajhfkcmfmhnaaaDoor.L
end
section
namespace Go.Proofs.YtajhfkcmfmhnaaaDoor.L
open Go.RowKit Go.Proofs.YtajhfkcmfmhnaaaDoorW.PrintWords
theorem blk_new' (w : World) (o : Obj) (n : Nat) (h : n = w.heap.size) : (w.alloc o).heap[n]? = some o := by subst h; exact blk_new w o
theorem cell_in {B : Nat} {W w : World} {g : Nat} {t : TypeId} {cs : Array Value} (h : W.heap[g]? = some (.cells cs t (0, 0))) (hb : Below B W w) (hg : g < B) (i : Nat) : w.cell? ⟨g, i, none⟩ = cs[i]? :=
 blk_cell ((hb.block g hg).trans h) i
end Go.Proofs.YtajhfkcmfmhnaaaDoor.L
end
section
namespace Go.Proofs.YtajhfkcmfmhnaaaDoor.L
open Go.RowKit
set_option linter.unusedVariables false
set_option linter.unusedSimpArgs false
set_option maxHeartbeats 8000000 in
set_option maxRecDepth 100000 in
theorem hood_within1 (w : World) :
  Calls Tryd.prog 45 #[.int .u8 1] w fun e w' => e = .returned (.tuple #[.agg #[.bool true, .bool true, .bool true, .bool true, .bool true, .bool true, .bool true, .bool true], .int .i64 0]) ∧ w' = (w.alloc (.cells #[.bool true, .bool true, .bool true, .bool true, .bool true, .bool true, .bool true, .bool true] 86)) := by
  go_enter Tryd.func45, Tryd.ntmps45
  go_wp2
  exact bodyPost_ret (v := .tuple #[.agg #[.bool true, .bool true, .bool true, .bool true, .bool true, .bool true, .bool true, .bool true], .int .i64 0]) (by simp [results, Tryd.results45, go_sem]) rfl ⟨rfl, rfl⟩
set_option maxHeartbeats 8000000 in
set_option maxRecDepth 100000 in
theorem hood_within2 (w : World) :
  Calls Tryd.prog 45 #[.int .u8 2] w fun e w' => e = .returned (.tuple #[.agg #[.bool true, .bool false, .bool true, .bool false, .bool true, .bool false, .bool true, .bool false], .int .i64 0]) ∧ w' = (w.alloc (.cells #[.bool true, .bool false, .bool true, .bool false, .bool true, .bool false, .bool true, .bool false] 86)) := by
  go_enter Tryd.func45, Tryd.ntmps45
  go_wp2
  exact bodyPost_ret (v := .tuple #[.agg #[.bool true, .bool false, .bool true, .bool false, .bool true, .bool false, .bool true, .bool false], .int .i64 0]) (by simp [results, Tryd.results45, go_sem]) rfl ⟨rfl, rfl⟩
set_option maxHeartbeats 8000000 in
set_option maxRecDepth 100000 in
theorem hood_within3 (w : World) :
  Calls Tryd.prog 45 #[.int .u8 3] w fun e w' => e = .returned (.tuple #[.agg #[.bool true, .bool false, .bool true, .bool true, .bool true, .bool false, .bool true, .bool true], .int .i64 0]) ∧ w' = (w.alloc (.cells #[.bool true, .bool false, .bool true, .bool true, .bool true, .bool false, .bool true, .bool true] 86)) := by
  go_enter Tryd.func45, Tryd.ntmps45
  go_wp2
  exact bodyPost_ret (v := .tuple #[.agg #[.bool true, .bool false, .bool true, .bool true, .bool true, .bool false, .bool true, .bool true], .int .i64 0]) (by simp [results, Tryd.results45, go_sem]) rfl ⟨rfl, rfl⟩
set_option maxHeartbeats 8000000 in
set_option maxRecDepth 100000 in
theorem hood_within0 (a : Int) (h1 : (a == 1) = false) (h2 : (a == 2) = false) (h3 : (a == 3) = false) (w : World) :
  Calls Tryd.prog 45 #[.int .u8 a] w fun e w' => e = .returned (.tuple #[.agg #[.bool false, .bool false, .bool false, .bool false, .bool false, .bool false, .bool false, .bool false], .int .i64 70]) ∧ w' = (w.alloc (.cells #[.bool false, .bool false, .bool false, .bool false, .bool false, .bool false, .bool false, .bool false] 86)) := by
  go_enter Tryd.func45, Tryd.ntmps45
  go_wp2
  exact bodyPost_ret (v := .tuple #[.agg #[.bool false, .bool false, .bool false, .bool false, .bool false, .bool false, .bool false, .bool false], .int .i64 70]) (by simp [results, Tryd.results45, go_sem]) rfl ⟨rfl, rfl⟩
set_option maxHeartbeats 8000000 in
set_option maxRecDepth 100000 in
theorem hood_all0 (w : World) :
  Calls Tryd.prog 46 #[] w fun e w' => e = .returned (.agg #[.int .i64 0, .int .i64 (-1), .int .i64 1, .int .i64 (-1), .int .i64 1, .int .i64 0, .int .i64 1, .int .i64 1, .int .i64 0, .int .i64 1, .int .i64 (-1), .int .i64 1, .int .i64 (-1), .int .i64 0, .int .i64 (-1), .int .i64 (-1)]) ∧ w' = w.alloc (.cells #[.int .i64 0, .int .i64 (-1), .int .i64 1, .int .i64 (-1), .int .i64 1, .int .i64 0, .int .i64 1, .int .i64 1, .int .i64 0, .int .i64 1, .int .i64 (-1), .int .i64 1, .int .i64 (-1), .int .i64 0, .int .i64 (-1), .int .i64 (-1)] 89) := by
  go_enter Tryd.func46, Tryd.ntmps46
  go_wp2
  exact bodyPost_ret (v := .agg #[.int .i64 0, .int .i64 (-1), .int .i64 1, .int .i64 (-1), .int .i64 1, .int .i64 0, .int .i64 1, .int .i64 1, .int .i64 0, .int .i64 1, .int .i64 (-1), .int .i64 1, .int .i64 (-1), .int .i64 0, .int .i64 (-1), .int .i64 (-1)]) (by simp [results, Tryd.results46, go_sem]) rfl ⟨rfl, rfl⟩
end Go.Proofs.YtajhfkcmfmhnaaaDoor.L
end
section
namespace Go.Proofs.YtajhfkcmfmhnaaaDoor.P
open Go.RowKit Go.Proofs.YtajhfkcmfmhnaaaDoorW.PrintWords Go.Proofs.YtajhfkcmfmhnaaaDoorW.PrintLast Go.Proofs.YtajhfkcmfmhnaaaDoorW.PrintMore
attribute [local go_sem] max2_int min2_int max_two min_two max_three min_three max_four min_four   -- for this text's walks alone
set_option linter.unusedVariables false
set_option linter.unusedSimpArgs false
open Go.Proofs.YtajhfkcmfmhnaaaDoor.L
def hoodPts : List S83 := [⟨0, (-1)⟩, ⟨1, (-1)⟩, ⟨1, 0⟩, ⟨1, 1⟩, ⟨0, 1⟩, ⟨(-1), 1⟩, ⟨(-1), 0⟩, ⟨(-1), (-1)⟩]
def picked : List Bool → List S83 → List S83
 | true :: bs, p :: ps => p :: picked bs ps
 | false :: bs, _ :: ps => picked bs ps
 | _, _ => []
theorem picked_le : ∀ (bs : List Bool) (ps : List S83), bs.length ≤ 8 → (picked bs ps).length ≤ bs.length
 | [], ps, _ => by simp [picked]
 | b :: bs, [], _ => by cases b <;> simp [picked]
 | true :: bs, q :: ps, h => by
  have := picked_le bs ps (by simp at h; omega)
  simp only [picked, List.length_cons]; omega
 | false :: bs, q :: ps, h => by
  have := picked_le bs ps (by simp at h; omega)
  simp only [picked, List.length_cons]; omega
theorem picked_snoc (b : Bool) (p : S83) : ∀ (bs : List Bool) (ps : List S83), bs.length = ps.length → picked (bs ++ [b]) (ps ++ [p]) = picked bs ps ++ (if b = true then [p] else [])
 | [], [], _ => by cases b <;> rfl
 | true :: bs, q :: ps, h => by simp only [List.cons_append, picked]; rw [picked_snoc b p bs ps (by simpa using h)]
 | false :: bs, q :: ps, h => by simp only [List.cons_append, picked]; rw [picked_snoc b p bs ps (by simpa using h)]
set_option maxHeartbeats 8000000 in
set_option maxRecDepth 100000 in
theorem hood_Offsets.calls_of (a0 : Int) (b0 b1 b2 b3 b4 b5 b6 b7 : Bool) (hin : ∀ w : World, Calls Tryd.prog 45 #[.int .u8 a0] w fun e w' => e = .returned (.tuple #[.agg #[.bool b0, .bool b1, .bool b2, .bool b3, .bool b4, .bool b5, .bool b6, .bool b7], .int .i64 0]) ∧ w' = (w.alloc (.cells #[.bool b0, .bool b1, .bool b2, .bool b3, .bool b4, .bool b5, .bool b6, .bool b7] 86))) (w : World) :
  Calls Tryd.prog 36 #[.int .u8 a0] w fun e w' => ∃ v0_ : Value, e = .returned (.tuple #[v0_, .int .i64 0]) ∧ Kd.R k83 83 w' w.heap.size (fun _ => True) v0_ (picked [b0, b1, b2, b3, b4, b5, b6, b7] hoodPts) ∧ Below w.heap.size w w' := by
 have HIN := Aside0.mk hin
 clear hin
 go_enter Tryd.func36, Tryd.ntmps36
 go_wp2_with (first | (go_at_call 45; refine (HIN.out _).mono ?_; rintro e w' ⟨rfl, rfl⟩) | (go_at_call 46; refine (hood_all0 _).mono ?_; rintro e w' ⟨rfl, rfl⟩))
 obtain ⟨W1, hW1⟩ : ∃ W1, (((w.alloc (Obj.cells #[.bool b0, .bool b1, .bool b2, .bool b3, .bool b4, .bool b5, .bool b6, .bool b7] 86)).alloc (Obj.cells #[.bool b0, .bool b1, .bool b2, .bool b3, .bool b4, .bool b5, .bool b6, .bool b7] 86)).alloc (Obj.cells #[.int .i64 0, .int .i64 (-1), .int .i64 1, .int .i64 (-1), .int .i64 1, .int .i64 0, .int .i64 1, .int .i64 1, .int .i64 0, .int .i64 1, .int .i64 (-1), .int .i64 1, .int .i64 (-1), .int .i64 0, .int .i64 (-1), .int .i64 (-1)] 89)).alloc (Obj.cells #[.int .i64 0, .int .i64 (-1), .int .i64 1, .int .i64 (-1), .int .i64 1, .int .i64 0, .int .i64 1, .int .i64 1, .int .i64 0, .int .i64 1, .int .i64 (-1), .int .i64 1, .int .i64 (-1), .int .i64 0, .int .i64 (-1), .int .i64 (-1)] 89) = W1 := ⟨_, rfl⟩
 have hz : W1.heap.size = w.heap.size + 4 := by rw [← hW1]; simp
 have hin : W1.heap[w.heap.size + 1]? = some (.cells #[.bool b0, .bool b1, .bool b2, .bool b3, .bool b4, .bool b5, .bool b6, .bool b7] 86 (0, 0)) := by rw [← hW1]; exact blk_alloc (blk_alloc (blk_new' _ _ _ (by simp)) _) _
 have hof : W1.heap[w.heap.size + 1 + 1 + 1]? = some (.cells #[.int .i64 0, .int .i64 (-1), .int .i64 1, .int .i64 (-1), .int .i64 1, .int .i64 0, .int .i64 1, .int .i64 1, .int .i64 0, .int .i64 1, .int .i64 (-1), .int .i64 1, .int .i64 (-1), .int .i64 0, .int .i64 (-1), .int .i64 (-1)] 89 (0, 0)) := by rw [← hW1]; exact blk_new' _ _ _ (by simp)
 have hb1 : Below w.heap.size w W1 := by rw [← hW1]; exact (((((Below.refl _ _).alloc (Nat.le_refl _) _).alloc (by simp) _).alloc (by simp; omega) _).alloc (by simp; omega) _)
 rw [hW1]
 clear hW1
 have HB1 := Aside0.mk hb1
 have HZ := Aside0.mk hz
 have HIN2 := Aside0.mk hin
 have HOF := Aside0.mk hof
 clear hb1 hz hin hof
 go_loopw [7, 20] (fun v i wr => ∃ k : Nat, k ≤ 8 ∧ i = .int .i64 k ∧ Aside0 (Kd.R k83 83 wr W1.heap.size (fun _ => True) v (picked ([b0, b1, b2, b3, b4, b5, b6, b7].take k) (hoodPts.take k))) ∧ Aside0 (Below W1.heap.size W1 wr)) (fun _ i _ => 8 - (intOf i).toNat)
 case atStart => exact ⟨0, by omega, rfl, ⟨Kd.R_nil _ _ _ _ _⟩, ⟨Below.refl _ _⟩⟩
 case round =>
  obtain ⟨k, hk, rfl, HO, HB⟩ := hrel
  by_cases h8 : k < 8
  ·have p0 : (0 : Int) ≤ (k : Int) := by omega
   have p1 : (k : Int) < 8 := by omega
   have g0 : wr.cell? ⟨w.heap.size + 1 + 1 + 1, k * 2, none⟩ = some (.int .i64 (hoodPts.getD k ⟨0, 0⟩).f0) := by
    rw [cell_in HOF.out HB.out (by have := HZ.out; omega)]
    obtain rfl | rfl | rfl | rfl | rfl | rfl | rfl | rfl : k = 0 ∨ k = 1 ∨ k = 2 ∨ k = 3 ∨ k = 4 ∨ k = 5 ∨ k = 6 ∨ k = 7 := by omega
    all_goals rfl
   have g1 : wr.cell? ⟨w.heap.size + 1 + 1 + 1, k * 2 + 1, none⟩ = some (.int .i64 (hoodPts.getD k ⟨0, 0⟩).f1) := by
    rw [cell_in HOF.out HB.out (by have := HZ.out; omega)]
    obtain rfl | rfl | rfl | rfl | rfl | rfl | rfl | rfl : k = 0 ∨ k = 1 ∨ k = 2 ∨ k = 3 ∨ k = 4 ∨ k = 5 ∨ k = 6 ∨ k = 7 := by omega
    all_goals rfl
   have g2 : wr.cell? ⟨w.heap.size + 1, k, none⟩ = some (.bool ([b0, b1, b2, b3, b4, b5, b6, b7].getD k false)) := by
    rw [cell_in HIN2.out HB.out (by have := HZ.out; omega)]
    obtain rfl | rfl | rfl | rfl | rfl | rfl | rfl | rfl : k = 0 ∨ k = 1 ∨ k = 2 ∨ k = 3 ∨ k = 4 ∨ k = 5 ∨ k = 6 ∨ k = 7 := by omega
    all_goals rfl
   have hstep : picked ([b0, b1, b2, b3, b4, b5, b6, b7].take (k + 1)) (hoodPts.take (k + 1)) = picked ([b0, b1, b2, b3, b4, b5, b6, b7].take k) (hoodPts.take k) ++ (if [b0, b1, b2, b3, b4, b5, b6, b7].getD k false = true then [hoodPts.getD k ⟨0, 0⟩] else []) := by
    rw [List.take_succ_eq_append_getElem (by exact h8), List.take_succ_eq_append_getElem (by exact h8), picked_snoc _ _ _ _ (by simp [hoodPts])]
    simp only [List.getD_eq_getElem?_getD]
    rw [List.getElem?_eq_getElem (by exact h8), List.getElem?_eq_getElem (by exact h8)]
    rfl
   generalize hoodPts.getD k ⟨0, 0⟩ = p at g0 g1 hstep
   generalize [b0, b1, b2, b3, b4, b5, b6, b7].getD k false = bk at g2 hstep
   have HS := Aside0.mk hstep
   clear hstep
   go_wp2
   refine start_ (n := 7) (S := fun w' => w'.cell? ⟨w.heap.size + 1 + 1 + 1, k * 2, none⟩ = some (.int .i64 p.f0) ∧ w'.cell? ⟨w.heap.size + 1 + 1 + 1, k * 2 + 1, none⟩ = some (.int .i64 p.f1)) (ds := [6]) #[false, false, false, false, false, false, false] (by kernel_rfl) rfl rfl ⟨g0, g1⟩ (fun hHeld => ?_)
   refine pure_ (i := 0) (N := some 22) (v := ?_) (a' := ?_) #[true, false, false, false, false, false, false] rfl rfl (by kernel_rfl) (fun _ _ _ h => h) (Or.inl ⟨by rfl, ?_⟩) ?_ ?_
   rotate_left
   ·intro w'
    go_simp
    with_reducible rfl
   rotate_left
   ·simp only [Act.put, List.setIfInBounds_toArray, List.set_cons_zero, List.set_cons_succ, i64_w, i32_w]
    rfl
   refine pure_ (i := 1) (N := some 23) (v := ?_) (a' := ?_) #[true, true, false, false, false, false, false] rfl rfl (by kernel_rfl) (fun _ _ _ h => h) (Or.inl ⟨by rfl, ?_⟩) ?_ ?_
   rotate_left
   ·intro w'
    go_simp
    with_reducible rfl
   rotate_left
   ·simp only [Act.put, List.setIfInBounds_toArray, List.set_cons_zero, List.set_cons_succ, i64_w, i32_w]
    rfl
   refine pure_ (i := 2) (N := some 24) (v := ?_) (a' := ?_) #[true, true, true, false, false, false, false] rfl rfl (by kernel_rfl) (fun _ _ _ h => h) (Or.inl ⟨by rfl, ?_⟩) ?_ ?_
   rotate_left
   ·intro w'
    go_simp
    with_reducible rfl
   rotate_left
   ·simp only [Act.put, List.setIfInBounds_toArray, List.set_cons_zero, List.set_cons_succ, i64_w, i32_w]
    rfl
   refine take_ (i := 3) (N := some 25) (v := ?_) (a' := ?_) #[true, true, true, true, false, false, false] rfl rfl (by kernel_rfl) (fun _ _ _ h => h) (Or.inl ⟨by rfl, ?_⟩) hHeld ?_ ?_
   rotate_left
   ·rintro w' ⟨s0, s1⟩
    go_simp
    with_reducible rfl
   rotate_left
   ·simp only [Act.put, List.setIfInBounds_toArray, List.set_cons_zero, List.set_cons_succ, i64_w, i32_w]
    rfl
   refine one_ (i := 4) (N := some 9) #[true, true, true, true, true, false, false] rfl rfl (by kernel_rfl) (by decide) (fun K hK => ?_)
   refine value_ (w1 := ?_) (v := ?_) (by rfl) rfl ?_ ?_
   rotate_left 2
   ·go_simp
    constructor
    ·rfl
    ·rfl
   refine hK.out _ _ ⟨(World.cell?_alloc_lt _ _ _ (World.block_lt_of_cell? _ _ hHeld.1)).trans hHeld.1, (World.cell?_alloc_lt _ _ _ (World.block_lt_of_cell? _ _ hHeld.2)).trans hHeld.2⟩ (fun hHeld => ?_)
   clear hK K
   refine norm_ (a' := ?_) ?_ ?_
   rotate_left
   ·show Act.put _ (some 9) _ = _
    simp only [Act.put, List.setIfInBounds_toArray, List.set_cons_zero, List.set_cons_succ, i64_w, i32_w]
    rfl
   refine pure_ (i := 5) (N := some 8) (v := ?_) (a' := ?_) #[true, true, true, true, true, true, false] rfl rfl (by kernel_rfl) (fun _ _ _ h => h) (Or.inl ⟨by rfl, ?_⟩) ?_ ?_
   rotate_left
   ·intro w'
    go_simp
    with_reducible rfl
   rotate_left
   ·simp only [Act.put, List.setIfInBounds_toArray, List.set_cons_zero, List.set_cons_succ, i64_w, i32_w]
    rfl
   refine last_ (i := 6) (N := none) #[true, true, true, true, true, true, true] rfl rfl (by kernel_rfl) (by decide) (fun K hK => ?_)
   refine skip_ (w1 := ?_) (by rfl) rfl ?_ ?_
   rotate_left
   ·go_simp
    rfl
   refine hK.out _ _ ?_
   clear hK K
   refine done_ (by kernel_rfl) ?_
   obtain ⟨W2, hW2⟩ : ∃ W2, (wr.alloc (Obj.cells #[.int .i64 p.f0, .int .i64 p.f1] 83)).drew = W2 := ⟨_, rfl⟩
   have HO2 : Aside0 (Kd.R k83 83 W2 W1.heap.size (fun _ => True) u7 (picked ([b0, b1, b2, b3, b4, b5, b6, b7].take k) (hoodPts.take k))) := ⟨by rw [← hW2]; exact Kd.R_alloc HO.out _⟩
   have HB2 : Aside0 (Below W1.heap.size W1 W2) := ⟨by rw [← hW2]; exact (HB.out.alloc HB.out.size _).drew⟩
   have c1 : W2.cell? ⟨w.heap.size + 1, k, none⟩ = some (.bool bk) := by rw [← hW2]; exact (World.cell?_alloc_lt _ _ _ (World.block_lt_of_cell? _ _ g2)).trans g2
   have c2 : W2.cell? ⟨wr.heap.size, 0, none⟩ = some (.int .i64 p.f0) := by rw [← hW2]; exact blk_cell (blk_new _ _) 0
   have c3 : W2.cell? ⟨wr.heap.size, 1, none⟩ = some (.int .i64 p.f1) := by rw [← hW2]; exact blk_cell (blk_new _ _) 1
   rw [hW2]
   clear g0 g1 g2 hW2 HO HB
   cases bk with
   | false =>
    have hs := HS.out
    rw [if_neg (by decide), List.append_nil] at hs
    rw [← hs] at HO2
    clear hs HS
    go_wp2
    go_roundw
    case rel => exact ⟨k + 1, by omega, by go_num, HO2, HB2⟩
    case measure => simp [intOf]; omega
   | true =>
    have hs := HS.out
    rw [if_pos rfl] at hs
    have HS2 := Aside0.mk hs
    have HL : Aside0 ((picked ([b0, b1, b2, b3, b4, b5, b6, b7].take k) (hoodPts.take k)).length ≤ 8) := ⟨Nat.le_trans (picked_le _ _ (by simp; omega)) (by simp; omega)⟩
    clear hs HS
    go_wp2_with (((with_reducible refine gate_builtin (b := .append) (xs := #[.tmp 29, .tmp 31]) rfl ?_); at_builtin; go_must (refine Kd.R_append k83 (w0 := W1) W1.heap.size rfl (.tmp 29) (.tmp 31) 69 83 (.agg #[.int .i64 0, .int .i64 0]) 16 rfl Tryd.underlying69 info83 rfl (by decide) (by omega) u7 (picked ([b0, b1, b2, b3, b4, b5, b6, b7].take k) (hoodPts.take k)) p [.int .i64 p.f0, .int .i64 p.f1] (fun _ => True) (fun _ => False) rfl rfl ?aP (fun _ hk => hk.elim) (fun _ _ => trivial) ?aO ?aB ?aS ?aL ?_); (case aP => exact k83_mkM _ _ _ _); (case aO => exact HO2.out); (case aB => exact HB2.out); (case aS => exact HB2.out.size); (case aL => have := HL.out; omega); intro v1 w1 ho hb hg hat; rw [← HS2.out] at ho; have n0 := Aside0.mk ho; have n1 := Aside0.mk hb; clear HB2 HO2; clear ho hb hg hat))
    go_roundw
    case rel => exact ⟨k + 1, by omega, by go_num, n0, n1⟩
    case measure => simp [intOf]; omega
  ·obtain rfl : k = 8 := by omega
   go_wp2
   go_ret2
   exact ⟨_, rfl, Kd.R_lower HO.out (by have := HZ.out; omega), HB1.out.trans (HB.out.mono (by have := HZ.out; omega))⟩
def hood_Offsets.f (a0 : Int) : Option ((List (S83)) × Int) := if a0 = 1 then some (hoodPts, 0) else if a0 = 2 then some ([⟨0, (-1)⟩, ⟨1, 0⟩, ⟨0, 1⟩, ⟨(-1), 0⟩], 0) else if a0 = 3 then some ([⟨0, (-1)⟩, ⟨1, 0⟩, ⟨1, 1⟩, ⟨0, 1⟩, ⟨(-1), 0⟩, ⟨(-1), (-1)⟩], 0) else some ([], 70)
set_option maxHeartbeats 8000000 in
set_option maxRecDepth 100000 in
theorem hood_Offsets.calls0 (a0 : Int) (h1 : (a0 == 1) = false) (h2 : (a0 == 2) = false) (h3 : (a0 == 3) = false) (w : World) :
  Calls Tryd.prog 36 #[.int .u8 a0] w fun e w' => e = .returned (.tuple #[.slice none 0 0, .int .i64 70]) ∧ Below w.heap.size w w' := by
 have HIN := Aside0.mk (hood_within0 a0 h1 h2 h3)
 clear h1 h2 h3
 go_enter Tryd.func36, Tryd.ntmps36
 go_wp2_with (go_at_call 45; refine (HIN.out _).mono ?_; rintro e w' ⟨rfl, rfl⟩)
 go_ret2
 exact ⟨rfl, ((Below.refl _ _).alloc (Nat.le_refl _) _).alloc (by simp) _⟩
theorem hood_Offsets.calls (a0 : Int) (r1 : List (S83)) (r2 : Int) (w : World) (h : hood_Offsets.f a0 = some (r1, r2)) :
  Calls Tryd.prog 36 #[.int .u8 a0] w fun e w' => ∃ v0_ : Value, e = .returned (.tuple #[v0_, .int .i64 r2]) ∧ Kd.R k83 83 w' w.heap.size (fun _ => True) v0_ r1 ∧ Below w.heap.size w w' := by
 unfold hood_Offsets.f at h
 by_cases c1 : a0 = 1
 ·rw [if_pos c1] at h
  obtain ⟨rfl, rfl⟩ := Prod.mk.inj (Option.some.inj h)
  subst c1
  exact hood_Offsets.calls_of 1 true true true true true true true true hood_within1 w
 rw [if_neg c1] at h
 by_cases c2 : a0 = 2
 ·rw [if_pos c2] at h
  obtain ⟨rfl, rfl⟩ := Prod.mk.inj (Option.some.inj h)
  subst c2
  exact hood_Offsets.calls_of 2 true false true false true false true false hood_within2 w
 rw [if_neg c2] at h
 by_cases c3 : a0 = 3
 ·rw [if_pos c3] at h
  obtain ⟨rfl, rfl⟩ := Prod.mk.inj (Option.some.inj h)
  subst c3
  exact hood_Offsets.calls_of 3 true false true true true false true true hood_within3 w
 rw [if_neg c3] at h
 obtain ⟨rfl, rfl⟩ := Prod.mk.inj (Option.some.inj h)
 refine (hood_Offsets.calls0 a0 (beq_eq_false_iff_ne.2 c1) (beq_eq_false_iff_ne.2 c2) (beq_eq_false_iff_ne.2 c3) w).mono ?_
 rintro e w' ⟨rfl, hb⟩
 exact ⟨_, rfl, Kd.R_nil _ _ _ _ _, hb⟩
end Go.Proofs.YtajhfkcmfmhnaaaDoor.P
namespace Go.Proofs.YtajhfkcmfmhnaaaDoor.P
open Go.RowKit Go.Proofs.YtajhfkcmfmhnaaaDoorW.PrintWords Go.Proofs.YtajhfkcmfmhnaaaDoorW.PrintLast Go.Proofs.YtajhfkcmfmhnaaaDoorW.PrintMore
attribute [local go_sem] max2_int min2_int max_two min_two max_three min_three max_four min_four   -- for this text's walks alone
set_option linter.unusedVariables false
set_option linter.unusedSimpArgs false
def hood_Size.f (a0 : Int) : Option (Int × Int) := (hood_Offsets.f a0).bind fun bt199 => (some ((bt199.1.length : Int), bt199.2))
set_option maxHeartbeats 8000000 in
set_option maxRecDepth 100000 in
theorem hood_Size.calls (a0 : Int) (r1 : Int) (r2 : Int) (w : World) (h : hood_Size.f a0 = some (r1, r2)) :
  Calls Tryd.prog 19 #[.int .u8 a0] w fun e w' => e = .returned (.tuple #[.int .i64 r1, .int .i64 r2]) ∧ Below w.heap.size w w' := by
 have HB := Aside0.mk (Below.refl w.heap.size w)
 have H : ((hood_Offsets.f a0).bind fun bt199 => (some ((bt199.1.length : Int), bt199.2))) = some (r1, r2) := h
 clear h
 replace H := Option.bind_eq_some_iff.mp H
 obtain ⟨⟨t199, t200⟩, A20, H⟩ := H
 replace H : (some ((t199.length : Int), t200)) = some (r1, r2) := H
 have A2 := Aside0.mk A20
 clear A20
 simp only [Option.some.injEq, Prod.mk.injEq] at H
 obtain ⟨rfl, rfl⟩ := H
 go_enter Tryd.func19, Tryd.ntmps19
 go_wp2_with (first | ((with_reducible refine gate_callee (f := 36) rfl ?_); refine goesL_ (some 8) rfl rfl Tryd.func36 (by kernel_rfl) rfl #[.int .u8 a0] rfl (by (try simp only [List.map_toArray, List.map_cons, List.map_nil]); first | done | rfl | (simp only [List.length_drop, List.length_take]; rfl)) ?_; (with_reducible refine (hood_Offsets.calls a0 t199 t200 _ A2.out).mono ?_); rintro e w3 ⟨v201, rfl, ho0, hb⟩; refine ⟨_, rfl, ?_⟩; have n0_ := Aside0.mk (Kd.R_lower ho0 (below_size (by repeat (first | (with_reducible first | exact HB.out | apply below_alloc | apply pw_below_drewN | apply below_drew1) | exact HB.out)))); have n1_ := Aside0.mk (below_step (by repeat (first | (with_reducible first | exact HB.out | apply below_alloc | apply pw_below_drewN | apply below_drew1) | exact HB.out)) hb); clear HB; have HO202 := n0_; have HB := n1_; clear n0_ n1_; (try clear hb); (try clear hb2); (try clear hk); (try clear hi); (try clear ho0); obtain ⟨Ao4, co4, eo4⟩ := Kd.R_slice HO202.out; subst eo4))
 go_ret2
 exact ⟨by first | rfl | (simp [errW_none, errW_some] <;> rfl) | (simp [*, errW_none, errW_some] <;> rfl), by repeat (first | (with_reducible first | exact HB.out | apply below_alloc | apply pw_below_drewN | apply below_drew1) | exact HB.out)⟩
end Go.Proofs.YtajhfkcmfmhnaaaDoor.P
end

-- Written by a program of this session (wip/tools/mk.py) that runs the kit's printer; several functions' texts in one.
import Derived.Test.YtkahgdkpehlanaaDoorP0
import Derived.Test.YtkahgdkpehlanaaDoorPm13
import Derived.Test.YtkahgdkpehlanaaDoorPm8
import Derived.Test.YtkahgdkpehlanaaDoorPm9
import Derived.Test.YtkahgdkpehlanaaDoorPm10
import Derived.Test.YtkahgdkpehlanaaDoorPm14
namespace Go.Proofs.YtkahgdkpehlanaaDoor.P
open Go.RowKit Go.Proofs.YtkahgdkpehlanaaDoorW.PrintWords Go.Proofs.YtkahgdkpehlanaaDoorW.PrintLast Go.Proofs.YtkahgdkpehlanaaDoorW.PrintMore
attribute [local go_sem] max2_int min2_int max_two min_two   -- for this text's walks alone
set_option linter.unusedVariables false
set_option linter.unusedSimpArgs false

attribute [local go_sem high] eqA42
/-! ### vivariumlaw09_GensBack: function 7 -/
mutual
def vivariumlaw09_GensBack.j2 : Nat → ByteArray → Bool → Option (Bool)
 | 0, _, _ => none
 | k + 1, x1, x5 => (gens_Parse.f k x1).bind fun bt284 => (if bt284.2.2.2.2.2 = 0 then ((gens_Print.f k bt284.1 bt284.2.1 bt284.2.2.1 bt284.2.2.2.1).bind fun bt291 => ((gens_Parse.f k bt291.1).bind fun bt293 => (if x5 = true then (if bt284.2.2.2.2.1 = 0 then (if bt291.2 = 0 then (if bt293.2.2.2.2.2 = 0 then (if ((bt293.1 == bt284.1 && (bt293.2.1 == bt284.2.1 && (bt293.2.2.1 == bt284.2.2.1))) && (bt293.2.2.2.1 == bt284.2.2.2.1)) = true then (some (bt291.1.toList != ([] : List UInt8))) else (some false)) else (some false)) else (some false)) else (some false)) else (some false)))) else (if x5 = true then (if ((bt284.1 == 0 && (bt284.2.1 == 0 && (bt284.2.2.1 == 0))) && (bt284.2.2.2.1 == 0)) = true then (if bt284.2.2.2.2.1 ≥ 0 then (some (decide (bt284.2.2.2.2.1 ≤ (x1.size : Int)))) else (some false)) else (some false)) else (some false)))
def vivariumlaw09_GensBack.j1 : Nat → ByteArray → Bool → ByteArray → Int → Int → Int → Int → Int → Option (Bool)
 | 0, _, _, _, _, _, _, _, _ => none
 | k + 1, x1, x5, x6, x8, x259000, x259001, x259002, x259003 => if x8 < 1 then (some false) else ((gens_Parse.f k x6).bind fun bt262 => (if 0 ≤ x8 then (if x8 ≤ (x6.size : Int) then (if (x6.extract 0 (x8 : Int).toNat).size + 1 ≤ 9223372036854775807 then (if 0 ≤ (wrap64 (x8 + 1)) then (if (wrap64 (x8 + 1)) ≤ (x6.size : Int) then (if (x6.extract 0 (x8 : Int).toNat).size + 1 + (x6.extract ((wrap64 (x8 + 1)) : Int).toNat x6.size).size ≤ 9223372036854775807 then ((gens_Parse.f k (((x6.extract 0 (x8 : Int).toNat) ++ (⟨#[103]⟩ : ByteArray)) ++ (x6.extract ((wrap64 (x8 + 1)) : Int).toNat x6.size))).bind fun bt269 => (if (x6.extract 0 (x8 : Int).toNat).size + (x6.extract ((wrap64 (x8 + 1)) : Int).toNat x6.size).size ≤ 9223372036854775807 then ((gens_Parse.f k ((x6.extract 0 (x8 : Int).toNat) ++ (x6.extract ((wrap64 (x8 + 1)) : Int).toNat x6.size))).bind fun bt276 => (if bt262.2.2.2.2.2 = 0 then (if bt269.2.2.2.2.2 = 0 then (if bt276.2.2.2.2.2 = 0 then (if ((!(bt262.1 == x259000) || (!(bt262.2.1 == x259001) || (!(bt262.2.2.1 == x259002)))) || (!(bt262.2.2.2.1 == x259003))) = true then (some false) else (if ((!(bt269.1 == x259000) || (!(bt269.2.1 == x259001) || (!(bt269.2.2.1 == x259002)))) || (!(bt269.2.2.2.1 == x259003))) = true then (some false) else (if ((!(bt276.1 == x259000) || (!(bt276.2.1 == x259001) || (!(bt276.2.2.1 == x259002)))) || (!(bt276.2.2.2.1 == x259003))) = true then (some false) else (vivariumlaw09_GensBack.j2 k x1 x5)))) else (some false)) else (some false)) else (some false))) else (none))) else (none)) else (none)) else (none)) else (none)) else (none)) else (none)))
def vivariumlaw09_GensBack.l0 : Nat → ByteArray → Bool → ByteArray → Int → Int → Int → Int → Int → Option (Bool)
 | 0, _, _, _, _, _, _, _, _ => none
 | k + 1, x1, x5, x6, x8, x259000, x259001, x259002, x259003 => if x8 > 0 then (if 0 ≤ x8 then (if x8 < (x6.size : Int) then (if (bt x6 x8) = 67 then (vivariumlaw09_GensBack.j1 k x1 x5 x6 x8 x259000 x259001 x259002 x259003) else (vivariumlaw09_GensBack.l0 k x1 x5 x6 (wrap64 (x8 - 1)) x259000 x259001 x259002 x259003)) else (none)) else (none)) else (vivariumlaw09_GensBack.j1 k x1 x5 x6 x8 x259000 x259001 x259002 x259003)
end
def vivariumlaw09_GensBack.f0 (k : Nat) (a0_0 : Int) (a0_1 : Int) (a0_2 : Int) (a0_3 : Int) (a1 : ByteArray) : Option (Bool) := (vivariumlaw09_awake.f k).bind fun t259 => ((gens_Print.f k a0_0 a0_1 a0_2 a0_3).bind fun bt260 => (if bt260.2 = 0 then (vivariumlaw09_GensBack.l0 k a1 t259 bt260.1 (wrap64 ((bt260.1.size : Int) - 1)) a0_0 a0_1 a0_2 a0_3) else ((gens_Check.f a0_0 a0_1 a0_2 a0_3).bind fun t283 => (if t283 = bt260.2 then (if bt260.1.toList = ([] : List UInt8) then (vivariumlaw09_GensBack.j2 k a1 t259) else (some false)) else (some false)))))
theorem vivariumlaw09_GensBack.mono_l : ∀ k, (∀ y0 y1, LeO (vivariumlaw09_GensBack.j2 k y0 y1) (vivariumlaw09_GensBack.j2 (k + 1) y0 y1)) ∧ (∀ y0 y1 y2 y3 y4 y5 y6 y7, LeO (vivariumlaw09_GensBack.j1 k y0 y1 y2 y3 y4 y5 y6 y7) (vivariumlaw09_GensBack.j1 (k + 1) y0 y1 y2 y3 y4 y5 y6 y7)) ∧ (∀ y0 y1 y2 y3 y4 y5 y6 y7, LeO (vivariumlaw09_GensBack.l0 k y0 y1 y2 y3 y4 y5 y6 y7) (vivariumlaw09_GensBack.l0 (k + 1) y0 y1 y2 y3 y4 y5 y6 y7))
 | 0 => ⟨fun _ _ r h => by simp [vivariumlaw09_GensBack.j2] at h, fun _ _ _ _ _ _ _ _ r h => by simp [vivariumlaw09_GensBack.j1] at h, fun _ _ _ _ _ _ _ _ r h => by simp [vivariumlaw09_GensBack.l0] at h⟩
 | k + 1 => by
  obtain ⟨ih0, ih1, ih2⟩ := vivariumlaw09_GensBack.mono_l k
  refine ⟨?_, ?_, ?_⟩
  ·intro y0 y1
   unfold vivariumlaw09_GensBack.j2
   repeat' first
   | (with_reducible exact ih0 _ _)
   | (with_reducible exact ih1 _ _ _ _ _ _ _ _)
   | (with_reducible exact ih2 _ _ _ _ _ _ _ _)
   | (with_reducible exact gens_Parse.mono _ _)
   | (with_reducible exact gens_Print.mono _ _ _ _ _)
   | (with_reducible exact vivariumlaw09_awake.mono _)
   | (with_reducible exact LeO.refl _)
   | (with_reducible exact LeO.none _)
   | (with_reducible refine LeO.ite ?_ ?_)
   | (with_reducible refine LeO.bind ?_ (fun _ => ?_))
   | exact ih0 _ _
   | exact ih1 _ _ _ _ _ _ _ _
   | exact ih2 _ _ _ _ _ _ _ _
   | exact gens_Parse.mono _ _
   | exact gens_Print.mono _ _ _ _ _
   | exact vivariumlaw09_awake.mono _
   | exact LeO.none _
   | refine LeO.ite ?_ ?_
   | refine LeO.bind ?_ (fun _ => ?_)
  ·intro y0 y1 y2 y3 y4 y5 y6 y7
   unfold vivariumlaw09_GensBack.j1
   repeat' first
   | (with_reducible exact ih0 _ _)
   | (with_reducible exact ih1 _ _ _ _ _ _ _ _)
   | (with_reducible exact ih2 _ _ _ _ _ _ _ _)
   | (with_reducible exact gens_Parse.mono _ _)
   | (with_reducible exact gens_Print.mono _ _ _ _ _)
   | (with_reducible exact vivariumlaw09_awake.mono _)
   | (with_reducible exact LeO.refl _)
   | (with_reducible exact LeO.none _)
   | (with_reducible refine LeO.ite ?_ ?_)
   | (with_reducible refine LeO.bind ?_ (fun _ => ?_))
   | exact ih0 _ _
   | exact ih1 _ _ _ _ _ _ _ _
   | exact ih2 _ _ _ _ _ _ _ _
   | exact gens_Parse.mono _ _
   | exact gens_Print.mono _ _ _ _ _
   | exact vivariumlaw09_awake.mono _
   | exact LeO.none _
   | refine LeO.ite ?_ ?_
   | refine LeO.bind ?_ (fun _ => ?_)
  ·intro y0 y1 y2 y3 y4 y5 y6 y7
   unfold vivariumlaw09_GensBack.l0
   repeat' first
   | (with_reducible exact ih0 _ _)
   | (with_reducible exact ih1 _ _ _ _ _ _ _ _)
   | (with_reducible exact ih2 _ _ _ _ _ _ _ _)
   | (with_reducible exact gens_Parse.mono _ _)
   | (with_reducible exact gens_Print.mono _ _ _ _ _)
   | (with_reducible exact vivariumlaw09_awake.mono _)
   | (with_reducible exact LeO.refl _)
   | (with_reducible exact LeO.none _)
   | (with_reducible refine LeO.ite ?_ ?_)
   | (with_reducible refine LeO.bind ?_ (fun _ => ?_))
   | exact ih0 _ _
   | exact ih1 _ _ _ _ _ _ _ _
   | exact ih2 _ _ _ _ _ _ _ _
   | exact gens_Parse.mono _ _
   | exact gens_Print.mono _ _ _ _ _
   | exact vivariumlaw09_awake.mono _
   | exact LeO.none _
   | refine LeO.ite ?_ ?_
   | refine LeO.bind ?_ (fun _ => ?_)
theorem vivariumlaw09_GensBack.mono0 : ∀ a0 a1 a2 a3 a4 k, LeO (vivariumlaw09_GensBack.f0 k a0 a1 a2 a3 a4) (vivariumlaw09_GensBack.f0 (k + 1) a0 a1 a2 a3 a4) := by
 intro a0 a1 a2 a3 a4 k
 obtain ⟨ih0, ih1, ih2⟩ := vivariumlaw09_GensBack.mono_l k
 unfold vivariumlaw09_GensBack.f0
 repeat' first
   | (with_reducible exact ih0 _ _)
   | (with_reducible exact ih1 _ _ _ _ _ _ _ _)
   | (with_reducible exact ih2 _ _ _ _ _ _ _ _)
   | (with_reducible exact gens_Parse.mono _ _)
   | (with_reducible exact gens_Print.mono _ _ _ _ _)
   | (with_reducible exact vivariumlaw09_awake.mono _)
   | (with_reducible exact LeO.refl _)
   | (with_reducible exact LeO.none _)
   | (with_reducible refine LeO.ite ?_ ?_)
   | (with_reducible refine LeO.bind ?_ (fun _ => ?_))
   | exact ih0 _ _
   | exact ih1 _ _ _ _ _ _ _ _
   | exact ih2 _ _ _ _ _ _ _ _
   | exact gens_Parse.mono _ _
   | exact gens_Print.mono _ _ _ _ _
   | exact vivariumlaw09_awake.mono _
   | exact LeO.none _
   | refine LeO.ite ?_ ?_
   | refine LeO.bind ?_ (fun _ => ?_)
def vivariumlaw09_GensBack.T12 : Bool × List (List Nat × List Nat) := (true, [([], []), ([], []), ([0, 1], [0, 1]), ([2], [2]), ([], []), ([], []), ([5], [5]), ([4, 6], [4, 6]), ([3, 7], [3, 7]), ([8], [8]), ([9], [9]), ([10], [10]), ([10], [10]), ([10], [10]), ([], []), ([14, 11, 9, 0, 1, 2, 3, 4, 5, 6, 7, 8, 9, 10, 11, 14], [11, 14]), ([12, 15, 0, 1, 2, 3, 4, 5, 6, 7, 8, 9, 10, 11, 12, 14, 15], [12]), ([13, 16, 0, 1, 2, 3, 4, 5, 6, 7, 8, 9, 10, 11, 12, 13, 14, 15, 16], [13])])
def vivariumlaw09_GensBack.B12 : List Nat := [0, 0, 3, 7, 0, 0, 32, 112, 255, 511, 1023, 2047, 2047, 2047, 0, 20479, 57343, 131071]
theorem vivariumlaw09_GensBack.tab12 : rtab .any (opsOf Tryd.f7 12) = vivariumlaw09_GensBack.T12 := by kernel_rfl
theorem vivariumlaw09_GensBack.bits12 : waitsOk vivariumlaw09_GensBack.T12.2 vivariumlaw09_GensBack.B12 = true := by kernel_rfl
def vivariumlaw09_GensBack.T13 : Bool × List (List Nat × List Nat) := (true, [([], []), ([], []), ([0, 1], [0, 1]), ([], []), ([], []), ([4], [4]), ([3, 5], [3, 5]), ([2, 6], [2, 6]), ([7], [7]), ([8], [8]), ([9], [9]), ([9], [9]), ([9], [9]), ([], []), ([13, 10, 8, 0, 1, 2, 3, 4, 5, 6, 7, 8, 9, 10, 13], [10, 13]), ([11, 14, 0, 1, 2, 3, 4, 5, 6, 7, 8, 9, 10, 11, 13, 14], [11]), ([12, 15, 0, 1, 2, 3, 4, 5, 6, 7, 8, 9, 10, 11, 12, 13, 14, 15], [12])])
def vivariumlaw09_GensBack.B13 : List Nat := [0, 0, 3, 0, 0, 16, 56, 127, 255, 511, 1023, 1023, 1023, 0, 10239, 28671, 65535]
theorem vivariumlaw09_GensBack.tab13 : rtab .any (opsOf Tryd.f7 13) = vivariumlaw09_GensBack.T13 := by kernel_rfl
theorem vivariumlaw09_GensBack.bits13 : waitsOk vivariumlaw09_GensBack.T13.2 vivariumlaw09_GensBack.B13 = true := by kernel_rfl
set_option maxHeartbeats 8000000 in
set_option maxRecDepth 100000 in
theorem vivariumlaw09_GensBack.calls0 (k : Nat) (a0_0 : Int) (a0_1 : Int) (a0_2 : Int) (a0_3 : Int) (a1 : ByteArray) (r : Bool) (w : World) (h : vivariumlaw09_GensBack.f0 k a0_0 a0_1 a0_2 a0_3 a1 = some r) (hr : Aside0 (r = true)) (HTb_ : TabsOk w) :
  Calls Tryd.prog 7 #[.agg #[.int .u8 a0_0, .int .u16 a0_1, .int .u16 a0_2, .int .i64 a0_3], .string a1] w fun e w' => e = .returned (.bool r) ∧ Below w.heap.size w w' := by
 have HTb := Aside0.mk HTb_
 clear HTb_
 have hu42 := Tryd.underlying42
 have HB := Aside0.mk (Below.refl w.heap.size w)
 have H : ((vivariumlaw09_awake.f k).bind fun t259 => ((gens_Print.f k a0_0 a0_1 a0_2 a0_3).bind fun bt260 => (if bt260.2 = 0 then (vivariumlaw09_GensBack.l0 k a1 t259 bt260.1 (wrap64 ((bt260.1.size : Int) - 1)) a0_0 a0_1 a0_2 a0_3) else ((gens_Check.f a0_0 a0_1 a0_2 a0_3).bind fun t283 => (if t283 = bt260.2 then (if bt260.1.toList = ([] : List UInt8) then (vivariumlaw09_GensBack.j2 k a1 t259) else (some false)) else (some false)))))) = some r := h
 clear h
 replace H := Option.bind_eq_some_iff.mp H
 obtain ⟨t259, A30, H⟩ := H
 replace H : ((gens_Print.f k a0_0 a0_1 a0_2 a0_3).bind fun bt260 => (if bt260.2 = 0 then (vivariumlaw09_GensBack.l0 k a1 t259 bt260.1 (wrap64 ((bt260.1.size : Int) - 1)) a0_0 a0_1 a0_2 a0_3) else ((gens_Check.f a0_0 a0_1 a0_2 a0_3).bind fun t283 => (if t283 = bt260.2 then (if bt260.1.toList = ([] : List UInt8) then (vivariumlaw09_GensBack.j2 k a1 t259) else (some false)) else (some false))))) = some r := H
 have A3 := Aside0.mk A30
 clear A30
 replace H := Option.bind_eq_some_iff.mp H
 obtain ⟨⟨t260, t261⟩, A40, H⟩ := H
 replace H : (if t261 = 0 then (vivariumlaw09_GensBack.l0 k a1 t259 t260 (wrap64 ((t260.size : Int) - 1)) a0_0 a0_1 a0_2 a0_3) else ((gens_Check.f a0_0 a0_1 a0_2 a0_3).bind fun t283 => (if t283 = t261 then (if t260.toList = ([] : List UInt8) then (vivariumlaw09_GensBack.j2 k a1 t259) else (some false)) else (some false)))) = some r := H
 have A4 := Aside0.mk A40
 clear A40
 have HC5 := Aside0.mk H
 clear H
 go_enter Tryd.func7, Tryd.ntmps7
 go_upto_if 33 with (first | ((with_reducible refine gate_dst (N := 2) rfl ?_); (try (refine gate_guard (by rfl) ?_; dsimp only)); refine box_event ?hg (N := 2) ?hd (cs := #[.int .u8 a0_0, .int .u16 a0_1, .int .u16 a0_2, .int .i64 a0_3]) (t := 42) ?hr ?_; (case hd => rfl); (case hg => rfl); (case hr => first | (go_simp; done) | (go_simp; rfl)); intro gb258 hg w6 hbox hb; have n0_ := Aside0.mk (below_step (by repeat (first | (with_reducible first | exact HB.out | apply below_alloc | apply pw_below_drewN | apply below_drew1) | exact HB.out)) hb); have n1_ := Aside0.mk (hbox); have n2_ := Aside0.mk ((by rw [hg]; exact (below_size (by repeat (first | (with_reducible first | exact HB.out | apply below_alloc | apply pw_below_drewN | apply below_drew1) | exact HB.out))) : w.heap.size ≤ gb258)); have n3_ := Aside0.mk ((by rw [hg]; exact (below_size (by repeat (first | (with_reducible first | exact HB.out | apply below_alloc | apply pw_below_drewN | apply below_drew1) | exact HB.out))) : w.heap.size ≤ gb258)); clear HB; have HB := n0_; have BK258 := n1_; have GW258 := n2_; have GE258 := n3_; clear n0_ n1_ n2_ n3_; clear hb hbox hg) | ((with_reducible refine gate_callee (f := 13) rfl ?_); refine goesL_ (some 26) rfl rfl Tryd.func13 (by kernel_rfl) rfl #[] rfl (by (try simp only [List.map_toArray, List.map_cons, List.map_nil]); first | done | rfl | (simp only [List.length_drop, List.length_take]; rfl)) ?_; (with_reducible refine (vivariumlaw09_awake.calls k  t259 _ A3.out ?sidet).mono ?_); (case sidet => exact tabs_below HTb.out (by repeat (first | (with_reducible first | exact HB.out | apply below_alloc | apply pw_below_drewN | apply below_drew1 | refine below_set ?_ (Aside0.out (by assumption))) | exact HB.out))); rintro e w7 ⟨rfl, hb⟩; refine ⟨_, rfl, ?_⟩; have n0_ := Aside0.mk (blk_below (g := gb258) (o := .cells #[.int .u8 a0_0, .int .u16 a0_1, .int .u16 a0_2, .int .i64 a0_3] 42 (0, 0)) (by (with_reducible repeat (first | refine blk_drewN ?_ _ | refine blk_drew ?_ | refine blk_alloc ?_ _)); exact BK258.out) hb); have n1_ := Aside0.mk (below_step (by repeat (first | (with_reducible first | exact HB.out | apply below_alloc | apply pw_below_drewN | apply below_drew1 | refine below_set ?_ GE258.out) | exact HB.out)) hb); clear BK258; clear HB; have BK258 := n0_; have HB := n1_; clear n0_ n1_; (try clear hb); (try clear hb2); (try clear hk); (try clear hi); have hcz8_0 : w7.cell? ⟨gb258, 0, none⟩ = some (.int .u8 a0_0) := (blk_cell BK258.out 0).trans rfl; have hcz8_1 : w7.cell? ⟨gb258, 1, none⟩ = some (.int .u16 a0_1) := (blk_cell BK258.out 1).trans rfl; have hcz8_2 : w7.cell? ⟨gb258, 2, none⟩ = some (.int .u16 a0_2) := (blk_cell BK258.out 2).trans rfl; have hcz8_3 : w7.cell? ⟨gb258, 3, none⟩ = some (.int .i64 a0_3) := (blk_cell BK258.out 3).trans rfl; have hfz8_0 := blk_frozen BK258.out 0; have hfz8_1 := blk_frozen BK258.out 1; have hfz8_2 := blk_frozen BK258.out 2; have hfz8_3 := blk_frozen BK258.out 3) | ((with_reducible refine gate_callee (f := 16) rfl ?_); refine goesL_ (some 29) rfl rfl Tryd.func16 (by kernel_rfl) rfl #[.agg #[.int .u8 a0_0, .int .u16 a0_1, .int .u16 a0_2, .int .i64 a0_3]] rfl (by (try simp only [List.map_toArray, List.map_cons, List.map_nil]); first | done | rfl | (simp only [List.length_drop, List.length_take]; rfl)) ?_; (with_reducible refine (gens_Print.calls k a0_0 a0_1 a0_2 a0_3 t260 t261 _ A4.out ?sidet).mono ?_); (case sidet => exact tabs_below HTb.out (by repeat (first | (with_reducible first | exact HB.out | apply below_alloc | apply pw_below_drewN | apply below_drew1 | refine below_set ?_ (Aside0.out (by assumption))) | exact HB.out))); rintro e w9 ⟨rfl, hb⟩; refine ⟨_, rfl, ?_⟩; have n0_ := Aside0.mk (blk_below (g := gb258) (o := .cells #[.int .u8 a0_0, .int .u16 a0_1, .int .u16 a0_2, .int .i64 a0_3] 42 (0, 0)) (by (with_reducible repeat (first | refine blk_drewN ?_ _ | refine blk_drew ?_ | refine blk_alloc ?_ _)); exact BK258.out) hb); have n1_ := Aside0.mk (below_step (by repeat (first | (with_reducible first | exact HB.out | apply below_alloc | apply pw_below_drewN | apply below_drew1 | refine below_set ?_ GE258.out) | exact HB.out)) hb); clear BK258; clear HB; have BK258 := n0_; have HB := n1_; clear n0_ n1_; (try clear hb); (try clear hb2); (try clear hk); (try clear hi)))
 (try simp only [Act.put, List.setIfInBounds_toArray, List.set_cons_zero, List.set_cons_succ])
 go_cut [] (fun wc => ∃ (kq : Nat), Aside0 (vivariumlaw09_GensBack.j2 kq a1 t259 = some r) ∧ Aside0 (kq ≤ k) ∧ Aside0 (wc.heap[gb258]? = some (.cells #[.int .u8 a0_0, .int .u16 a0_1, .int .u16 a0_2, .int .i64 a0_3] 42 (0, 0))) ∧ Aside0 (Below w.heap.size w wc))
 case first =>
  have H := HC5.out
  clear HC5
  by_cases c10 : t261 = 0
  ·rw [if_pos c10] at H
   have c10b0 : (t261 == 0) = true := beq_iff_eq.mpr c10
   have c10b1 : (t261 != 0) = false := bne_eq_false_iff_eq.mpr c10
   clear c10
   (first | rw [c10b0] | (simp only [i64_w, i32_w]; rw [c10b0]) | skip)
   have HC11 := Aside0.mk H
   clear H
   go_upto_block 0 with (fail)
   go_cut [8] (fun v8 wc => ∃ (kq : Nat) (x8_10 : Int), v8 = .int .i64 x8_10 ∧ Aside0 (vivariumlaw09_GensBack.j1 kq a1 t259 t260 x8_10 a0_0 a0_1 a0_2 a0_3 = some r) ∧ Aside0 (kq ≤ k) ∧ Aside0 (wc.heap[gb258]? = some (.cells #[.int .u8 a0_0, .int .u16 a0_1, .int .u16 a0_2, .int .i64 a0_3] 42 (0, 0))) ∧ Aside0 (Below w.heap.size w wc))
   case first =>
    have H := HC11.out
    clear HC11
    have H' := Aside0.mk H
    clear H
    go_wp2
    go_loopg [8] k (fun kq v8 w' => ∃ (x8_1 : Int), v8 = .int .i64 x8_1 ∧ Aside0 (vivariumlaw09_GensBack.l0 kq a1 t259 t260 x8_1 a0_0 a0_1 a0_2 a0_3 = some r) ∧ Aside0 (kq ≤ k) ∧ Aside0 (w'.heap[gb258]? = some (.cells #[.int .u8 a0_0, .int .u16 a0_1, .int .u16 a0_2, .int .i64 a0_3] 42 (0, 0))) ∧ Aside0 (Below w.heap.size w w'))
    case atStart => exact ⟨(wrap64 ((t260.size : Int) - 1)), (by first | rfl | (simp; done) | (simp [*]; done)), H', ⟨Nat.le_refl _⟩, ⟨by (with_reducible repeat (first | refine blk_drewN ?_ _ | refine blk_drew ?_ | refine blk_alloc ?_ _)); exact BK258.out⟩, ⟨by repeat (first | (with_reducible first | exact HB.out | apply below_alloc | apply pw_below_drewN | apply below_drew1 | refine below_set ?_ GE258.out) | exact HB.out)⟩⟩
    case round =>
     clear H'
     try clear c1
     try clear p2
     try clear p6
     try clear c7
     try clear c10
     try clear c10b0
     try clear c10b1
     try clear hcz8_0
     try clear hcz8_1
     try clear hcz8_2
     try clear hcz8_3
     try clear hfz8_0
     try clear hfz8_1
     try clear hfz8_2
     try clear hfz8_3
     obtain ⟨x8_1, rfl, HA, HK1, BK258, HB⟩ := hrel
     cases gk with
     | zero => exact absurd HA.out (by simp [vivariumlaw09_GensBack.l0])
     | succ k1 =>
      have H := HA.out
      clear HA
      simp only [vivariumlaw09_GensBack.l0] at H
      by_cases c12 : x8_1 > 0
      ·rw [if_pos c12] at H
       have c12b0 : decide (0 < x8_1) = true := decide_eq_true c12
       clear c12
       (first | rw [c12b0] | (simp only [i64_w, i32_w]; rw [c12b0]) | skip)
       by_cases c13 : 0 ≤ x8_1
       ·rw [if_pos c13] at H
        have c13b0 : decide (0 ≤ x8_1) = true := decide_eq_true c13
        clear c13
        by_cases c14 : x8_1 < (t260.size : Int)
        ·rw [if_pos c14] at H
         have c14b0 : decide (x8_1 < (t260.size : Int)) = true := decide_eq_true c14
         clear c14
         by_cases c16 : (bt t260 x8_1) = 67
         ·rw [if_pos c16] at H
          have c16b0 : ((bt t260 x8_1) == 67) = true := beq_iff_eq.mpr c16
          have c16b1 : ((bt t260 x8_1) != 67) = false := bne_eq_false_iff_eq.mpr c16
          clear c16
          have H' := Aside0.mk H
          clear H
          have p15 : 0 ≤ (x8_1 : Int) := of_decide_eq_true (by first | (with_reducible assumption) | assumption)
          have q15 : x8_1 < (t260.size : Int) := of_decide_eq_true (by first | (with_reducible assumption) | assumption)
          have hx15 := bt_at t260 x8_1
          replace p15 := eq_true p15
          replace q15 := eq_true q15
          go_wp2
          go_meet
          case rel => exact ⟨_, (x8_1), (by first | rfl | (simp; done) | (simp [*]; done)), H', ⟨by have := HK1.out; first | omega | exact Nat.le_refl _⟩, ⟨by (with_reducible repeat (first | refine blk_drewN ?_ _ | refine blk_drew ?_ | refine blk_alloc ?_ _)); exact BK258.out⟩, ⟨by repeat (first | (with_reducible first | exact HB.out | apply below_alloc | apply pw_below_drewN | apply below_drew1 | refine below_set ?_ GE258.out) | exact HB.out)⟩⟩
         ·rw [if_neg c16] at H
          have c16b0 : ((bt t260 x8_1) == 67) = false := beq_eq_false_iff_ne.mpr c16
          have c16b1 : ((bt t260 x8_1) != 67) = true := bne_iff_ne.mpr c16
          have H' := Aside0.mk H
          clear H
          have p15 : 0 ≤ (x8_1 : Int) := of_decide_eq_true (by first | (with_reducible assumption) | assumption)
          have q15 : x8_1 < (t260.size : Int) := of_decide_eq_true (by first | (with_reducible assumption) | assumption)
          have hx15 := bt_at t260 x8_1
          replace p15 := eq_true p15
          replace q15 := eq_true q15
          go_wp2
          go_roundg k1
          case measure => have := HK1.out; omega
          case rel => exact ⟨(wrap64 (x8_1 - 1)), (by first | rfl | (simp; done) | (simp [*]; done)), H', ⟨by have := HK1.out; omega⟩, ⟨by (with_reducible repeat (first | refine blk_drewN ?_ _ | refine blk_drew ?_ | refine blk_alloc ?_ _)); exact BK258.out⟩, ⟨by repeat (first | (with_reducible first | exact HB.out | apply below_alloc | apply pw_below_drewN | apply below_drew1 | refine below_set ?_ GE258.out) | exact HB.out)⟩⟩
        ·rw [if_neg c14] at H
         exact absurd H (by simp)
       ·rw [if_neg c13] at H
        exact absurd H (by simp)
      ·rw [if_neg c12] at H
       have c12b0 : decide (0 < x8_1) = false := decide_eq_false c12
       clear c12
       (first | rw [c12b0] | (simp only [i64_w, i32_w]; rw [c12b0]) | skip)
       have H' := Aside0.mk H
       clear H
       go_wp2
       go_meet
       case rel => exact ⟨_, (x8_1), (by first | rfl | (simp; done) | (simp [*]; done)), H', ⟨by have := HK1.out; first | omega | exact Nat.le_refl _⟩, ⟨by (with_reducible repeat (first | refine blk_drewN ?_ _ | refine blk_drew ?_ | refine blk_alloc ?_ _)); exact BK258.out⟩, ⟨by repeat (first | (with_reducible first | exact HB.out | apply below_alloc | apply pw_below_drewN | apply below_drew1 | refine below_set ?_ GE258.out) | exact HB.out)⟩⟩
   case rest =>
    clear HC11
    try clear c1
    try clear p1
    try clear q1
    try clear hx1
    try clear p2
    try clear p6
    try clear c7
    try clear c10
    try clear c10b0
    try clear c10b1
    try clear c12
    try clear c12b0
    try clear c13
    try clear c13b0
    try clear c14
    try clear c14b0
    try clear p15
    try clear q15
    try clear hx15
    try clear c16
    try clear c16b0
    try clear c16b1
    try clear hcz8_0
    try clear hcz8_1
    try clear hcz8_2
    try clear hcz8_3
    try clear hfz8_0
    try clear hfz8_1
    try clear hfz8_2
    try clear hfz8_3
    try clear p15
    try clear p2
    try clear p6
    try clear q15
    obtain ⟨kq, x8_10, rfl, HA, HJ10, BK258, HB⟩ := hcut
    cases kq with
    | zero => exact absurd HA.out (by simp [vivariumlaw09_GensBack.j1])
    | succ kj10 =>
     have H := HA.out
     clear HA
     simp only [vivariumlaw09_GensBack.j1] at H
     by_cases c17 : x8_10 < 1
     ·rw [if_pos c17] at H
      exact absurd ((Option.some.inj H).trans hr.out) (by decide)
     ·rw [if_neg c17] at H
      have c17b0 : decide (x8_10 < 1) = false := decide_eq_false c17
      clear c17
      replace H := Option.bind_eq_some_iff.mp H
      obtain ⟨⟨t262, t263, t264, t265, t266, t267⟩, A180, H⟩ := H
      replace H : (if 0 ≤ x8_10 then (if x8_10 ≤ (t260.size : Int) then (if (t260.extract 0 (x8_10 : Int).toNat).size + 1 ≤ 9223372036854775807 then (if 0 ≤ (wrap64 (x8_10 + 1)) then (if (wrap64 (x8_10 + 1)) ≤ (t260.size : Int) then (if (t260.extract 0 (x8_10 : Int).toNat).size + 1 + (t260.extract ((wrap64 (x8_10 + 1)) : Int).toNat t260.size).size ≤ 9223372036854775807 then ((gens_Parse.f kj10 (((t260.extract 0 (x8_10 : Int).toNat) ++ (⟨#[103]⟩ : ByteArray)) ++ (t260.extract ((wrap64 (x8_10 + 1)) : Int).toNat t260.size))).bind fun bt269 => (if (t260.extract 0 (x8_10 : Int).toNat).size + (t260.extract ((wrap64 (x8_10 + 1)) : Int).toNat t260.size).size ≤ 9223372036854775807 then ((gens_Parse.f kj10 ((t260.extract 0 (x8_10 : Int).toNat) ++ (t260.extract ((wrap64 (x8_10 + 1)) : Int).toNat t260.size))).bind fun bt276 => (if t267 = 0 then (if bt269.2.2.2.2.2 = 0 then (if bt276.2.2.2.2.2 = 0 then (if ((!(t262 == a0_0) || (!(t263 == a0_1) || (!(t264 == a0_2)))) || (!(t265 == a0_3))) = true then (some false) else (if ((!(bt269.1 == a0_0) || (!(bt269.2.1 == a0_1) || (!(bt269.2.2.1 == a0_2)))) || (!(bt269.2.2.2.1 == a0_3))) = true then (some false) else (if ((!(bt276.1 == a0_0) || (!(bt276.2.1 == a0_1) || (!(bt276.2.2.1 == a0_2)))) || (!(bt276.2.2.2.1 == a0_3))) = true then (some false) else (vivariumlaw09_GensBack.j2 kj10 a1 t259)))) else (some false)) else (some false)) else (some false))) else (none))) else (none)) else (none)) else (none)) else (none)) else (none)) else (none)) = some r := H
      have A18 := Aside0.mk A180
      clear A180
      by_cases c19 : 0 ≤ x8_10
      ·rw [if_pos c19] at H
       have c19b0 := eq_true c19
       have c19b1 : decide (0 ≤ x8_10) = true := decide_eq_true c19
       clear c19
       by_cases c20 : x8_10 ≤ (t260.size : Int)
       ·rw [if_pos c20] at H
        have c20b0 := eq_true c20
        have c20b1 : decide (x8_10 ≤ (t260.size : Int)) = true := decide_eq_true c20
        clear c20
        by_cases c21 : (t260.extract 0 (x8_10 : Int).toNat).size + 1 ≤ 9223372036854775807
        ·rw [if_pos c21] at H
         have c21b0 := eq_true c21
         have c21b1 : decide ((t260.extract 0 (x8_10 : Int).toNat).size + 1 ≤ 9223372036854775807) = true := decide_eq_true c21
         try have c21b2 : (9223372036854775807 < (t260.extract 0 (x8_10 : Int).toNat).size + 1) = False := eq_false (Nat.not_lt.2 c21)
         try have c21e2 : (9223372036854775807 < (x8_10 : Int).toNat + 1) = False := eq_false (by have hh := c21; have q0 := of_eq_true (show (x8_10 ≤ (t260.size : Int)) = True by assumption); simp only [ByteArray.size_extract, Nat.sub_zero, Nat.min_self] at hh; omega)
         obtain ⟨ji22, hji22⟩ : ∃ j_ : Int, (wrap64 (x8_10 + 1)) = j_ := ⟨_, rfl⟩
         replace H : (if 0 ≤ (ji22) then (if (ji22) ≤ (t260.size : Int) then (if (t260.extract 0 (x8_10 : Int).toNat).size + 1 + (t260.extract ((ji22) : Int).toNat t260.size).size ≤ 9223372036854775807 then ((gens_Parse.f kj10 (((t260.extract 0 (x8_10 : Int).toNat) ++ (⟨#[103]⟩ : ByteArray)) ++ (t260.extract ((ji22) : Int).toNat t260.size))).bind fun bt269 => (if (t260.extract 0 (x8_10 : Int).toNat).size + (t260.extract ((ji22) : Int).toNat t260.size).size ≤ 9223372036854775807 then ((gens_Parse.f kj10 ((t260.extract 0 (x8_10 : Int).toNat) ++ (t260.extract ((ji22) : Int).toNat t260.size))).bind fun bt276 => (if t267 = 0 then (if bt269.2.2.2.2.2 = 0 then (if bt276.2.2.2.2.2 = 0 then (if ((!(t262 == a0_0) || (!(t263 == a0_1) || (!(t264 == a0_2)))) || (!(t265 == a0_3))) = true then (some false) else (if ((!(bt269.1 == a0_0) || (!(bt269.2.1 == a0_1) || (!(bt269.2.2.1 == a0_2)))) || (!(bt269.2.2.2.1 == a0_3))) = true then (some false) else (if ((!(bt276.1 == a0_0) || (!(bt276.2.1 == a0_1) || (!(bt276.2.2.1 == a0_2)))) || (!(bt276.2.2.2.1 == a0_3))) = true then (some false) else (vivariumlaw09_GensBack.j2 kj10 a1 t259)))) else (some false)) else (some false)) else (some false))) else (none))) else (none)) else (none)) else (none)) = some r := by first | (rw [hji22] at H; exact H) | (simp only [hji22] at H ⊢; exact H)
         (try rw [hji22] at A18)
         have hji22w : (IntKind.i64.wrap (x8_10 + 1)) = ji22 := (i64_w _).trans hji22
         by_cases c23 : 0 ≤ (ji22)
         ·rw [if_pos c23] at H
          have c23b0 := eq_true c23
          have c23b1 : decide (0 ≤ (ji22)) = true := decide_eq_true c23
          clear c23
          by_cases c24 : (ji22) ≤ (t260.size : Int)
          ·rw [if_pos c24] at H
           have c24b0 := eq_true c24
           have c24b1 : decide ((ji22) ≤ (t260.size : Int)) = true := decide_eq_true c24
           clear c24
           by_cases c25 : (t260.extract 0 (x8_10 : Int).toNat).size + 1 + (t260.extract ((ji22) : Int).toNat t260.size).size ≤ 9223372036854775807
           ·rw [if_pos c25] at H
            have c25b0 := eq_true c25
            have c25b1 : decide ((t260.extract 0 (x8_10 : Int).toNat).size + 1 + (t260.extract ((ji22) : Int).toNat t260.size).size ≤ 9223372036854775807) = true := decide_eq_true c25
            try have c25b2 : (9223372036854775807 < (t260.extract 0 (x8_10 : Int).toNat).size + 1 + (t260.extract ((ji22) : Int).toNat t260.size).size) = False := eq_false (Nat.not_lt.2 c25)
            try have c25e2 : (9223372036854775807 < (x8_10 : Int).toNat + 1 + (t260.size - ((ji22) : Int).toNat)) = False := eq_false (by have hh := c25; have q0 := of_eq_true (show (x8_10 ≤ (t260.size : Int)) = True by assumption); simp only [ByteArray.size_extract, Nat.sub_zero, Nat.min_self] at hh; omega)
            replace H := Option.bind_eq_some_iff.mp H
            obtain ⟨⟨t269, t270, t271, t272, t273, t274⟩, A260, H⟩ := H
            replace H : (if (t260.extract 0 (x8_10 : Int).toNat).size + (t260.extract ((ji22) : Int).toNat t260.size).size ≤ 9223372036854775807 then ((gens_Parse.f kj10 ((t260.extract 0 (x8_10 : Int).toNat) ++ (t260.extract ((ji22) : Int).toNat t260.size))).bind fun bt276 => (if t267 = 0 then (if t274 = 0 then (if bt276.2.2.2.2.2 = 0 then (if ((!(t262 == a0_0) || (!(t263 == a0_1) || (!(t264 == a0_2)))) || (!(t265 == a0_3))) = true then (some false) else (if ((!(t269 == a0_0) || (!(t270 == a0_1) || (!(t271 == a0_2)))) || (!(t272 == a0_3))) = true then (some false) else (if ((!(bt276.1 == a0_0) || (!(bt276.2.1 == a0_1) || (!(bt276.2.2.1 == a0_2)))) || (!(bt276.2.2.2.1 == a0_3))) = true then (some false) else (vivariumlaw09_GensBack.j2 kj10 a1 t259)))) else (some false)) else (some false)) else (some false))) else (none)) = some r := H
            have A26 := Aside0.mk A260
            clear A260
            have c27b0 := eq_true (of_decide_eq_true (by first | (with_reducible assumption) | assumption) : 0 ≤ x8_10)
            have c28b0 := eq_true (of_decide_eq_true (by first | (with_reducible assumption) | assumption) : x8_10 ≤ (t260.size : Int))
            have c29b0 := eq_true (of_decide_eq_true (by first | (with_reducible assumption) | assumption) : 0 ≤ (ji22))
            have c30b0 := eq_true (of_decide_eq_true (by first | (with_reducible assumption) | assumption) : (ji22) ≤ (t260.size : Int))
            by_cases c31 : (t260.extract 0 (x8_10 : Int).toNat).size + (t260.extract ((ji22) : Int).toNat t260.size).size ≤ 9223372036854775807
            ·rw [if_pos c31] at H
             have c31b0 := eq_true c31
             have c31b1 : decide ((t260.extract 0 (x8_10 : Int).toNat).size + (t260.extract ((ji22) : Int).toNat t260.size).size ≤ 9223372036854775807) = true := decide_eq_true c31
             try have c31b2 : (9223372036854775807 < (t260.extract 0 (x8_10 : Int).toNat).size + (t260.extract ((ji22) : Int).toNat t260.size).size) = False := eq_false (Nat.not_lt.2 c31)
             try have c31e2 : (9223372036854775807 < (x8_10 : Int).toNat + (t260.size - ((ji22) : Int).toNat)) = False := eq_false (by have hh := c31; have q0 := of_eq_true (show (x8_10 ≤ (t260.size : Int)) = True by assumption); simp only [ByteArray.size_extract, Nat.sub_zero, Nat.min_self] at hh; omega)
             replace H := Option.bind_eq_some_iff.mp H
             obtain ⟨⟨t276, t277, t278, t279, t280, t281⟩, A320, H⟩ := H
             replace H : (if t267 = 0 then (if t274 = 0 then (if t281 = 0 then (if ((!(t262 == a0_0) || (!(t263 == a0_1) || (!(t264 == a0_2)))) || (!(t265 == a0_3))) = true then (some false) else (if ((!(t269 == a0_0) || (!(t270 == a0_1) || (!(t271 == a0_2)))) || (!(t272 == a0_3))) = true then (some false) else (if ((!(t276 == a0_0) || (!(t277 == a0_1) || (!(t278 == a0_2)))) || (!(t279 == a0_3))) = true then (some false) else (vivariumlaw09_GensBack.j2 kj10 a1 t259)))) else (some false)) else (some false)) else (some false)) = some r := H
             have A32 := Aside0.mk A320
             clear A320
             by_cases c33 : t267 = 0
             ·rw [if_pos c33] at H
              have c33b0 : (t267 == 0) = true := beq_iff_eq.mpr c33
              have c33b1 : (t267 != 0) = false := bne_eq_false_iff_eq.mpr c33
              clear c33
              by_cases c34 : t274 = 0
              ·rw [if_pos c34] at H
               have c34b0 : (t274 == 0) = true := beq_iff_eq.mpr c34
               have c34b1 : (t274 != 0) = false := bne_eq_false_iff_eq.mpr c34
               clear c34
               by_cases c35 : t281 = 0
               ·rw [if_pos c35] at H
                have c35b0 : (t281 == 0) = true := beq_iff_eq.mpr c35
                have c35b1 : (t281 != 0) = false := bne_eq_false_iff_eq.mpr c35
                clear c35
                by_cases c36 : ((!(t262 == a0_0) || (!(t263 == a0_1) || (!(t264 == a0_2)))) || (!(t265 == a0_3))) = true
                ·rw [if_pos c36] at H
                 exact absurd ((Option.some.inj H).trans hr.out) (by decide)
                ·rw [if_neg c36] at H
                 have c36b0 : ((!(t262 == a0_0) || (!(t263 == a0_1) || (!(t264 == a0_2)))) || (!(t265 == a0_3))) = false := by simpa using c36
                 clear c36
                 by_cases c65 : ((!(t269 == a0_0) || (!(t270 == a0_1) || (!(t271 == a0_2)))) || (!(t272 == a0_3))) = true
                 ·rw [if_pos c65] at H
                  exact absurd ((Option.some.inj H).trans hr.out) (by decide)
                 ·rw [if_neg c65] at H
                  have c65b0 : ((!(t269 == a0_0) || (!(t270 == a0_1) || (!(t271 == a0_2)))) || (!(t272 == a0_3))) = false := by simpa using c65
                  clear c65
                  by_cases c96 : ((!(t276 == a0_0) || (!(t277 == a0_1) || (!(t278 == a0_2)))) || (!(t279 == a0_3))) = true
                  ·rw [if_pos c96] at H
                   exact absurd ((Option.some.inj H).trans hr.out) (by decide)
                  ·rw [if_neg c96] at H
                   have c96b0 : ((!(t276 == a0_0) || (!(t277 == a0_1) || (!(t278 == a0_2)))) || (!(t279 == a0_3))) = false := by simpa using c96
                   clear c96
                   have H' := Aside0.mk H
                   clear H
                   try go_wp2_with (first | ((with_reducible refine gate_callee (f := 15) rfl ?_); refine goesL_ (some 59) rfl rfl Tryd.func15 (by kernel_rfl) rfl #[.string t260] rfl (by (try simp only [List.map_toArray, List.map_cons, List.map_nil]); first | done | rfl | (simp only [List.length_drop, List.length_take]; rfl)) ?_; (with_reducible refine (gens_Parse.calls kj10 t260 t262 t263 t264 t265 t266 t267 _ A18.out).mono ?_); rintro e w128 ⟨rfl, hb⟩; refine ⟨_, rfl, ?_⟩; have n0_ := Aside0.mk (blk_below (g := gb258) (o := .cells #[.int .u8 a0_0, .int .u16 a0_1, .int .u16 a0_2, .int .i64 a0_3] 42 (0, 0)) (by (with_reducible repeat (first | refine blk_drewN ?_ _ | refine blk_drew ?_ | refine blk_alloc ?_ _)); exact BK258.out) hb); have n1_ := Aside0.mk (below_step (by repeat (first | (with_reducible first | exact HB.out | apply below_alloc | apply pw_below_drewN | apply below_drew1 | refine below_set ?_ GE258.out) | exact HB.out)) hb); clear BK258; clear HB; have BK258 := n0_; have HB := n1_; clear n0_ n1_; (try clear hb); (try clear hb2); (try clear hk); (try clear hi)) | ((with_reducible refine gate_dst (N := 9) rfl ?_); (try (refine gate_guard (by rfl) ?_; dsimp only)); refine box_event ?hg (N := 9) ?hd (cs := #[.int .u8 0, .int .u16 0, .int .u16 0, .int .i64 0]) (t := 42) ?hr ?_; (case hd => rfl); (case hg => rfl); (case hr => first | (go_simp; done) | (go_simp; rfl)); intro gb268 hg w129 hbox hb; have n0_ := Aside0.mk (blk_below (g := gb258) (o := .cells #[.int .u8 a0_0, .int .u16 a0_1, .int .u16 a0_2, .int .i64 a0_3] 42 (0, 0)) (by (with_reducible repeat (first | refine blk_drewN ?_ _ | refine blk_drew ?_ | refine blk_alloc ?_ _)); exact BK258.out) hb); have n1_ := Aside0.mk (below_step (by repeat (first | (with_reducible first | exact HB.out | apply below_alloc | apply pw_below_drewN | apply below_drew1 | refine below_set ?_ GE258.out) | exact HB.out)) hb); have n2_ := Aside0.mk (hbox); have n3_ := Aside0.mk ((by rw [hg]; exact (below_size (by repeat (first | (with_reducible first | exact HB.out | apply below_alloc | apply pw_below_drewN | apply below_drew1 | refine below_set ?_ GE258.out) | exact HB.out))) : w.heap.size ≤ gb268)); have n4_ := Aside0.mk ((by rw [hg]; exact (below_size (by repeat (first | (with_reducible first | exact HB.out | apply below_alloc | apply pw_below_drewN | apply below_drew1 | refine below_set ?_ GE258.out) | exact HB.out))) : w.heap.size ≤ gb268)); have n5_ := Aside0.mk ((by rw [hg]; exact Nat.ne_of_lt (blk_lt (g := gb258) (o := .cells #[.int .u8 a0_0, .int .u16 a0_1, .int .u16 a0_2, .int .i64 a0_3] 42 (0, 0)) (by (with_reducible repeat (first | refine blk_drewN ?_ _ | refine blk_drew ?_ | refine blk_alloc ?_ _)); exact BK258.out)) : gb258 ≠ gb268)); have n6_ := Aside0.mk ((by rw [hg]; exact Nat.ne_of_gt (blk_lt (g := gb258) (o := .cells #[.int .u8 a0_0, .int .u16 a0_1, .int .u16 a0_2, .int .i64 a0_3] 42 (0, 0)) (by (with_reducible repeat (first | refine blk_drewN ?_ _ | refine blk_drew ?_ | refine blk_alloc ?_ _)); exact BK258.out)) : gb268 ≠ gb258)); clear BK258; clear HB; have BK258 := n0_; have HB := n1_; have BK268 := n2_; have GW268 := n3_; have GE268 := n4_; have NB258_268 := n5_; have NB268_258 := n6_; clear n0_ n1_ n2_ n3_ n4_ n5_ n6_; clear hb hbox hg; have hnb130 := NB268_258.out; have hnc130 := NB258_268.out; have hcz131_0 : w129.cell? ⟨gb268, 0, none⟩ = some (.int .u8 0) := (blk_cell BK268.out 0).trans rfl; have hcz131_1 : w129.cell? ⟨gb268, 1, none⟩ = some (.int .u16 0) := (blk_cell BK268.out 1).trans rfl; have hcz131_2 : w129.cell? ⟨gb268, 2, none⟩ = some (.int .u16 0) := (blk_cell BK268.out 2).trans rfl; have hcz131_3 : w129.cell? ⟨gb268, 3, none⟩ = some (.int .i64 0) := (blk_cell BK268.out 3).trans rfl; have hfz131_0 := blk_frozen BK268.out 0; have hfz131_1 := blk_frozen BK268.out 1; have hfz131_2 := blk_frozen BK268.out 2; have hfz131_3 := blk_frozen BK268.out 3))
                   have n0_ : Aside0 (((((w129.setCell ⟨gb268, 0, none⟩ (.int .u8 t262)).setCell ⟨gb268, 1, none⟩ (.int .u16 t263)).setCell ⟨gb268, 2, none⟩ (.int .u16 t264)).setCell ⟨gb268, 3, none⟩ (.int .i64 t265)).heap[gb258]? = some (.cells #[.int .u8 a0_0, .int .u16 a0_1, .int .u16 a0_2, .int .i64 a0_3] 42 (0, 0))) := ⟨by (with_reducible repeat (first | refine blk_drewN ?_ _ | refine blk_drew ?_ | refine blk_alloc ?_ _)); refine blk_far ?_ NB258_268.out _; (with_reducible repeat (first | refine blk_drewN ?_ _ | refine blk_drew ?_ | refine blk_alloc ?_ _)); refine blk_far ?_ NB258_268.out _; (with_reducible repeat (first | refine blk_drewN ?_ _ | refine blk_drew ?_ | refine blk_alloc ?_ _)); refine blk_far ?_ NB258_268.out _; (with_reducible repeat (first | refine blk_drewN ?_ _ | refine blk_drew ?_ | refine blk_alloc ?_ _)); refine blk_far ?_ NB258_268.out _; (with_reducible repeat (first | refine blk_drewN ?_ _ | refine blk_drew ?_ | refine blk_alloc ?_ _)); exact BK258.out⟩
                   have n1_ : Aside0 (((((w129.setCell ⟨gb268, 0, none⟩ (.int .u8 t262)).setCell ⟨gb268, 1, none⟩ (.int .u16 t263)).setCell ⟨gb268, 2, none⟩ (.int .u16 t264)).setCell ⟨gb268, 3, none⟩ (.int .i64 t265)).heap[gb268]? = some (.cells #[.int .u8 t262, .int .u16 t263, .int .u16 t264, .int .i64 t265] 42 (0, 0))) := ⟨by (with_reducible repeat (first | refine blk_drewN ?_ _ | refine blk_drew ?_ | refine blk_alloc ?_ _)); refine blk_put (cs := #[.int .u8 t262, .int .u16 t263, .int .u16 t264, .int .i64 0]) ?_ 3 _ rfl; (with_reducible repeat (first | refine blk_drewN ?_ _ | refine blk_drew ?_ | refine blk_alloc ?_ _)); refine blk_put (cs := #[.int .u8 t262, .int .u16 t263, .int .u16 0, .int .i64 0]) ?_ 2 _ rfl; (with_reducible repeat (first | refine blk_drewN ?_ _ | refine blk_drew ?_ | refine blk_alloc ?_ _)); refine blk_put (cs := #[.int .u8 t262, .int .u16 0, .int .u16 0, .int .i64 0]) ?_ 1 _ rfl; (with_reducible repeat (first | refine blk_drewN ?_ _ | refine blk_drew ?_ | refine blk_alloc ?_ _)); refine blk_put (cs := #[.int .u8 0, .int .u16 0, .int .u16 0, .int .i64 0]) ?_ 0 _ rfl; (with_reducible repeat (first | refine blk_drewN ?_ _ | refine blk_drew ?_ | refine blk_alloc ?_ _)); exact BK268.out⟩
                   have n2_ : Aside0 (Below w.heap.size w ((((w129.setCell ⟨gb268, 0, none⟩ (.int .u8 t262)).setCell ⟨gb268, 1, none⟩ (.int .u16 t263)).setCell ⟨gb268, 2, none⟩ (.int .u16 t264)).setCell ⟨gb268, 3, none⟩ (.int .i64 t265))) := ⟨by repeat (first | (with_reducible first | exact HB.out | apply below_alloc | apply pw_below_drewN | apply below_drew1 | refine below_set ?_ GE258.out | refine below_set ?_ GE268.out) | exact HB.out)⟩
                   (try clear BK258)
                   (try clear BK268)
                   (try clear HB)
                   generalize ((((w129.setCell ⟨gb268, 0, none⟩ (.int .u8 t262)).setCell ⟨gb268, 1, none⟩ (.int .u16 t263)).setCell ⟨gb268, 2, none⟩ (.int .u16 t264)).setCell ⟨gb268, 3, none⟩ (.int .i64 t265)) = w132 at n0_ n1_ n2_ ⊢
                   have BK258 := n0_
                   have BK268 := n1_
                   have HB := n2_
                   clear n0_ n1_ n2_
                   have n0_ := Aside0.mk (blk_drew BK258.out)
                   have n1_ := Aside0.mk (blk_drew BK268.out)
                   have n2_ := Aside0.mk (below_drew1 HB.out)
                   clear BK258
                   clear BK268
                   clear HB
                   have BK258 := n0_
                   have BK268 := n1_
                   have HB := n2_
                   clear n0_ n1_ n2_
                   refine start_ (n := 18) (S := fun w' => True) (ds := []) #[false, false, false, false, false, false, false, false, false, false, false, false, false, false, false, false, false, false] (by kernel_rfl) rfl rfl trivial (fun hHeld => ?_); refine with_tabW vivariumlaw09_GensBack.tab12 vivariumlaw09_GensBack.bits12 (fun HT_ HW_ => ?_)
                   generalize w132.drew = w133 at BK258 BK268 HB hHeld ⊢
                   refine pure_ (i := 0) (N := some 64) (v := ?_) (a' := ?_) #[true, false, false, false, false, false, false, false, false, false, false, false, false, false, false, false, false, false] rfl rfl (any_of HT_.out (by kernel_rfl)) (fun _ _ _ h => h) (Or.inl ⟨by rfl, ?_⟩) ?_ ?_
                   rotate_left
                   ·intro w'
                    go_simp
                    with_reducible rfl
                   rotate_left
                   ·simp only [Act.put, List.setIfInBounds_toArray, List.set_cons_zero, List.set_cons_succ, i64_w, i32_w]
                    rfl
                   refine pure_ (i := 1) (N := some 65) (v := ?_) (a' := ?_) #[true, true, false, false, false, false, false, false, false, false, false, false, false, false, false, false, false, false] rfl rfl (any_of HT_.out (by kernel_rfl)) (fun _ _ _ h => h) (Or.inl ⟨by rfl, ?_⟩) ?_ ?_
                   rotate_left
                   ·intro w'
                    go_simp
                    with_reducible rfl
                   rotate_left
                   ·simp only [Act.put, List.setIfInBounds_toArray, List.set_cons_zero, List.set_cons_succ, i64_w, i32_w]
                    rfl
                   refine pure_ (i := 2) (N := some 66) (v := ?_) (a' := ?_) #[true, true, true, false, false, false, false, false, false, false, false, false, false, false, false, false, false, false] rfl rfl (any_of HT_.out (by kernel_rfl)) (fun _ _ _ h => h) (Or.inl ⟨by rfl, ?_⟩) ?_ ?_
                   rotate_left
                   ·intro w'
                    go_simp
                    with_reducible rfl
                   rotate_left
                   ·simp only [Act.put, List.setIfInBounds_toArray, List.set_cons_zero, List.set_cons_succ, i64_w, i32_w]
                    rfl
                   refine pure_ (i := 3) (N := some 67) (v := ?_) (a' := ?_) #[true, true, true, true, false, false, false, false, false, false, false, false, false, false, false, false, false, false] rfl rfl (any_of HT_.out (by kernel_rfl)) (fun _ _ _ h => h) (Or.inl ⟨by rfl, ?_⟩) ?_ ?_
                   rotate_left
                   ·intro w'
                    go_simp
                    with_reducible rfl
                   rotate_left
                   ·simp only [Act.put, List.setIfInBounds_toArray, List.set_cons_zero, List.set_cons_succ, i64_w, i32_w]
                    rfl
                   refine pure_ (i := 4) (N := some 68) (v := ?_) (a' := ?_) #[true, true, true, true, true, false, false, false, false, false, false, false, false, false, false, false, false, false] rfl rfl (any_of HT_.out (by kernel_rfl)) (fun _ _ _ h => h) (Or.inl ⟨by rfl, ?_⟩) ?_ ?_
                   rotate_left
                   ·intro w'
                    go_simp
                    with_reducible rfl
                   rotate_left
                   ·simp only [Act.put, List.setIfInBounds_toArray, List.set_cons_zero, List.set_cons_succ, i64_w, i32_w]
                    rfl
                   refine pure_ (i := 5) (N := some 69) (v := ?_) (a' := ?_) #[true, true, true, true, true, true, false, false, false, false, false, false, false, false, false, false, false, false] rfl rfl (any_of HT_.out (by kernel_rfl)) (fun _ _ _ h => h) (Or.inl ⟨by rfl, ?_⟩) ?_ ?_
                   rotate_left
                   ·intro w'
                    go_simp
                    with_reducible rfl
                   rotate_left
                   ·simp only [Act.put, List.setIfInBounds_toArray, List.set_cons_zero, List.set_cons_succ, i64_w, i32_w]
                    rfl
                   refine pure_ (i := 6) (N := some 70) (v := ?_) (a' := ?_) #[true, true, true, true, true, true, true, false, false, false, false, false, false, false, false, false, false, false] rfl rfl (any_of HT_.out (by kernel_rfl)) (fun _ _ _ h => h) (Or.inl ⟨by rfl, ?_⟩) ?_ ?_
                   rotate_left
                   ·intro w'
                    go_simp
                    with_reducible rfl
                   rotate_left
                   ·simp only [Act.put, List.setIfInBounds_toArray, List.set_cons_zero, List.set_cons_succ, i64_w, i32_w]
                    rfl
                   refine pure_ (i := 7) (N := some 71) (v := ?_) (a' := ?_) #[true, true, true, true, true, true, true, true, false, false, false, false, false, false, false, false, false, false] rfl rfl (any_of HT_.out (by kernel_rfl)) (fun _ _ _ h => h) (Or.inl ⟨by rfl, ?_⟩) ?_ ?_
                   rotate_left
                   ·intro w'
                    go_simp
                    with_reducible rfl
                   rotate_left
                   ·simp only [Act.put, List.setIfInBounds_toArray, List.set_cons_zero, List.set_cons_succ, i64_w, i32_w]
                    rfl
                   refine pure_ (i := 8) (N := some 72) (v := ?_) (a' := ?_) #[true, true, true, true, true, true, true, true, true, false, false, false, false, false, false, false, false, false] rfl rfl (any_of HT_.out (by kernel_rfl)) (fun _ _ _ h => h) (Or.inl ⟨by rfl, ?_⟩) ?_ ?_
                   rotate_left
                   ·intro w'
                    go_simp
                    with_reducible rfl
                   rotate_left
                   ·simp only [Act.put, List.setIfInBounds_toArray, List.set_cons_zero, List.set_cons_succ, i64_w, i32_w]
                    rfl
                   refine join_ (σ := Nat) 3 #[true, true, true, true, true, true, true, true, true, true, true, true, true, true, true, false, false, false] (fun s_ => [(73, .tuple #[.agg #[.int .u8 t269, .int .u16 t270, .int .u16 t271, .int .i64 t272], .int .i64 t273, .int .i64 t274]), (12, .pointer (some ⟨s_, 0, none⟩)), (63, .tuple #[.agg #[.int .u8 t269, .int .u16 t270, .int .u16 t271, .int .i64 t272], .int .i64 t273, .int .i64 t274]), (74, .agg #[.int .u8 t269, .int .u16 t270, .int .u16 t271, .int .i64 t272]), (75, .int .i64 t273), (76, .int .i64 t274)]) (fun s_ w' => (w'.heap[gb258]? = some (.cells #[.int .u8 a0_0, .int .u16 a0_1, .int .u16 a0_2, .int .i64 a0_3] 42 (0, 0))) ∧ (w'.heap[gb268]? = some (.cells #[.int .u8 t262, .int .u16 t263, .int .u16 t264, .int .i64 t265] 42 (0, 0))) ∧ (w'.heap[s_]? = some (.cells #[.int .u8 0, .int .u16 0, .int .u16 0, .int .i64 0] 42 (0, 0))) ∧ (w.heap.size ≤ s_) ∧ (w.heap.size ≤ s_) ∧ (gb258 ≠ s_) ∧ (s_ ≠ gb258) ∧ (gb268 ≠ s_) ∧ (s_ ≠ gb268) ∧ (Below w.heap.size w w')) ?_ ?_
                   rotate_left
                   ·intro hCont
                    refine two_ (i := 9) (j := 14) (Ni := some 73) (Nj := some 12) #[true, true, true, true, true, true, true, true, true, true, false, false, false, false, false, false, false, false] #[true, true, true, true, true, true, true, true, true, false, false, false, false, false, true, false, false, false] rfl rfl rfl rfl (two_of HT_.out (by kernel_rfl)) (by decide) (by decide) (fun K hK => ?_) (fun K hK => ?_)
                    ·skip
                     refine goes_ Tryd.func15 (by kernel_rfl) rfl #[.string (((t260.extract 0 (x8_10 : Int).toNat) ++ (⟨#[103]⟩ : ByteArray)) ++ (t260.extract ((ji22) : Int).toNat t260.size))] (by rfl) rfl rfl (by (try simp only [List.map_toArray, List.map_cons, List.map_nil]); first | done | (simp only [hji22]; rfl) | rfl | (simp only [List.length_drop, List.length_take]; rfl)) ?_
                     with_reducible refine (gens_Parse.calls kj10 (((t260.extract 0 (x8_10 : Int).toNat) ++ (⟨#[103]⟩ : ByteArray)) ++ (t260.extract ((ji22) : Int).toNat t260.size)) t269 t270 t271 t272 t273 t274 _ A26.out).mono ?_
                     rintro e w134 ⟨rfl, hb⟩
                     refine ⟨_, rfl, ?_⟩
                     have n0_ := Aside0.mk (blk_below (g := gb258) (o := .cells #[.int .u8 a0_0, .int .u16 a0_1, .int .u16 a0_2, .int .i64 a0_3] 42 (0, 0)) (by (with_reducible repeat (first | refine blk_drewN ?_ _ | refine blk_drew ?_ | refine blk_alloc ?_ _)); exact BK258.out) hb)
                     have n1_ := Aside0.mk (blk_below (g := gb268) (o := .cells #[.int .u8 t262, .int .u16 t263, .int .u16 t264, .int .i64 t265] 42 (0, 0)) (by (with_reducible repeat (first | refine blk_drewN ?_ _ | refine blk_drew ?_ | refine blk_alloc ?_ _)); exact BK268.out) hb)
                     have n2_ := Aside0.mk (below_step (by repeat (first | (with_reducible first | exact HB.out | apply below_alloc | apply pw_below_drewN | apply below_drew1 | refine below_set ?_ GE258.out | refine below_set ?_ GE268.out) | exact HB.out)) hb)
                     clear BK258
                     clear BK268
                     clear HB
                     have BK258 := n0_
                     have BK268 := n1_
                     have HB := n2_
                     clear n0_ n1_ n2_
                     (try clear hb)
                     (try clear hb2)
                     (try clear hk)
                     (try clear hi)
                     refine hK.out _ _ trivial (fun hHeld => ?_)
                     clear hK K
                     refine norm_ (a' := ?_) ?_ ?_
                     rotate_left
                     ·show Act.put _ (some 73) _ = _
                      simp only [Act.put, List.setIfInBounds_toArray, List.set_cons_zero, List.set_cons_succ, i64_w, i32_w]
                      rfl
                     refine pure_ (i := 10) (N := some 63) (v := ?_) (a' := ?_) #[true, true, true, true, true, true, true, true, true, true, true, false, false, false, false, false, false, false] rfl rfl (any_of HT_.out (by kernel_rfl)) (fun _ _ _ h => h) (Or.inl ⟨by rfl, ?_⟩) ?_ ?_
                     rotate_left
                     ·intro w'
                      go_simp
                      with_reducible rfl
                     rotate_left
                     ·simp only [Act.put, List.setIfInBounds_toArray, List.set_cons_zero, List.set_cons_succ, i64_w, i32_w]
                      rfl
                     refine pure_ (i := 11) (N := some 74) (v := ?_) (a' := ?_) #[true, true, true, true, true, true, true, true, true, true, true, true, false, false, false, false, false, false] rfl rfl (any_of HT_.out (by kernel_rfl)) (fun _ _ _ h => h) (Or.inl ⟨by rfl, ?_⟩) ?_ ?_
                     rotate_left
                     ·intro w'
                      go_simp
                      with_reducible rfl
                     rotate_left
                     ·simp only [Act.put, List.setIfInBounds_toArray, List.set_cons_zero, List.set_cons_succ, i64_w, i32_w]
                      rfl
                     refine pure_ (i := 12) (N := some 75) (v := ?_) (a' := ?_) #[true, true, true, true, true, true, true, true, true, true, true, true, true, false, false, false, false, false] rfl rfl (any_of HT_.out (by kernel_rfl)) (fun _ _ _ h => h) (Or.inl ⟨by rfl, ?_⟩) ?_ ?_
                     rotate_left
                     ·intro w'
                      go_simp
                      with_reducible rfl
                     rotate_left
                     ·simp only [Act.put, List.setIfInBounds_toArray, List.set_cons_zero, List.set_cons_succ, i64_w, i32_w]
                      rfl
                     refine pure_ (i := 13) (N := some 76) (v := ?_) (a' := ?_) #[true, true, true, true, true, true, true, true, true, true, true, true, true, true, false, false, false, false] rfl rfl (any_of HT_.out (by kernel_rfl)) (fun _ _ _ h => h) (Or.inl ⟨by rfl, ?_⟩) ?_ ?_
                     rotate_left
                     ·intro w'
                      go_simp
                      with_reducible rfl
                     rotate_left
                     ·simp only [Act.put, List.setIfInBounds_toArray, List.set_cons_zero, List.set_cons_succ, i64_w, i32_w]
                      rfl
                     refine one_ (i := 14) (N := some 12) #[true, true, true, true, true, true, true, true, true, true, true, true, true, true, true, false, false, false] rfl rfl (one_of HT_.out (by kernel_rfl)) (by decide) (fun K hK => ?_)
                     refine box_step ?hg (N := 12) ?hd (cs := #[.int .u8 0, .int .u16 0, .int .u16 0, .int .i64 0]) (t := 42) ?hr ?_; (case hd => rfl); (case hg => rfl); (case hr => first | (go_simp; done) | (go_simp; rfl))
                     intro gb275 hg w135 hbox hb
                     have n0_ := Aside0.mk (blk_below (g := gb258) (o := .cells #[.int .u8 a0_0, .int .u16 a0_1, .int .u16 a0_2, .int .i64 a0_3] 42 (0, 0)) (by (with_reducible repeat (first | refine blk_drewN ?_ _ | refine blk_drew ?_ | refine blk_alloc ?_ _)); exact BK258.out) hb)
                     have n1_ := Aside0.mk (blk_below (g := gb268) (o := .cells #[.int .u8 t262, .int .u16 t263, .int .u16 t264, .int .i64 t265] 42 (0, 0)) (by (with_reducible repeat (first | refine blk_drewN ?_ _ | refine blk_drew ?_ | refine blk_alloc ?_ _)); exact BK268.out) hb)
                     have n2_ := Aside0.mk (below_step (by repeat (first | (with_reducible first | exact HB.out | apply below_alloc | apply pw_below_drewN | apply below_drew1 | refine below_set ?_ GE258.out | refine below_set ?_ GE268.out) | exact HB.out)) hb)
                     have n3_ := Aside0.mk (hbox)
                     have n4_ := Aside0.mk ((by rw [hg]; exact (below_size (by repeat (first | (with_reducible first | exact HB.out | apply below_alloc | apply pw_below_drewN | apply below_drew1 | refine below_set ?_ GE258.out | refine below_set ?_ GE268.out) | exact HB.out))) : w.heap.size ≤ gb275))
                     have n5_ := Aside0.mk ((by rw [hg]; exact (below_size (by repeat (first | (with_reducible first | exact HB.out | apply below_alloc | apply pw_below_drewN | apply below_drew1 | refine below_set ?_ GE258.out | refine below_set ?_ GE268.out) | exact HB.out))) : w.heap.size ≤ gb275))
                     have n6_ := Aside0.mk ((by rw [hg]; exact Nat.ne_of_lt (blk_lt (g := gb258) (o := .cells #[.int .u8 a0_0, .int .u16 a0_1, .int .u16 a0_2, .int .i64 a0_3] 42 (0, 0)) (by (with_reducible repeat (first | refine blk_drewN ?_ _ | refine blk_drew ?_ | refine blk_alloc ?_ _)); exact BK258.out)) : gb258 ≠ gb275))
                     have n7_ := Aside0.mk ((by rw [hg]; exact Nat.ne_of_gt (blk_lt (g := gb258) (o := .cells #[.int .u8 a0_0, .int .u16 a0_1, .int .u16 a0_2, .int .i64 a0_3] 42 (0, 0)) (by (with_reducible repeat (first | refine blk_drewN ?_ _ | refine blk_drew ?_ | refine blk_alloc ?_ _)); exact BK258.out)) : gb275 ≠ gb258))
                     have n8_ := Aside0.mk ((by rw [hg]; exact Nat.ne_of_lt (blk_lt (g := gb268) (o := .cells #[.int .u8 t262, .int .u16 t263, .int .u16 t264, .int .i64 t265] 42 (0, 0)) (by (with_reducible repeat (first | refine blk_drewN ?_ _ | refine blk_drew ?_ | refine blk_alloc ?_ _)); exact BK268.out)) : gb268 ≠ gb275))
                     have n9_ := Aside0.mk ((by rw [hg]; exact Nat.ne_of_gt (blk_lt (g := gb268) (o := .cells #[.int .u8 t262, .int .u16 t263, .int .u16 t264, .int .i64 t265] 42 (0, 0)) (by (with_reducible repeat (first | refine blk_drewN ?_ _ | refine blk_drew ?_ | refine blk_alloc ?_ _)); exact BK268.out)) : gb275 ≠ gb268))
                     clear BK258
                     clear BK268
                     clear HB
                     have BK258 := n0_
                     have BK268 := n1_
                     have HB := n2_
                     have BK275 := n3_
                     have GW275 := n4_
                     have GE275 := n5_
                     have NB258_275 := n6_
                     have NB275_258 := n7_
                     have NB268_275 := n8_
                     have NB275_268 := n9_
                     clear n0_ n1_ n2_ n3_ n4_ n5_ n6_ n7_ n8_ n9_
                     clear hb hbox hg
                     refine hK.out _ _ trivial (fun hHeld => ?_)
                     clear hK K
                     refine norm_ (a' := ?_) ?_ ?_
                     rotate_left
                     ·show Act.put _ (some 12) _ = _
                      simp only [Act.put, List.setIfInBounds_toArray, List.set_cons_zero, List.set_cons_succ, i64_w, i32_w]
                      rfl
                     exact norm_ (by simp only [putAll, Act.put, List.setIfInBounds_toArray, List.set_cons_zero, List.set_cons_succ]) (hCont (gb275) _ ⟨(by (with_reducible repeat (first | refine blk_drewN ?_ _ | refine blk_drew ?_ | refine blk_alloc ?_ _)); exact BK258.out), (by (with_reducible repeat (first | refine blk_drewN ?_ _ | refine blk_drew ?_ | refine blk_alloc ?_ _)); exact BK268.out), (by (with_reducible repeat (first | refine blk_drewN ?_ _ | refine blk_drew ?_ | refine blk_alloc ?_ _)); exact BK275.out), GW275.out, GE275.out, NB258_275.out, NB275_258.out, NB268_275.out, NB275_268.out, (by repeat (first | (with_reducible first | exact HB.out | apply below_alloc | apply pw_below_drewN | apply below_drew1 | refine below_set ?_ GE258.out | refine below_set ?_ GE268.out | refine below_set ?_ GE275.out) | exact HB.out))⟩)
                    ·skip
                     refine box_step ?hg (N := 12) ?hd (cs := #[.int .u8 0, .int .u16 0, .int .u16 0, .int .i64 0]) (t := 42) ?hr ?_; (case hd => rfl); (case hg => rfl); (case hr => first | (go_simp; done) | (go_simp; rfl))
                     intro gb275 hg w134 hbox hb
                     have n0_ := Aside0.mk (blk_below (g := gb258) (o := .cells #[.int .u8 a0_0, .int .u16 a0_1, .int .u16 a0_2, .int .i64 a0_3] 42 (0, 0)) (by (with_reducible repeat (first | refine blk_drewN ?_ _ | refine blk_drew ?_ | refine blk_alloc ?_ _)); exact BK258.out) hb)
                     have n1_ := Aside0.mk (blk_below (g := gb268) (o := .cells #[.int .u8 t262, .int .u16 t263, .int .u16 t264, .int .i64 t265] 42 (0, 0)) (by (with_reducible repeat (first | refine blk_drewN ?_ _ | refine blk_drew ?_ | refine blk_alloc ?_ _)); exact BK268.out) hb)
                     have n2_ := Aside0.mk (below_step (by repeat (first | (with_reducible first | exact HB.out | apply below_alloc | apply pw_below_drewN | apply below_drew1 | refine below_set ?_ GE258.out | refine below_set ?_ GE268.out) | exact HB.out)) hb)
                     have n3_ := Aside0.mk (hbox)
                     have n4_ := Aside0.mk ((by rw [hg]; exact (below_size (by repeat (first | (with_reducible first | exact HB.out | apply below_alloc | apply pw_below_drewN | apply below_drew1 | refine below_set ?_ GE258.out | refine below_set ?_ GE268.out) | exact HB.out))) : w.heap.size ≤ gb275))
                     have n5_ := Aside0.mk ((by rw [hg]; exact (below_size (by repeat (first | (with_reducible first | exact HB.out | apply below_alloc | apply pw_below_drewN | apply below_drew1 | refine below_set ?_ GE258.out | refine below_set ?_ GE268.out) | exact HB.out))) : w.heap.size ≤ gb275))
                     have n6_ := Aside0.mk ((by rw [hg]; exact Nat.ne_of_lt (blk_lt (g := gb258) (o := .cells #[.int .u8 a0_0, .int .u16 a0_1, .int .u16 a0_2, .int .i64 a0_3] 42 (0, 0)) (by (with_reducible repeat (first | refine blk_drewN ?_ _ | refine blk_drew ?_ | refine blk_alloc ?_ _)); exact BK258.out)) : gb258 ≠ gb275))
                     have n7_ := Aside0.mk ((by rw [hg]; exact Nat.ne_of_gt (blk_lt (g := gb258) (o := .cells #[.int .u8 a0_0, .int .u16 a0_1, .int .u16 a0_2, .int .i64 a0_3] 42 (0, 0)) (by (with_reducible repeat (first | refine blk_drewN ?_ _ | refine blk_drew ?_ | refine blk_alloc ?_ _)); exact BK258.out)) : gb275 ≠ gb258))
                     have n8_ := Aside0.mk ((by rw [hg]; exact Nat.ne_of_lt (blk_lt (g := gb268) (o := .cells #[.int .u8 t262, .int .u16 t263, .int .u16 t264, .int .i64 t265] 42 (0, 0)) (by (with_reducible repeat (first | refine blk_drewN ?_ _ | refine blk_drew ?_ | refine blk_alloc ?_ _)); exact BK268.out)) : gb268 ≠ gb275))
                     have n9_ := Aside0.mk ((by rw [hg]; exact Nat.ne_of_gt (blk_lt (g := gb268) (o := .cells #[.int .u8 t262, .int .u16 t263, .int .u16 t264, .int .i64 t265] 42 (0, 0)) (by (with_reducible repeat (first | refine blk_drewN ?_ _ | refine blk_drew ?_ | refine blk_alloc ?_ _)); exact BK268.out)) : gb275 ≠ gb268))
                     clear BK258
                     clear BK268
                     clear HB
                     have BK258 := n0_
                     have BK268 := n1_
                     have HB := n2_
                     have BK275 := n3_
                     have GW275 := n4_
                     have GE275 := n5_
                     have NB258_275 := n6_
                     have NB275_258 := n7_
                     have NB268_275 := n8_
                     have NB275_268 := n9_
                     clear n0_ n1_ n2_ n3_ n4_ n5_ n6_ n7_ n8_ n9_
                     clear hb hbox hg
                     refine hK.out _ _ trivial (fun hHeld => ?_)
                     clear hK K
                     refine norm_ (a' := ?_) ?_ ?_
                     rotate_left
                     ·show Act.put _ (some 12) _ = _
                      simp only [Act.put, List.setIfInBounds_toArray, List.set_cons_zero, List.set_cons_succ, i64_w, i32_w]
                      rfl
                     refine one_ (i := 9) (N := some 73) #[true, true, true, true, true, true, true, true, true, true, false, false, false, false, true, false, false, false] rfl rfl (one_of HT_.out (by kernel_rfl)) (by decide) (fun K hK => ?_)
                     refine goes_ Tryd.func15 (by kernel_rfl) rfl #[.string (((t260.extract 0 (x8_10 : Int).toNat) ++ (⟨#[103]⟩ : ByteArray)) ++ (t260.extract ((ji22) : Int).toNat t260.size))] (by rfl) rfl rfl (by (try simp only [List.map_toArray, List.map_cons, List.map_nil]); first | done | (simp only [hji22]; rfl) | rfl | (simp only [List.length_drop, List.length_take]; rfl)) ?_
                     with_reducible refine (gens_Parse.calls kj10 (((t260.extract 0 (x8_10 : Int).toNat) ++ (⟨#[103]⟩ : ByteArray)) ++ (t260.extract ((ji22) : Int).toNat t260.size)) t269 t270 t271 t272 t273 t274 _ A26.out).mono ?_
                     rintro e w135 ⟨rfl, hb⟩
                     refine ⟨_, rfl, ?_⟩
                     have n0_ := Aside0.mk (blk_below (g := gb258) (o := .cells #[.int .u8 a0_0, .int .u16 a0_1, .int .u16 a0_2, .int .i64 a0_3] 42 (0, 0)) (by (with_reducible repeat (first | refine blk_drewN ?_ _ | refine blk_drew ?_ | refine blk_alloc ?_ _)); exact BK258.out) hb)
                     have n1_ := Aside0.mk (blk_below (g := gb268) (o := .cells #[.int .u8 t262, .int .u16 t263, .int .u16 t264, .int .i64 t265] 42 (0, 0)) (by (with_reducible repeat (first | refine blk_drewN ?_ _ | refine blk_drew ?_ | refine blk_alloc ?_ _)); exact BK268.out) hb)
                     have n2_ := Aside0.mk (blk_below (g := gb275) (o := .cells #[.int .u8 0, .int .u16 0, .int .u16 0, .int .i64 0] 42 (0, 0)) (by (with_reducible repeat (first | refine blk_drewN ?_ _ | refine blk_drew ?_ | refine blk_alloc ?_ _)); exact BK275.out) hb)
                     have n3_ := Aside0.mk (below_step (by repeat (first | (with_reducible first | exact HB.out | apply below_alloc | apply pw_below_drewN | apply below_drew1 | refine below_set ?_ GE258.out | refine below_set ?_ GE268.out | refine below_set ?_ GE275.out) | exact HB.out)) hb)
                     clear BK258
                     clear BK268
                     clear BK275
                     clear HB
                     have BK258 := n0_
                     have BK268 := n1_
                     have BK275 := n2_
                     have HB := n3_
                     clear n0_ n1_ n2_ n3_
                     (try clear hb)
                     (try clear hb2)
                     (try clear hk)
                     (try clear hi)
                     refine hK.out _ _ trivial (fun hHeld => ?_)
                     clear hK K
                     refine norm_ (a' := ?_) ?_ ?_
                     rotate_left
                     ·show Act.put _ (some 73) _ = _
                      simp only [Act.put, List.setIfInBounds_toArray, List.set_cons_zero, List.set_cons_succ, i64_w, i32_w]
                      rfl
                     refine pure_ (i := 10) (N := some 63) (v := ?_) (a' := ?_) #[true, true, true, true, true, true, true, true, true, true, true, false, false, false, true, false, false, false] rfl rfl (any_of HT_.out (by kernel_rfl)) (fun _ _ _ h => h) (Or.inl ⟨by rfl, ?_⟩) ?_ ?_
                     rotate_left
                     ·intro w'
                      go_simp
                      with_reducible rfl
                     rotate_left
                     ·simp only [Act.put, List.setIfInBounds_toArray, List.set_cons_zero, List.set_cons_succ, i64_w, i32_w]
                      rfl
                     refine pure_ (i := 11) (N := some 74) (v := ?_) (a' := ?_) #[true, true, true, true, true, true, true, true, true, true, true, true, false, false, true, false, false, false] rfl rfl (any_of HT_.out (by kernel_rfl)) (fun _ _ _ h => h) (Or.inl ⟨by rfl, ?_⟩) ?_ ?_
                     rotate_left
                     ·intro w'
                      go_simp
                      with_reducible rfl
                     rotate_left
                     ·simp only [Act.put, List.setIfInBounds_toArray, List.set_cons_zero, List.set_cons_succ, i64_w, i32_w]
                      rfl
                     refine pure_ (i := 12) (N := some 75) (v := ?_) (a' := ?_) #[true, true, true, true, true, true, true, true, true, true, true, true, true, false, true, false, false, false] rfl rfl (any_of HT_.out (by kernel_rfl)) (fun _ _ _ h => h) (Or.inl ⟨by rfl, ?_⟩) ?_ ?_
                     rotate_left
                     ·intro w'
                      go_simp
                      with_reducible rfl
                     rotate_left
                     ·simp only [Act.put, List.setIfInBounds_toArray, List.set_cons_zero, List.set_cons_succ, i64_w, i32_w]
                      rfl
                     refine pure_ (i := 13) (N := some 76) (v := ?_) (a' := ?_) #[true, true, true, true, true, true, true, true, true, true, true, true, true, true, true, false, false, false] rfl rfl (any_of HT_.out (by kernel_rfl)) (fun _ _ _ h => h) (Or.inl ⟨by rfl, ?_⟩) ?_ ?_
                     rotate_left
                     ·intro w'
                      go_simp
                      with_reducible rfl
                     rotate_left
                     ·simp only [Act.put, List.setIfInBounds_toArray, List.set_cons_zero, List.set_cons_succ, i64_w, i32_w]
                      rfl
                     exact norm_ (by simp only [putAll, Act.put, List.setIfInBounds_toArray, List.set_cons_zero, List.set_cons_succ]) (hCont (gb275) _ ⟨(by (with_reducible repeat (first | refine blk_drewN ?_ _ | refine blk_drew ?_ | refine blk_alloc ?_ _)); exact BK258.out), (by (with_reducible repeat (first | refine blk_drewN ?_ _ | refine blk_drew ?_ | refine blk_alloc ?_ _)); exact BK268.out), (by (with_reducible repeat (first | refine blk_drewN ?_ _ | refine blk_drew ?_ | refine blk_alloc ?_ _)); exact BK275.out), GW275.out, GE275.out, NB258_275.out, NB275_258.out, NB268_275.out, NB275_268.out, (by repeat (first | (with_reducible first | exact HB.out | apply below_alloc | apply pw_below_drewN | apply below_drew1 | refine below_set ?_ GE258.out | refine below_set ?_ GE268.out | refine below_set ?_ GE275.out) | exact HB.out))⟩)
                   rintro gb275 w136 ⟨h0_, h1_, h2_, h3_, h4_, h5_, h6_, h7_, h8_, h9_⟩
                   have n0_ : Aside0 (w136.heap[gb258]? = some (.cells #[.int .u8 a0_0, .int .u16 a0_1, .int .u16 a0_2, .int .i64 a0_3] 42 (0, 0))) := ⟨h0_⟩
                   have n1_ : Aside0 (w136.heap[gb268]? = some (.cells #[.int .u8 t262, .int .u16 t263, .int .u16 t264, .int .i64 t265] 42 (0, 0))) := ⟨h1_⟩
                   have n2_ : Aside0 (w136.heap[gb275]? = some (.cells #[.int .u8 0, .int .u16 0, .int .u16 0, .int .i64 0] 42 (0, 0))) := ⟨h2_⟩
                   have n3_ : Aside0 (w.heap.size ≤ gb275) := ⟨h3_⟩
                   have n4_ : Aside0 (w.heap.size ≤ gb275) := ⟨h4_⟩
                   have n5_ : Aside0 (gb258 ≠ gb275) := ⟨h5_⟩
                   have n6_ : Aside0 (gb275 ≠ gb258) := ⟨h6_⟩
                   have n7_ : Aside0 (gb268 ≠ gb275) := ⟨h7_⟩
                   have n8_ : Aside0 (gb275 ≠ gb268) := ⟨h8_⟩
                   have n9_ : Aside0 (Below w.heap.size w w136) := ⟨h9_⟩
                   clear BK258
                   clear BK268
                   clear HB
                   clear h0_ h1_ h2_ h3_ h4_ h5_ h6_ h7_ h8_ h9_
                   have BK258 := n0_
                   have BK268 := n1_
                   have BK275 := n2_
                   have GW275 := n3_
                   have GE275 := n4_
                   have NB258_275 := n5_
                   have NB275_258 := n6_
                   have NB268_275 := n7_
                   have NB275_268 := n8_
                   have HB := n9_
                   clear n0_ n1_ n2_ n3_ n4_ n5_ n6_ n7_ n8_ n9_
                   have hHeld := trivial
                   refine norm_ (a' := ?_) ?_ ?_
                   rotate_left
                   ·simp only [putAll, Act.put, List.setIfInBounds_toArray, List.set_cons_zero, List.set_cons_succ]
                    rfl
                   refine one_ (i := 15) (N := none) #[true, true, true, true, true, true, true, true, true, true, true, true, true, true, true, true, false, false] rfl rfl (one_of HT_.out (by kernel_rfl)) (by decide) (fun K hK => ?_)
                   have hs137 : w136.cell? ⟨gb275, 0, none⟩ = some (.int .u8 0) := (blk_cell BK275.out 0).trans rfl
                   have hfs137 := blk_frozen BK275.out 0
                   have hns137_0 := NB258_275.out
                   have hns137_1 := NB268_275.out
                   have hms137_0 := NB275_258.out
                   have hms137_1 := NB275_268.out
                   have hs138 : w136.cell? ⟨gb275, 1, none⟩ = some (.int .u16 0) := (blk_cell BK275.out 1).trans rfl
                   have hfs138 := blk_frozen BK275.out 1
                   have hns138_0 := NB258_275.out
                   have hns138_1 := NB268_275.out
                   have hms138_0 := NB275_258.out
                   have hms138_1 := NB275_268.out
                   have hs139 : w136.cell? ⟨gb275, 2, none⟩ = some (.int .u16 0) := (blk_cell BK275.out 2).trans rfl
                   have hfs139 := blk_frozen BK275.out 2
                   have hns139_0 := NB258_275.out
                   have hns139_1 := NB268_275.out
                   have hms139_0 := NB275_258.out
                   have hms139_1 := NB275_268.out
                   have hs140 : w136.cell? ⟨gb275, 3, none⟩ = some (.int .i64 0) := (blk_cell BK275.out 3).trans rfl
                   have hfs140 := blk_frozen BK275.out 3
                   have hns140_0 := NB258_275.out
                   have hns140_1 := NB268_275.out
                   have hms140_0 := NB275_258.out
                   have hms140_1 := NB275_268.out
                   refine skip_ (w1 := ?_) (by rfl) rfl ?_ ?_
                   rotate_left
                   ·go_simp
                    rfl
                   refine hK.out _ _ trivial (fun hHeld => ?_)
                   clear hK K
                   refine pure_ (i := 16) (N := some 13) (v := ?_) (a' := ?_) #[true, true, true, true, true, true, true, true, true, true, true, true, true, true, true, true, true, false] rfl rfl (any_of HT_.out (by kernel_rfl)) (fun _ _ _ h => h) (Or.inl ⟨by rfl, ?_⟩) ?_ ?_
                   rotate_left
                   ·intro w'
                    go_simp
                    with_reducible rfl
                   rotate_left
                   ·simp only [Act.put, List.setIfInBounds_toArray, List.set_cons_zero, List.set_cons_succ, i64_w, i32_w]
                    rfl
                   refine pure_ (i := 17) (N := some 14) (v := ?_) (a' := ?_) #[true, true, true, true, true, true, true, true, true, true, true, true, true, true, true, true, true, true] rfl rfl (any_of HT_.out (by kernel_rfl)) (fun _ _ _ h => h) (Or.inl ⟨by rfl, ?_⟩) ?_ ?_
                   rotate_left
                   ·intro w'
                    go_simp
                    with_reducible rfl
                   rotate_left
                   ·simp only [Act.put, List.setIfInBounds_toArray, List.set_cons_zero, List.set_cons_succ, i64_w, i32_w]
                    rfl
                   refine done_ (done_of HT_.out (by kernel_rfl)) ?_
                   try go_wp2
                   have n0_ : Aside0 (((((w136.setCell ⟨gb275, 0, none⟩ (.int .u8 t269)).setCell ⟨gb275, 1, none⟩ (.int .u16 t270)).setCell ⟨gb275, 2, none⟩ (.int .u16 t271)).setCell ⟨gb275, 3, none⟩ (.int .i64 t272)).heap[gb258]? = some (.cells #[.int .u8 a0_0, .int .u16 a0_1, .int .u16 a0_2, .int .i64 a0_3] 42 (0, 0))) := ⟨by (with_reducible repeat (first | refine blk_drewN ?_ _ | refine blk_drew ?_ | refine blk_alloc ?_ _)); refine blk_far ?_ NB258_275.out _; (with_reducible repeat (first | refine blk_drewN ?_ _ | refine blk_drew ?_ | refine blk_alloc ?_ _)); refine blk_far ?_ NB258_275.out _; (with_reducible repeat (first | refine blk_drewN ?_ _ | refine blk_drew ?_ | refine blk_alloc ?_ _)); refine blk_far ?_ NB258_275.out _; (with_reducible repeat (first | refine blk_drewN ?_ _ | refine blk_drew ?_ | refine blk_alloc ?_ _)); refine blk_far ?_ NB258_275.out _; (with_reducible repeat (first | refine blk_drewN ?_ _ | refine blk_drew ?_ | refine blk_alloc ?_ _)); exact BK258.out⟩
                   have n1_ : Aside0 (((((w136.setCell ⟨gb275, 0, none⟩ (.int .u8 t269)).setCell ⟨gb275, 1, none⟩ (.int .u16 t270)).setCell ⟨gb275, 2, none⟩ (.int .u16 t271)).setCell ⟨gb275, 3, none⟩ (.int .i64 t272)).heap[gb268]? = some (.cells #[.int .u8 t262, .int .u16 t263, .int .u16 t264, .int .i64 t265] 42 (0, 0))) := ⟨by (with_reducible repeat (first | refine blk_drewN ?_ _ | refine blk_drew ?_ | refine blk_alloc ?_ _)); refine blk_far ?_ NB268_275.out _; (with_reducible repeat (first | refine blk_drewN ?_ _ | refine blk_drew ?_ | refine blk_alloc ?_ _)); refine blk_far ?_ NB268_275.out _; (with_reducible repeat (first | refine blk_drewN ?_ _ | refine blk_drew ?_ | refine blk_alloc ?_ _)); refine blk_far ?_ NB268_275.out _; (with_reducible repeat (first | refine blk_drewN ?_ _ | refine blk_drew ?_ | refine blk_alloc ?_ _)); refine blk_far ?_ NB268_275.out _; (with_reducible repeat (first | refine blk_drewN ?_ _ | refine blk_drew ?_ | refine blk_alloc ?_ _)); exact BK268.out⟩
                   have n2_ : Aside0 (((((w136.setCell ⟨gb275, 0, none⟩ (.int .u8 t269)).setCell ⟨gb275, 1, none⟩ (.int .u16 t270)).setCell ⟨gb275, 2, none⟩ (.int .u16 t271)).setCell ⟨gb275, 3, none⟩ (.int .i64 t272)).heap[gb275]? = some (.cells #[.int .u8 t269, .int .u16 t270, .int .u16 t271, .int .i64 t272] 42 (0, 0))) := ⟨by (with_reducible repeat (first | refine blk_drewN ?_ _ | refine blk_drew ?_ | refine blk_alloc ?_ _)); refine blk_put (cs := #[.int .u8 t269, .int .u16 t270, .int .u16 t271, .int .i64 0]) ?_ 3 _ rfl; (with_reducible repeat (first | refine blk_drewN ?_ _ | refine blk_drew ?_ | refine blk_alloc ?_ _)); refine blk_put (cs := #[.int .u8 t269, .int .u16 t270, .int .u16 0, .int .i64 0]) ?_ 2 _ rfl; (with_reducible repeat (first | refine blk_drewN ?_ _ | refine blk_drew ?_ | refine blk_alloc ?_ _)); refine blk_put (cs := #[.int .u8 t269, .int .u16 0, .int .u16 0, .int .i64 0]) ?_ 1 _ rfl; (with_reducible repeat (first | refine blk_drewN ?_ _ | refine blk_drew ?_ | refine blk_alloc ?_ _)); refine blk_put (cs := #[.int .u8 0, .int .u16 0, .int .u16 0, .int .i64 0]) ?_ 0 _ rfl; (with_reducible repeat (first | refine blk_drewN ?_ _ | refine blk_drew ?_ | refine blk_alloc ?_ _)); exact BK275.out⟩
                   have n3_ : Aside0 (Below w.heap.size w ((((w136.setCell ⟨gb275, 0, none⟩ (.int .u8 t269)).setCell ⟨gb275, 1, none⟩ (.int .u16 t270)).setCell ⟨gb275, 2, none⟩ (.int .u16 t271)).setCell ⟨gb275, 3, none⟩ (.int .i64 t272))) := ⟨by repeat (first | (with_reducible first | exact HB.out | apply below_alloc | apply pw_below_drewN | apply below_drew1 | refine below_set ?_ GE258.out | refine below_set ?_ GE268.out | refine below_set ?_ GE275.out) | exact HB.out)⟩
                   (try clear BK258)
                   (try clear BK268)
                   (try clear BK275)
                   (try clear HB)
                   generalize ((((w136.setCell ⟨gb275, 0, none⟩ (.int .u8 t269)).setCell ⟨gb275, 1, none⟩ (.int .u16 t270)).setCell ⟨gb275, 2, none⟩ (.int .u16 t271)).setCell ⟨gb275, 3, none⟩ (.int .i64 t272)) = w141 at n0_ n1_ n2_ n3_ ⊢
                   have BK258 := n0_
                   have BK268 := n1_
                   have BK275 := n2_
                   have HB := n3_
                   clear n0_ n1_ n2_ n3_
                   have n0_ := Aside0.mk (blk_drew BK258.out)
                   have n1_ := Aside0.mk (blk_drew BK268.out)
                   have n2_ := Aside0.mk (blk_drew BK275.out)
                   have n3_ := Aside0.mk (below_drew1 HB.out)
                   clear BK258
                   clear BK268
                   clear BK275
                   clear HB
                   have BK258 := n0_
                   have BK268 := n1_
                   have BK275 := n2_
                   have HB := n3_
                   clear n0_ n1_ n2_ n3_
                   refine start_ (n := 17) (S := fun w' => True) (ds := []) #[false, false, false, false, false, false, false, false, false, false, false, false, false, false, false, false, false] (by kernel_rfl) rfl rfl trivial (fun hHeld => ?_); refine with_tabW vivariumlaw09_GensBack.tab13 vivariumlaw09_GensBack.bits13 (fun HT_ HW_ => ?_)
                   generalize w141.drew = w142 at BK258 BK268 BK275 HB hHeld ⊢
                   refine pure_ (i := 0) (N := some 78) (v := ?_) (a' := ?_) #[true, false, false, false, false, false, false, false, false, false, false, false, false, false, false, false, false] rfl rfl (any_of HT_.out (by kernel_rfl)) (fun _ _ _ h => h) (Or.inl ⟨by rfl, ?_⟩) ?_ ?_
                   rotate_left
                   ·intro w'
                    go_simp
                    with_reducible rfl
                   rotate_left
                   ·simp only [Act.put, List.setIfInBounds_toArray, List.set_cons_zero, List.set_cons_succ, i64_w, i32_w]
                    rfl
                   refine pure_ (i := 1) (N := some 79) (v := ?_) (a' := ?_) #[true, true, false, false, false, false, false, false, false, false, false, false, false, false, false, false, false] rfl rfl (any_of HT_.out (by kernel_rfl)) (fun _ _ _ h => h) (Or.inl ⟨by rfl, ?_⟩) ?_ ?_
                   rotate_left
                   ·intro w'
                    go_simp
                    with_reducible rfl
                   rotate_left
                   ·simp only [Act.put, List.setIfInBounds_toArray, List.set_cons_zero, List.set_cons_succ, i64_w, i32_w]
                    rfl
                   refine pure_ (i := 2) (N := some 80) (v := ?_) (a' := ?_) #[true, true, true, false, false, false, false, false, false, false, false, false, false, false, false, false, false] rfl rfl (any_of HT_.out (by kernel_rfl)) (fun _ _ _ h => h) (Or.inl ⟨by rfl, ?_⟩) ?_ ?_
                   rotate_left
                   ·intro w'
                    go_simp
                    with_reducible rfl
                   rotate_left
                   ·simp only [Act.put, List.setIfInBounds_toArray, List.set_cons_zero, List.set_cons_succ, i64_w, i32_w]
                    rfl
                   refine pure_ (i := 3) (N := some 81) (v := ?_) (a' := ?_) #[true, true, true, true, false, false, false, false, false, false, false, false, false, false, false, false, false] rfl rfl (any_of HT_.out (by kernel_rfl)) (fun _ _ _ h => h) (Or.inl ⟨by rfl, ?_⟩) ?_ ?_
                   rotate_left
                   ·intro w'
                    go_simp
                    with_reducible rfl
                   rotate_left
                   ·simp only [Act.put, List.setIfInBounds_toArray, List.set_cons_zero, List.set_cons_succ, i64_w, i32_w]
                    rfl
                   refine pure_ (i := 4) (N := some 82) (v := ?_) (a' := ?_) #[true, true, true, true, true, false, false, false, false, false, false, false, false, false, false, false, false] rfl rfl (any_of HT_.out (by kernel_rfl)) (fun _ _ _ h => h) (Or.inl ⟨by rfl, ?_⟩) ?_ ?_
                   rotate_left
                   ·intro w'
                    go_simp
                    with_reducible rfl
                   rotate_left
                   ·simp only [Act.put, List.setIfInBounds_toArray, List.set_cons_zero, List.set_cons_succ, i64_w, i32_w]
                    rfl
                   refine pure_ (i := 5) (N := some 83) (v := ?_) (a' := ?_) #[true, true, true, true, true, true, false, false, false, false, false, false, false, false, false, false, false] rfl rfl (any_of HT_.out (by kernel_rfl)) (fun _ _ _ h => h) (Or.inl ⟨by rfl, ?_⟩) ?_ ?_
                   rotate_left
                   ·intro w'
                    go_simp
                    with_reducible rfl
                   rotate_left
                   ·simp only [Act.put, List.setIfInBounds_toArray, List.set_cons_zero, List.set_cons_succ, i64_w, i32_w]
                    rfl
                   refine pure_ (i := 6) (N := some 84) (v := ?_) (a' := ?_) #[true, true, true, true, true, true, true, false, false, false, false, false, false, false, false, false, false] rfl rfl (any_of HT_.out (by kernel_rfl)) (fun _ _ _ h => h) (Or.inl ⟨by rfl, ?_⟩) ?_ ?_
                   rotate_left
                   ·intro w'
                    go_simp
                    with_reducible rfl
                   rotate_left
                   ·simp only [Act.put, List.setIfInBounds_toArray, List.set_cons_zero, List.set_cons_succ, i64_w, i32_w]
                    rfl
                   refine pure_ (i := 7) (N := some 85) (v := ?_) (a' := ?_) #[true, true, true, true, true, true, true, true, false, false, false, false, false, false, false, false, false] rfl rfl (any_of HT_.out (by kernel_rfl)) (fun _ _ _ h => h) (Or.inl ⟨by rfl, ?_⟩) ?_ ?_
                   rotate_left
                   ·intro w'
                    go_simp
                    with_reducible rfl
                   rotate_left
                   ·simp only [Act.put, List.setIfInBounds_toArray, List.set_cons_zero, List.set_cons_succ, i64_w, i32_w]
                    rfl
                   refine join_ (σ := Nat) 3 #[true, true, true, true, true, true, true, true, true, true, true, true, true, true, false, false, false] (fun s_ => [(86, .tuple #[.agg #[.int .u8 t276, .int .u16 t277, .int .u16 t278, .int .i64 t279], .int .i64 t280, .int .i64 t281]), (15, .pointer (some ⟨s_, 0, none⟩)), (77, .tuple #[.agg #[.int .u8 t276, .int .u16 t277, .int .u16 t278, .int .i64 t279], .int .i64 t280, .int .i64 t281]), (87, .agg #[.int .u8 t276, .int .u16 t277, .int .u16 t278, .int .i64 t279]), (88, .int .i64 t280), (89, .int .i64 t281)]) (fun s_ w' => (w'.heap[gb258]? = some (.cells #[.int .u8 a0_0, .int .u16 a0_1, .int .u16 a0_2, .int .i64 a0_3] 42 (0, 0))) ∧ (w'.heap[gb268]? = some (.cells #[.int .u8 t262, .int .u16 t263, .int .u16 t264, .int .i64 t265] 42 (0, 0))) ∧ (w'.heap[gb275]? = some (.cells #[.int .u8 t269, .int .u16 t270, .int .u16 t271, .int .i64 t272] 42 (0, 0))) ∧ (w'.heap[s_]? = some (.cells #[.int .u8 0, .int .u16 0, .int .u16 0, .int .i64 0] 42 (0, 0))) ∧ (w.heap.size ≤ s_) ∧ (w.heap.size ≤ s_) ∧ (gb258 ≠ s_) ∧ (s_ ≠ gb258) ∧ (gb268 ≠ s_) ∧ (s_ ≠ gb268) ∧ (gb275 ≠ s_) ∧ (s_ ≠ gb275) ∧ (Below w.heap.size w w')) ?_ ?_
                   rotate_left
                   ·intro hCont
                    refine two_ (i := 8) (j := 13) (Ni := some 86) (Nj := some 15) #[true, true, true, true, true, true, true, true, true, false, false, false, false, false, false, false, false] #[true, true, true, true, true, true, true, true, false, false, false, false, false, true, false, false, false] rfl rfl rfl rfl (two_of HT_.out (by kernel_rfl)) (by decide) (by decide) (fun K hK => ?_) (fun K hK => ?_)
                    ·skip
                     refine goes_ Tryd.func15 (by kernel_rfl) rfl #[.string ((t260.extract 0 (x8_10 : Int).toNat) ++ (t260.extract ((ji22) : Int).toNat t260.size))] (by rfl) rfl rfl (by (try simp only [List.map_toArray, List.map_cons, List.map_nil]); first | done | (simp only [hji22]; rfl) | rfl | (simp only [List.length_drop, List.length_take]; rfl)) ?_
                     with_reducible refine (gens_Parse.calls kj10 ((t260.extract 0 (x8_10 : Int).toNat) ++ (t260.extract ((ji22) : Int).toNat t260.size)) t276 t277 t278 t279 t280 t281 _ A32.out).mono ?_
                     rintro e w143 ⟨rfl, hb⟩
                     refine ⟨_, rfl, ?_⟩
                     have n0_ := Aside0.mk (blk_below (g := gb258) (o := .cells #[.int .u8 a0_0, .int .u16 a0_1, .int .u16 a0_2, .int .i64 a0_3] 42 (0, 0)) (by (with_reducible repeat (first | refine blk_drewN ?_ _ | refine blk_drew ?_ | refine blk_alloc ?_ _)); exact BK258.out) hb)
                     have n1_ := Aside0.mk (blk_below (g := gb268) (o := .cells #[.int .u8 t262, .int .u16 t263, .int .u16 t264, .int .i64 t265] 42 (0, 0)) (by (with_reducible repeat (first | refine blk_drewN ?_ _ | refine blk_drew ?_ | refine blk_alloc ?_ _)); exact BK268.out) hb)
                     have n2_ := Aside0.mk (blk_below (g := gb275) (o := .cells #[.int .u8 t269, .int .u16 t270, .int .u16 t271, .int .i64 t272] 42 (0, 0)) (by (with_reducible repeat (first | refine blk_drewN ?_ _ | refine blk_drew ?_ | refine blk_alloc ?_ _)); exact BK275.out) hb)
                     have n3_ := Aside0.mk (below_step (by repeat (first | (with_reducible first | exact HB.out | apply below_alloc | apply pw_below_drewN | apply below_drew1 | refine below_set ?_ GE258.out | refine below_set ?_ GE268.out | refine below_set ?_ GE275.out) | exact HB.out)) hb)
                     clear BK258
                     clear BK268
                     clear BK275
                     clear HB
                     have BK258 := n0_
                     have BK268 := n1_
                     have BK275 := n2_
                     have HB := n3_
                     clear n0_ n1_ n2_ n3_
                     (try clear hb)
                     (try clear hb2)
                     (try clear hk)
                     (try clear hi)
                     refine hK.out _ _ trivial (fun hHeld => ?_)
                     clear hK K
                     refine norm_ (a' := ?_) ?_ ?_
                     rotate_left
                     ·show Act.put _ (some 86) _ = _
                      simp only [Act.put, List.setIfInBounds_toArray, List.set_cons_zero, List.set_cons_succ, i64_w, i32_w]
                      rfl
                     refine pure_ (i := 9) (N := some 77) (v := ?_) (a' := ?_) #[true, true, true, true, true, true, true, true, true, true, false, false, false, false, false, false, false] rfl rfl (any_of HT_.out (by kernel_rfl)) (fun _ _ _ h => h) (Or.inl ⟨by rfl, ?_⟩) ?_ ?_
                     rotate_left
                     ·intro w'
                      go_simp
                      with_reducible rfl
                     rotate_left
                     ·simp only [Act.put, List.setIfInBounds_toArray, List.set_cons_zero, List.set_cons_succ, i64_w, i32_w]
                      rfl
                     refine pure_ (i := 10) (N := some 87) (v := ?_) (a' := ?_) #[true, true, true, true, true, true, true, true, true, true, true, false, false, false, false, false, false] rfl rfl (any_of HT_.out (by kernel_rfl)) (fun _ _ _ h => h) (Or.inl ⟨by rfl, ?_⟩) ?_ ?_
                     rotate_left
                     ·intro w'
                      go_simp
                      with_reducible rfl
                     rotate_left
                     ·simp only [Act.put, List.setIfInBounds_toArray, List.set_cons_zero, List.set_cons_succ, i64_w, i32_w]
                      rfl
                     refine pure_ (i := 11) (N := some 88) (v := ?_) (a' := ?_) #[true, true, true, true, true, true, true, true, true, true, true, true, false, false, false, false, false] rfl rfl (any_of HT_.out (by kernel_rfl)) (fun _ _ _ h => h) (Or.inl ⟨by rfl, ?_⟩) ?_ ?_
                     rotate_left
                     ·intro w'
                      go_simp
                      with_reducible rfl
                     rotate_left
                     ·simp only [Act.put, List.setIfInBounds_toArray, List.set_cons_zero, List.set_cons_succ, i64_w, i32_w]
                      rfl
                     refine pure_ (i := 12) (N := some 89) (v := ?_) (a' := ?_) #[true, true, true, true, true, true, true, true, true, true, true, true, true, false, false, false, false] rfl rfl (any_of HT_.out (by kernel_rfl)) (fun _ _ _ h => h) (Or.inl ⟨by rfl, ?_⟩) ?_ ?_
                     rotate_left
                     ·intro w'
                      go_simp
                      with_reducible rfl
                     rotate_left
                     ·simp only [Act.put, List.setIfInBounds_toArray, List.set_cons_zero, List.set_cons_succ, i64_w, i32_w]
                      rfl
                     refine one_ (i := 13) (N := some 15) #[true, true, true, true, true, true, true, true, true, true, true, true, true, true, false, false, false] rfl rfl (one_of HT_.out (by kernel_rfl)) (by decide) (fun K hK => ?_)
                     refine box_step ?hg (N := 15) ?hd (cs := #[.int .u8 0, .int .u16 0, .int .u16 0, .int .i64 0]) (t := 42) ?hr ?_; (case hd => rfl); (case hg => rfl); (case hr => first | (go_simp; done) | (go_simp; rfl))
                     intro gb282 hg w144 hbox hb
                     have n0_ := Aside0.mk (blk_below (g := gb258) (o := .cells #[.int .u8 a0_0, .int .u16 a0_1, .int .u16 a0_2, .int .i64 a0_3] 42 (0, 0)) (by (with_reducible repeat (first | refine blk_drewN ?_ _ | refine blk_drew ?_ | refine blk_alloc ?_ _)); exact BK258.out) hb)
                     have n1_ := Aside0.mk (blk_below (g := gb268) (o := .cells #[.int .u8 t262, .int .u16 t263, .int .u16 t264, .int .i64 t265] 42 (0, 0)) (by (with_reducible repeat (first | refine blk_drewN ?_ _ | refine blk_drew ?_ | refine blk_alloc ?_ _)); exact BK268.out) hb)
                     have n2_ := Aside0.mk (blk_below (g := gb275) (o := .cells #[.int .u8 t269, .int .u16 t270, .int .u16 t271, .int .i64 t272] 42 (0, 0)) (by (with_reducible repeat (first | refine blk_drewN ?_ _ | refine blk_drew ?_ | refine blk_alloc ?_ _)); exact BK275.out) hb)
                     have n3_ := Aside0.mk (below_step (by repeat (first | (with_reducible first | exact HB.out | apply below_alloc | apply pw_below_drewN | apply below_drew1 | refine below_set ?_ GE258.out | refine below_set ?_ GE268.out | refine below_set ?_ GE275.out) | exact HB.out)) hb)
                     have n4_ := Aside0.mk (hbox)
                     have n5_ := Aside0.mk ((by rw [hg]; exact (below_size (by repeat (first | (with_reducible first | exact HB.out | apply below_alloc | apply pw_below_drewN | apply below_drew1 | refine below_set ?_ GE258.out | refine below_set ?_ GE268.out | refine below_set ?_ GE275.out) | exact HB.out))) : w.heap.size ≤ gb282))
                     have n6_ := Aside0.mk ((by rw [hg]; exact (below_size (by repeat (first | (with_reducible first | exact HB.out | apply below_alloc | apply pw_below_drewN | apply below_drew1 | refine below_set ?_ GE258.out | refine below_set ?_ GE268.out | refine below_set ?_ GE275.out) | exact HB.out))) : w.heap.size ≤ gb282))
                     have n7_ := Aside0.mk ((by rw [hg]; exact Nat.ne_of_lt (blk_lt (g := gb258) (o := .cells #[.int .u8 a0_0, .int .u16 a0_1, .int .u16 a0_2, .int .i64 a0_3] 42 (0, 0)) (by (with_reducible repeat (first | refine blk_drewN ?_ _ | refine blk_drew ?_ | refine blk_alloc ?_ _)); exact BK258.out)) : gb258 ≠ gb282))
                     have n8_ := Aside0.mk ((by rw [hg]; exact Nat.ne_of_gt (blk_lt (g := gb258) (o := .cells #[.int .u8 a0_0, .int .u16 a0_1, .int .u16 a0_2, .int .i64 a0_3] 42 (0, 0)) (by (with_reducible repeat (first | refine blk_drewN ?_ _ | refine blk_drew ?_ | refine blk_alloc ?_ _)); exact BK258.out)) : gb282 ≠ gb258))
                     have n9_ := Aside0.mk ((by rw [hg]; exact Nat.ne_of_lt (blk_lt (g := gb268) (o := .cells #[.int .u8 t262, .int .u16 t263, .int .u16 t264, .int .i64 t265] 42 (0, 0)) (by (with_reducible repeat (first | refine blk_drewN ?_ _ | refine blk_drew ?_ | refine blk_alloc ?_ _)); exact BK268.out)) : gb268 ≠ gb282))
                     have n10_ := Aside0.mk ((by rw [hg]; exact Nat.ne_of_gt (blk_lt (g := gb268) (o := .cells #[.int .u8 t262, .int .u16 t263, .int .u16 t264, .int .i64 t265] 42 (0, 0)) (by (with_reducible repeat (first | refine blk_drewN ?_ _ | refine blk_drew ?_ | refine blk_alloc ?_ _)); exact BK268.out)) : gb282 ≠ gb268))
                     have n11_ := Aside0.mk ((by rw [hg]; exact Nat.ne_of_lt (blk_lt (g := gb275) (o := .cells #[.int .u8 t269, .int .u16 t270, .int .u16 t271, .int .i64 t272] 42 (0, 0)) (by (with_reducible repeat (first | refine blk_drewN ?_ _ | refine blk_drew ?_ | refine blk_alloc ?_ _)); exact BK275.out)) : gb275 ≠ gb282))
                     have n12_ := Aside0.mk ((by rw [hg]; exact Nat.ne_of_gt (blk_lt (g := gb275) (o := .cells #[.int .u8 t269, .int .u16 t270, .int .u16 t271, .int .i64 t272] 42 (0, 0)) (by (with_reducible repeat (first | refine blk_drewN ?_ _ | refine blk_drew ?_ | refine blk_alloc ?_ _)); exact BK275.out)) : gb282 ≠ gb275))
                     clear BK258
                     clear BK268
                     clear BK275
                     clear HB
                     have BK258 := n0_
                     have BK268 := n1_
                     have BK275 := n2_
                     have HB := n3_
                     have BK282 := n4_
                     have GW282 := n5_
                     have GE282 := n6_
                     have NB258_282 := n7_
                     have NB282_258 := n8_
                     have NB268_282 := n9_
                     have NB282_268 := n10_
                     have NB275_282 := n11_
                     have NB282_275 := n12_
                     clear n0_ n1_ n2_ n3_ n4_ n5_ n6_ n7_ n8_ n9_ n10_ n11_ n12_
                     clear hb hbox hg
                     refine hK.out _ _ trivial (fun hHeld => ?_)
                     clear hK K
                     refine norm_ (a' := ?_) ?_ ?_
                     rotate_left
                     ·show Act.put _ (some 15) _ = _
                      simp only [Act.put, List.setIfInBounds_toArray, List.set_cons_zero, List.set_cons_succ, i64_w, i32_w]
                      rfl
                     exact norm_ (by simp only [putAll, Act.put, List.setIfInBounds_toArray, List.set_cons_zero, List.set_cons_succ]) (hCont (gb282) _ ⟨(by (with_reducible repeat (first | refine blk_drewN ?_ _ | refine blk_drew ?_ | refine blk_alloc ?_ _)); exact BK258.out), (by (with_reducible repeat (first | refine blk_drewN ?_ _ | refine blk_drew ?_ | refine blk_alloc ?_ _)); exact BK268.out), (by (with_reducible repeat (first | refine blk_drewN ?_ _ | refine blk_drew ?_ | refine blk_alloc ?_ _)); exact BK275.out), (by (with_reducible repeat (first | refine blk_drewN ?_ _ | refine blk_drew ?_ | refine blk_alloc ?_ _)); exact BK282.out), GW282.out, GE282.out, NB258_282.out, NB282_258.out, NB268_282.out, NB282_268.out, NB275_282.out, NB282_275.out, (by repeat (first | (with_reducible first | exact HB.out | apply below_alloc | apply pw_below_drewN | apply below_drew1 | refine below_set ?_ GE258.out | refine below_set ?_ GE268.out | refine below_set ?_ GE275.out | refine below_set ?_ GE282.out) | exact HB.out))⟩)
                    ·skip
                     refine box_step ?hg (N := 15) ?hd (cs := #[.int .u8 0, .int .u16 0, .int .u16 0, .int .i64 0]) (t := 42) ?hr ?_; (case hd => rfl); (case hg => rfl); (case hr => first | (go_simp; done) | (go_simp; rfl))
                     intro gb282 hg w143 hbox hb
                     have n0_ := Aside0.mk (blk_below (g := gb258) (o := .cells #[.int .u8 a0_0, .int .u16 a0_1, .int .u16 a0_2, .int .i64 a0_3] 42 (0, 0)) (by (with_reducible repeat (first | refine blk_drewN ?_ _ | refine blk_drew ?_ | refine blk_alloc ?_ _)); exact BK258.out) hb)
                     have n1_ := Aside0.mk (blk_below (g := gb268) (o := .cells #[.int .u8 t262, .int .u16 t263, .int .u16 t264, .int .i64 t265] 42 (0, 0)) (by (with_reducible repeat (first | refine blk_drewN ?_ _ | refine blk_drew ?_ | refine blk_alloc ?_ _)); exact BK268.out) hb)
                     have n2_ := Aside0.mk (blk_below (g := gb275) (o := .cells #[.int .u8 t269, .int .u16 t270, .int .u16 t271, .int .i64 t272] 42 (0, 0)) (by (with_reducible repeat (first | refine blk_drewN ?_ _ | refine blk_drew ?_ | refine blk_alloc ?_ _)); exact BK275.out) hb)
                     have n3_ := Aside0.mk (below_step (by repeat (first | (with_reducible first | exact HB.out | apply below_alloc | apply pw_below_drewN | apply below_drew1 | refine below_set ?_ GE258.out | refine below_set ?_ GE268.out | refine below_set ?_ GE275.out) | exact HB.out)) hb)
                     have n4_ := Aside0.mk (hbox)
                     have n5_ := Aside0.mk ((by rw [hg]; exact (below_size (by repeat (first | (with_reducible first | exact HB.out | apply below_alloc | apply pw_below_drewN | apply below_drew1 | refine below_set ?_ GE258.out | refine below_set ?_ GE268.out | refine below_set ?_ GE275.out) | exact HB.out))) : w.heap.size ≤ gb282))
                     have n6_ := Aside0.mk ((by rw [hg]; exact (below_size (by repeat (first | (with_reducible first | exact HB.out | apply below_alloc | apply pw_below_drewN | apply below_drew1 | refine below_set ?_ GE258.out | refine below_set ?_ GE268.out | refine below_set ?_ GE275.out) | exact HB.out))) : w.heap.size ≤ gb282))
                     have n7_ := Aside0.mk ((by rw [hg]; exact Nat.ne_of_lt (blk_lt (g := gb258) (o := .cells #[.int .u8 a0_0, .int .u16 a0_1, .int .u16 a0_2, .int .i64 a0_3] 42 (0, 0)) (by (with_reducible repeat (first | refine blk_drewN ?_ _ | refine blk_drew ?_ | refine blk_alloc ?_ _)); exact BK258.out)) : gb258 ≠ gb282))
                     have n8_ := Aside0.mk ((by rw [hg]; exact Nat.ne_of_gt (blk_lt (g := gb258) (o := .cells #[.int .u8 a0_0, .int .u16 a0_1, .int .u16 a0_2, .int .i64 a0_3] 42 (0, 0)) (by (with_reducible repeat (first | refine blk_drewN ?_ _ | refine blk_drew ?_ | refine blk_alloc ?_ _)); exact BK258.out)) : gb282 ≠ gb258))
                     have n9_ := Aside0.mk ((by rw [hg]; exact Nat.ne_of_lt (blk_lt (g := gb268) (o := .cells #[.int .u8 t262, .int .u16 t263, .int .u16 t264, .int .i64 t265] 42 (0, 0)) (by (with_reducible repeat (first | refine blk_drewN ?_ _ | refine blk_drew ?_ | refine blk_alloc ?_ _)); exact BK268.out)) : gb268 ≠ gb282))
                     have n10_ := Aside0.mk ((by rw [hg]; exact Nat.ne_of_gt (blk_lt (g := gb268) (o := .cells #[.int .u8 t262, .int .u16 t263, .int .u16 t264, .int .i64 t265] 42 (0, 0)) (by (with_reducible repeat (first | refine blk_drewN ?_ _ | refine blk_drew ?_ | refine blk_alloc ?_ _)); exact BK268.out)) : gb282 ≠ gb268))
                     have n11_ := Aside0.mk ((by rw [hg]; exact Nat.ne_of_lt (blk_lt (g := gb275) (o := .cells #[.int .u8 t269, .int .u16 t270, .int .u16 t271, .int .i64 t272] 42 (0, 0)) (by (with_reducible repeat (first | refine blk_drewN ?_ _ | refine blk_drew ?_ | refine blk_alloc ?_ _)); exact BK275.out)) : gb275 ≠ gb282))
                     have n12_ := Aside0.mk ((by rw [hg]; exact Nat.ne_of_gt (blk_lt (g := gb275) (o := .cells #[.int .u8 t269, .int .u16 t270, .int .u16 t271, .int .i64 t272] 42 (0, 0)) (by (with_reducible repeat (first | refine blk_drewN ?_ _ | refine blk_drew ?_ | refine blk_alloc ?_ _)); exact BK275.out)) : gb282 ≠ gb275))
                     clear BK258
                     clear BK268
                     clear BK275
                     clear HB
                     have BK258 := n0_
                     have BK268 := n1_
                     have BK275 := n2_
                     have HB := n3_
                     have BK282 := n4_
                     have GW282 := n5_
                     have GE282 := n6_
                     have NB258_282 := n7_
                     have NB282_258 := n8_
                     have NB268_282 := n9_
                     have NB282_268 := n10_
                     have NB275_282 := n11_
                     have NB282_275 := n12_
                     clear n0_ n1_ n2_ n3_ n4_ n5_ n6_ n7_ n8_ n9_ n10_ n11_ n12_
                     clear hb hbox hg
                     refine hK.out _ _ trivial (fun hHeld => ?_)
                     clear hK K
                     refine norm_ (a' := ?_) ?_ ?_
                     rotate_left
                     ·show Act.put _ (some 15) _ = _
                      simp only [Act.put, List.setIfInBounds_toArray, List.set_cons_zero, List.set_cons_succ, i64_w, i32_w]
                      rfl
                     refine one_ (i := 8) (N := some 86) #[true, true, true, true, true, true, true, true, true, false, false, false, false, true, false, false, false] rfl rfl (one_of HT_.out (by kernel_rfl)) (by decide) (fun K hK => ?_)
                     refine goes_ Tryd.func15 (by kernel_rfl) rfl #[.string ((t260.extract 0 (x8_10 : Int).toNat) ++ (t260.extract ((ji22) : Int).toNat t260.size))] (by rfl) rfl rfl (by (try simp only [List.map_toArray, List.map_cons, List.map_nil]); first | done | (simp only [hji22]; rfl) | rfl | (simp only [List.length_drop, List.length_take]; rfl)) ?_
                     with_reducible refine (gens_Parse.calls kj10 ((t260.extract 0 (x8_10 : Int).toNat) ++ (t260.extract ((ji22) : Int).toNat t260.size)) t276 t277 t278 t279 t280 t281 _ A32.out).mono ?_
                     rintro e w144 ⟨rfl, hb⟩
                     refine ⟨_, rfl, ?_⟩
                     have n0_ := Aside0.mk (blk_below (g := gb258) (o := .cells #[.int .u8 a0_0, .int .u16 a0_1, .int .u16 a0_2, .int .i64 a0_3] 42 (0, 0)) (by (with_reducible repeat (first | refine blk_drewN ?_ _ | refine blk_drew ?_ | refine blk_alloc ?_ _)); exact BK258.out) hb)
                     have n1_ := Aside0.mk (blk_below (g := gb268) (o := .cells #[.int .u8 t262, .int .u16 t263, .int .u16 t264, .int .i64 t265] 42 (0, 0)) (by (with_reducible repeat (first | refine blk_drewN ?_ _ | refine blk_drew ?_ | refine blk_alloc ?_ _)); exact BK268.out) hb)
                     have n2_ := Aside0.mk (blk_below (g := gb275) (o := .cells #[.int .u8 t269, .int .u16 t270, .int .u16 t271, .int .i64 t272] 42 (0, 0)) (by (with_reducible repeat (first | refine blk_drewN ?_ _ | refine blk_drew ?_ | refine blk_alloc ?_ _)); exact BK275.out) hb)
                     have n3_ := Aside0.mk (blk_below (g := gb282) (o := .cells #[.int .u8 0, .int .u16 0, .int .u16 0, .int .i64 0] 42 (0, 0)) (by (with_reducible repeat (first | refine blk_drewN ?_ _ | refine blk_drew ?_ | refine blk_alloc ?_ _)); exact BK282.out) hb)
                     have n4_ := Aside0.mk (below_step (by repeat (first | (with_reducible first | exact HB.out | apply below_alloc | apply pw_below_drewN | apply below_drew1 | refine below_set ?_ GE258.out | refine below_set ?_ GE268.out | refine below_set ?_ GE275.out | refine below_set ?_ GE282.out) | exact HB.out)) hb)
                     clear BK258
                     clear BK268
                     clear BK275
                     clear BK282
                     clear HB
                     have BK258 := n0_
                     have BK268 := n1_
                     have BK275 := n2_
                     have BK282 := n3_
                     have HB := n4_
                     clear n0_ n1_ n2_ n3_ n4_
                     (try clear hb)
                     (try clear hb2)
                     (try clear hk)
                     (try clear hi)
                     refine hK.out _ _ trivial (fun hHeld => ?_)
                     clear hK K
                     refine norm_ (a' := ?_) ?_ ?_
                     rotate_left
                     ·show Act.put _ (some 86) _ = _
                      simp only [Act.put, List.setIfInBounds_toArray, List.set_cons_zero, List.set_cons_succ, i64_w, i32_w]
                      rfl
                     refine pure_ (i := 9) (N := some 77) (v := ?_) (a' := ?_) #[true, true, true, true, true, true, true, true, true, true, false, false, false, true, false, false, false] rfl rfl (any_of HT_.out (by kernel_rfl)) (fun _ _ _ h => h) (Or.inl ⟨by rfl, ?_⟩) ?_ ?_
                     rotate_left
                     ·intro w'
                      go_simp
                      with_reducible rfl
                     rotate_left
                     ·simp only [Act.put, List.setIfInBounds_toArray, List.set_cons_zero, List.set_cons_succ, i64_w, i32_w]
                      rfl
                     refine pure_ (i := 10) (N := some 87) (v := ?_) (a' := ?_) #[true, true, true, true, true, true, true, true, true, true, true, false, false, true, false, false, false] rfl rfl (any_of HT_.out (by kernel_rfl)) (fun _ _ _ h => h) (Or.inl ⟨by rfl, ?_⟩) ?_ ?_
                     rotate_left
                     ·intro w'
                      go_simp
                      with_reducible rfl
                     rotate_left
                     ·simp only [Act.put, List.setIfInBounds_toArray, List.set_cons_zero, List.set_cons_succ, i64_w, i32_w]
                      rfl
                     refine pure_ (i := 11) (N := some 88) (v := ?_) (a' := ?_) #[true, true, true, true, true, true, true, true, true, true, true, true, false, true, false, false, false] rfl rfl (any_of HT_.out (by kernel_rfl)) (fun _ _ _ h => h) (Or.inl ⟨by rfl, ?_⟩) ?_ ?_
                     rotate_left
                     ·intro w'
                      go_simp
                      with_reducible rfl
                     rotate_left
                     ·simp only [Act.put, List.setIfInBounds_toArray, List.set_cons_zero, List.set_cons_succ, i64_w, i32_w]
                      rfl
                     refine pure_ (i := 12) (N := some 89) (v := ?_) (a' := ?_) #[true, true, true, true, true, true, true, true, true, true, true, true, true, true, false, false, false] rfl rfl (any_of HT_.out (by kernel_rfl)) (fun _ _ _ h => h) (Or.inl ⟨by rfl, ?_⟩) ?_ ?_
                     rotate_left
                     ·intro w'
                      go_simp
                      with_reducible rfl
                     rotate_left
                     ·simp only [Act.put, List.setIfInBounds_toArray, List.set_cons_zero, List.set_cons_succ, i64_w, i32_w]
                      rfl
                     exact norm_ (by simp only [putAll, Act.put, List.setIfInBounds_toArray, List.set_cons_zero, List.set_cons_succ]) (hCont (gb282) _ ⟨(by (with_reducible repeat (first | refine blk_drewN ?_ _ | refine blk_drew ?_ | refine blk_alloc ?_ _)); exact BK258.out), (by (with_reducible repeat (first | refine blk_drewN ?_ _ | refine blk_drew ?_ | refine blk_alloc ?_ _)); exact BK268.out), (by (with_reducible repeat (first | refine blk_drewN ?_ _ | refine blk_drew ?_ | refine blk_alloc ?_ _)); exact BK275.out), (by (with_reducible repeat (first | refine blk_drewN ?_ _ | refine blk_drew ?_ | refine blk_alloc ?_ _)); exact BK282.out), GW282.out, GE282.out, NB258_282.out, NB282_258.out, NB268_282.out, NB282_268.out, NB275_282.out, NB282_275.out, (by repeat (first | (with_reducible first | exact HB.out | apply below_alloc | apply pw_below_drewN | apply below_drew1 | refine below_set ?_ GE258.out | refine below_set ?_ GE268.out | refine below_set ?_ GE275.out | refine below_set ?_ GE282.out) | exact HB.out))⟩)
                   rintro gb282 w145 ⟨h0_, h1_, h2_, h3_, h4_, h5_, h6_, h7_, h8_, h9_, h10_, h11_, h12_⟩
                   have n0_ : Aside0 (w145.heap[gb258]? = some (.cells #[.int .u8 a0_0, .int .u16 a0_1, .int .u16 a0_2, .int .i64 a0_3] 42 (0, 0))) := ⟨h0_⟩
                   have n1_ : Aside0 (w145.heap[gb268]? = some (.cells #[.int .u8 t262, .int .u16 t263, .int .u16 t264, .int .i64 t265] 42 (0, 0))) := ⟨h1_⟩
                   have n2_ : Aside0 (w145.heap[gb275]? = some (.cells #[.int .u8 t269, .int .u16 t270, .int .u16 t271, .int .i64 t272] 42 (0, 0))) := ⟨h2_⟩
                   have n3_ : Aside0 (w145.heap[gb282]? = some (.cells #[.int .u8 0, .int .u16 0, .int .u16 0, .int .i64 0] 42 (0, 0))) := ⟨h3_⟩
                   have n4_ : Aside0 (w.heap.size ≤ gb282) := ⟨h4_⟩
                   have n5_ : Aside0 (w.heap.size ≤ gb282) := ⟨h5_⟩
                   have n6_ : Aside0 (gb258 ≠ gb282) := ⟨h6_⟩
                   have n7_ : Aside0 (gb282 ≠ gb258) := ⟨h7_⟩
                   have n8_ : Aside0 (gb268 ≠ gb282) := ⟨h8_⟩
                   have n9_ : Aside0 (gb282 ≠ gb268) := ⟨h9_⟩
                   have n10_ : Aside0 (gb275 ≠ gb282) := ⟨h10_⟩
                   have n11_ : Aside0 (gb282 ≠ gb275) := ⟨h11_⟩
                   have n12_ : Aside0 (Below w.heap.size w w145) := ⟨h12_⟩
                   clear BK258
                   clear BK268
                   clear BK275
                   clear HB
                   clear h0_ h1_ h2_ h3_ h4_ h5_ h6_ h7_ h8_ h9_ h10_ h11_ h12_
                   have BK258 := n0_
                   have BK268 := n1_
                   have BK275 := n2_
                   have BK282 := n3_
                   have GW282 := n4_
                   have GE282 := n5_
                   have NB258_282 := n6_
                   have NB282_258 := n7_
                   have NB268_282 := n8_
                   have NB282_268 := n9_
                   have NB275_282 := n10_
                   have NB282_275 := n11_
                   have HB := n12_
                   clear n0_ n1_ n2_ n3_ n4_ n5_ n6_ n7_ n8_ n9_ n10_ n11_ n12_
                   have hHeld := trivial
                   refine norm_ (a' := ?_) ?_ ?_
                   rotate_left
                   ·simp only [putAll, Act.put, List.setIfInBounds_toArray, List.set_cons_zero, List.set_cons_succ]
                    rfl
                   refine one_ (i := 14) (N := none) #[true, true, true, true, true, true, true, true, true, true, true, true, true, true, true, false, false] rfl rfl (one_of HT_.out (by kernel_rfl)) (by decide) (fun K hK => ?_)
                   have hs146 : w145.cell? ⟨gb282, 0, none⟩ = some (.int .u8 0) := (blk_cell BK282.out 0).trans rfl
                   have hfs146 := blk_frozen BK282.out 0
                   have hns146_0 := NB258_282.out
                   have hns146_1 := NB268_282.out
                   have hns146_2 := NB275_282.out
                   have hms146_0 := NB282_258.out
                   have hms146_1 := NB282_268.out
                   have hms146_2 := NB282_275.out
                   have hs147 : w145.cell? ⟨gb282, 1, none⟩ = some (.int .u16 0) := (blk_cell BK282.out 1).trans rfl
                   have hfs147 := blk_frozen BK282.out 1
                   have hns147_0 := NB258_282.out
                   have hns147_1 := NB268_282.out
                   have hns147_2 := NB275_282.out
                   have hms147_0 := NB282_258.out
                   have hms147_1 := NB282_268.out
                   have hms147_2 := NB282_275.out
                   have hs148 : w145.cell? ⟨gb282, 2, none⟩ = some (.int .u16 0) := (blk_cell BK282.out 2).trans rfl
                   have hfs148 := blk_frozen BK282.out 2
                   have hns148_0 := NB258_282.out
                   have hns148_1 := NB268_282.out
                   have hns148_2 := NB275_282.out
                   have hms148_0 := NB282_258.out
                   have hms148_1 := NB282_268.out
                   have hms148_2 := NB282_275.out
                   have hs149 : w145.cell? ⟨gb282, 3, none⟩ = some (.int .i64 0) := (blk_cell BK282.out 3).trans rfl
                   have hfs149 := blk_frozen BK282.out 3
                   have hns149_0 := NB258_282.out
                   have hns149_1 := NB268_282.out
                   have hns149_2 := NB275_282.out
                   have hms149_0 := NB282_258.out
                   have hms149_1 := NB282_268.out
                   have hms149_2 := NB282_275.out
                   refine skip_ (w1 := ?_) (by rfl) rfl ?_ ?_
                   rotate_left
                   ·go_simp
                    rfl
                   refine hK.out _ _ trivial (fun hHeld => ?_)
                   clear hK K
                   refine pure_ (i := 15) (N := some 16) (v := ?_) (a' := ?_) #[true, true, true, true, true, true, true, true, true, true, true, true, true, true, true, true, false] rfl rfl (any_of HT_.out (by kernel_rfl)) (fun _ _ _ h => h) (Or.inl ⟨by rfl, ?_⟩) ?_ ?_
                   rotate_left
                   ·intro w'
                    go_simp
                    with_reducible rfl
                   rotate_left
                   ·simp only [Act.put, List.setIfInBounds_toArray, List.set_cons_zero, List.set_cons_succ, i64_w, i32_w]
                    rfl
                   refine pure_ (i := 16) (N := some 17) (v := ?_) (a' := ?_) #[true, true, true, true, true, true, true, true, true, true, true, true, true, true, true, true, true] rfl rfl (any_of HT_.out (by kernel_rfl)) (fun _ _ _ h => h) (Or.inl ⟨by rfl, ?_⟩) ?_ ?_
                   rotate_left
                   ·intro w'
                    go_simp
                    with_reducible rfl
                   rotate_left
                   ·simp only [Act.put, List.setIfInBounds_toArray, List.set_cons_zero, List.set_cons_succ, i64_w, i32_w]
                    rfl
                   refine done_ (done_of HT_.out (by kernel_rfl)) ?_
                   have hnb150 := NB268_275.out
                   have hnc150 := NB275_268.out
                   have hnb151 := NB268_282.out
                   have hnc151 := NB282_268.out
                   have hcz152_0 : w145.cell? ⟨gb268, 0, none⟩ = some (.int .u8 t262) := (blk_cell BK268.out 0).trans rfl
                   have hcz152_1 : w145.cell? ⟨gb268, 1, none⟩ = some (.int .u16 t263) := (blk_cell BK268.out 1).trans rfl
                   have hcz152_2 : w145.cell? ⟨gb268, 2, none⟩ = some (.int .u16 t264) := (blk_cell BK268.out 2).trans rfl
                   have hcz152_3 : w145.cell? ⟨gb268, 3, none⟩ = some (.int .i64 t265) := (blk_cell BK268.out 3).trans rfl
                   have hfz152_0 := blk_frozen BK268.out 0
                   have hfz152_1 := blk_frozen BK268.out 1
                   have hfz152_2 := blk_frozen BK268.out 2
                   have hfz152_3 := blk_frozen BK268.out 3
                   have hnb153 := NB258_275.out
                   have hnc153 := NB275_258.out
                   have hnb154 := NB258_282.out
                   have hnc154 := NB282_258.out
                   have hcz155_0 : w145.cell? ⟨gb258, 0, none⟩ = some (.int .u8 a0_0) := (blk_cell BK258.out 0).trans rfl
                   have hcz155_1 : w145.cell? ⟨gb258, 1, none⟩ = some (.int .u16 a0_1) := (blk_cell BK258.out 1).trans rfl
                   have hcz155_2 : w145.cell? ⟨gb258, 2, none⟩ = some (.int .u16 a0_2) := (blk_cell BK258.out 2).trans rfl
                   have hcz155_3 : w145.cell? ⟨gb258, 3, none⟩ = some (.int .i64 a0_3) := (blk_cell BK258.out 3).trans rfl
                   have hfz155_0 := blk_frozen BK258.out 0
                   have hfz155_1 := blk_frozen BK258.out 1
                   have hfz155_2 := blk_frozen BK258.out 2
                   have hfz155_3 := blk_frozen BK258.out 3
                   have hnb156 := NB275_282.out
                   have hnc156 := NB282_275.out
                   have hcz157_0 : w145.cell? ⟨gb275, 0, none⟩ = some (.int .u8 t269) := (blk_cell BK275.out 0).trans rfl
                   have hcz157_1 : w145.cell? ⟨gb275, 1, none⟩ = some (.int .u16 t270) := (blk_cell BK275.out 1).trans rfl
                   have hcz157_2 : w145.cell? ⟨gb275, 2, none⟩ = some (.int .u16 t271) := (blk_cell BK275.out 2).trans rfl
                   have hcz157_3 : w145.cell? ⟨gb275, 3, none⟩ = some (.int .i64 t272) := (blk_cell BK275.out 3).trans rfl
                   have hfz157_0 := blk_frozen BK275.out 0
                   have hfz157_1 := blk_frozen BK275.out 1
                   have hfz157_2 := blk_frozen BK275.out 2
                   have hfz157_3 := blk_frozen BK275.out 3
                   have hcz158_0 : w145.cell? ⟨gb282, 0, none⟩ = some (.int .u8 0) := (blk_cell BK282.out 0).trans rfl
                   have hcz158_1 : w145.cell? ⟨gb282, 1, none⟩ = some (.int .u16 0) := (blk_cell BK282.out 1).trans rfl
                   have hcz158_2 : w145.cell? ⟨gb282, 2, none⟩ = some (.int .u16 0) := (blk_cell BK282.out 2).trans rfl
                   have hcz158_3 : w145.cell? ⟨gb282, 3, none⟩ = some (.int .i64 0) := (blk_cell BK282.out 3).trans rfl
                   have hfz158_0 := blk_frozen BK282.out 0
                   have hfz158_1 := blk_frozen BK282.out 1
                   have hfz158_2 := blk_frozen BK282.out 2
                   have hfz158_3 := blk_frozen BK282.out 3
                   try go_wp2
                   go_meet
                   case rel => exact ⟨_, H', ⟨by have := HJ10.out; first | omega | exact Nat.le_refl _⟩, ⟨by (with_reducible repeat (first | refine blk_drewN ?_ _ | refine blk_drew ?_ | refine blk_alloc ?_ _)); refine blk_far ?_ NB258_282.out _; (with_reducible repeat (first | refine blk_drewN ?_ _ | refine blk_drew ?_ | refine blk_alloc ?_ _)); refine blk_far ?_ NB258_282.out _; (with_reducible repeat (first | refine blk_drewN ?_ _ | refine blk_drew ?_ | refine blk_alloc ?_ _)); refine blk_far ?_ NB258_282.out _; (with_reducible repeat (first | refine blk_drewN ?_ _ | refine blk_drew ?_ | refine blk_alloc ?_ _)); refine blk_far ?_ NB258_282.out _; (with_reducible repeat (first | refine blk_drewN ?_ _ | refine blk_drew ?_ | refine blk_alloc ?_ _)); exact BK258.out⟩, ⟨by repeat (first | (with_reducible first | exact HB.out | apply below_alloc | apply pw_below_drewN | apply below_drew1 | refine below_set ?_ GE258.out | refine below_set ?_ GE268.out | refine below_set ?_ GE275.out | refine below_set ?_ GE282.out) | exact HB.out)⟩⟩
               ·rw [if_neg c35] at H
                exact absurd ((Option.some.inj H).trans hr.out) (by decide)
              ·rw [if_neg c34] at H
               exact absurd ((Option.some.inj H).trans hr.out) (by decide)
             ·rw [if_neg c33] at H
              exact absurd ((Option.some.inj H).trans hr.out) (by decide)
            ·rw [if_neg c31] at H
             exact absurd H (by simp)
           ·rw [if_neg c25] at H
            exact absurd H (by simp)
          ·rw [if_neg c24] at H
           exact absurd H (by simp)
         ·rw [if_neg c23] at H
          exact absurd H (by simp)
        ·rw [if_neg c21] at H
         exact absurd H (by simp)
       ·rw [if_neg c20] at H
        exact absurd H (by simp)
      ·rw [if_neg c19] at H
       exact absurd H (by simp)
  ·rw [if_neg c10] at H
   have c10b0 : (t261 == 0) = false := beq_eq_false_iff_ne.mpr c10
   have c10b1 : (t261 != 0) = true := bne_iff_ne.mpr c10
   (first | rw [c10b0] | (simp only [i64_w, i32_w]; rw [c10b0]) | skip)
   replace H := Option.bind_eq_some_iff.mp H
   obtain ⟨t283, A2250, H⟩ := H
   replace H : (if t283 = t261 then (if t260.toList = ([] : List UInt8) then (vivariumlaw09_GensBack.j2 k a1 t259) else (some false)) else (some false)) = some r := H
   have A225 := Aside0.mk A2250
   clear A2250
   by_cases c226 : t283 = t261
   ·rw [if_pos c226] at H
    have c226b0 : (t283 == t261) = true := beq_iff_eq.mpr c226
    have c226b1 : (t283 != t261) = false := bne_eq_false_iff_eq.mpr c226
    clear c226
    by_cases c227 : t260.toList = ([] : List UInt8)
    ·rw [if_pos c227] at H
     have c227b0 : (t260.toList == ([] : List UInt8)) = true := beq_iff_eq.mpr c227
     have c227b1 : (t260.toList != ([] : List UInt8)) = false := bne_eq_false_iff_eq.mpr c227
     clear c227
     have H' := Aside0.mk H
     clear H
     have hcz228_0 : w9.cell? ⟨gb258, 0, none⟩ = some (.int .u8 a0_0) := (blk_cell BK258.out 0).trans rfl
     have hcz228_1 : w9.cell? ⟨gb258, 1, none⟩ = some (.int .u16 a0_1) := (blk_cell BK258.out 1).trans rfl
     have hcz228_2 : w9.cell? ⟨gb258, 2, none⟩ = some (.int .u16 a0_2) := (blk_cell BK258.out 2).trans rfl
     have hcz228_3 : w9.cell? ⟨gb258, 3, none⟩ = some (.int .i64 a0_3) := (blk_cell BK258.out 3).trans rfl
     have hfz228_0 := blk_frozen BK258.out 0
     have hfz228_1 := blk_frozen BK258.out 1
     have hfz228_2 := blk_frozen BK258.out 2
     have hfz228_3 := blk_frozen BK258.out 3
     go_wp2_with (first | ((with_reducible refine gate_callee (f := 18) rfl ?_); refine goesL_ (some 35) rfl rfl Tryd.func18 (by kernel_rfl) rfl #[.agg #[.int .u8 a0_0, .int .u16 a0_1, .int .u16 a0_2, .int .i64 a0_3]] rfl (by (try simp only [List.map_toArray, List.map_cons, List.map_nil]); first | done | rfl | (simp only [List.length_drop, List.length_take]; rfl)) ?_; (with_reducible refine (gens_Check.calls a0_0 a0_1 a0_2 a0_3 t283 _ A225.out).mono ?_); rintro e w229 ⟨rfl, hb⟩; refine ⟨_, rfl, ?_⟩; have n0_ := Aside0.mk (blk_below (g := gb258) (o := .cells #[.int .u8 a0_0, .int .u16 a0_1, .int .u16 a0_2, .int .i64 a0_3] 42 (0, 0)) (by (with_reducible repeat (first | refine blk_drewN ?_ _ | refine blk_drew ?_ | refine blk_alloc ?_ _)); exact BK258.out) hb); have n1_ := Aside0.mk (below_step (by repeat (first | (with_reducible first | exact HB.out | apply below_alloc | apply pw_below_drewN | apply below_drew1 | refine below_set ?_ GE258.out) | exact HB.out)) hb); clear BK258; clear HB; have BK258 := n0_; have HB := n1_; clear n0_ n1_; (try clear hb); (try clear hb2); (try clear hk); (try clear hi)))
     go_meet
     case rel => exact ⟨_, H', ⟨by first | omega | exact Nat.le_refl _⟩, ⟨by (with_reducible repeat (first | refine blk_drewN ?_ _ | refine blk_drew ?_ | refine blk_alloc ?_ _)); exact BK258.out⟩, ⟨by repeat (first | (with_reducible first | exact HB.out | apply below_alloc | apply pw_below_drewN | apply below_drew1 | refine below_set ?_ GE258.out) | exact HB.out)⟩⟩
    ·rw [if_neg c227] at H
     exact absurd ((Option.some.inj H).trans hr.out) (by decide)
   ·rw [if_neg c226] at H
    exact absurd ((Option.some.inj H).trans hr.out) (by decide)
 case rest =>
  clear HC5
  try clear c1
  try clear c2
  try clear p2
  try clear c3
  try clear c10
  try clear c10b0
  try clear c10b1
  try clear c15
  try clear c18
  try clear c19
  try clear c20
  try clear c21
  try clear c22
  try clear c23
  try clear c24
  try clear c25
  try clear c31
  try clear c226
  try clear c226b0
  try clear c226b1
  try clear c227
  try clear c227b0
  try clear c227b1
  try clear hcz228_0
  try clear hcz228_1
  try clear hcz228_2
  try clear hcz228_3
  try clear hcz230_0
  try clear hcz230_1
  try clear hcz230_2
  try clear hcz230_3
  try clear hcz232_0
  try clear hcz232_1
  try clear hcz232_2
  try clear hcz232_3
  try clear hfz228_0
  try clear hfz228_1
  try clear hfz228_2
  try clear hfz228_3
  try clear hfz230_0
  try clear hfz230_1
  try clear hfz230_2
  try clear hfz230_3
  try clear hfz232_0
  try clear hfz232_1
  try clear hfz232_2
  try clear hfz232_3
  obtain ⟨kq, HA, HJ4, BK258, HB⟩ := hcut
  cases kq with
  | zero => exact absurd HA.out (by simp [vivariumlaw09_GensBack.j2])
  | succ kj4 =>
   have H := HA.out
   clear HA
   simp only [vivariumlaw09_GensBack.j2] at H
   replace H := Option.bind_eq_some_iff.mp H
   obtain ⟨⟨t284, t285, t286, t287, t288, t289⟩, A2340, H⟩ := H
   replace H : (if t289 = 0 then ((gens_Print.f kj4 t284 t285 t286 t287).bind fun bt291 => ((gens_Parse.f kj4 bt291.1).bind fun bt293 => (if t259 = true then (if t288 = 0 then (if bt291.2 = 0 then (if bt293.2.2.2.2.2 = 0 then (if ((bt293.1 == t284 && (bt293.2.1 == t285 && (bt293.2.2.1 == t286))) && (bt293.2.2.2.1 == t287)) = true then (some (bt291.1.toList != ([] : List UInt8))) else (some false)) else (some false)) else (some false)) else (some false)) else (some false)))) else (if t259 = true then (if ((t284 == 0 && (t285 == 0 && (t286 == 0))) && (t287 == 0)) = true then (if t288 ≥ 0 then (some (decide (t288 ≤ (a1.size : Int)))) else (some false)) else (some false)) else (some false))) = some r := H
   have A234 := Aside0.mk A2340
   clear A2340
   by_cases c235 : t289 = 0
   ·rw [if_pos c235] at H
    have c235b0 : (t289 == 0) = true := beq_iff_eq.mpr c235
    have c235b1 : (t289 != 0) = false := bne_eq_false_iff_eq.mpr c235
    clear c235
    replace H := Option.bind_eq_some_iff.mp H
    obtain ⟨⟨t291, t292⟩, A2360, H⟩ := H
    replace H : ((gens_Parse.f kj4 t291).bind fun bt293 => (if t259 = true then (if t288 = 0 then (if t292 = 0 then (if bt293.2.2.2.2.2 = 0 then (if ((bt293.1 == t284 && (bt293.2.1 == t285 && (bt293.2.2.1 == t286))) && (bt293.2.2.2.1 == t287)) = true then (some (t291.toList != ([] : List UInt8))) else (some false)) else (some false)) else (some false)) else (some false)) else (some false))) = some r := H
    have A236 := Aside0.mk A2360
    clear A2360
    replace H := Option.bind_eq_some_iff.mp H
    obtain ⟨⟨t293, t294, t295, t296, t297, t298⟩, A2370, H⟩ := H
    replace H : (if t259 = true then (if t288 = 0 then (if t292 = 0 then (if t298 = 0 then (if ((t293 == t284 && (t294 == t285 && (t295 == t286))) && (t296 == t287)) = true then (some (t291.toList != ([] : List UInt8))) else (some false)) else (some false)) else (some false)) else (some false)) else (some false)) = some r := H
    have A237 := Aside0.mk A2370
    clear A2370
    by_cases c238 : t259 = true
    ·subst c238
     have H1 : (if t288 = 0 then (if t292 = 0 then (if t298 = 0 then (if ((t293 == t284 && (t294 == t285 && (t295 == t286))) && (t296 == t287)) = true then (some (t291.toList != ([] : List UInt8))) else (some false)) else (some false)) else (some false)) else (some false)) = some r := by rw [if_pos rfl] at H; exact H
     clear H
     have H := H1
     clear H1
     by_cases c239 : t288 = 0
     ·rw [if_pos c239] at H
      have c239b0 : (t288 == 0) = true := beq_iff_eq.mpr c239
      have c239b1 : (t288 != 0) = false := bne_eq_false_iff_eq.mpr c239
      clear c239
      by_cases c240 : t292 = 0
      ·rw [if_pos c240] at H
       have c240b0 : (t292 == 0) = true := beq_iff_eq.mpr c240
       have c240b1 : (t292 != 0) = false := bne_eq_false_iff_eq.mpr c240
       clear c240
       by_cases c241 : t298 = 0
       ·rw [if_pos c241] at H
        have c241b0 : (t298 == 0) = true := beq_iff_eq.mpr c241
        have c241b1 : (t298 != 0) = false := bne_eq_false_iff_eq.mpr c241
        clear c241
        by_cases c242 : ((t293 == t284 && (t294 == t285 && (t295 == t286))) && (t296 == t287)) = true
        ·rw [if_pos c242] at H
         have c242b0 : ((t293 == t284 && (t294 == t285 && (t295 == t286))) && (t296 == t287)) = true := c242
         clear c242
         obtain rfl := Option.some.inj H
         go_wp2_with (first | ((with_reducible refine gate_callee (f := 15) rfl ?_); refine goesL_ (some 117) rfl rfl Tryd.func15 (by kernel_rfl) rfl #[.string a1] rfl (by (try simp only [List.map_toArray, List.map_cons, List.map_nil]); first | done | rfl | (simp only [List.length_drop, List.length_take]; rfl)) ?_; (with_reducible refine (gens_Parse.calls kj4 a1 t284 t285 t286 t287 t288 t289 _ A234.out).mono ?_); rintro e w243 ⟨rfl, hb⟩; refine ⟨_, rfl, ?_⟩; have n0_ := Aside0.mk (blk_below (g := gb258) (o := .cells #[.int .u8 a0_0, .int .u16 a0_1, .int .u16 a0_2, .int .i64 a0_3] 42 (0, 0)) (by (with_reducible repeat (first | refine blk_drewN ?_ _ | refine blk_drew ?_ | refine blk_alloc ?_ _)); exact BK258.out) hb); have n1_ := Aside0.mk (below_step (by repeat (first | (with_reducible first | exact HB.out | apply below_alloc | apply pw_below_drewN | apply below_drew1 | refine below_set ?_ GE258.out) | exact HB.out)) hb); clear BK258; clear HB; have BK258 := n0_; have HB := n1_; clear n0_ n1_; (try clear hb); (try clear hb2); (try clear hk); (try clear hi)) | ((with_reducible refine gate_dst (N := 18) rfl ?_); (try (refine gate_guard (by rfl) ?_; dsimp only)); refine box_event ?hg (N := 18) ?hd (cs := #[.int .u8 0, .int .u16 0, .int .u16 0, .int .i64 0]) (t := 42) ?hr ?_; (case hd => rfl); (case hg => rfl); (case hr => first | (go_simp; done) | (go_simp; rfl)); intro gb290 hg w244 hbox hb; have n0_ := Aside0.mk (blk_below (g := gb258) (o := .cells #[.int .u8 a0_0, .int .u16 a0_1, .int .u16 a0_2, .int .i64 a0_3] 42 (0, 0)) (by (with_reducible repeat (first | refine blk_drewN ?_ _ | refine blk_drew ?_ | refine blk_alloc ?_ _)); exact BK258.out) hb); have n1_ := Aside0.mk (below_step (by repeat (first | (with_reducible first | exact HB.out | apply below_alloc | apply pw_below_drewN | apply below_drew1 | refine below_set ?_ GE258.out) | exact HB.out)) hb); have n2_ := Aside0.mk (hbox); have n3_ := Aside0.mk ((by rw [hg]; exact (below_size (by repeat (first | (with_reducible first | exact HB.out | apply below_alloc | apply pw_below_drewN | apply below_drew1 | refine below_set ?_ GE258.out) | exact HB.out))) : w.heap.size ≤ gb290)); have n4_ := Aside0.mk ((by rw [hg]; exact (below_size (by repeat (first | (with_reducible first | exact HB.out | apply below_alloc | apply pw_below_drewN | apply below_drew1 | refine below_set ?_ GE258.out) | exact HB.out))) : w.heap.size ≤ gb290)); have n5_ := Aside0.mk ((by rw [hg]; exact Nat.ne_of_lt (blk_lt (g := gb258) (o := .cells #[.int .u8 a0_0, .int .u16 a0_1, .int .u16 a0_2, .int .i64 a0_3] 42 (0, 0)) (by (with_reducible repeat (first | refine blk_drewN ?_ _ | refine blk_drew ?_ | refine blk_alloc ?_ _)); exact BK258.out)) : gb258 ≠ gb290)); have n6_ := Aside0.mk ((by rw [hg]; exact Nat.ne_of_gt (blk_lt (g := gb258) (o := .cells #[.int .u8 a0_0, .int .u16 a0_1, .int .u16 a0_2, .int .i64 a0_3] 42 (0, 0)) (by (with_reducible repeat (first | refine blk_drewN ?_ _ | refine blk_drew ?_ | refine blk_alloc ?_ _)); exact BK258.out)) : gb290 ≠ gb258)); clear BK258; clear HB; have BK258 := n0_; have HB := n1_; have BK290 := n2_; have GW290 := n3_; have GE290 := n4_; have NB258_290 := n5_; have NB290_258 := n6_; clear n0_ n1_ n2_ n3_ n4_ n5_ n6_; clear hb hbox hg; have hnb245 := NB290_258.out; have hnc245 := NB258_290.out; have hcz246_0 : w244.cell? ⟨gb290, 0, none⟩ = some (.int .u8 0) := (blk_cell BK290.out 0).trans rfl; have hcz246_1 : w244.cell? ⟨gb290, 1, none⟩ = some (.int .u16 0) := (blk_cell BK290.out 1).trans rfl; have hcz246_2 : w244.cell? ⟨gb290, 2, none⟩ = some (.int .u16 0) := (blk_cell BK290.out 2).trans rfl; have hcz246_3 : w244.cell? ⟨gb290, 3, none⟩ = some (.int .i64 0) := (blk_cell BK290.out 3).trans rfl; have hfz246_0 := blk_frozen BK290.out 0; have hfz246_1 := blk_frozen BK290.out 1; have hfz246_2 := blk_frozen BK290.out 2; have hfz246_3 := blk_frozen BK290.out 3) | ((with_reducible refine gate_callee (f := 16) rfl ?_); refine goesL_ (some 142) rfl rfl Tryd.func16 (by kernel_rfl) rfl #[.agg #[.int .u8 t284, .int .u16 t285, .int .u16 t286, .int .i64 t287]] rfl (by (try simp only [List.map_toArray, List.map_cons, List.map_nil]); first | done | rfl | (simp only [List.length_drop, List.length_take]; rfl)) ?_; (with_reducible refine (gens_Print.calls kj4 t284 t285 t286 t287 t291 t292 _ A236.out ?sidet).mono ?_); (case sidet => exact tabs_below HTb.out (by repeat (first | (with_reducible first | exact HB.out | apply below_alloc | apply pw_below_drewN | apply below_drew1 | refine below_set ?_ (Aside0.out (by assumption))) | exact HB.out))); rintro e w247 ⟨rfl, hb⟩; refine ⟨_, rfl, ?_⟩; have n0_ := Aside0.mk (blk_below (g := gb258) (o := .cells #[.int .u8 a0_0, .int .u16 a0_1, .int .u16 a0_2, .int .i64 a0_3] 42 (0, 0)) (by (with_reducible repeat (first | refine blk_drewN ?_ _ | refine blk_drew ?_ | refine blk_alloc ?_ _)); refine blk_far ?_ NB258_290.out _; (with_reducible repeat (first | refine blk_drewN ?_ _ | refine blk_drew ?_ | refine blk_alloc ?_ _)); refine blk_far ?_ NB258_290.out _; (with_reducible repeat (first | refine blk_drewN ?_ _ | refine blk_drew ?_ | refine blk_alloc ?_ _)); refine blk_far ?_ NB258_290.out _; (with_reducible repeat (first | refine blk_drewN ?_ _ | refine blk_drew ?_ | refine blk_alloc ?_ _)); refine blk_far ?_ NB258_290.out _; (with_reducible repeat (first | refine blk_drewN ?_ _ | refine blk_drew ?_ | refine blk_alloc ?_ _)); exact BK258.out) hb); have n1_ := Aside0.mk (blk_below (g := gb290) (o := .cells #[.int .u8 t284, .int .u16 t285, .int .u16 t286, .int .i64 t287] 42 (0, 0)) (by (with_reducible repeat (first | refine blk_drewN ?_ _ | refine blk_drew ?_ | refine blk_alloc ?_ _)); refine blk_put (cs := #[.int .u8 t284, .int .u16 t285, .int .u16 t286, .int .i64 0]) ?_ 3 _ rfl; (with_reducible repeat (first | refine blk_drewN ?_ _ | refine blk_drew ?_ | refine blk_alloc ?_ _)); refine blk_put (cs := #[.int .u8 t284, .int .u16 t285, .int .u16 0, .int .i64 0]) ?_ 2 _ rfl; (with_reducible repeat (first | refine blk_drewN ?_ _ | refine blk_drew ?_ | refine blk_alloc ?_ _)); refine blk_put (cs := #[.int .u8 t284, .int .u16 0, .int .u16 0, .int .i64 0]) ?_ 1 _ rfl; (with_reducible repeat (first | refine blk_drewN ?_ _ | refine blk_drew ?_ | refine blk_alloc ?_ _)); refine blk_put (cs := #[.int .u8 0, .int .u16 0, .int .u16 0, .int .i64 0]) ?_ 0 _ rfl; (with_reducible repeat (first | refine blk_drewN ?_ _ | refine blk_drew ?_ | refine blk_alloc ?_ _)); exact BK290.out) hb); have n2_ := Aside0.mk (below_step (by repeat (first | (with_reducible first | exact HB.out | apply below_alloc | apply pw_below_drewN | apply below_drew1 | refine below_set ?_ GE258.out | refine below_set ?_ GE290.out) | exact HB.out)) hb); clear BK258; clear BK290; clear HB; have BK258 := n0_; have BK290 := n1_; have HB := n2_; clear n0_ n1_ n2_; (try clear hb); (try clear hb2); (try clear hk); (try clear hi)) | ((with_reducible refine gate_callee (f := 15) rfl ?_); refine goesL_ (some 147) rfl rfl Tryd.func15 (by kernel_rfl) rfl #[.string t291] rfl (by (try simp only [List.map_toArray, List.map_cons, List.map_nil]); first | done | rfl | (simp only [List.length_drop, List.length_take]; rfl)) ?_; (with_reducible refine (gens_Parse.calls kj4 t291 t293 t294 t295 t296 t297 t298 _ A237.out).mono ?_); rintro e w248 ⟨rfl, hb⟩; refine ⟨_, rfl, ?_⟩; have n0_ := Aside0.mk (blk_below (g := gb258) (o := .cells #[.int .u8 a0_0, .int .u16 a0_1, .int .u16 a0_2, .int .i64 a0_3] 42 (0, 0)) (by (with_reducible repeat (first | refine blk_drewN ?_ _ | refine blk_drew ?_ | refine blk_alloc ?_ _)); exact BK258.out) hb); have n1_ := Aside0.mk (blk_below (g := gb290) (o := .cells #[.int .u8 t284, .int .u16 t285, .int .u16 t286, .int .i64 t287] 42 (0, 0)) (by (with_reducible repeat (first | refine blk_drewN ?_ _ | refine blk_drew ?_ | refine blk_alloc ?_ _)); exact BK290.out) hb); have n2_ := Aside0.mk (below_step (by repeat (first | (with_reducible first | exact HB.out | apply below_alloc | apply pw_below_drewN | apply below_drew1 | refine below_set ?_ GE258.out | refine below_set ?_ GE290.out) | exact HB.out)) hb); clear BK258; clear BK290; clear HB; have BK258 := n0_; have BK290 := n1_; have HB := n2_; clear n0_ n1_ n2_; (try clear hb); (try clear hb2); (try clear hk); (try clear hi)) | ((with_reducible refine gate_dst (N := 23) rfl ?_); (try (refine gate_guard (by rfl) ?_; dsimp only)); refine box_event ?hg (N := 23) ?hd (cs := #[.int .u8 0, .int .u16 0, .int .u16 0, .int .i64 0]) (t := 42) ?hr ?_; (case hd => rfl); (case hg => rfl); (case hr => first | (go_simp; done) | (go_simp; rfl)); intro gb299 hg w249 hbox hb; have n0_ := Aside0.mk (blk_below (g := gb258) (o := .cells #[.int .u8 a0_0, .int .u16 a0_1, .int .u16 a0_2, .int .i64 a0_3] 42 (0, 0)) (by (with_reducible repeat (first | refine blk_drewN ?_ _ | refine blk_drew ?_ | refine blk_alloc ?_ _)); exact BK258.out) hb); have n1_ := Aside0.mk (blk_below (g := gb290) (o := .cells #[.int .u8 t284, .int .u16 t285, .int .u16 t286, .int .i64 t287] 42 (0, 0)) (by (with_reducible repeat (first | refine blk_drewN ?_ _ | refine blk_drew ?_ | refine blk_alloc ?_ _)); exact BK290.out) hb); have n2_ := Aside0.mk (below_step (by repeat (first | (with_reducible first | exact HB.out | apply below_alloc | apply pw_below_drewN | apply below_drew1 | refine below_set ?_ GE258.out | refine below_set ?_ GE290.out) | exact HB.out)) hb); have n3_ := Aside0.mk (hbox); have n4_ := Aside0.mk ((by rw [hg]; exact (below_size (by repeat (first | (with_reducible first | exact HB.out | apply below_alloc | apply pw_below_drewN | apply below_drew1 | refine below_set ?_ GE258.out | refine below_set ?_ GE290.out) | exact HB.out))) : w.heap.size ≤ gb299)); have n5_ := Aside0.mk ((by rw [hg]; exact (below_size (by repeat (first | (with_reducible first | exact HB.out | apply below_alloc | apply pw_below_drewN | apply below_drew1 | refine below_set ?_ GE258.out | refine below_set ?_ GE290.out) | exact HB.out))) : w.heap.size ≤ gb299)); have n6_ := Aside0.mk ((by rw [hg]; exact Nat.ne_of_lt (blk_lt (g := gb258) (o := .cells #[.int .u8 a0_0, .int .u16 a0_1, .int .u16 a0_2, .int .i64 a0_3] 42 (0, 0)) (by (with_reducible repeat (first | refine blk_drewN ?_ _ | refine blk_drew ?_ | refine blk_alloc ?_ _)); exact BK258.out)) : gb258 ≠ gb299)); have n7_ := Aside0.mk ((by rw [hg]; exact Nat.ne_of_gt (blk_lt (g := gb258) (o := .cells #[.int .u8 a0_0, .int .u16 a0_1, .int .u16 a0_2, .int .i64 a0_3] 42 (0, 0)) (by (with_reducible repeat (first | refine blk_drewN ?_ _ | refine blk_drew ?_ | refine blk_alloc ?_ _)); exact BK258.out)) : gb299 ≠ gb258)); have n8_ := Aside0.mk ((by rw [hg]; exact Nat.ne_of_lt (blk_lt (g := gb290) (o := .cells #[.int .u8 t284, .int .u16 t285, .int .u16 t286, .int .i64 t287] 42 (0, 0)) (by (with_reducible repeat (first | refine blk_drewN ?_ _ | refine blk_drew ?_ | refine blk_alloc ?_ _)); exact BK290.out)) : gb290 ≠ gb299)); have n9_ := Aside0.mk ((by rw [hg]; exact Nat.ne_of_gt (blk_lt (g := gb290) (o := .cells #[.int .u8 t284, .int .u16 t285, .int .u16 t286, .int .i64 t287] 42 (0, 0)) (by (with_reducible repeat (first | refine blk_drewN ?_ _ | refine blk_drew ?_ | refine blk_alloc ?_ _)); exact BK290.out)) : gb299 ≠ gb290)); clear BK258; clear BK290; clear HB; have BK258 := n0_; have BK290 := n1_; have HB := n2_; have BK299 := n3_; have GW299 := n4_; have GE299 := n5_; have NB258_299 := n6_; have NB299_258 := n7_; have NB290_299 := n8_; have NB299_290 := n9_; clear n0_ n1_ n2_ n3_ n4_ n5_ n6_ n7_ n8_ n9_; clear hb hbox hg; have hnb250 := NB299_258.out; have hnc250 := NB258_299.out; have hnb251 := NB299_290.out; have hnc251 := NB290_299.out; have hcz252_0 : w249.cell? ⟨gb299, 0, none⟩ = some (.int .u8 0) := (blk_cell BK299.out 0).trans rfl; have hcz252_1 : w249.cell? ⟨gb299, 1, none⟩ = some (.int .u16 0) := (blk_cell BK299.out 1).trans rfl; have hcz252_2 : w249.cell? ⟨gb299, 2, none⟩ = some (.int .u16 0) := (blk_cell BK299.out 2).trans rfl; have hcz252_3 : w249.cell? ⟨gb299, 3, none⟩ = some (.int .i64 0) := (blk_cell BK299.out 3).trans rfl; have hfz252_0 := blk_frozen BK299.out 0; have hfz252_1 := blk_frozen BK299.out 1; have hfz252_2 := blk_frozen BK299.out 2; have hfz252_3 := blk_frozen BK299.out 3; have hcz253_0 : w249.cell? ⟨gb290, 0, none⟩ = some (.int .u8 t284) := (blk_cell BK290.out 0).trans rfl; have hcz253_1 : w249.cell? ⟨gb290, 1, none⟩ = some (.int .u16 t285) := (blk_cell BK290.out 1).trans rfl; have hcz253_2 : w249.cell? ⟨gb290, 2, none⟩ = some (.int .u16 t286) := (blk_cell BK290.out 2).trans rfl; have hcz253_3 : w249.cell? ⟨gb290, 3, none⟩ = some (.int .i64 t287) := (blk_cell BK290.out 3).trans rfl; have hfz253_0 := blk_frozen BK290.out 0; have hfz253_1 := blk_frozen BK290.out 1; have hfz253_2 := blk_frozen BK290.out 2; have hfz253_3 := blk_frozen BK290.out 3))
         go_ret
         exact ⟨by first | rfl | (simp [errW_none, errW_some] <;> rfl) | (simp [errW_none, errW_some] <;> exact (show ∀ l : List UInt8, l.isEmpty = !(l != []) from fun l => by cases l <;> rfl) _) | (simp [*, errW_none, errW_some] <;> rfl), by repeat (first | (with_reducible first | exact HB.out | apply below_alloc | apply pw_below_drewN | apply below_drew1 | refine below_set ?_ GE258.out | refine below_set ?_ GE290.out | refine below_set ?_ GE299.out) | exact HB.out)⟩
        ·rw [if_neg c242] at H
         have c242b0 : ((t293 == t284 && (t294 == t285 && (t295 == t286))) && (t296 == t287)) = false := by simpa using c242
         clear c242
         obtain rfl := Option.some.inj H
         go_wp2_with (first | ((with_reducible refine gate_callee (f := 15) rfl ?_); refine goesL_ (some 117) rfl rfl Tryd.func15 (by kernel_rfl) rfl #[.string a1] rfl (by (try simp only [List.map_toArray, List.map_cons, List.map_nil]); first | done | rfl | (simp only [List.length_drop, List.length_take]; rfl)) ?_; (with_reducible refine (gens_Parse.calls kj4 a1 t284 t285 t286 t287 t288 t289 _ A234.out).mono ?_); rintro e w254 ⟨rfl, hb⟩; refine ⟨_, rfl, ?_⟩; have n0_ := Aside0.mk (blk_below (g := gb258) (o := .cells #[.int .u8 a0_0, .int .u16 a0_1, .int .u16 a0_2, .int .i64 a0_3] 42 (0, 0)) (by (with_reducible repeat (first | refine blk_drewN ?_ _ | refine blk_drew ?_ | refine blk_alloc ?_ _)); exact BK258.out) hb); have n1_ := Aside0.mk (below_step (by repeat (first | (with_reducible first | exact HB.out | apply below_alloc | apply pw_below_drewN | apply below_drew1 | refine below_set ?_ GE258.out) | exact HB.out)) hb); clear BK258; clear HB; have BK258 := n0_; have HB := n1_; clear n0_ n1_; (try clear hb); (try clear hb2); (try clear hk); (try clear hi)) | ((with_reducible refine gate_dst (N := 18) rfl ?_); (try (refine gate_guard (by rfl) ?_; dsimp only)); refine box_event ?hg (N := 18) ?hd (cs := #[.int .u8 0, .int .u16 0, .int .u16 0, .int .i64 0]) (t := 42) ?hr ?_; (case hd => rfl); (case hg => rfl); (case hr => first | (go_simp; done) | (go_simp; rfl)); intro gb290 hg w255 hbox hb; have n0_ := Aside0.mk (blk_below (g := gb258) (o := .cells #[.int .u8 a0_0, .int .u16 a0_1, .int .u16 a0_2, .int .i64 a0_3] 42 (0, 0)) (by (with_reducible repeat (first | refine blk_drewN ?_ _ | refine blk_drew ?_ | refine blk_alloc ?_ _)); exact BK258.out) hb); have n1_ := Aside0.mk (below_step (by repeat (first | (with_reducible first | exact HB.out | apply below_alloc | apply pw_below_drewN | apply below_drew1 | refine below_set ?_ GE258.out) | exact HB.out)) hb); have n2_ := Aside0.mk (hbox); have n3_ := Aside0.mk ((by rw [hg]; exact (below_size (by repeat (first | (with_reducible first | exact HB.out | apply below_alloc | apply pw_below_drewN | apply below_drew1 | refine below_set ?_ GE258.out) | exact HB.out))) : w.heap.size ≤ gb290)); have n4_ := Aside0.mk ((by rw [hg]; exact (below_size (by repeat (first | (with_reducible first | exact HB.out | apply below_alloc | apply pw_below_drewN | apply below_drew1 | refine below_set ?_ GE258.out) | exact HB.out))) : w.heap.size ≤ gb290)); have n5_ := Aside0.mk ((by rw [hg]; exact Nat.ne_of_lt (blk_lt (g := gb258) (o := .cells #[.int .u8 a0_0, .int .u16 a0_1, .int .u16 a0_2, .int .i64 a0_3] 42 (0, 0)) (by (with_reducible repeat (first | refine blk_drewN ?_ _ | refine blk_drew ?_ | refine blk_alloc ?_ _)); exact BK258.out)) : gb258 ≠ gb290)); have n6_ := Aside0.mk ((by rw [hg]; exact Nat.ne_of_gt (blk_lt (g := gb258) (o := .cells #[.int .u8 a0_0, .int .u16 a0_1, .int .u16 a0_2, .int .i64 a0_3] 42 (0, 0)) (by (with_reducible repeat (first | refine blk_drewN ?_ _ | refine blk_drew ?_ | refine blk_alloc ?_ _)); exact BK258.out)) : gb290 ≠ gb258)); clear BK258; clear HB; have BK258 := n0_; have HB := n1_; have BK290 := n2_; have GW290 := n3_; have GE290 := n4_; have NB258_290 := n5_; have NB290_258 := n6_; clear n0_ n1_ n2_ n3_ n4_ n5_ n6_; clear hb hbox hg; have hnb256 := NB290_258.out; have hnc256 := NB258_290.out; have hcz257_0 : w255.cell? ⟨gb290, 0, none⟩ = some (.int .u8 0) := (blk_cell BK290.out 0).trans rfl; have hcz257_1 : w255.cell? ⟨gb290, 1, none⟩ = some (.int .u16 0) := (blk_cell BK290.out 1).trans rfl; have hcz257_2 : w255.cell? ⟨gb290, 2, none⟩ = some (.int .u16 0) := (blk_cell BK290.out 2).trans rfl; have hcz257_3 : w255.cell? ⟨gb290, 3, none⟩ = some (.int .i64 0) := (blk_cell BK290.out 3).trans rfl; have hfz257_0 := blk_frozen BK290.out 0; have hfz257_1 := blk_frozen BK290.out 1; have hfz257_2 := blk_frozen BK290.out 2; have hfz257_3 := blk_frozen BK290.out 3) | ((with_reducible refine gate_callee (f := 16) rfl ?_); refine goesL_ (some 142) rfl rfl Tryd.func16 (by kernel_rfl) rfl #[.agg #[.int .u8 t284, .int .u16 t285, .int .u16 t286, .int .i64 t287]] rfl (by (try simp only [List.map_toArray, List.map_cons, List.map_nil]); first | done | rfl | (simp only [List.length_drop, List.length_take]; rfl)) ?_; (with_reducible refine (gens_Print.calls kj4 t284 t285 t286 t287 t291 t292 _ A236.out ?sidet).mono ?_); (case sidet => exact tabs_below HTb.out (by repeat (first | (with_reducible first | exact HB.out | apply below_alloc | apply pw_below_drewN | apply below_drew1 | refine below_set ?_ (Aside0.out (by assumption))) | exact HB.out))); rintro e w258 ⟨rfl, hb⟩; refine ⟨_, rfl, ?_⟩; have n0_ := Aside0.mk (blk_below (g := gb258) (o := .cells #[.int .u8 a0_0, .int .u16 a0_1, .int .u16 a0_2, .int .i64 a0_3] 42 (0, 0)) (by (with_reducible repeat (first | refine blk_drewN ?_ _ | refine blk_drew ?_ | refine blk_alloc ?_ _)); refine blk_far ?_ NB258_290.out _; (with_reducible repeat (first | refine blk_drewN ?_ _ | refine blk_drew ?_ | refine blk_alloc ?_ _)); refine blk_far ?_ NB258_290.out _; (with_reducible repeat (first | refine blk_drewN ?_ _ | refine blk_drew ?_ | refine blk_alloc ?_ _)); refine blk_far ?_ NB258_290.out _; (with_reducible repeat (first | refine blk_drewN ?_ _ | refine blk_drew ?_ | refine blk_alloc ?_ _)); refine blk_far ?_ NB258_290.out _; (with_reducible repeat (first | refine blk_drewN ?_ _ | refine blk_drew ?_ | refine blk_alloc ?_ _)); exact BK258.out) hb); have n1_ := Aside0.mk (blk_below (g := gb290) (o := .cells #[.int .u8 t284, .int .u16 t285, .int .u16 t286, .int .i64 t287] 42 (0, 0)) (by (with_reducible repeat (first | refine blk_drewN ?_ _ | refine blk_drew ?_ | refine blk_alloc ?_ _)); refine blk_put (cs := #[.int .u8 t284, .int .u16 t285, .int .u16 t286, .int .i64 0]) ?_ 3 _ rfl; (with_reducible repeat (first | refine blk_drewN ?_ _ | refine blk_drew ?_ | refine blk_alloc ?_ _)); refine blk_put (cs := #[.int .u8 t284, .int .u16 t285, .int .u16 0, .int .i64 0]) ?_ 2 _ rfl; (with_reducible repeat (first | refine blk_drewN ?_ _ | refine blk_drew ?_ | refine blk_alloc ?_ _)); refine blk_put (cs := #[.int .u8 t284, .int .u16 0, .int .u16 0, .int .i64 0]) ?_ 1 _ rfl; (with_reducible repeat (first | refine blk_drewN ?_ _ | refine blk_drew ?_ | refine blk_alloc ?_ _)); refine blk_put (cs := #[.int .u8 0, .int .u16 0, .int .u16 0, .int .i64 0]) ?_ 0 _ rfl; (with_reducible repeat (first | refine blk_drewN ?_ _ | refine blk_drew ?_ | refine blk_alloc ?_ _)); exact BK290.out) hb); have n2_ := Aside0.mk (below_step (by repeat (first | (with_reducible first | exact HB.out | apply below_alloc | apply pw_below_drewN | apply below_drew1 | refine below_set ?_ GE258.out | refine below_set ?_ GE290.out) | exact HB.out)) hb); clear BK258; clear BK290; clear HB; have BK258 := n0_; have BK290 := n1_; have HB := n2_; clear n0_ n1_ n2_; (try clear hb); (try clear hb2); (try clear hk); (try clear hi)) | ((with_reducible refine gate_callee (f := 15) rfl ?_); refine goesL_ (some 147) rfl rfl Tryd.func15 (by kernel_rfl) rfl #[.string t291] rfl (by (try simp only [List.map_toArray, List.map_cons, List.map_nil]); first | done | rfl | (simp only [List.length_drop, List.length_take]; rfl)) ?_; (with_reducible refine (gens_Parse.calls kj4 t291 t293 t294 t295 t296 t297 t298 _ A237.out).mono ?_); rintro e w259 ⟨rfl, hb⟩; refine ⟨_, rfl, ?_⟩; have n0_ := Aside0.mk (blk_below (g := gb258) (o := .cells #[.int .u8 a0_0, .int .u16 a0_1, .int .u16 a0_2, .int .i64 a0_3] 42 (0, 0)) (by (with_reducible repeat (first | refine blk_drewN ?_ _ | refine blk_drew ?_ | refine blk_alloc ?_ _)); exact BK258.out) hb); have n1_ := Aside0.mk (blk_below (g := gb290) (o := .cells #[.int .u8 t284, .int .u16 t285, .int .u16 t286, .int .i64 t287] 42 (0, 0)) (by (with_reducible repeat (first | refine blk_drewN ?_ _ | refine blk_drew ?_ | refine blk_alloc ?_ _)); exact BK290.out) hb); have n2_ := Aside0.mk (below_step (by repeat (first | (with_reducible first | exact HB.out | apply below_alloc | apply pw_below_drewN | apply below_drew1 | refine below_set ?_ GE258.out | refine below_set ?_ GE290.out) | exact HB.out)) hb); clear BK258; clear BK290; clear HB; have BK258 := n0_; have BK290 := n1_; have HB := n2_; clear n0_ n1_ n2_; (try clear hb); (try clear hb2); (try clear hk); (try clear hi)) | ((with_reducible refine gate_dst (N := 23) rfl ?_); (try (refine gate_guard (by rfl) ?_; dsimp only)); refine box_event ?hg (N := 23) ?hd (cs := #[.int .u8 0, .int .u16 0, .int .u16 0, .int .i64 0]) (t := 42) ?hr ?_; (case hd => rfl); (case hg => rfl); (case hr => first | (go_simp; done) | (go_simp; rfl)); intro gb299 hg w260 hbox hb; have n0_ := Aside0.mk (blk_below (g := gb258) (o := .cells #[.int .u8 a0_0, .int .u16 a0_1, .int .u16 a0_2, .int .i64 a0_3] 42 (0, 0)) (by (with_reducible repeat (first | refine blk_drewN ?_ _ | refine blk_drew ?_ | refine blk_alloc ?_ _)); exact BK258.out) hb); have n1_ := Aside0.mk (blk_below (g := gb290) (o := .cells #[.int .u8 t284, .int .u16 t285, .int .u16 t286, .int .i64 t287] 42 (0, 0)) (by (with_reducible repeat (first | refine blk_drewN ?_ _ | refine blk_drew ?_ | refine blk_alloc ?_ _)); exact BK290.out) hb); have n2_ := Aside0.mk (below_step (by repeat (first | (with_reducible first | exact HB.out | apply below_alloc | apply pw_below_drewN | apply below_drew1 | refine below_set ?_ GE258.out | refine below_set ?_ GE290.out) | exact HB.out)) hb); have n3_ := Aside0.mk (hbox); have n4_ := Aside0.mk ((by rw [hg]; exact (below_size (by repeat (first | (with_reducible first | exact HB.out | apply below_alloc | apply pw_below_drewN | apply below_drew1 | refine below_set ?_ GE258.out | refine below_set ?_ GE290.out) | exact HB.out))) : w.heap.size ≤ gb299)); have n5_ := Aside0.mk ((by rw [hg]; exact (below_size (by repeat (first | (with_reducible first | exact HB.out | apply below_alloc | apply pw_below_drewN | apply below_drew1 | refine below_set ?_ GE258.out | refine below_set ?_ GE290.out) | exact HB.out))) : w.heap.size ≤ gb299)); have n6_ := Aside0.mk ((by rw [hg]; exact Nat.ne_of_lt (blk_lt (g := gb258) (o := .cells #[.int .u8 a0_0, .int .u16 a0_1, .int .u16 a0_2, .int .i64 a0_3] 42 (0, 0)) (by (with_reducible repeat (first | refine blk_drewN ?_ _ | refine blk_drew ?_ | refine blk_alloc ?_ _)); exact BK258.out)) : gb258 ≠ gb299)); have n7_ := Aside0.mk ((by rw [hg]; exact Nat.ne_of_gt (blk_lt (g := gb258) (o := .cells #[.int .u8 a0_0, .int .u16 a0_1, .int .u16 a0_2, .int .i64 a0_3] 42 (0, 0)) (by (with_reducible repeat (first | refine blk_drewN ?_ _ | refine blk_drew ?_ | refine blk_alloc ?_ _)); exact BK258.out)) : gb299 ≠ gb258)); have n8_ := Aside0.mk ((by rw [hg]; exact Nat.ne_of_lt (blk_lt (g := gb290) (o := .cells #[.int .u8 t284, .int .u16 t285, .int .u16 t286, .int .i64 t287] 42 (0, 0)) (by (with_reducible repeat (first | refine blk_drewN ?_ _ | refine blk_drew ?_ | refine blk_alloc ?_ _)); exact BK290.out)) : gb290 ≠ gb299)); have n9_ := Aside0.mk ((by rw [hg]; exact Nat.ne_of_gt (blk_lt (g := gb290) (o := .cells #[.int .u8 t284, .int .u16 t285, .int .u16 t286, .int .i64 t287] 42 (0, 0)) (by (with_reducible repeat (first | refine blk_drewN ?_ _ | refine blk_drew ?_ | refine blk_alloc ?_ _)); exact BK290.out)) : gb299 ≠ gb290)); clear BK258; clear BK290; clear HB; have BK258 := n0_; have BK290 := n1_; have HB := n2_; have BK299 := n3_; have GW299 := n4_; have GE299 := n5_; have NB258_299 := n6_; have NB299_258 := n7_; have NB290_299 := n8_; have NB299_290 := n9_; clear n0_ n1_ n2_ n3_ n4_ n5_ n6_ n7_ n8_ n9_; clear hb hbox hg; have hnb261 := NB299_258.out; have hnc261 := NB258_299.out; have hnb262 := NB299_290.out; have hnc262 := NB290_299.out; have hcz263_0 : w260.cell? ⟨gb299, 0, none⟩ = some (.int .u8 0) := (blk_cell BK299.out 0).trans rfl; have hcz263_1 : w260.cell? ⟨gb299, 1, none⟩ = some (.int .u16 0) := (blk_cell BK299.out 1).trans rfl; have hcz263_2 : w260.cell? ⟨gb299, 2, none⟩ = some (.int .u16 0) := (blk_cell BK299.out 2).trans rfl; have hcz263_3 : w260.cell? ⟨gb299, 3, none⟩ = some (.int .i64 0) := (blk_cell BK299.out 3).trans rfl; have hfz263_0 := blk_frozen BK299.out 0; have hfz263_1 := blk_frozen BK299.out 1; have hfz263_2 := blk_frozen BK299.out 2; have hfz263_3 := blk_frozen BK299.out 3; have hcz264_0 : w260.cell? ⟨gb290, 0, none⟩ = some (.int .u8 t284) := (blk_cell BK290.out 0).trans rfl; have hcz264_1 : w260.cell? ⟨gb290, 1, none⟩ = some (.int .u16 t285) := (blk_cell BK290.out 1).trans rfl; have hcz264_2 : w260.cell? ⟨gb290, 2, none⟩ = some (.int .u16 t286) := (blk_cell BK290.out 2).trans rfl; have hcz264_3 : w260.cell? ⟨gb290, 3, none⟩ = some (.int .i64 t287) := (blk_cell BK290.out 3).trans rfl; have hfz264_0 := blk_frozen BK290.out 0; have hfz264_1 := blk_frozen BK290.out 1; have hfz264_2 := blk_frozen BK290.out 2; have hfz264_3 := blk_frozen BK290.out 3))
         go_ret
         exact ⟨by first | rfl | (simp [errW_none, errW_some] <;> rfl) | (simp [errW_none, errW_some] <;> exact (show ∀ l : List UInt8, l.isEmpty = !(l != []) from fun l => by cases l <;> rfl) _) | (simp [*, errW_none, errW_some] <;> rfl), by repeat (first | (with_reducible first | exact HB.out | apply below_alloc | apply pw_below_drewN | apply below_drew1 | refine below_set ?_ GE258.out | refine below_set ?_ GE290.out | refine below_set ?_ GE299.out) | exact HB.out)⟩
       ·rw [if_neg c241] at H
        have c241b0 : (t298 == 0) = false := beq_eq_false_iff_ne.mpr c241
        have c241b1 : (t298 != 0) = true := bne_iff_ne.mpr c241
        obtain rfl := Option.some.inj H
        go_wp2_with (first | ((with_reducible refine gate_callee (f := 15) rfl ?_); refine goesL_ (some 117) rfl rfl Tryd.func15 (by kernel_rfl) rfl #[.string a1] rfl (by (try simp only [List.map_toArray, List.map_cons, List.map_nil]); first | done | rfl | (simp only [List.length_drop, List.length_take]; rfl)) ?_; (with_reducible refine (gens_Parse.calls kj4 a1 t284 t285 t286 t287 t288 t289 _ A234.out).mono ?_); rintro e w265 ⟨rfl, hb⟩; refine ⟨_, rfl, ?_⟩; have n0_ := Aside0.mk (blk_below (g := gb258) (o := .cells #[.int .u8 a0_0, .int .u16 a0_1, .int .u16 a0_2, .int .i64 a0_3] 42 (0, 0)) (by (with_reducible repeat (first | refine blk_drewN ?_ _ | refine blk_drew ?_ | refine blk_alloc ?_ _)); exact BK258.out) hb); have n1_ := Aside0.mk (below_step (by repeat (first | (with_reducible first | exact HB.out | apply below_alloc | apply pw_below_drewN | apply below_drew1 | refine below_set ?_ GE258.out) | exact HB.out)) hb); clear BK258; clear HB; have BK258 := n0_; have HB := n1_; clear n0_ n1_; (try clear hb); (try clear hb2); (try clear hk); (try clear hi)) | ((with_reducible refine gate_dst (N := 18) rfl ?_); (try (refine gate_guard (by rfl) ?_; dsimp only)); refine box_event ?hg (N := 18) ?hd (cs := #[.int .u8 0, .int .u16 0, .int .u16 0, .int .i64 0]) (t := 42) ?hr ?_; (case hd => rfl); (case hg => rfl); (case hr => first | (go_simp; done) | (go_simp; rfl)); intro gb290 hg w266 hbox hb; have n0_ := Aside0.mk (blk_below (g := gb258) (o := .cells #[.int .u8 a0_0, .int .u16 a0_1, .int .u16 a0_2, .int .i64 a0_3] 42 (0, 0)) (by (with_reducible repeat (first | refine blk_drewN ?_ _ | refine blk_drew ?_ | refine blk_alloc ?_ _)); exact BK258.out) hb); have n1_ := Aside0.mk (below_step (by repeat (first | (with_reducible first | exact HB.out | apply below_alloc | apply pw_below_drewN | apply below_drew1 | refine below_set ?_ GE258.out) | exact HB.out)) hb); have n2_ := Aside0.mk (hbox); have n3_ := Aside0.mk ((by rw [hg]; exact (below_size (by repeat (first | (with_reducible first | exact HB.out | apply below_alloc | apply pw_below_drewN | apply below_drew1 | refine below_set ?_ GE258.out) | exact HB.out))) : w.heap.size ≤ gb290)); have n4_ := Aside0.mk ((by rw [hg]; exact (below_size (by repeat (first | (with_reducible first | exact HB.out | apply below_alloc | apply pw_below_drewN | apply below_drew1 | refine below_set ?_ GE258.out) | exact HB.out))) : w.heap.size ≤ gb290)); have n5_ := Aside0.mk ((by rw [hg]; exact Nat.ne_of_lt (blk_lt (g := gb258) (o := .cells #[.int .u8 a0_0, .int .u16 a0_1, .int .u16 a0_2, .int .i64 a0_3] 42 (0, 0)) (by (with_reducible repeat (first | refine blk_drewN ?_ _ | refine blk_drew ?_ | refine blk_alloc ?_ _)); exact BK258.out)) : gb258 ≠ gb290)); have n6_ := Aside0.mk ((by rw [hg]; exact Nat.ne_of_gt (blk_lt (g := gb258) (o := .cells #[.int .u8 a0_0, .int .u16 a0_1, .int .u16 a0_2, .int .i64 a0_3] 42 (0, 0)) (by (with_reducible repeat (first | refine blk_drewN ?_ _ | refine blk_drew ?_ | refine blk_alloc ?_ _)); exact BK258.out)) : gb290 ≠ gb258)); clear BK258; clear HB; have BK258 := n0_; have HB := n1_; have BK290 := n2_; have GW290 := n3_; have GE290 := n4_; have NB258_290 := n5_; have NB290_258 := n6_; clear n0_ n1_ n2_ n3_ n4_ n5_ n6_; clear hb hbox hg; have hnb267 := NB290_258.out; have hnc267 := NB258_290.out; have hcz268_0 : w266.cell? ⟨gb290, 0, none⟩ = some (.int .u8 0) := (blk_cell BK290.out 0).trans rfl; have hcz268_1 : w266.cell? ⟨gb290, 1, none⟩ = some (.int .u16 0) := (blk_cell BK290.out 1).trans rfl; have hcz268_2 : w266.cell? ⟨gb290, 2, none⟩ = some (.int .u16 0) := (blk_cell BK290.out 2).trans rfl; have hcz268_3 : w266.cell? ⟨gb290, 3, none⟩ = some (.int .i64 0) := (blk_cell BK290.out 3).trans rfl; have hfz268_0 := blk_frozen BK290.out 0; have hfz268_1 := blk_frozen BK290.out 1; have hfz268_2 := blk_frozen BK290.out 2; have hfz268_3 := blk_frozen BK290.out 3) | ((with_reducible refine gate_callee (f := 16) rfl ?_); refine goesL_ (some 142) rfl rfl Tryd.func16 (by kernel_rfl) rfl #[.agg #[.int .u8 t284, .int .u16 t285, .int .u16 t286, .int .i64 t287]] rfl (by (try simp only [List.map_toArray, List.map_cons, List.map_nil]); first | done | rfl | (simp only [List.length_drop, List.length_take]; rfl)) ?_; (with_reducible refine (gens_Print.calls kj4 t284 t285 t286 t287 t291 t292 _ A236.out ?sidet).mono ?_); (case sidet => exact tabs_below HTb.out (by repeat (first | (with_reducible first | exact HB.out | apply below_alloc | apply pw_below_drewN | apply below_drew1 | refine below_set ?_ (Aside0.out (by assumption))) | exact HB.out))); rintro e w269 ⟨rfl, hb⟩; refine ⟨_, rfl, ?_⟩; have n0_ := Aside0.mk (blk_below (g := gb258) (o := .cells #[.int .u8 a0_0, .int .u16 a0_1, .int .u16 a0_2, .int .i64 a0_3] 42 (0, 0)) (by (with_reducible repeat (first | refine blk_drewN ?_ _ | refine blk_drew ?_ | refine blk_alloc ?_ _)); refine blk_far ?_ NB258_290.out _; (with_reducible repeat (first | refine blk_drewN ?_ _ | refine blk_drew ?_ | refine blk_alloc ?_ _)); refine blk_far ?_ NB258_290.out _; (with_reducible repeat (first | refine blk_drewN ?_ _ | refine blk_drew ?_ | refine blk_alloc ?_ _)); refine blk_far ?_ NB258_290.out _; (with_reducible repeat (first | refine blk_drewN ?_ _ | refine blk_drew ?_ | refine blk_alloc ?_ _)); refine blk_far ?_ NB258_290.out _; (with_reducible repeat (first | refine blk_drewN ?_ _ | refine blk_drew ?_ | refine blk_alloc ?_ _)); exact BK258.out) hb); have n1_ := Aside0.mk (blk_below (g := gb290) (o := .cells #[.int .u8 t284, .int .u16 t285, .int .u16 t286, .int .i64 t287] 42 (0, 0)) (by (with_reducible repeat (first | refine blk_drewN ?_ _ | refine blk_drew ?_ | refine blk_alloc ?_ _)); refine blk_put (cs := #[.int .u8 t284, .int .u16 t285, .int .u16 t286, .int .i64 0]) ?_ 3 _ rfl; (with_reducible repeat (first | refine blk_drewN ?_ _ | refine blk_drew ?_ | refine blk_alloc ?_ _)); refine blk_put (cs := #[.int .u8 t284, .int .u16 t285, .int .u16 0, .int .i64 0]) ?_ 2 _ rfl; (with_reducible repeat (first | refine blk_drewN ?_ _ | refine blk_drew ?_ | refine blk_alloc ?_ _)); refine blk_put (cs := #[.int .u8 t284, .int .u16 0, .int .u16 0, .int .i64 0]) ?_ 1 _ rfl; (with_reducible repeat (first | refine blk_drewN ?_ _ | refine blk_drew ?_ | refine blk_alloc ?_ _)); refine blk_put (cs := #[.int .u8 0, .int .u16 0, .int .u16 0, .int .i64 0]) ?_ 0 _ rfl; (with_reducible repeat (first | refine blk_drewN ?_ _ | refine blk_drew ?_ | refine blk_alloc ?_ _)); exact BK290.out) hb); have n2_ := Aside0.mk (below_step (by repeat (first | (with_reducible first | exact HB.out | apply below_alloc | apply pw_below_drewN | apply below_drew1 | refine below_set ?_ GE258.out | refine below_set ?_ GE290.out) | exact HB.out)) hb); clear BK258; clear BK290; clear HB; have BK258 := n0_; have BK290 := n1_; have HB := n2_; clear n0_ n1_ n2_; (try clear hb); (try clear hb2); (try clear hk); (try clear hi)) | ((with_reducible refine gate_callee (f := 15) rfl ?_); refine goesL_ (some 147) rfl rfl Tryd.func15 (by kernel_rfl) rfl #[.string t291] rfl (by (try simp only [List.map_toArray, List.map_cons, List.map_nil]); first | done | rfl | (simp only [List.length_drop, List.length_take]; rfl)) ?_; (with_reducible refine (gens_Parse.calls kj4 t291 t293 t294 t295 t296 t297 t298 _ A237.out).mono ?_); rintro e w270 ⟨rfl, hb⟩; refine ⟨_, rfl, ?_⟩; have n0_ := Aside0.mk (blk_below (g := gb258) (o := .cells #[.int .u8 a0_0, .int .u16 a0_1, .int .u16 a0_2, .int .i64 a0_3] 42 (0, 0)) (by (with_reducible repeat (first | refine blk_drewN ?_ _ | refine blk_drew ?_ | refine blk_alloc ?_ _)); exact BK258.out) hb); have n1_ := Aside0.mk (blk_below (g := gb290) (o := .cells #[.int .u8 t284, .int .u16 t285, .int .u16 t286, .int .i64 t287] 42 (0, 0)) (by (with_reducible repeat (first | refine blk_drewN ?_ _ | refine blk_drew ?_ | refine blk_alloc ?_ _)); exact BK290.out) hb); have n2_ := Aside0.mk (below_step (by repeat (first | (with_reducible first | exact HB.out | apply below_alloc | apply pw_below_drewN | apply below_drew1 | refine below_set ?_ GE258.out | refine below_set ?_ GE290.out) | exact HB.out)) hb); clear BK258; clear BK290; clear HB; have BK258 := n0_; have BK290 := n1_; have HB := n2_; clear n0_ n1_ n2_; (try clear hb); (try clear hb2); (try clear hk); (try clear hi)) | ((with_reducible refine gate_dst (N := 23) rfl ?_); (try (refine gate_guard (by rfl) ?_; dsimp only)); refine box_event ?hg (N := 23) ?hd (cs := #[.int .u8 0, .int .u16 0, .int .u16 0, .int .i64 0]) (t := 42) ?hr ?_; (case hd => rfl); (case hg => rfl); (case hr => first | (go_simp; done) | (go_simp; rfl)); intro gb299 hg w271 hbox hb; have n0_ := Aside0.mk (blk_below (g := gb258) (o := .cells #[.int .u8 a0_0, .int .u16 a0_1, .int .u16 a0_2, .int .i64 a0_3] 42 (0, 0)) (by (with_reducible repeat (first | refine blk_drewN ?_ _ | refine blk_drew ?_ | refine blk_alloc ?_ _)); exact BK258.out) hb); have n1_ := Aside0.mk (blk_below (g := gb290) (o := .cells #[.int .u8 t284, .int .u16 t285, .int .u16 t286, .int .i64 t287] 42 (0, 0)) (by (with_reducible repeat (first | refine blk_drewN ?_ _ | refine blk_drew ?_ | refine blk_alloc ?_ _)); exact BK290.out) hb); have n2_ := Aside0.mk (below_step (by repeat (first | (with_reducible first | exact HB.out | apply below_alloc | apply pw_below_drewN | apply below_drew1 | refine below_set ?_ GE258.out | refine below_set ?_ GE290.out) | exact HB.out)) hb); have n3_ := Aside0.mk (hbox); have n4_ := Aside0.mk ((by rw [hg]; exact (below_size (by repeat (first | (with_reducible first | exact HB.out | apply below_alloc | apply pw_below_drewN | apply below_drew1 | refine below_set ?_ GE258.out | refine below_set ?_ GE290.out) | exact HB.out))) : w.heap.size ≤ gb299)); have n5_ := Aside0.mk ((by rw [hg]; exact (below_size (by repeat (first | (with_reducible first | exact HB.out | apply below_alloc | apply pw_below_drewN | apply below_drew1 | refine below_set ?_ GE258.out | refine below_set ?_ GE290.out) | exact HB.out))) : w.heap.size ≤ gb299)); have n6_ := Aside0.mk ((by rw [hg]; exact Nat.ne_of_lt (blk_lt (g := gb258) (o := .cells #[.int .u8 a0_0, .int .u16 a0_1, .int .u16 a0_2, .int .i64 a0_3] 42 (0, 0)) (by (with_reducible repeat (first | refine blk_drewN ?_ _ | refine blk_drew ?_ | refine blk_alloc ?_ _)); exact BK258.out)) : gb258 ≠ gb299)); have n7_ := Aside0.mk ((by rw [hg]; exact Nat.ne_of_gt (blk_lt (g := gb258) (o := .cells #[.int .u8 a0_0, .int .u16 a0_1, .int .u16 a0_2, .int .i64 a0_3] 42 (0, 0)) (by (with_reducible repeat (first | refine blk_drewN ?_ _ | refine blk_drew ?_ | refine blk_alloc ?_ _)); exact BK258.out)) : gb299 ≠ gb258)); have n8_ := Aside0.mk ((by rw [hg]; exact Nat.ne_of_lt (blk_lt (g := gb290) (o := .cells #[.int .u8 t284, .int .u16 t285, .int .u16 t286, .int .i64 t287] 42 (0, 0)) (by (with_reducible repeat (first | refine blk_drewN ?_ _ | refine blk_drew ?_ | refine blk_alloc ?_ _)); exact BK290.out)) : gb290 ≠ gb299)); have n9_ := Aside0.mk ((by rw [hg]; exact Nat.ne_of_gt (blk_lt (g := gb290) (o := .cells #[.int .u8 t284, .int .u16 t285, .int .u16 t286, .int .i64 t287] 42 (0, 0)) (by (with_reducible repeat (first | refine blk_drewN ?_ _ | refine blk_drew ?_ | refine blk_alloc ?_ _)); exact BK290.out)) : gb299 ≠ gb290)); clear BK258; clear BK290; clear HB; have BK258 := n0_; have BK290 := n1_; have HB := n2_; have BK299 := n3_; have GW299 := n4_; have GE299 := n5_; have NB258_299 := n6_; have NB299_258 := n7_; have NB290_299 := n8_; have NB299_290 := n9_; clear n0_ n1_ n2_ n3_ n4_ n5_ n6_ n7_ n8_ n9_; clear hb hbox hg; have hnb272 := NB299_258.out; have hnc272 := NB258_299.out; have hnb273 := NB299_290.out; have hnc273 := NB290_299.out; have hcz274_0 : w271.cell? ⟨gb299, 0, none⟩ = some (.int .u8 0) := (blk_cell BK299.out 0).trans rfl; have hcz274_1 : w271.cell? ⟨gb299, 1, none⟩ = some (.int .u16 0) := (blk_cell BK299.out 1).trans rfl; have hcz274_2 : w271.cell? ⟨gb299, 2, none⟩ = some (.int .u16 0) := (blk_cell BK299.out 2).trans rfl; have hcz274_3 : w271.cell? ⟨gb299, 3, none⟩ = some (.int .i64 0) := (blk_cell BK299.out 3).trans rfl; have hfz274_0 := blk_frozen BK299.out 0; have hfz274_1 := blk_frozen BK299.out 1; have hfz274_2 := blk_frozen BK299.out 2; have hfz274_3 := blk_frozen BK299.out 3))
        go_ret
        exact ⟨by first | rfl | (simp [errW_none, errW_some] <;> rfl) | (simp [errW_none, errW_some] <;> exact (show ∀ l : List UInt8, l.isEmpty = !(l != []) from fun l => by cases l <;> rfl) _) | (simp [*, errW_none, errW_some] <;> rfl), by repeat (first | (with_reducible first | exact HB.out | apply below_alloc | apply pw_below_drewN | apply below_drew1 | refine below_set ?_ GE258.out | refine below_set ?_ GE290.out | refine below_set ?_ GE299.out) | exact HB.out)⟩
      ·rw [if_neg c240] at H
       have c240b0 : (t292 == 0) = false := beq_eq_false_iff_ne.mpr c240
       have c240b1 : (t292 != 0) = true := bne_iff_ne.mpr c240
       obtain rfl := Option.some.inj H
       go_wp2_with (first | ((with_reducible refine gate_callee (f := 15) rfl ?_); refine goesL_ (some 117) rfl rfl Tryd.func15 (by kernel_rfl) rfl #[.string a1] rfl (by (try simp only [List.map_toArray, List.map_cons, List.map_nil]); first | done | rfl | (simp only [List.length_drop, List.length_take]; rfl)) ?_; (with_reducible refine (gens_Parse.calls kj4 a1 t284 t285 t286 t287 t288 t289 _ A234.out).mono ?_); rintro e w275 ⟨rfl, hb⟩; refine ⟨_, rfl, ?_⟩; have n0_ := Aside0.mk (blk_below (g := gb258) (o := .cells #[.int .u8 a0_0, .int .u16 a0_1, .int .u16 a0_2, .int .i64 a0_3] 42 (0, 0)) (by (with_reducible repeat (first | refine blk_drewN ?_ _ | refine blk_drew ?_ | refine blk_alloc ?_ _)); exact BK258.out) hb); have n1_ := Aside0.mk (below_step (by repeat (first | (with_reducible first | exact HB.out | apply below_alloc | apply pw_below_drewN | apply below_drew1 | refine below_set ?_ GE258.out) | exact HB.out)) hb); clear BK258; clear HB; have BK258 := n0_; have HB := n1_; clear n0_ n1_; (try clear hb); (try clear hb2); (try clear hk); (try clear hi)) | ((with_reducible refine gate_dst (N := 18) rfl ?_); (try (refine gate_guard (by rfl) ?_; dsimp only)); refine box_event ?hg (N := 18) ?hd (cs := #[.int .u8 0, .int .u16 0, .int .u16 0, .int .i64 0]) (t := 42) ?hr ?_; (case hd => rfl); (case hg => rfl); (case hr => first | (go_simp; done) | (go_simp; rfl)); intro gb290 hg w276 hbox hb; have n0_ := Aside0.mk (blk_below (g := gb258) (o := .cells #[.int .u8 a0_0, .int .u16 a0_1, .int .u16 a0_2, .int .i64 a0_3] 42 (0, 0)) (by (with_reducible repeat (first | refine blk_drewN ?_ _ | refine blk_drew ?_ | refine blk_alloc ?_ _)); exact BK258.out) hb); have n1_ := Aside0.mk (below_step (by repeat (first | (with_reducible first | exact HB.out | apply below_alloc | apply pw_below_drewN | apply below_drew1 | refine below_set ?_ GE258.out) | exact HB.out)) hb); have n2_ := Aside0.mk (hbox); have n3_ := Aside0.mk ((by rw [hg]; exact (below_size (by repeat (first | (with_reducible first | exact HB.out | apply below_alloc | apply pw_below_drewN | apply below_drew1 | refine below_set ?_ GE258.out) | exact HB.out))) : w.heap.size ≤ gb290)); have n4_ := Aside0.mk ((by rw [hg]; exact (below_size (by repeat (first | (with_reducible first | exact HB.out | apply below_alloc | apply pw_below_drewN | apply below_drew1 | refine below_set ?_ GE258.out) | exact HB.out))) : w.heap.size ≤ gb290)); have n5_ := Aside0.mk ((by rw [hg]; exact Nat.ne_of_lt (blk_lt (g := gb258) (o := .cells #[.int .u8 a0_0, .int .u16 a0_1, .int .u16 a0_2, .int .i64 a0_3] 42 (0, 0)) (by (with_reducible repeat (first | refine blk_drewN ?_ _ | refine blk_drew ?_ | refine blk_alloc ?_ _)); exact BK258.out)) : gb258 ≠ gb290)); have n6_ := Aside0.mk ((by rw [hg]; exact Nat.ne_of_gt (blk_lt (g := gb258) (o := .cells #[.int .u8 a0_0, .int .u16 a0_1, .int .u16 a0_2, .int .i64 a0_3] 42 (0, 0)) (by (with_reducible repeat (first | refine blk_drewN ?_ _ | refine blk_drew ?_ | refine blk_alloc ?_ _)); exact BK258.out)) : gb290 ≠ gb258)); clear BK258; clear HB; have BK258 := n0_; have HB := n1_; have BK290 := n2_; have GW290 := n3_; have GE290 := n4_; have NB258_290 := n5_; have NB290_258 := n6_; clear n0_ n1_ n2_ n3_ n4_ n5_ n6_; clear hb hbox hg; have hnb277 := NB290_258.out; have hnc277 := NB258_290.out; have hcz278_0 : w276.cell? ⟨gb290, 0, none⟩ = some (.int .u8 0) := (blk_cell BK290.out 0).trans rfl; have hcz278_1 : w276.cell? ⟨gb290, 1, none⟩ = some (.int .u16 0) := (blk_cell BK290.out 1).trans rfl; have hcz278_2 : w276.cell? ⟨gb290, 2, none⟩ = some (.int .u16 0) := (blk_cell BK290.out 2).trans rfl; have hcz278_3 : w276.cell? ⟨gb290, 3, none⟩ = some (.int .i64 0) := (blk_cell BK290.out 3).trans rfl; have hfz278_0 := blk_frozen BK290.out 0; have hfz278_1 := blk_frozen BK290.out 1; have hfz278_2 := blk_frozen BK290.out 2; have hfz278_3 := blk_frozen BK290.out 3) | ((with_reducible refine gate_callee (f := 16) rfl ?_); refine goesL_ (some 142) rfl rfl Tryd.func16 (by kernel_rfl) rfl #[.agg #[.int .u8 t284, .int .u16 t285, .int .u16 t286, .int .i64 t287]] rfl (by (try simp only [List.map_toArray, List.map_cons, List.map_nil]); first | done | rfl | (simp only [List.length_drop, List.length_take]; rfl)) ?_; (with_reducible refine (gens_Print.calls kj4 t284 t285 t286 t287 t291 t292 _ A236.out ?sidet).mono ?_); (case sidet => exact tabs_below HTb.out (by repeat (first | (with_reducible first | exact HB.out | apply below_alloc | apply pw_below_drewN | apply below_drew1 | refine below_set ?_ (Aside0.out (by assumption))) | exact HB.out))); rintro e w279 ⟨rfl, hb⟩; refine ⟨_, rfl, ?_⟩; have n0_ := Aside0.mk (blk_below (g := gb258) (o := .cells #[.int .u8 a0_0, .int .u16 a0_1, .int .u16 a0_2, .int .i64 a0_3] 42 (0, 0)) (by (with_reducible repeat (first | refine blk_drewN ?_ _ | refine blk_drew ?_ | refine blk_alloc ?_ _)); refine blk_far ?_ NB258_290.out _; (with_reducible repeat (first | refine blk_drewN ?_ _ | refine blk_drew ?_ | refine blk_alloc ?_ _)); refine blk_far ?_ NB258_290.out _; (with_reducible repeat (first | refine blk_drewN ?_ _ | refine blk_drew ?_ | refine blk_alloc ?_ _)); refine blk_far ?_ NB258_290.out _; (with_reducible repeat (first | refine blk_drewN ?_ _ | refine blk_drew ?_ | refine blk_alloc ?_ _)); refine blk_far ?_ NB258_290.out _; (with_reducible repeat (first | refine blk_drewN ?_ _ | refine blk_drew ?_ | refine blk_alloc ?_ _)); exact BK258.out) hb); have n1_ := Aside0.mk (blk_below (g := gb290) (o := .cells #[.int .u8 t284, .int .u16 t285, .int .u16 t286, .int .i64 t287] 42 (0, 0)) (by (with_reducible repeat (first | refine blk_drewN ?_ _ | refine blk_drew ?_ | refine blk_alloc ?_ _)); refine blk_put (cs := #[.int .u8 t284, .int .u16 t285, .int .u16 t286, .int .i64 0]) ?_ 3 _ rfl; (with_reducible repeat (first | refine blk_drewN ?_ _ | refine blk_drew ?_ | refine blk_alloc ?_ _)); refine blk_put (cs := #[.int .u8 t284, .int .u16 t285, .int .u16 0, .int .i64 0]) ?_ 2 _ rfl; (with_reducible repeat (first | refine blk_drewN ?_ _ | refine blk_drew ?_ | refine blk_alloc ?_ _)); refine blk_put (cs := #[.int .u8 t284, .int .u16 0, .int .u16 0, .int .i64 0]) ?_ 1 _ rfl; (with_reducible repeat (first | refine blk_drewN ?_ _ | refine blk_drew ?_ | refine blk_alloc ?_ _)); refine blk_put (cs := #[.int .u8 0, .int .u16 0, .int .u16 0, .int .i64 0]) ?_ 0 _ rfl; (with_reducible repeat (first | refine blk_drewN ?_ _ | refine blk_drew ?_ | refine blk_alloc ?_ _)); exact BK290.out) hb); have n2_ := Aside0.mk (below_step (by repeat (first | (with_reducible first | exact HB.out | apply below_alloc | apply pw_below_drewN | apply below_drew1 | refine below_set ?_ GE258.out | refine below_set ?_ GE290.out) | exact HB.out)) hb); clear BK258; clear BK290; clear HB; have BK258 := n0_; have BK290 := n1_; have HB := n2_; clear n0_ n1_ n2_; (try clear hb); (try clear hb2); (try clear hk); (try clear hi)) | ((with_reducible refine gate_callee (f := 15) rfl ?_); refine goesL_ (some 147) rfl rfl Tryd.func15 (by kernel_rfl) rfl #[.string t291] rfl (by (try simp only [List.map_toArray, List.map_cons, List.map_nil]); first | done | rfl | (simp only [List.length_drop, List.length_take]; rfl)) ?_; (with_reducible refine (gens_Parse.calls kj4 t291 t293 t294 t295 t296 t297 t298 _ A237.out).mono ?_); rintro e w280 ⟨rfl, hb⟩; refine ⟨_, rfl, ?_⟩; have n0_ := Aside0.mk (blk_below (g := gb258) (o := .cells #[.int .u8 a0_0, .int .u16 a0_1, .int .u16 a0_2, .int .i64 a0_3] 42 (0, 0)) (by (with_reducible repeat (first | refine blk_drewN ?_ _ | refine blk_drew ?_ | refine blk_alloc ?_ _)); exact BK258.out) hb); have n1_ := Aside0.mk (blk_below (g := gb290) (o := .cells #[.int .u8 t284, .int .u16 t285, .int .u16 t286, .int .i64 t287] 42 (0, 0)) (by (with_reducible repeat (first | refine blk_drewN ?_ _ | refine blk_drew ?_ | refine blk_alloc ?_ _)); exact BK290.out) hb); have n2_ := Aside0.mk (below_step (by repeat (first | (with_reducible first | exact HB.out | apply below_alloc | apply pw_below_drewN | apply below_drew1 | refine below_set ?_ GE258.out | refine below_set ?_ GE290.out) | exact HB.out)) hb); clear BK258; clear BK290; clear HB; have BK258 := n0_; have BK290 := n1_; have HB := n2_; clear n0_ n1_ n2_; (try clear hb); (try clear hb2); (try clear hk); (try clear hi)) | ((with_reducible refine gate_dst (N := 23) rfl ?_); (try (refine gate_guard (by rfl) ?_; dsimp only)); refine box_event ?hg (N := 23) ?hd (cs := #[.int .u8 0, .int .u16 0, .int .u16 0, .int .i64 0]) (t := 42) ?hr ?_; (case hd => rfl); (case hg => rfl); (case hr => first | (go_simp; done) | (go_simp; rfl)); intro gb299 hg w281 hbox hb; have n0_ := Aside0.mk (blk_below (g := gb258) (o := .cells #[.int .u8 a0_0, .int .u16 a0_1, .int .u16 a0_2, .int .i64 a0_3] 42 (0, 0)) (by (with_reducible repeat (first | refine blk_drewN ?_ _ | refine blk_drew ?_ | refine blk_alloc ?_ _)); exact BK258.out) hb); have n1_ := Aside0.mk (blk_below (g := gb290) (o := .cells #[.int .u8 t284, .int .u16 t285, .int .u16 t286, .int .i64 t287] 42 (0, 0)) (by (with_reducible repeat (first | refine blk_drewN ?_ _ | refine blk_drew ?_ | refine blk_alloc ?_ _)); exact BK290.out) hb); have n2_ := Aside0.mk (below_step (by repeat (first | (with_reducible first | exact HB.out | apply below_alloc | apply pw_below_drewN | apply below_drew1 | refine below_set ?_ GE258.out | refine below_set ?_ GE290.out) | exact HB.out)) hb); have n3_ := Aside0.mk (hbox); have n4_ := Aside0.mk ((by rw [hg]; exact (below_size (by repeat (first | (with_reducible first | exact HB.out | apply below_alloc | apply pw_below_drewN | apply below_drew1 | refine below_set ?_ GE258.out | refine below_set ?_ GE290.out) | exact HB.out))) : w.heap.size ≤ gb299)); have n5_ := Aside0.mk ((by rw [hg]; exact (below_size (by repeat (first | (with_reducible first | exact HB.out | apply below_alloc | apply pw_below_drewN | apply below_drew1 | refine below_set ?_ GE258.out | refine below_set ?_ GE290.out) | exact HB.out))) : w.heap.size ≤ gb299)); have n6_ := Aside0.mk ((by rw [hg]; exact Nat.ne_of_lt (blk_lt (g := gb258) (o := .cells #[.int .u8 a0_0, .int .u16 a0_1, .int .u16 a0_2, .int .i64 a0_3] 42 (0, 0)) (by (with_reducible repeat (first | refine blk_drewN ?_ _ | refine blk_drew ?_ | refine blk_alloc ?_ _)); exact BK258.out)) : gb258 ≠ gb299)); have n7_ := Aside0.mk ((by rw [hg]; exact Nat.ne_of_gt (blk_lt (g := gb258) (o := .cells #[.int .u8 a0_0, .int .u16 a0_1, .int .u16 a0_2, .int .i64 a0_3] 42 (0, 0)) (by (with_reducible repeat (first | refine blk_drewN ?_ _ | refine blk_drew ?_ | refine blk_alloc ?_ _)); exact BK258.out)) : gb299 ≠ gb258)); have n8_ := Aside0.mk ((by rw [hg]; exact Nat.ne_of_lt (blk_lt (g := gb290) (o := .cells #[.int .u8 t284, .int .u16 t285, .int .u16 t286, .int .i64 t287] 42 (0, 0)) (by (with_reducible repeat (first | refine blk_drewN ?_ _ | refine blk_drew ?_ | refine blk_alloc ?_ _)); exact BK290.out)) : gb290 ≠ gb299)); have n9_ := Aside0.mk ((by rw [hg]; exact Nat.ne_of_gt (blk_lt (g := gb290) (o := .cells #[.int .u8 t284, .int .u16 t285, .int .u16 t286, .int .i64 t287] 42 (0, 0)) (by (with_reducible repeat (first | refine blk_drewN ?_ _ | refine blk_drew ?_ | refine blk_alloc ?_ _)); exact BK290.out)) : gb299 ≠ gb290)); clear BK258; clear BK290; clear HB; have BK258 := n0_; have BK290 := n1_; have HB := n2_; have BK299 := n3_; have GW299 := n4_; have GE299 := n5_; have NB258_299 := n6_; have NB299_258 := n7_; have NB290_299 := n8_; have NB299_290 := n9_; clear n0_ n1_ n2_ n3_ n4_ n5_ n6_ n7_ n8_ n9_; clear hb hbox hg; have hnb282 := NB299_258.out; have hnc282 := NB258_299.out; have hnb283 := NB299_290.out; have hnc283 := NB290_299.out; have hcz284_0 : w281.cell? ⟨gb299, 0, none⟩ = some (.int .u8 0) := (blk_cell BK299.out 0).trans rfl; have hcz284_1 : w281.cell? ⟨gb299, 1, none⟩ = some (.int .u16 0) := (blk_cell BK299.out 1).trans rfl; have hcz284_2 : w281.cell? ⟨gb299, 2, none⟩ = some (.int .u16 0) := (blk_cell BK299.out 2).trans rfl; have hcz284_3 : w281.cell? ⟨gb299, 3, none⟩ = some (.int .i64 0) := (blk_cell BK299.out 3).trans rfl; have hfz284_0 := blk_frozen BK299.out 0; have hfz284_1 := blk_frozen BK299.out 1; have hfz284_2 := blk_frozen BK299.out 2; have hfz284_3 := blk_frozen BK299.out 3))
       go_ret
       exact ⟨by first | rfl | (simp [errW_none, errW_some] <;> rfl) | (simp [errW_none, errW_some] <;> exact (show ∀ l : List UInt8, l.isEmpty = !(l != []) from fun l => by cases l <;> rfl) _) | (simp [*, errW_none, errW_some] <;> rfl), by repeat (first | (with_reducible first | exact HB.out | apply below_alloc | apply pw_below_drewN | apply below_drew1 | refine below_set ?_ GE258.out | refine below_set ?_ GE290.out | refine below_set ?_ GE299.out) | exact HB.out)⟩
     ·rw [if_neg c239] at H
      have c239b0 : (t288 == 0) = false := beq_eq_false_iff_ne.mpr c239
      have c239b1 : (t288 != 0) = true := bne_iff_ne.mpr c239
      obtain rfl := Option.some.inj H
      go_wp2_with (first | ((with_reducible refine gate_callee (f := 15) rfl ?_); refine goesL_ (some 117) rfl rfl Tryd.func15 (by kernel_rfl) rfl #[.string a1] rfl (by (try simp only [List.map_toArray, List.map_cons, List.map_nil]); first | done | rfl | (simp only [List.length_drop, List.length_take]; rfl)) ?_; (with_reducible refine (gens_Parse.calls kj4 a1 t284 t285 t286 t287 t288 t289 _ A234.out).mono ?_); rintro e w285 ⟨rfl, hb⟩; refine ⟨_, rfl, ?_⟩; have n0_ := Aside0.mk (blk_below (g := gb258) (o := .cells #[.int .u8 a0_0, .int .u16 a0_1, .int .u16 a0_2, .int .i64 a0_3] 42 (0, 0)) (by (with_reducible repeat (first | refine blk_drewN ?_ _ | refine blk_drew ?_ | refine blk_alloc ?_ _)); exact BK258.out) hb); have n1_ := Aside0.mk (below_step (by repeat (first | (with_reducible first | exact HB.out | apply below_alloc | apply pw_below_drewN | apply below_drew1 | refine below_set ?_ GE258.out) | exact HB.out)) hb); clear BK258; clear HB; have BK258 := n0_; have HB := n1_; clear n0_ n1_; (try clear hb); (try clear hb2); (try clear hk); (try clear hi)) | ((with_reducible refine gate_dst (N := 18) rfl ?_); (try (refine gate_guard (by rfl) ?_; dsimp only)); refine box_event ?hg (N := 18) ?hd (cs := #[.int .u8 0, .int .u16 0, .int .u16 0, .int .i64 0]) (t := 42) ?hr ?_; (case hd => rfl); (case hg => rfl); (case hr => first | (go_simp; done) | (go_simp; rfl)); intro gb290 hg w286 hbox hb; have n0_ := Aside0.mk (blk_below (g := gb258) (o := .cells #[.int .u8 a0_0, .int .u16 a0_1, .int .u16 a0_2, .int .i64 a0_3] 42 (0, 0)) (by (with_reducible repeat (first | refine blk_drewN ?_ _ | refine blk_drew ?_ | refine blk_alloc ?_ _)); exact BK258.out) hb); have n1_ := Aside0.mk (below_step (by repeat (first | (with_reducible first | exact HB.out | apply below_alloc | apply pw_below_drewN | apply below_drew1 | refine below_set ?_ GE258.out) | exact HB.out)) hb); have n2_ := Aside0.mk (hbox); have n3_ := Aside0.mk ((by rw [hg]; exact (below_size (by repeat (first | (with_reducible first | exact HB.out | apply below_alloc | apply pw_below_drewN | apply below_drew1 | refine below_set ?_ GE258.out) | exact HB.out))) : w.heap.size ≤ gb290)); have n4_ := Aside0.mk ((by rw [hg]; exact (below_size (by repeat (first | (with_reducible first | exact HB.out | apply below_alloc | apply pw_below_drewN | apply below_drew1 | refine below_set ?_ GE258.out) | exact HB.out))) : w.heap.size ≤ gb290)); have n5_ := Aside0.mk ((by rw [hg]; exact Nat.ne_of_lt (blk_lt (g := gb258) (o := .cells #[.int .u8 a0_0, .int .u16 a0_1, .int .u16 a0_2, .int .i64 a0_3] 42 (0, 0)) (by (with_reducible repeat (first | refine blk_drewN ?_ _ | refine blk_drew ?_ | refine blk_alloc ?_ _)); exact BK258.out)) : gb258 ≠ gb290)); have n6_ := Aside0.mk ((by rw [hg]; exact Nat.ne_of_gt (blk_lt (g := gb258) (o := .cells #[.int .u8 a0_0, .int .u16 a0_1, .int .u16 a0_2, .int .i64 a0_3] 42 (0, 0)) (by (with_reducible repeat (first | refine blk_drewN ?_ _ | refine blk_drew ?_ | refine blk_alloc ?_ _)); exact BK258.out)) : gb290 ≠ gb258)); clear BK258; clear HB; have BK258 := n0_; have HB := n1_; have BK290 := n2_; have GW290 := n3_; have GE290 := n4_; have NB258_290 := n5_; have NB290_258 := n6_; clear n0_ n1_ n2_ n3_ n4_ n5_ n6_; clear hb hbox hg; have hnb287 := NB290_258.out; have hnc287 := NB258_290.out; have hcz288_0 : w286.cell? ⟨gb290, 0, none⟩ = some (.int .u8 0) := (blk_cell BK290.out 0).trans rfl; have hcz288_1 : w286.cell? ⟨gb290, 1, none⟩ = some (.int .u16 0) := (blk_cell BK290.out 1).trans rfl; have hcz288_2 : w286.cell? ⟨gb290, 2, none⟩ = some (.int .u16 0) := (blk_cell BK290.out 2).trans rfl; have hcz288_3 : w286.cell? ⟨gb290, 3, none⟩ = some (.int .i64 0) := (blk_cell BK290.out 3).trans rfl; have hfz288_0 := blk_frozen BK290.out 0; have hfz288_1 := blk_frozen BK290.out 1; have hfz288_2 := blk_frozen BK290.out 2; have hfz288_3 := blk_frozen BK290.out 3) | ((with_reducible refine gate_callee (f := 16) rfl ?_); refine goesL_ (some 142) rfl rfl Tryd.func16 (by kernel_rfl) rfl #[.agg #[.int .u8 t284, .int .u16 t285, .int .u16 t286, .int .i64 t287]] rfl (by (try simp only [List.map_toArray, List.map_cons, List.map_nil]); first | done | rfl | (simp only [List.length_drop, List.length_take]; rfl)) ?_; (with_reducible refine (gens_Print.calls kj4 t284 t285 t286 t287 t291 t292 _ A236.out ?sidet).mono ?_); (case sidet => exact tabs_below HTb.out (by repeat (first | (with_reducible first | exact HB.out | apply below_alloc | apply pw_below_drewN | apply below_drew1 | refine below_set ?_ (Aside0.out (by assumption))) | exact HB.out))); rintro e w289 ⟨rfl, hb⟩; refine ⟨_, rfl, ?_⟩; have n0_ := Aside0.mk (blk_below (g := gb258) (o := .cells #[.int .u8 a0_0, .int .u16 a0_1, .int .u16 a0_2, .int .i64 a0_3] 42 (0, 0)) (by (with_reducible repeat (first | refine blk_drewN ?_ _ | refine blk_drew ?_ | refine blk_alloc ?_ _)); refine blk_far ?_ NB258_290.out _; (with_reducible repeat (first | refine blk_drewN ?_ _ | refine blk_drew ?_ | refine blk_alloc ?_ _)); refine blk_far ?_ NB258_290.out _; (with_reducible repeat (first | refine blk_drewN ?_ _ | refine blk_drew ?_ | refine blk_alloc ?_ _)); refine blk_far ?_ NB258_290.out _; (with_reducible repeat (first | refine blk_drewN ?_ _ | refine blk_drew ?_ | refine blk_alloc ?_ _)); refine blk_far ?_ NB258_290.out _; (with_reducible repeat (first | refine blk_drewN ?_ _ | refine blk_drew ?_ | refine blk_alloc ?_ _)); exact BK258.out) hb); have n1_ := Aside0.mk (blk_below (g := gb290) (o := .cells #[.int .u8 t284, .int .u16 t285, .int .u16 t286, .int .i64 t287] 42 (0, 0)) (by (with_reducible repeat (first | refine blk_drewN ?_ _ | refine blk_drew ?_ | refine blk_alloc ?_ _)); refine blk_put (cs := #[.int .u8 t284, .int .u16 t285, .int .u16 t286, .int .i64 0]) ?_ 3 _ rfl; (with_reducible repeat (first | refine blk_drewN ?_ _ | refine blk_drew ?_ | refine blk_alloc ?_ _)); refine blk_put (cs := #[.int .u8 t284, .int .u16 t285, .int .u16 0, .int .i64 0]) ?_ 2 _ rfl; (with_reducible repeat (first | refine blk_drewN ?_ _ | refine blk_drew ?_ | refine blk_alloc ?_ _)); refine blk_put (cs := #[.int .u8 t284, .int .u16 0, .int .u16 0, .int .i64 0]) ?_ 1 _ rfl; (with_reducible repeat (first | refine blk_drewN ?_ _ | refine blk_drew ?_ | refine blk_alloc ?_ _)); refine blk_put (cs := #[.int .u8 0, .int .u16 0, .int .u16 0, .int .i64 0]) ?_ 0 _ rfl; (with_reducible repeat (first | refine blk_drewN ?_ _ | refine blk_drew ?_ | refine blk_alloc ?_ _)); exact BK290.out) hb); have n2_ := Aside0.mk (below_step (by repeat (first | (with_reducible first | exact HB.out | apply below_alloc | apply pw_below_drewN | apply below_drew1 | refine below_set ?_ GE258.out | refine below_set ?_ GE290.out) | exact HB.out)) hb); clear BK258; clear BK290; clear HB; have BK258 := n0_; have BK290 := n1_; have HB := n2_; clear n0_ n1_ n2_; (try clear hb); (try clear hb2); (try clear hk); (try clear hi)) | ((with_reducible refine gate_callee (f := 15) rfl ?_); refine goesL_ (some 147) rfl rfl Tryd.func15 (by kernel_rfl) rfl #[.string t291] rfl (by (try simp only [List.map_toArray, List.map_cons, List.map_nil]); first | done | rfl | (simp only [List.length_drop, List.length_take]; rfl)) ?_; (with_reducible refine (gens_Parse.calls kj4 t291 t293 t294 t295 t296 t297 t298 _ A237.out).mono ?_); rintro e w290 ⟨rfl, hb⟩; refine ⟨_, rfl, ?_⟩; have n0_ := Aside0.mk (blk_below (g := gb258) (o := .cells #[.int .u8 a0_0, .int .u16 a0_1, .int .u16 a0_2, .int .i64 a0_3] 42 (0, 0)) (by (with_reducible repeat (first | refine blk_drewN ?_ _ | refine blk_drew ?_ | refine blk_alloc ?_ _)); exact BK258.out) hb); have n1_ := Aside0.mk (blk_below (g := gb290) (o := .cells #[.int .u8 t284, .int .u16 t285, .int .u16 t286, .int .i64 t287] 42 (0, 0)) (by (with_reducible repeat (first | refine blk_drewN ?_ _ | refine blk_drew ?_ | refine blk_alloc ?_ _)); exact BK290.out) hb); have n2_ := Aside0.mk (below_step (by repeat (first | (with_reducible first | exact HB.out | apply below_alloc | apply pw_below_drewN | apply below_drew1 | refine below_set ?_ GE258.out | refine below_set ?_ GE290.out) | exact HB.out)) hb); clear BK258; clear BK290; clear HB; have BK258 := n0_; have BK290 := n1_; have HB := n2_; clear n0_ n1_ n2_; (try clear hb); (try clear hb2); (try clear hk); (try clear hi)) | ((with_reducible refine gate_dst (N := 23) rfl ?_); (try (refine gate_guard (by rfl) ?_; dsimp only)); refine box_event ?hg (N := 23) ?hd (cs := #[.int .u8 0, .int .u16 0, .int .u16 0, .int .i64 0]) (t := 42) ?hr ?_; (case hd => rfl); (case hg => rfl); (case hr => first | (go_simp; done) | (go_simp; rfl)); intro gb299 hg w291 hbox hb; have n0_ := Aside0.mk (blk_below (g := gb258) (o := .cells #[.int .u8 a0_0, .int .u16 a0_1, .int .u16 a0_2, .int .i64 a0_3] 42 (0, 0)) (by (with_reducible repeat (first | refine blk_drewN ?_ _ | refine blk_drew ?_ | refine blk_alloc ?_ _)); exact BK258.out) hb); have n1_ := Aside0.mk (blk_below (g := gb290) (o := .cells #[.int .u8 t284, .int .u16 t285, .int .u16 t286, .int .i64 t287] 42 (0, 0)) (by (with_reducible repeat (first | refine blk_drewN ?_ _ | refine blk_drew ?_ | refine blk_alloc ?_ _)); exact BK290.out) hb); have n2_ := Aside0.mk (below_step (by repeat (first | (with_reducible first | exact HB.out | apply below_alloc | apply pw_below_drewN | apply below_drew1 | refine below_set ?_ GE258.out | refine below_set ?_ GE290.out) | exact HB.out)) hb); have n3_ := Aside0.mk (hbox); have n4_ := Aside0.mk ((by rw [hg]; exact (below_size (by repeat (first | (with_reducible first | exact HB.out | apply below_alloc | apply pw_below_drewN | apply below_drew1 | refine below_set ?_ GE258.out | refine below_set ?_ GE290.out) | exact HB.out))) : w.heap.size ≤ gb299)); have n5_ := Aside0.mk ((by rw [hg]; exact (below_size (by repeat (first | (with_reducible first | exact HB.out | apply below_alloc | apply pw_below_drewN | apply below_drew1 | refine below_set ?_ GE258.out | refine below_set ?_ GE290.out) | exact HB.out))) : w.heap.size ≤ gb299)); have n6_ := Aside0.mk ((by rw [hg]; exact Nat.ne_of_lt (blk_lt (g := gb258) (o := .cells #[.int .u8 a0_0, .int .u16 a0_1, .int .u16 a0_2, .int .i64 a0_3] 42 (0, 0)) (by (with_reducible repeat (first | refine blk_drewN ?_ _ | refine blk_drew ?_ | refine blk_alloc ?_ _)); exact BK258.out)) : gb258 ≠ gb299)); have n7_ := Aside0.mk ((by rw [hg]; exact Nat.ne_of_gt (blk_lt (g := gb258) (o := .cells #[.int .u8 a0_0, .int .u16 a0_1, .int .u16 a0_2, .int .i64 a0_3] 42 (0, 0)) (by (with_reducible repeat (first | refine blk_drewN ?_ _ | refine blk_drew ?_ | refine blk_alloc ?_ _)); exact BK258.out)) : gb299 ≠ gb258)); have n8_ := Aside0.mk ((by rw [hg]; exact Nat.ne_of_lt (blk_lt (g := gb290) (o := .cells #[.int .u8 t284, .int .u16 t285, .int .u16 t286, .int .i64 t287] 42 (0, 0)) (by (with_reducible repeat (first | refine blk_drewN ?_ _ | refine blk_drew ?_ | refine blk_alloc ?_ _)); exact BK290.out)) : gb290 ≠ gb299)); have n9_ := Aside0.mk ((by rw [hg]; exact Nat.ne_of_gt (blk_lt (g := gb290) (o := .cells #[.int .u8 t284, .int .u16 t285, .int .u16 t286, .int .i64 t287] 42 (0, 0)) (by (with_reducible repeat (first | refine blk_drewN ?_ _ | refine blk_drew ?_ | refine blk_alloc ?_ _)); exact BK290.out)) : gb299 ≠ gb290)); clear BK258; clear BK290; clear HB; have BK258 := n0_; have BK290 := n1_; have HB := n2_; have BK299 := n3_; have GW299 := n4_; have GE299 := n5_; have NB258_299 := n6_; have NB299_258 := n7_; have NB290_299 := n8_; have NB299_290 := n9_; clear n0_ n1_ n2_ n3_ n4_ n5_ n6_ n7_ n8_ n9_; clear hb hbox hg; have hnb292 := NB299_258.out; have hnc292 := NB258_299.out; have hnb293 := NB299_290.out; have hnc293 := NB290_299.out; have hcz294_0 : w291.cell? ⟨gb299, 0, none⟩ = some (.int .u8 0) := (blk_cell BK299.out 0).trans rfl; have hcz294_1 : w291.cell? ⟨gb299, 1, none⟩ = some (.int .u16 0) := (blk_cell BK299.out 1).trans rfl; have hcz294_2 : w291.cell? ⟨gb299, 2, none⟩ = some (.int .u16 0) := (blk_cell BK299.out 2).trans rfl; have hcz294_3 : w291.cell? ⟨gb299, 3, none⟩ = some (.int .i64 0) := (blk_cell BK299.out 3).trans rfl; have hfz294_0 := blk_frozen BK299.out 0; have hfz294_1 := blk_frozen BK299.out 1; have hfz294_2 := blk_frozen BK299.out 2; have hfz294_3 := blk_frozen BK299.out 3))
      go_ret
      exact ⟨by first | rfl | (simp [errW_none, errW_some] <;> rfl) | (simp [errW_none, errW_some] <;> exact (show ∀ l : List UInt8, l.isEmpty = !(l != []) from fun l => by cases l <;> rfl) _) | (simp [*, errW_none, errW_some] <;> rfl), by repeat (first | (with_reducible first | exact HB.out | apply below_alloc | apply pw_below_drewN | apply below_drew1 | refine below_set ?_ GE258.out | refine below_set ?_ GE290.out | refine below_set ?_ GE299.out) | exact HB.out)⟩
    ·replace c238 := Bool.eq_false_iff.mpr c238
     subst c238
     have H1 : (some false) = some r := by rw [if_neg (show ¬ (false = true) by decide)] at H; exact H
     clear H
     have H := H1
     clear H1
     obtain rfl := Option.some.inj H
     go_wp2_with (first | ((with_reducible refine gate_callee (f := 15) rfl ?_); refine goesL_ (some 117) rfl rfl Tryd.func15 (by kernel_rfl) rfl #[.string a1] rfl (by (try simp only [List.map_toArray, List.map_cons, List.map_nil]); first | done | rfl | (simp only [List.length_drop, List.length_take]; rfl)) ?_; (with_reducible refine (gens_Parse.calls kj4 a1 t284 t285 t286 t287 t288 t289 _ A234.out).mono ?_); rintro e w295 ⟨rfl, hb⟩; refine ⟨_, rfl, ?_⟩; have n0_ := Aside0.mk (blk_below (g := gb258) (o := .cells #[.int .u8 a0_0, .int .u16 a0_1, .int .u16 a0_2, .int .i64 a0_3] 42 (0, 0)) (by (with_reducible repeat (first | refine blk_drewN ?_ _ | refine blk_drew ?_ | refine blk_alloc ?_ _)); exact BK258.out) hb); have n1_ := Aside0.mk (below_step (by repeat (first | (with_reducible first | exact HB.out | apply below_alloc | apply pw_below_drewN | apply below_drew1 | refine below_set ?_ GE258.out) | exact HB.out)) hb); clear BK258; clear HB; have BK258 := n0_; have HB := n1_; clear n0_ n1_; (try clear hb); (try clear hb2); (try clear hk); (try clear hi)) | ((with_reducible refine gate_dst (N := 18) rfl ?_); (try (refine gate_guard (by rfl) ?_; dsimp only)); refine box_event ?hg (N := 18) ?hd (cs := #[.int .u8 0, .int .u16 0, .int .u16 0, .int .i64 0]) (t := 42) ?hr ?_; (case hd => rfl); (case hg => rfl); (case hr => first | (go_simp; done) | (go_simp; rfl)); intro gb290 hg w296 hbox hb; have n0_ := Aside0.mk (blk_below (g := gb258) (o := .cells #[.int .u8 a0_0, .int .u16 a0_1, .int .u16 a0_2, .int .i64 a0_3] 42 (0, 0)) (by (with_reducible repeat (first | refine blk_drewN ?_ _ | refine blk_drew ?_ | refine blk_alloc ?_ _)); exact BK258.out) hb); have n1_ := Aside0.mk (below_step (by repeat (first | (with_reducible first | exact HB.out | apply below_alloc | apply pw_below_drewN | apply below_drew1 | refine below_set ?_ GE258.out) | exact HB.out)) hb); have n2_ := Aside0.mk (hbox); have n3_ := Aside0.mk ((by rw [hg]; exact (below_size (by repeat (first | (with_reducible first | exact HB.out | apply below_alloc | apply pw_below_drewN | apply below_drew1 | refine below_set ?_ GE258.out) | exact HB.out))) : w.heap.size ≤ gb290)); have n4_ := Aside0.mk ((by rw [hg]; exact (below_size (by repeat (first | (with_reducible first | exact HB.out | apply below_alloc | apply pw_below_drewN | apply below_drew1 | refine below_set ?_ GE258.out) | exact HB.out))) : w.heap.size ≤ gb290)); have n5_ := Aside0.mk ((by rw [hg]; exact Nat.ne_of_lt (blk_lt (g := gb258) (o := .cells #[.int .u8 a0_0, .int .u16 a0_1, .int .u16 a0_2, .int .i64 a0_3] 42 (0, 0)) (by (with_reducible repeat (first | refine blk_drewN ?_ _ | refine blk_drew ?_ | refine blk_alloc ?_ _)); exact BK258.out)) : gb258 ≠ gb290)); have n6_ := Aside0.mk ((by rw [hg]; exact Nat.ne_of_gt (blk_lt (g := gb258) (o := .cells #[.int .u8 a0_0, .int .u16 a0_1, .int .u16 a0_2, .int .i64 a0_3] 42 (0, 0)) (by (with_reducible repeat (first | refine blk_drewN ?_ _ | refine blk_drew ?_ | refine blk_alloc ?_ _)); exact BK258.out)) : gb290 ≠ gb258)); clear BK258; clear HB; have BK258 := n0_; have HB := n1_; have BK290 := n2_; have GW290 := n3_; have GE290 := n4_; have NB258_290 := n5_; have NB290_258 := n6_; clear n0_ n1_ n2_ n3_ n4_ n5_ n6_; clear hb hbox hg; have hnb297 := NB290_258.out; have hnc297 := NB258_290.out; have hcz298_0 : w296.cell? ⟨gb290, 0, none⟩ = some (.int .u8 0) := (blk_cell BK290.out 0).trans rfl; have hcz298_1 : w296.cell? ⟨gb290, 1, none⟩ = some (.int .u16 0) := (blk_cell BK290.out 1).trans rfl; have hcz298_2 : w296.cell? ⟨gb290, 2, none⟩ = some (.int .u16 0) := (blk_cell BK290.out 2).trans rfl; have hcz298_3 : w296.cell? ⟨gb290, 3, none⟩ = some (.int .i64 0) := (blk_cell BK290.out 3).trans rfl; have hfz298_0 := blk_frozen BK290.out 0; have hfz298_1 := blk_frozen BK290.out 1; have hfz298_2 := blk_frozen BK290.out 2; have hfz298_3 := blk_frozen BK290.out 3) | ((with_reducible refine gate_callee (f := 16) rfl ?_); refine goesL_ (some 142) rfl rfl Tryd.func16 (by kernel_rfl) rfl #[.agg #[.int .u8 t284, .int .u16 t285, .int .u16 t286, .int .i64 t287]] rfl (by (try simp only [List.map_toArray, List.map_cons, List.map_nil]); first | done | rfl | (simp only [List.length_drop, List.length_take]; rfl)) ?_; (with_reducible refine (gens_Print.calls kj4 t284 t285 t286 t287 t291 t292 _ A236.out ?sidet).mono ?_); (case sidet => exact tabs_below HTb.out (by repeat (first | (with_reducible first | exact HB.out | apply below_alloc | apply pw_below_drewN | apply below_drew1 | refine below_set ?_ (Aside0.out (by assumption))) | exact HB.out))); rintro e w299 ⟨rfl, hb⟩; refine ⟨_, rfl, ?_⟩; have n0_ := Aside0.mk (blk_below (g := gb258) (o := .cells #[.int .u8 a0_0, .int .u16 a0_1, .int .u16 a0_2, .int .i64 a0_3] 42 (0, 0)) (by (with_reducible repeat (first | refine blk_drewN ?_ _ | refine blk_drew ?_ | refine blk_alloc ?_ _)); refine blk_far ?_ NB258_290.out _; (with_reducible repeat (first | refine blk_drewN ?_ _ | refine blk_drew ?_ | refine blk_alloc ?_ _)); refine blk_far ?_ NB258_290.out _; (with_reducible repeat (first | refine blk_drewN ?_ _ | refine blk_drew ?_ | refine blk_alloc ?_ _)); refine blk_far ?_ NB258_290.out _; (with_reducible repeat (first | refine blk_drewN ?_ _ | refine blk_drew ?_ | refine blk_alloc ?_ _)); refine blk_far ?_ NB258_290.out _; (with_reducible repeat (first | refine blk_drewN ?_ _ | refine blk_drew ?_ | refine blk_alloc ?_ _)); exact BK258.out) hb); have n1_ := Aside0.mk (blk_below (g := gb290) (o := .cells #[.int .u8 t284, .int .u16 t285, .int .u16 t286, .int .i64 t287] 42 (0, 0)) (by (with_reducible repeat (first | refine blk_drewN ?_ _ | refine blk_drew ?_ | refine blk_alloc ?_ _)); refine blk_put (cs := #[.int .u8 t284, .int .u16 t285, .int .u16 t286, .int .i64 0]) ?_ 3 _ rfl; (with_reducible repeat (first | refine blk_drewN ?_ _ | refine blk_drew ?_ | refine blk_alloc ?_ _)); refine blk_put (cs := #[.int .u8 t284, .int .u16 t285, .int .u16 0, .int .i64 0]) ?_ 2 _ rfl; (with_reducible repeat (first | refine blk_drewN ?_ _ | refine blk_drew ?_ | refine blk_alloc ?_ _)); refine blk_put (cs := #[.int .u8 t284, .int .u16 0, .int .u16 0, .int .i64 0]) ?_ 1 _ rfl; (with_reducible repeat (first | refine blk_drewN ?_ _ | refine blk_drew ?_ | refine blk_alloc ?_ _)); refine blk_put (cs := #[.int .u8 0, .int .u16 0, .int .u16 0, .int .i64 0]) ?_ 0 _ rfl; (with_reducible repeat (first | refine blk_drewN ?_ _ | refine blk_drew ?_ | refine blk_alloc ?_ _)); exact BK290.out) hb); have n2_ := Aside0.mk (below_step (by repeat (first | (with_reducible first | exact HB.out | apply below_alloc | apply pw_below_drewN | apply below_drew1 | refine below_set ?_ GE258.out | refine below_set ?_ GE290.out) | exact HB.out)) hb); clear BK258; clear BK290; clear HB; have BK258 := n0_; have BK290 := n1_; have HB := n2_; clear n0_ n1_ n2_; (try clear hb); (try clear hb2); (try clear hk); (try clear hi)) | ((with_reducible refine gate_callee (f := 15) rfl ?_); refine goesL_ (some 147) rfl rfl Tryd.func15 (by kernel_rfl) rfl #[.string t291] rfl (by (try simp only [List.map_toArray, List.map_cons, List.map_nil]); first | done | rfl | (simp only [List.length_drop, List.length_take]; rfl)) ?_; (with_reducible refine (gens_Parse.calls kj4 t291 t293 t294 t295 t296 t297 t298 _ A237.out).mono ?_); rintro e w300 ⟨rfl, hb⟩; refine ⟨_, rfl, ?_⟩; have n0_ := Aside0.mk (blk_below (g := gb258) (o := .cells #[.int .u8 a0_0, .int .u16 a0_1, .int .u16 a0_2, .int .i64 a0_3] 42 (0, 0)) (by (with_reducible repeat (first | refine blk_drewN ?_ _ | refine blk_drew ?_ | refine blk_alloc ?_ _)); exact BK258.out) hb); have n1_ := Aside0.mk (blk_below (g := gb290) (o := .cells #[.int .u8 t284, .int .u16 t285, .int .u16 t286, .int .i64 t287] 42 (0, 0)) (by (with_reducible repeat (first | refine blk_drewN ?_ _ | refine blk_drew ?_ | refine blk_alloc ?_ _)); exact BK290.out) hb); have n2_ := Aside0.mk (below_step (by repeat (first | (with_reducible first | exact HB.out | apply below_alloc | apply pw_below_drewN | apply below_drew1 | refine below_set ?_ GE258.out | refine below_set ?_ GE290.out) | exact HB.out)) hb); clear BK258; clear BK290; clear HB; have BK258 := n0_; have BK290 := n1_; have HB := n2_; clear n0_ n1_ n2_; (try clear hb); (try clear hb2); (try clear hk); (try clear hi)) | ((with_reducible refine gate_dst (N := 23) rfl ?_); (try (refine gate_guard (by rfl) ?_; dsimp only)); refine box_event ?hg (N := 23) ?hd (cs := #[.int .u8 0, .int .u16 0, .int .u16 0, .int .i64 0]) (t := 42) ?hr ?_; (case hd => rfl); (case hg => rfl); (case hr => first | (go_simp; done) | (go_simp; rfl)); intro gb299 hg w301 hbox hb; have n0_ := Aside0.mk (blk_below (g := gb258) (o := .cells #[.int .u8 a0_0, .int .u16 a0_1, .int .u16 a0_2, .int .i64 a0_3] 42 (0, 0)) (by (with_reducible repeat (first | refine blk_drewN ?_ _ | refine blk_drew ?_ | refine blk_alloc ?_ _)); exact BK258.out) hb); have n1_ := Aside0.mk (blk_below (g := gb290) (o := .cells #[.int .u8 t284, .int .u16 t285, .int .u16 t286, .int .i64 t287] 42 (0, 0)) (by (with_reducible repeat (first | refine blk_drewN ?_ _ | refine blk_drew ?_ | refine blk_alloc ?_ _)); exact BK290.out) hb); have n2_ := Aside0.mk (below_step (by repeat (first | (with_reducible first | exact HB.out | apply below_alloc | apply pw_below_drewN | apply below_drew1 | refine below_set ?_ GE258.out | refine below_set ?_ GE290.out) | exact HB.out)) hb); have n3_ := Aside0.mk (hbox); have n4_ := Aside0.mk ((by rw [hg]; exact (below_size (by repeat (first | (with_reducible first | exact HB.out | apply below_alloc | apply pw_below_drewN | apply below_drew1 | refine below_set ?_ GE258.out | refine below_set ?_ GE290.out) | exact HB.out))) : w.heap.size ≤ gb299)); have n5_ := Aside0.mk ((by rw [hg]; exact (below_size (by repeat (first | (with_reducible first | exact HB.out | apply below_alloc | apply pw_below_drewN | apply below_drew1 | refine below_set ?_ GE258.out | refine below_set ?_ GE290.out) | exact HB.out))) : w.heap.size ≤ gb299)); have n6_ := Aside0.mk ((by rw [hg]; exact Nat.ne_of_lt (blk_lt (g := gb258) (o := .cells #[.int .u8 a0_0, .int .u16 a0_1, .int .u16 a0_2, .int .i64 a0_3] 42 (0, 0)) (by (with_reducible repeat (first | refine blk_drewN ?_ _ | refine blk_drew ?_ | refine blk_alloc ?_ _)); exact BK258.out)) : gb258 ≠ gb299)); have n7_ := Aside0.mk ((by rw [hg]; exact Nat.ne_of_gt (blk_lt (g := gb258) (o := .cells #[.int .u8 a0_0, .int .u16 a0_1, .int .u16 a0_2, .int .i64 a0_3] 42 (0, 0)) (by (with_reducible repeat (first | refine blk_drewN ?_ _ | refine blk_drew ?_ | refine blk_alloc ?_ _)); exact BK258.out)) : gb299 ≠ gb258)); have n8_ := Aside0.mk ((by rw [hg]; exact Nat.ne_of_lt (blk_lt (g := gb290) (o := .cells #[.int .u8 t284, .int .u16 t285, .int .u16 t286, .int .i64 t287] 42 (0, 0)) (by (with_reducible repeat (first | refine blk_drewN ?_ _ | refine blk_drew ?_ | refine blk_alloc ?_ _)); exact BK290.out)) : gb290 ≠ gb299)); have n9_ := Aside0.mk ((by rw [hg]; exact Nat.ne_of_gt (blk_lt (g := gb290) (o := .cells #[.int .u8 t284, .int .u16 t285, .int .u16 t286, .int .i64 t287] 42 (0, 0)) (by (with_reducible repeat (first | refine blk_drewN ?_ _ | refine blk_drew ?_ | refine blk_alloc ?_ _)); exact BK290.out)) : gb299 ≠ gb290)); clear BK258; clear BK290; clear HB; have BK258 := n0_; have BK290 := n1_; have HB := n2_; have BK299 := n3_; have GW299 := n4_; have GE299 := n5_; have NB258_299 := n6_; have NB299_258 := n7_; have NB290_299 := n8_; have NB299_290 := n9_; clear n0_ n1_ n2_ n3_ n4_ n5_ n6_ n7_ n8_ n9_; clear hb hbox hg; have hnb302 := NB299_258.out; have hnc302 := NB258_299.out; have hnb303 := NB299_290.out; have hnc303 := NB290_299.out; have hcz304_0 : w301.cell? ⟨gb299, 0, none⟩ = some (.int .u8 0) := (blk_cell BK299.out 0).trans rfl; have hcz304_1 : w301.cell? ⟨gb299, 1, none⟩ = some (.int .u16 0) := (blk_cell BK299.out 1).trans rfl; have hcz304_2 : w301.cell? ⟨gb299, 2, none⟩ = some (.int .u16 0) := (blk_cell BK299.out 2).trans rfl; have hcz304_3 : w301.cell? ⟨gb299, 3, none⟩ = some (.int .i64 0) := (blk_cell BK299.out 3).trans rfl; have hfz304_0 := blk_frozen BK299.out 0; have hfz304_1 := blk_frozen BK299.out 1; have hfz304_2 := blk_frozen BK299.out 2; have hfz304_3 := blk_frozen BK299.out 3))
     go_ret
     exact ⟨by first | rfl | (simp [errW_none, errW_some] <;> rfl) | (simp [errW_none, errW_some] <;> exact (show ∀ l : List UInt8, l.isEmpty = !(l != []) from fun l => by cases l <;> rfl) _) | (simp [*, errW_none, errW_some] <;> rfl), by repeat (first | (with_reducible first | exact HB.out | apply below_alloc | apply pw_below_drewN | apply below_drew1 | refine below_set ?_ GE258.out | refine below_set ?_ GE290.out | refine below_set ?_ GE299.out) | exact HB.out)⟩
   ·rw [if_neg c235] at H
    have c235b0 : (t289 == 0) = false := beq_eq_false_iff_ne.mpr c235
    have c235b1 : (t289 != 0) = true := bne_iff_ne.mpr c235
    by_cases c305 : t259 = true
    ·subst c305
     have H1 : (if ((t284 == 0 && (t285 == 0 && (t286 == 0))) && (t287 == 0)) = true then (if t288 ≥ 0 then (some (decide (t288 ≤ (a1.size : Int)))) else (some false)) else (some false)) = some r := by rw [if_pos rfl] at H; exact H
     clear H
     have H := H1
     clear H1
     by_cases c306 : ((t284 == 0 && (t285 == 0 && (t286 == 0))) && (t287 == 0)) = true
     ·rw [if_pos c306] at H
      have c306b0 : ((t284 == 0 && (t285 == 0 && (t286 == 0))) && (t287 == 0)) = true := c306
      clear c306
      by_cases c307 : t288 ≥ 0
      ·rw [if_pos c307] at H
       have c307b0 : decide (0 ≤ t288) = true := decide_eq_true c307
       clear c307
       obtain rfl := Option.some.inj H
       go_wp2_with (first | ((with_reducible refine gate_callee (f := 15) rfl ?_); refine goesL_ (some 117) rfl rfl Tryd.func15 (by kernel_rfl) rfl #[.string a1] rfl (by (try simp only [List.map_toArray, List.map_cons, List.map_nil]); first | done | rfl | (simp only [List.length_drop, List.length_take]; rfl)) ?_; (with_reducible refine (gens_Parse.calls kj4 a1 t284 t285 t286 t287 t288 t289 _ A234.out).mono ?_); rintro e w308 ⟨rfl, hb⟩; refine ⟨_, rfl, ?_⟩; have n0_ := Aside0.mk (blk_below (g := gb258) (o := .cells #[.int .u8 a0_0, .int .u16 a0_1, .int .u16 a0_2, .int .i64 a0_3] 42 (0, 0)) (by (with_reducible repeat (first | refine blk_drewN ?_ _ | refine blk_drew ?_ | refine blk_alloc ?_ _)); exact BK258.out) hb); have n1_ := Aside0.mk (below_step (by repeat (first | (with_reducible first | exact HB.out | apply below_alloc | apply pw_below_drewN | apply below_drew1 | refine below_set ?_ GE258.out) | exact HB.out)) hb); clear BK258; clear HB; have BK258 := n0_; have HB := n1_; clear n0_ n1_; (try clear hb); (try clear hb2); (try clear hk); (try clear hi)) | ((with_reducible refine gate_dst (N := 18) rfl ?_); (try (refine gate_guard (by rfl) ?_; dsimp only)); refine box_event ?hg (N := 18) ?hd (cs := #[.int .u8 0, .int .u16 0, .int .u16 0, .int .i64 0]) (t := 42) ?hr ?_; (case hd => rfl); (case hg => rfl); (case hr => first | (go_simp; done) | (go_simp; rfl)); intro gb290 hg w309 hbox hb; have n0_ := Aside0.mk (blk_below (g := gb258) (o := .cells #[.int .u8 a0_0, .int .u16 a0_1, .int .u16 a0_2, .int .i64 a0_3] 42 (0, 0)) (by (with_reducible repeat (first | refine blk_drewN ?_ _ | refine blk_drew ?_ | refine blk_alloc ?_ _)); exact BK258.out) hb); have n1_ := Aside0.mk (below_step (by repeat (first | (with_reducible first | exact HB.out | apply below_alloc | apply pw_below_drewN | apply below_drew1 | refine below_set ?_ GE258.out) | exact HB.out)) hb); have n2_ := Aside0.mk (hbox); have n3_ := Aside0.mk ((by rw [hg]; exact (below_size (by repeat (first | (with_reducible first | exact HB.out | apply below_alloc | apply pw_below_drewN | apply below_drew1 | refine below_set ?_ GE258.out) | exact HB.out))) : w.heap.size ≤ gb290)); have n4_ := Aside0.mk ((by rw [hg]; exact (below_size (by repeat (first | (with_reducible first | exact HB.out | apply below_alloc | apply pw_below_drewN | apply below_drew1 | refine below_set ?_ GE258.out) | exact HB.out))) : w.heap.size ≤ gb290)); have n5_ := Aside0.mk ((by rw [hg]; exact Nat.ne_of_lt (blk_lt (g := gb258) (o := .cells #[.int .u8 a0_0, .int .u16 a0_1, .int .u16 a0_2, .int .i64 a0_3] 42 (0, 0)) (by (with_reducible repeat (first | refine blk_drewN ?_ _ | refine blk_drew ?_ | refine blk_alloc ?_ _)); exact BK258.out)) : gb258 ≠ gb290)); have n6_ := Aside0.mk ((by rw [hg]; exact Nat.ne_of_gt (blk_lt (g := gb258) (o := .cells #[.int .u8 a0_0, .int .u16 a0_1, .int .u16 a0_2, .int .i64 a0_3] 42 (0, 0)) (by (with_reducible repeat (first | refine blk_drewN ?_ _ | refine blk_drew ?_ | refine blk_alloc ?_ _)); exact BK258.out)) : gb290 ≠ gb258)); clear BK258; clear HB; have BK258 := n0_; have HB := n1_; have BK290 := n2_; have GW290 := n3_; have GE290 := n4_; have NB258_290 := n5_; have NB290_258 := n6_; clear n0_ n1_ n2_ n3_ n4_ n5_ n6_; clear hb hbox hg; have hnb310 := NB290_258.out; have hnc310 := NB258_290.out; have hcz311_0 : w309.cell? ⟨gb290, 0, none⟩ = some (.int .u8 0) := (blk_cell BK290.out 0).trans rfl; have hcz311_1 : w309.cell? ⟨gb290, 1, none⟩ = some (.int .u16 0) := (blk_cell BK290.out 1).trans rfl; have hcz311_2 : w309.cell? ⟨gb290, 2, none⟩ = some (.int .u16 0) := (blk_cell BK290.out 2).trans rfl; have hcz311_3 : w309.cell? ⟨gb290, 3, none⟩ = some (.int .i64 0) := (blk_cell BK290.out 3).trans rfl; have hfz311_0 := blk_frozen BK290.out 0; have hfz311_1 := blk_frozen BK290.out 1; have hfz311_2 := blk_frozen BK290.out 2; have hfz311_3 := blk_frozen BK290.out 3) | ((with_reducible refine gate_dst (N := 20) rfl ?_); (try (refine gate_guard (by rfl) ?_; dsimp only)); refine box_event ?hg (N := 20) ?hd (cs := #[.int .u8 0, .int .u16 0, .int .u16 0, .int .i64 0]) (t := 42) ?hr ?_; (case hd => rfl); (case hg => rfl); (case hr => first | (go_simp; done) | (go_simp; rfl)); intro gb300 hg w312 hbox hb; have n0_ := Aside0.mk (blk_below (g := gb258) (o := .cells #[.int .u8 a0_0, .int .u16 a0_1, .int .u16 a0_2, .int .i64 a0_3] 42 (0, 0)) (by (with_reducible repeat (first | refine blk_drewN ?_ _ | refine blk_drew ?_ | refine blk_alloc ?_ _)); refine blk_far ?_ NB258_290.out _; (with_reducible repeat (first | refine blk_drewN ?_ _ | refine blk_drew ?_ | refine blk_alloc ?_ _)); refine blk_far ?_ NB258_290.out _; (with_reducible repeat (first | refine blk_drewN ?_ _ | refine blk_drew ?_ | refine blk_alloc ?_ _)); refine blk_far ?_ NB258_290.out _; (with_reducible repeat (first | refine blk_drewN ?_ _ | refine blk_drew ?_ | refine blk_alloc ?_ _)); refine blk_far ?_ NB258_290.out _; (with_reducible repeat (first | refine blk_drewN ?_ _ | refine blk_drew ?_ | refine blk_alloc ?_ _)); exact BK258.out) hb); have n1_ := Aside0.mk (blk_below (g := gb290) (o := .cells #[.int .u8 t284, .int .u16 t285, .int .u16 t286, .int .i64 t287] 42 (0, 0)) (by (with_reducible repeat (first | refine blk_drewN ?_ _ | refine blk_drew ?_ | refine blk_alloc ?_ _)); refine blk_put (cs := #[.int .u8 t284, .int .u16 t285, .int .u16 t286, .int .i64 0]) ?_ 3 _ rfl; (with_reducible repeat (first | refine blk_drewN ?_ _ | refine blk_drew ?_ | refine blk_alloc ?_ _)); refine blk_put (cs := #[.int .u8 t284, .int .u16 t285, .int .u16 0, .int .i64 0]) ?_ 2 _ rfl; (with_reducible repeat (first | refine blk_drewN ?_ _ | refine blk_drew ?_ | refine blk_alloc ?_ _)); refine blk_put (cs := #[.int .u8 t284, .int .u16 0, .int .u16 0, .int .i64 0]) ?_ 1 _ rfl; (with_reducible repeat (first | refine blk_drewN ?_ _ | refine blk_drew ?_ | refine blk_alloc ?_ _)); refine blk_put (cs := #[.int .u8 0, .int .u16 0, .int .u16 0, .int .i64 0]) ?_ 0 _ rfl; (with_reducible repeat (first | refine blk_drewN ?_ _ | refine blk_drew ?_ | refine blk_alloc ?_ _)); exact BK290.out) hb); have n2_ := Aside0.mk (below_step (by repeat (first | (with_reducible first | exact HB.out | apply below_alloc | apply pw_below_drewN | apply below_drew1 | refine below_set ?_ GE258.out | refine below_set ?_ GE290.out) | exact HB.out)) hb); have n3_ := Aside0.mk (hbox); have n4_ := Aside0.mk ((by rw [hg]; exact (below_size (by repeat (first | (with_reducible first | exact HB.out | apply below_alloc | apply pw_below_drewN | apply below_drew1 | refine below_set ?_ GE258.out | refine below_set ?_ GE290.out) | exact HB.out))) : w.heap.size ≤ gb300)); have n5_ := Aside0.mk ((by rw [hg]; exact (below_size (by repeat (first | (with_reducible first | exact HB.out | apply below_alloc | apply pw_below_drewN | apply below_drew1 | refine below_set ?_ GE258.out | refine below_set ?_ GE290.out) | exact HB.out))) : w.heap.size ≤ gb300)); have n6_ := Aside0.mk ((by rw [hg]; exact Nat.ne_of_lt (blk_lt (g := gb258) (o := .cells #[.int .u8 a0_0, .int .u16 a0_1, .int .u16 a0_2, .int .i64 a0_3] 42 (0, 0)) (by (with_reducible repeat (first | refine blk_drewN ?_ _ | refine blk_drew ?_ | refine blk_alloc ?_ _)); refine blk_far ?_ NB258_290.out _; (with_reducible repeat (first | refine blk_drewN ?_ _ | refine blk_drew ?_ | refine blk_alloc ?_ _)); refine blk_far ?_ NB258_290.out _; (with_reducible repeat (first | refine blk_drewN ?_ _ | refine blk_drew ?_ | refine blk_alloc ?_ _)); refine blk_far ?_ NB258_290.out _; (with_reducible repeat (first | refine blk_drewN ?_ _ | refine blk_drew ?_ | refine blk_alloc ?_ _)); refine blk_far ?_ NB258_290.out _; (with_reducible repeat (first | refine blk_drewN ?_ _ | refine blk_drew ?_ | refine blk_alloc ?_ _)); exact BK258.out)) : gb258 ≠ gb300)); have n7_ := Aside0.mk ((by rw [hg]; exact Nat.ne_of_gt (blk_lt (g := gb258) (o := .cells #[.int .u8 a0_0, .int .u16 a0_1, .int .u16 a0_2, .int .i64 a0_3] 42 (0, 0)) (by (with_reducible repeat (first | refine blk_drewN ?_ _ | refine blk_drew ?_ | refine blk_alloc ?_ _)); refine blk_far ?_ NB258_290.out _; (with_reducible repeat (first | refine blk_drewN ?_ _ | refine blk_drew ?_ | refine blk_alloc ?_ _)); refine blk_far ?_ NB258_290.out _; (with_reducible repeat (first | refine blk_drewN ?_ _ | refine blk_drew ?_ | refine blk_alloc ?_ _)); refine blk_far ?_ NB258_290.out _; (with_reducible repeat (first | refine blk_drewN ?_ _ | refine blk_drew ?_ | refine blk_alloc ?_ _)); refine blk_far ?_ NB258_290.out _; (with_reducible repeat (first | refine blk_drewN ?_ _ | refine blk_drew ?_ | refine blk_alloc ?_ _)); exact BK258.out)) : gb300 ≠ gb258)); have n8_ := Aside0.mk ((by rw [hg]; exact Nat.ne_of_lt (blk_lt (g := gb290) (o := .cells #[.int .u8 t284, .int .u16 t285, .int .u16 t286, .int .i64 t287] 42 (0, 0)) (by (with_reducible repeat (first | refine blk_drewN ?_ _ | refine blk_drew ?_ | refine blk_alloc ?_ _)); refine blk_put (cs := #[.int .u8 t284, .int .u16 t285, .int .u16 t286, .int .i64 0]) ?_ 3 _ rfl; (with_reducible repeat (first | refine blk_drewN ?_ _ | refine blk_drew ?_ | refine blk_alloc ?_ _)); refine blk_put (cs := #[.int .u8 t284, .int .u16 t285, .int .u16 0, .int .i64 0]) ?_ 2 _ rfl; (with_reducible repeat (first | refine blk_drewN ?_ _ | refine blk_drew ?_ | refine blk_alloc ?_ _)); refine blk_put (cs := #[.int .u8 t284, .int .u16 0, .int .u16 0, .int .i64 0]) ?_ 1 _ rfl; (with_reducible repeat (first | refine blk_drewN ?_ _ | refine blk_drew ?_ | refine blk_alloc ?_ _)); refine blk_put (cs := #[.int .u8 0, .int .u16 0, .int .u16 0, .int .i64 0]) ?_ 0 _ rfl; (with_reducible repeat (first | refine blk_drewN ?_ _ | refine blk_drew ?_ | refine blk_alloc ?_ _)); exact BK290.out)) : gb290 ≠ gb300)); have n9_ := Aside0.mk ((by rw [hg]; exact Nat.ne_of_gt (blk_lt (g := gb290) (o := .cells #[.int .u8 t284, .int .u16 t285, .int .u16 t286, .int .i64 t287] 42 (0, 0)) (by (with_reducible repeat (first | refine blk_drewN ?_ _ | refine blk_drew ?_ | refine blk_alloc ?_ _)); refine blk_put (cs := #[.int .u8 t284, .int .u16 t285, .int .u16 t286, .int .i64 0]) ?_ 3 _ rfl; (with_reducible repeat (first | refine blk_drewN ?_ _ | refine blk_drew ?_ | refine blk_alloc ?_ _)); refine blk_put (cs := #[.int .u8 t284, .int .u16 t285, .int .u16 0, .int .i64 0]) ?_ 2 _ rfl; (with_reducible repeat (first | refine blk_drewN ?_ _ | refine blk_drew ?_ | refine blk_alloc ?_ _)); refine blk_put (cs := #[.int .u8 t284, .int .u16 0, .int .u16 0, .int .i64 0]) ?_ 1 _ rfl; (with_reducible repeat (first | refine blk_drewN ?_ _ | refine blk_drew ?_ | refine blk_alloc ?_ _)); refine blk_put (cs := #[.int .u8 0, .int .u16 0, .int .u16 0, .int .i64 0]) ?_ 0 _ rfl; (with_reducible repeat (first | refine blk_drewN ?_ _ | refine blk_drew ?_ | refine blk_alloc ?_ _)); exact BK290.out)) : gb300 ≠ gb290)); clear BK258; clear BK290; clear HB; have BK258 := n0_; have BK290 := n1_; have HB := n2_; have BK300 := n3_; have GW300 := n4_; have GE300 := n5_; have NB258_300 := n6_; have NB300_258 := n7_; have NB290_300 := n8_; have NB300_290 := n9_; clear n0_ n1_ n2_ n3_ n4_ n5_ n6_ n7_ n8_ n9_; clear hb hbox hg; have hnb313 := NB300_258.out; have hnc313 := NB258_300.out; have hnb314 := NB300_290.out; have hnc314 := NB290_300.out; have hcz315_0 : w312.cell? ⟨gb300, 0, none⟩ = some (.int .u8 0) := (blk_cell BK300.out 0).trans rfl; have hcz315_1 : w312.cell? ⟨gb300, 1, none⟩ = some (.int .u16 0) := (blk_cell BK300.out 1).trans rfl; have hcz315_2 : w312.cell? ⟨gb300, 2, none⟩ = some (.int .u16 0) := (blk_cell BK300.out 2).trans rfl; have hcz315_3 : w312.cell? ⟨gb300, 3, none⟩ = some (.int .i64 0) := (blk_cell BK300.out 3).trans rfl; have hfz315_0 := blk_frozen BK300.out 0; have hfz315_1 := blk_frozen BK300.out 1; have hfz315_2 := blk_frozen BK300.out 2; have hfz315_3 := blk_frozen BK300.out 3; have hcz316_0 : w312.cell? ⟨gb290, 0, none⟩ = some (.int .u8 t284) := (blk_cell BK290.out 0).trans rfl; have hcz316_1 : w312.cell? ⟨gb290, 1, none⟩ = some (.int .u16 t285) := (blk_cell BK290.out 1).trans rfl; have hcz316_2 : w312.cell? ⟨gb290, 2, none⟩ = some (.int .u16 t286) := (blk_cell BK290.out 2).trans rfl; have hcz316_3 : w312.cell? ⟨gb290, 3, none⟩ = some (.int .i64 t287) := (blk_cell BK290.out 3).trans rfl; have hfz316_0 := blk_frozen BK290.out 0; have hfz316_1 := blk_frozen BK290.out 1; have hfz316_2 := blk_frozen BK290.out 2; have hfz316_3 := blk_frozen BK290.out 3))
       go_ret
       exact ⟨by first | rfl | (simp [errW_none, errW_some] <;> rfl) | (simp [errW_none, errW_some] <;> exact (show ∀ l : List UInt8, l.isEmpty = !(l != []) from fun l => by cases l <;> rfl) _) | (simp [*, errW_none, errW_some] <;> rfl), by repeat (first | (with_reducible first | exact HB.out | apply below_alloc | apply pw_below_drewN | apply below_drew1 | refine below_set ?_ GE258.out | refine below_set ?_ GE290.out | refine below_set ?_ GE300.out) | exact HB.out)⟩
      ·rw [if_neg c307] at H
       have c307b0 : decide (0 ≤ t288) = false := decide_eq_false c307
       clear c307
       obtain rfl := Option.some.inj H
       go_wp2_with (first | ((with_reducible refine gate_callee (f := 15) rfl ?_); refine goesL_ (some 117) rfl rfl Tryd.func15 (by kernel_rfl) rfl #[.string a1] rfl (by (try simp only [List.map_toArray, List.map_cons, List.map_nil]); first | done | rfl | (simp only [List.length_drop, List.length_take]; rfl)) ?_; (with_reducible refine (gens_Parse.calls kj4 a1 t284 t285 t286 t287 t288 t289 _ A234.out).mono ?_); rintro e w317 ⟨rfl, hb⟩; refine ⟨_, rfl, ?_⟩; have n0_ := Aside0.mk (blk_below (g := gb258) (o := .cells #[.int .u8 a0_0, .int .u16 a0_1, .int .u16 a0_2, .int .i64 a0_3] 42 (0, 0)) (by (with_reducible repeat (first | refine blk_drewN ?_ _ | refine blk_drew ?_ | refine blk_alloc ?_ _)); exact BK258.out) hb); have n1_ := Aside0.mk (below_step (by repeat (first | (with_reducible first | exact HB.out | apply below_alloc | apply pw_below_drewN | apply below_drew1 | refine below_set ?_ GE258.out) | exact HB.out)) hb); clear BK258; clear HB; have BK258 := n0_; have HB := n1_; clear n0_ n1_; (try clear hb); (try clear hb2); (try clear hk); (try clear hi)) | ((with_reducible refine gate_dst (N := 18) rfl ?_); (try (refine gate_guard (by rfl) ?_; dsimp only)); refine box_event ?hg (N := 18) ?hd (cs := #[.int .u8 0, .int .u16 0, .int .u16 0, .int .i64 0]) (t := 42) ?hr ?_; (case hd => rfl); (case hg => rfl); (case hr => first | (go_simp; done) | (go_simp; rfl)); intro gb290 hg w318 hbox hb; have n0_ := Aside0.mk (blk_below (g := gb258) (o := .cells #[.int .u8 a0_0, .int .u16 a0_1, .int .u16 a0_2, .int .i64 a0_3] 42 (0, 0)) (by (with_reducible repeat (first | refine blk_drewN ?_ _ | refine blk_drew ?_ | refine blk_alloc ?_ _)); exact BK258.out) hb); have n1_ := Aside0.mk (below_step (by repeat (first | (with_reducible first | exact HB.out | apply below_alloc | apply pw_below_drewN | apply below_drew1 | refine below_set ?_ GE258.out) | exact HB.out)) hb); have n2_ := Aside0.mk (hbox); have n3_ := Aside0.mk ((by rw [hg]; exact (below_size (by repeat (first | (with_reducible first | exact HB.out | apply below_alloc | apply pw_below_drewN | apply below_drew1 | refine below_set ?_ GE258.out) | exact HB.out))) : w.heap.size ≤ gb290)); have n4_ := Aside0.mk ((by rw [hg]; exact (below_size (by repeat (first | (with_reducible first | exact HB.out | apply below_alloc | apply pw_below_drewN | apply below_drew1 | refine below_set ?_ GE258.out) | exact HB.out))) : w.heap.size ≤ gb290)); have n5_ := Aside0.mk ((by rw [hg]; exact Nat.ne_of_lt (blk_lt (g := gb258) (o := .cells #[.int .u8 a0_0, .int .u16 a0_1, .int .u16 a0_2, .int .i64 a0_3] 42 (0, 0)) (by (with_reducible repeat (first | refine blk_drewN ?_ _ | refine blk_drew ?_ | refine blk_alloc ?_ _)); exact BK258.out)) : gb258 ≠ gb290)); have n6_ := Aside0.mk ((by rw [hg]; exact Nat.ne_of_gt (blk_lt (g := gb258) (o := .cells #[.int .u8 a0_0, .int .u16 a0_1, .int .u16 a0_2, .int .i64 a0_3] 42 (0, 0)) (by (with_reducible repeat (first | refine blk_drewN ?_ _ | refine blk_drew ?_ | refine blk_alloc ?_ _)); exact BK258.out)) : gb290 ≠ gb258)); clear BK258; clear HB; have BK258 := n0_; have HB := n1_; have BK290 := n2_; have GW290 := n3_; have GE290 := n4_; have NB258_290 := n5_; have NB290_258 := n6_; clear n0_ n1_ n2_ n3_ n4_ n5_ n6_; clear hb hbox hg; have hnb319 := NB290_258.out; have hnc319 := NB258_290.out; have hcz320_0 : w318.cell? ⟨gb290, 0, none⟩ = some (.int .u8 0) := (blk_cell BK290.out 0).trans rfl; have hcz320_1 : w318.cell? ⟨gb290, 1, none⟩ = some (.int .u16 0) := (blk_cell BK290.out 1).trans rfl; have hcz320_2 : w318.cell? ⟨gb290, 2, none⟩ = some (.int .u16 0) := (blk_cell BK290.out 2).trans rfl; have hcz320_3 : w318.cell? ⟨gb290, 3, none⟩ = some (.int .i64 0) := (blk_cell BK290.out 3).trans rfl; have hfz320_0 := blk_frozen BK290.out 0; have hfz320_1 := blk_frozen BK290.out 1; have hfz320_2 := blk_frozen BK290.out 2; have hfz320_3 := blk_frozen BK290.out 3) | ((with_reducible refine gate_dst (N := 20) rfl ?_); (try (refine gate_guard (by rfl) ?_; dsimp only)); refine box_event ?hg (N := 20) ?hd (cs := #[.int .u8 0, .int .u16 0, .int .u16 0, .int .i64 0]) (t := 42) ?hr ?_; (case hd => rfl); (case hg => rfl); (case hr => first | (go_simp; done) | (go_simp; rfl)); intro gb300 hg w321 hbox hb; have n0_ := Aside0.mk (blk_below (g := gb258) (o := .cells #[.int .u8 a0_0, .int .u16 a0_1, .int .u16 a0_2, .int .i64 a0_3] 42 (0, 0)) (by (with_reducible repeat (first | refine blk_drewN ?_ _ | refine blk_drew ?_ | refine blk_alloc ?_ _)); refine blk_far ?_ NB258_290.out _; (with_reducible repeat (first | refine blk_drewN ?_ _ | refine blk_drew ?_ | refine blk_alloc ?_ _)); refine blk_far ?_ NB258_290.out _; (with_reducible repeat (first | refine blk_drewN ?_ _ | refine blk_drew ?_ | refine blk_alloc ?_ _)); refine blk_far ?_ NB258_290.out _; (with_reducible repeat (first | refine blk_drewN ?_ _ | refine blk_drew ?_ | refine blk_alloc ?_ _)); refine blk_far ?_ NB258_290.out _; (with_reducible repeat (first | refine blk_drewN ?_ _ | refine blk_drew ?_ | refine blk_alloc ?_ _)); exact BK258.out) hb); have n1_ := Aside0.mk (blk_below (g := gb290) (o := .cells #[.int .u8 t284, .int .u16 t285, .int .u16 t286, .int .i64 t287] 42 (0, 0)) (by (with_reducible repeat (first | refine blk_drewN ?_ _ | refine blk_drew ?_ | refine blk_alloc ?_ _)); refine blk_put (cs := #[.int .u8 t284, .int .u16 t285, .int .u16 t286, .int .i64 0]) ?_ 3 _ rfl; (with_reducible repeat (first | refine blk_drewN ?_ _ | refine blk_drew ?_ | refine blk_alloc ?_ _)); refine blk_put (cs := #[.int .u8 t284, .int .u16 t285, .int .u16 0, .int .i64 0]) ?_ 2 _ rfl; (with_reducible repeat (first | refine blk_drewN ?_ _ | refine blk_drew ?_ | refine blk_alloc ?_ _)); refine blk_put (cs := #[.int .u8 t284, .int .u16 0, .int .u16 0, .int .i64 0]) ?_ 1 _ rfl; (with_reducible repeat (first | refine blk_drewN ?_ _ | refine blk_drew ?_ | refine blk_alloc ?_ _)); refine blk_put (cs := #[.int .u8 0, .int .u16 0, .int .u16 0, .int .i64 0]) ?_ 0 _ rfl; (with_reducible repeat (first | refine blk_drewN ?_ _ | refine blk_drew ?_ | refine blk_alloc ?_ _)); exact BK290.out) hb); have n2_ := Aside0.mk (below_step (by repeat (first | (with_reducible first | exact HB.out | apply below_alloc | apply pw_below_drewN | apply below_drew1 | refine below_set ?_ GE258.out | refine below_set ?_ GE290.out) | exact HB.out)) hb); have n3_ := Aside0.mk (hbox); have n4_ := Aside0.mk ((by rw [hg]; exact (below_size (by repeat (first | (with_reducible first | exact HB.out | apply below_alloc | apply pw_below_drewN | apply below_drew1 | refine below_set ?_ GE258.out | refine below_set ?_ GE290.out) | exact HB.out))) : w.heap.size ≤ gb300)); have n5_ := Aside0.mk ((by rw [hg]; exact (below_size (by repeat (first | (with_reducible first | exact HB.out | apply below_alloc | apply pw_below_drewN | apply below_drew1 | refine below_set ?_ GE258.out | refine below_set ?_ GE290.out) | exact HB.out))) : w.heap.size ≤ gb300)); have n6_ := Aside0.mk ((by rw [hg]; exact Nat.ne_of_lt (blk_lt (g := gb258) (o := .cells #[.int .u8 a0_0, .int .u16 a0_1, .int .u16 a0_2, .int .i64 a0_3] 42 (0, 0)) (by (with_reducible repeat (first | refine blk_drewN ?_ _ | refine blk_drew ?_ | refine blk_alloc ?_ _)); refine blk_far ?_ NB258_290.out _; (with_reducible repeat (first | refine blk_drewN ?_ _ | refine blk_drew ?_ | refine blk_alloc ?_ _)); refine blk_far ?_ NB258_290.out _; (with_reducible repeat (first | refine blk_drewN ?_ _ | refine blk_drew ?_ | refine blk_alloc ?_ _)); refine blk_far ?_ NB258_290.out _; (with_reducible repeat (first | refine blk_drewN ?_ _ | refine blk_drew ?_ | refine blk_alloc ?_ _)); refine blk_far ?_ NB258_290.out _; (with_reducible repeat (first | refine blk_drewN ?_ _ | refine blk_drew ?_ | refine blk_alloc ?_ _)); exact BK258.out)) : gb258 ≠ gb300)); have n7_ := Aside0.mk ((by rw [hg]; exact Nat.ne_of_gt (blk_lt (g := gb258) (o := .cells #[.int .u8 a0_0, .int .u16 a0_1, .int .u16 a0_2, .int .i64 a0_3] 42 (0, 0)) (by (with_reducible repeat (first | refine blk_drewN ?_ _ | refine blk_drew ?_ | refine blk_alloc ?_ _)); refine blk_far ?_ NB258_290.out _; (with_reducible repeat (first | refine blk_drewN ?_ _ | refine blk_drew ?_ | refine blk_alloc ?_ _)); refine blk_far ?_ NB258_290.out _; (with_reducible repeat (first | refine blk_drewN ?_ _ | refine blk_drew ?_ | refine blk_alloc ?_ _)); refine blk_far ?_ NB258_290.out _; (with_reducible repeat (first | refine blk_drewN ?_ _ | refine blk_drew ?_ | refine blk_alloc ?_ _)); refine blk_far ?_ NB258_290.out _; (with_reducible repeat (first | refine blk_drewN ?_ _ | refine blk_drew ?_ | refine blk_alloc ?_ _)); exact BK258.out)) : gb300 ≠ gb258)); have n8_ := Aside0.mk ((by rw [hg]; exact Nat.ne_of_lt (blk_lt (g := gb290) (o := .cells #[.int .u8 t284, .int .u16 t285, .int .u16 t286, .int .i64 t287] 42 (0, 0)) (by (with_reducible repeat (first | refine blk_drewN ?_ _ | refine blk_drew ?_ | refine blk_alloc ?_ _)); refine blk_put (cs := #[.int .u8 t284, .int .u16 t285, .int .u16 t286, .int .i64 0]) ?_ 3 _ rfl; (with_reducible repeat (first | refine blk_drewN ?_ _ | refine blk_drew ?_ | refine blk_alloc ?_ _)); refine blk_put (cs := #[.int .u8 t284, .int .u16 t285, .int .u16 0, .int .i64 0]) ?_ 2 _ rfl; (with_reducible repeat (first | refine blk_drewN ?_ _ | refine blk_drew ?_ | refine blk_alloc ?_ _)); refine blk_put (cs := #[.int .u8 t284, .int .u16 0, .int .u16 0, .int .i64 0]) ?_ 1 _ rfl; (with_reducible repeat (first | refine blk_drewN ?_ _ | refine blk_drew ?_ | refine blk_alloc ?_ _)); refine blk_put (cs := #[.int .u8 0, .int .u16 0, .int .u16 0, .int .i64 0]) ?_ 0 _ rfl; (with_reducible repeat (first | refine blk_drewN ?_ _ | refine blk_drew ?_ | refine blk_alloc ?_ _)); exact BK290.out)) : gb290 ≠ gb300)); have n9_ := Aside0.mk ((by rw [hg]; exact Nat.ne_of_gt (blk_lt (g := gb290) (o := .cells #[.int .u8 t284, .int .u16 t285, .int .u16 t286, .int .i64 t287] 42 (0, 0)) (by (with_reducible repeat (first | refine blk_drewN ?_ _ | refine blk_drew ?_ | refine blk_alloc ?_ _)); refine blk_put (cs := #[.int .u8 t284, .int .u16 t285, .int .u16 t286, .int .i64 0]) ?_ 3 _ rfl; (with_reducible repeat (first | refine blk_drewN ?_ _ | refine blk_drew ?_ | refine blk_alloc ?_ _)); refine blk_put (cs := #[.int .u8 t284, .int .u16 t285, .int .u16 0, .int .i64 0]) ?_ 2 _ rfl; (with_reducible repeat (first | refine blk_drewN ?_ _ | refine blk_drew ?_ | refine blk_alloc ?_ _)); refine blk_put (cs := #[.int .u8 t284, .int .u16 0, .int .u16 0, .int .i64 0]) ?_ 1 _ rfl; (with_reducible repeat (first | refine blk_drewN ?_ _ | refine blk_drew ?_ | refine blk_alloc ?_ _)); refine blk_put (cs := #[.int .u8 0, .int .u16 0, .int .u16 0, .int .i64 0]) ?_ 0 _ rfl; (with_reducible repeat (first | refine blk_drewN ?_ _ | refine blk_drew ?_ | refine blk_alloc ?_ _)); exact BK290.out)) : gb300 ≠ gb290)); clear BK258; clear BK290; clear HB; have BK258 := n0_; have BK290 := n1_; have HB := n2_; have BK300 := n3_; have GW300 := n4_; have GE300 := n5_; have NB258_300 := n6_; have NB300_258 := n7_; have NB290_300 := n8_; have NB300_290 := n9_; clear n0_ n1_ n2_ n3_ n4_ n5_ n6_ n7_ n8_ n9_; clear hb hbox hg; have hnb322 := NB300_258.out; have hnc322 := NB258_300.out; have hnb323 := NB300_290.out; have hnc323 := NB290_300.out; have hcz324_0 : w321.cell? ⟨gb300, 0, none⟩ = some (.int .u8 0) := (blk_cell BK300.out 0).trans rfl; have hcz324_1 : w321.cell? ⟨gb300, 1, none⟩ = some (.int .u16 0) := (blk_cell BK300.out 1).trans rfl; have hcz324_2 : w321.cell? ⟨gb300, 2, none⟩ = some (.int .u16 0) := (blk_cell BK300.out 2).trans rfl; have hcz324_3 : w321.cell? ⟨gb300, 3, none⟩ = some (.int .i64 0) := (blk_cell BK300.out 3).trans rfl; have hfz324_0 := blk_frozen BK300.out 0; have hfz324_1 := blk_frozen BK300.out 1; have hfz324_2 := blk_frozen BK300.out 2; have hfz324_3 := blk_frozen BK300.out 3; have hcz325_0 : w321.cell? ⟨gb290, 0, none⟩ = some (.int .u8 t284) := (blk_cell BK290.out 0).trans rfl; have hcz325_1 : w321.cell? ⟨gb290, 1, none⟩ = some (.int .u16 t285) := (blk_cell BK290.out 1).trans rfl; have hcz325_2 : w321.cell? ⟨gb290, 2, none⟩ = some (.int .u16 t286) := (blk_cell BK290.out 2).trans rfl; have hcz325_3 : w321.cell? ⟨gb290, 3, none⟩ = some (.int .i64 t287) := (blk_cell BK290.out 3).trans rfl; have hfz325_0 := blk_frozen BK290.out 0; have hfz325_1 := blk_frozen BK290.out 1; have hfz325_2 := blk_frozen BK290.out 2; have hfz325_3 := blk_frozen BK290.out 3))
       go_ret
       exact ⟨by first | rfl | (simp [errW_none, errW_some] <;> rfl) | (simp [errW_none, errW_some] <;> exact (show ∀ l : List UInt8, l.isEmpty = !(l != []) from fun l => by cases l <;> rfl) _) | (simp [*, errW_none, errW_some] <;> rfl), by repeat (first | (with_reducible first | exact HB.out | apply below_alloc | apply pw_below_drewN | apply below_drew1 | refine below_set ?_ GE258.out | refine below_set ?_ GE290.out | refine below_set ?_ GE300.out) | exact HB.out)⟩
     ·rw [if_neg c306] at H
      have c306b0 : ((t284 == 0 && (t285 == 0 && (t286 == 0))) && (t287 == 0)) = false := by simpa using c306
      clear c306
      obtain rfl := Option.some.inj H
      go_wp2_with (first | ((with_reducible refine gate_callee (f := 15) rfl ?_); refine goesL_ (some 117) rfl rfl Tryd.func15 (by kernel_rfl) rfl #[.string a1] rfl (by (try simp only [List.map_toArray, List.map_cons, List.map_nil]); first | done | rfl | (simp only [List.length_drop, List.length_take]; rfl)) ?_; (with_reducible refine (gens_Parse.calls kj4 a1 t284 t285 t286 t287 t288 t289 _ A234.out).mono ?_); rintro e w326 ⟨rfl, hb⟩; refine ⟨_, rfl, ?_⟩; have n0_ := Aside0.mk (blk_below (g := gb258) (o := .cells #[.int .u8 a0_0, .int .u16 a0_1, .int .u16 a0_2, .int .i64 a0_3] 42 (0, 0)) (by (with_reducible repeat (first | refine blk_drewN ?_ _ | refine blk_drew ?_ | refine blk_alloc ?_ _)); exact BK258.out) hb); have n1_ := Aside0.mk (below_step (by repeat (first | (with_reducible first | exact HB.out | apply below_alloc | apply pw_below_drewN | apply below_drew1 | refine below_set ?_ GE258.out) | exact HB.out)) hb); clear BK258; clear HB; have BK258 := n0_; have HB := n1_; clear n0_ n1_; (try clear hb); (try clear hb2); (try clear hk); (try clear hi)) | ((with_reducible refine gate_dst (N := 18) rfl ?_); (try (refine gate_guard (by rfl) ?_; dsimp only)); refine box_event ?hg (N := 18) ?hd (cs := #[.int .u8 0, .int .u16 0, .int .u16 0, .int .i64 0]) (t := 42) ?hr ?_; (case hd => rfl); (case hg => rfl); (case hr => first | (go_simp; done) | (go_simp; rfl)); intro gb290 hg w327 hbox hb; have n0_ := Aside0.mk (blk_below (g := gb258) (o := .cells #[.int .u8 a0_0, .int .u16 a0_1, .int .u16 a0_2, .int .i64 a0_3] 42 (0, 0)) (by (with_reducible repeat (first | refine blk_drewN ?_ _ | refine blk_drew ?_ | refine blk_alloc ?_ _)); exact BK258.out) hb); have n1_ := Aside0.mk (below_step (by repeat (first | (with_reducible first | exact HB.out | apply below_alloc | apply pw_below_drewN | apply below_drew1 | refine below_set ?_ GE258.out) | exact HB.out)) hb); have n2_ := Aside0.mk (hbox); have n3_ := Aside0.mk ((by rw [hg]; exact (below_size (by repeat (first | (with_reducible first | exact HB.out | apply below_alloc | apply pw_below_drewN | apply below_drew1 | refine below_set ?_ GE258.out) | exact HB.out))) : w.heap.size ≤ gb290)); have n4_ := Aside0.mk ((by rw [hg]; exact (below_size (by repeat (first | (with_reducible first | exact HB.out | apply below_alloc | apply pw_below_drewN | apply below_drew1 | refine below_set ?_ GE258.out) | exact HB.out))) : w.heap.size ≤ gb290)); have n5_ := Aside0.mk ((by rw [hg]; exact Nat.ne_of_lt (blk_lt (g := gb258) (o := .cells #[.int .u8 a0_0, .int .u16 a0_1, .int .u16 a0_2, .int .i64 a0_3] 42 (0, 0)) (by (with_reducible repeat (first | refine blk_drewN ?_ _ | refine blk_drew ?_ | refine blk_alloc ?_ _)); exact BK258.out)) : gb258 ≠ gb290)); have n6_ := Aside0.mk ((by rw [hg]; exact Nat.ne_of_gt (blk_lt (g := gb258) (o := .cells #[.int .u8 a0_0, .int .u16 a0_1, .int .u16 a0_2, .int .i64 a0_3] 42 (0, 0)) (by (with_reducible repeat (first | refine blk_drewN ?_ _ | refine blk_drew ?_ | refine blk_alloc ?_ _)); exact BK258.out)) : gb290 ≠ gb258)); clear BK258; clear HB; have BK258 := n0_; have HB := n1_; have BK290 := n2_; have GW290 := n3_; have GE290 := n4_; have NB258_290 := n5_; have NB290_258 := n6_; clear n0_ n1_ n2_ n3_ n4_ n5_ n6_; clear hb hbox hg; have hnb328 := NB290_258.out; have hnc328 := NB258_290.out; have hcz329_0 : w327.cell? ⟨gb290, 0, none⟩ = some (.int .u8 0) := (blk_cell BK290.out 0).trans rfl; have hcz329_1 : w327.cell? ⟨gb290, 1, none⟩ = some (.int .u16 0) := (blk_cell BK290.out 1).trans rfl; have hcz329_2 : w327.cell? ⟨gb290, 2, none⟩ = some (.int .u16 0) := (blk_cell BK290.out 2).trans rfl; have hcz329_3 : w327.cell? ⟨gb290, 3, none⟩ = some (.int .i64 0) := (blk_cell BK290.out 3).trans rfl; have hfz329_0 := blk_frozen BK290.out 0; have hfz329_1 := blk_frozen BK290.out 1; have hfz329_2 := blk_frozen BK290.out 2; have hfz329_3 := blk_frozen BK290.out 3) | ((with_reducible refine gate_dst (N := 20) rfl ?_); (try (refine gate_guard (by rfl) ?_; dsimp only)); refine box_event ?hg (N := 20) ?hd (cs := #[.int .u8 0, .int .u16 0, .int .u16 0, .int .i64 0]) (t := 42) ?hr ?_; (case hd => rfl); (case hg => rfl); (case hr => first | (go_simp; done) | (go_simp; rfl)); intro gb300 hg w330 hbox hb; have n0_ := Aside0.mk (blk_below (g := gb258) (o := .cells #[.int .u8 a0_0, .int .u16 a0_1, .int .u16 a0_2, .int .i64 a0_3] 42 (0, 0)) (by (with_reducible repeat (first | refine blk_drewN ?_ _ | refine blk_drew ?_ | refine blk_alloc ?_ _)); refine blk_far ?_ NB258_290.out _; (with_reducible repeat (first | refine blk_drewN ?_ _ | refine blk_drew ?_ | refine blk_alloc ?_ _)); refine blk_far ?_ NB258_290.out _; (with_reducible repeat (first | refine blk_drewN ?_ _ | refine blk_drew ?_ | refine blk_alloc ?_ _)); refine blk_far ?_ NB258_290.out _; (with_reducible repeat (first | refine blk_drewN ?_ _ | refine blk_drew ?_ | refine blk_alloc ?_ _)); refine blk_far ?_ NB258_290.out _; (with_reducible repeat (first | refine blk_drewN ?_ _ | refine blk_drew ?_ | refine blk_alloc ?_ _)); exact BK258.out) hb); have n1_ := Aside0.mk (blk_below (g := gb290) (o := .cells #[.int .u8 t284, .int .u16 t285, .int .u16 t286, .int .i64 t287] 42 (0, 0)) (by (with_reducible repeat (first | refine blk_drewN ?_ _ | refine blk_drew ?_ | refine blk_alloc ?_ _)); refine blk_put (cs := #[.int .u8 t284, .int .u16 t285, .int .u16 t286, .int .i64 0]) ?_ 3 _ rfl; (with_reducible repeat (first | refine blk_drewN ?_ _ | refine blk_drew ?_ | refine blk_alloc ?_ _)); refine blk_put (cs := #[.int .u8 t284, .int .u16 t285, .int .u16 0, .int .i64 0]) ?_ 2 _ rfl; (with_reducible repeat (first | refine blk_drewN ?_ _ | refine blk_drew ?_ | refine blk_alloc ?_ _)); refine blk_put (cs := #[.int .u8 t284, .int .u16 0, .int .u16 0, .int .i64 0]) ?_ 1 _ rfl; (with_reducible repeat (first | refine blk_drewN ?_ _ | refine blk_drew ?_ | refine blk_alloc ?_ _)); refine blk_put (cs := #[.int .u8 0, .int .u16 0, .int .u16 0, .int .i64 0]) ?_ 0 _ rfl; (with_reducible repeat (first | refine blk_drewN ?_ _ | refine blk_drew ?_ | refine blk_alloc ?_ _)); exact BK290.out) hb); have n2_ := Aside0.mk (below_step (by repeat (first | (with_reducible first | exact HB.out | apply below_alloc | apply pw_below_drewN | apply below_drew1 | refine below_set ?_ GE258.out | refine below_set ?_ GE290.out) | exact HB.out)) hb); have n3_ := Aside0.mk (hbox); have n4_ := Aside0.mk ((by rw [hg]; exact (below_size (by repeat (first | (with_reducible first | exact HB.out | apply below_alloc | apply pw_below_drewN | apply below_drew1 | refine below_set ?_ GE258.out | refine below_set ?_ GE290.out) | exact HB.out))) : w.heap.size ≤ gb300)); have n5_ := Aside0.mk ((by rw [hg]; exact (below_size (by repeat (first | (with_reducible first | exact HB.out | apply below_alloc | apply pw_below_drewN | apply below_drew1 | refine below_set ?_ GE258.out | refine below_set ?_ GE290.out) | exact HB.out))) : w.heap.size ≤ gb300)); have n6_ := Aside0.mk ((by rw [hg]; exact Nat.ne_of_lt (blk_lt (g := gb258) (o := .cells #[.int .u8 a0_0, .int .u16 a0_1, .int .u16 a0_2, .int .i64 a0_3] 42 (0, 0)) (by (with_reducible repeat (first | refine blk_drewN ?_ _ | refine blk_drew ?_ | refine blk_alloc ?_ _)); refine blk_far ?_ NB258_290.out _; (with_reducible repeat (first | refine blk_drewN ?_ _ | refine blk_drew ?_ | refine blk_alloc ?_ _)); refine blk_far ?_ NB258_290.out _; (with_reducible repeat (first | refine blk_drewN ?_ _ | refine blk_drew ?_ | refine blk_alloc ?_ _)); refine blk_far ?_ NB258_290.out _; (with_reducible repeat (first | refine blk_drewN ?_ _ | refine blk_drew ?_ | refine blk_alloc ?_ _)); refine blk_far ?_ NB258_290.out _; (with_reducible repeat (first | refine blk_drewN ?_ _ | refine blk_drew ?_ | refine blk_alloc ?_ _)); exact BK258.out)) : gb258 ≠ gb300)); have n7_ := Aside0.mk ((by rw [hg]; exact Nat.ne_of_gt (blk_lt (g := gb258) (o := .cells #[.int .u8 a0_0, .int .u16 a0_1, .int .u16 a0_2, .int .i64 a0_3] 42 (0, 0)) (by (with_reducible repeat (first | refine blk_drewN ?_ _ | refine blk_drew ?_ | refine blk_alloc ?_ _)); refine blk_far ?_ NB258_290.out _; (with_reducible repeat (first | refine blk_drewN ?_ _ | refine blk_drew ?_ | refine blk_alloc ?_ _)); refine blk_far ?_ NB258_290.out _; (with_reducible repeat (first | refine blk_drewN ?_ _ | refine blk_drew ?_ | refine blk_alloc ?_ _)); refine blk_far ?_ NB258_290.out _; (with_reducible repeat (first | refine blk_drewN ?_ _ | refine blk_drew ?_ | refine blk_alloc ?_ _)); refine blk_far ?_ NB258_290.out _; (with_reducible repeat (first | refine blk_drewN ?_ _ | refine blk_drew ?_ | refine blk_alloc ?_ _)); exact BK258.out)) : gb300 ≠ gb258)); have n8_ := Aside0.mk ((by rw [hg]; exact Nat.ne_of_lt (blk_lt (g := gb290) (o := .cells #[.int .u8 t284, .int .u16 t285, .int .u16 t286, .int .i64 t287] 42 (0, 0)) (by (with_reducible repeat (first | refine blk_drewN ?_ _ | refine blk_drew ?_ | refine blk_alloc ?_ _)); refine blk_put (cs := #[.int .u8 t284, .int .u16 t285, .int .u16 t286, .int .i64 0]) ?_ 3 _ rfl; (with_reducible repeat (first | refine blk_drewN ?_ _ | refine blk_drew ?_ | refine blk_alloc ?_ _)); refine blk_put (cs := #[.int .u8 t284, .int .u16 t285, .int .u16 0, .int .i64 0]) ?_ 2 _ rfl; (with_reducible repeat (first | refine blk_drewN ?_ _ | refine blk_drew ?_ | refine blk_alloc ?_ _)); refine blk_put (cs := #[.int .u8 t284, .int .u16 0, .int .u16 0, .int .i64 0]) ?_ 1 _ rfl; (with_reducible repeat (first | refine blk_drewN ?_ _ | refine blk_drew ?_ | refine blk_alloc ?_ _)); refine blk_put (cs := #[.int .u8 0, .int .u16 0, .int .u16 0, .int .i64 0]) ?_ 0 _ rfl; (with_reducible repeat (first | refine blk_drewN ?_ _ | refine blk_drew ?_ | refine blk_alloc ?_ _)); exact BK290.out)) : gb290 ≠ gb300)); have n9_ := Aside0.mk ((by rw [hg]; exact Nat.ne_of_gt (blk_lt (g := gb290) (o := .cells #[.int .u8 t284, .int .u16 t285, .int .u16 t286, .int .i64 t287] 42 (0, 0)) (by (with_reducible repeat (first | refine blk_drewN ?_ _ | refine blk_drew ?_ | refine blk_alloc ?_ _)); refine blk_put (cs := #[.int .u8 t284, .int .u16 t285, .int .u16 t286, .int .i64 0]) ?_ 3 _ rfl; (with_reducible repeat (first | refine blk_drewN ?_ _ | refine blk_drew ?_ | refine blk_alloc ?_ _)); refine blk_put (cs := #[.int .u8 t284, .int .u16 t285, .int .u16 0, .int .i64 0]) ?_ 2 _ rfl; (with_reducible repeat (first | refine blk_drewN ?_ _ | refine blk_drew ?_ | refine blk_alloc ?_ _)); refine blk_put (cs := #[.int .u8 t284, .int .u16 0, .int .u16 0, .int .i64 0]) ?_ 1 _ rfl; (with_reducible repeat (first | refine blk_drewN ?_ _ | refine blk_drew ?_ | refine blk_alloc ?_ _)); refine blk_put (cs := #[.int .u8 0, .int .u16 0, .int .u16 0, .int .i64 0]) ?_ 0 _ rfl; (with_reducible repeat (first | refine blk_drewN ?_ _ | refine blk_drew ?_ | refine blk_alloc ?_ _)); exact BK290.out)) : gb300 ≠ gb290)); clear BK258; clear BK290; clear HB; have BK258 := n0_; have BK290 := n1_; have HB := n2_; have BK300 := n3_; have GW300 := n4_; have GE300 := n5_; have NB258_300 := n6_; have NB300_258 := n7_; have NB290_300 := n8_; have NB300_290 := n9_; clear n0_ n1_ n2_ n3_ n4_ n5_ n6_ n7_ n8_ n9_; clear hb hbox hg; have hnb331 := NB300_258.out; have hnc331 := NB258_300.out; have hnb332 := NB300_290.out; have hnc332 := NB290_300.out; have hcz333_0 : w330.cell? ⟨gb300, 0, none⟩ = some (.int .u8 0) := (blk_cell BK300.out 0).trans rfl; have hcz333_1 : w330.cell? ⟨gb300, 1, none⟩ = some (.int .u16 0) := (blk_cell BK300.out 1).trans rfl; have hcz333_2 : w330.cell? ⟨gb300, 2, none⟩ = some (.int .u16 0) := (blk_cell BK300.out 2).trans rfl; have hcz333_3 : w330.cell? ⟨gb300, 3, none⟩ = some (.int .i64 0) := (blk_cell BK300.out 3).trans rfl; have hfz333_0 := blk_frozen BK300.out 0; have hfz333_1 := blk_frozen BK300.out 1; have hfz333_2 := blk_frozen BK300.out 2; have hfz333_3 := blk_frozen BK300.out 3; have hcz334_0 : w330.cell? ⟨gb290, 0, none⟩ = some (.int .u8 t284) := (blk_cell BK290.out 0).trans rfl; have hcz334_1 : w330.cell? ⟨gb290, 1, none⟩ = some (.int .u16 t285) := (blk_cell BK290.out 1).trans rfl; have hcz334_2 : w330.cell? ⟨gb290, 2, none⟩ = some (.int .u16 t286) := (blk_cell BK290.out 2).trans rfl; have hcz334_3 : w330.cell? ⟨gb290, 3, none⟩ = some (.int .i64 t287) := (blk_cell BK290.out 3).trans rfl; have hfz334_0 := blk_frozen BK290.out 0; have hfz334_1 := blk_frozen BK290.out 1; have hfz334_2 := blk_frozen BK290.out 2; have hfz334_3 := blk_frozen BK290.out 3))
      go_ret
      exact ⟨by first | rfl | (simp [errW_none, errW_some] <;> rfl) | (simp [errW_none, errW_some] <;> exact (show ∀ l : List UInt8, l.isEmpty = !(l != []) from fun l => by cases l <;> rfl) _) | (simp [*, errW_none, errW_some] <;> rfl), by repeat (first | (with_reducible first | exact HB.out | apply below_alloc | apply pw_below_drewN | apply below_drew1 | refine below_set ?_ GE258.out | refine below_set ?_ GE290.out | refine below_set ?_ GE300.out) | exact HB.out)⟩
    ·replace c305 := Bool.eq_false_iff.mpr c305
     subst c305
     have H1 : (some false) = some r := by rw [if_neg (show ¬ (false = true) by decide)] at H; exact H
     clear H
     have H := H1
     clear H1
     obtain rfl := Option.some.inj H
     go_wp2_with (first | ((with_reducible refine gate_callee (f := 15) rfl ?_); refine goesL_ (some 117) rfl rfl Tryd.func15 (by kernel_rfl) rfl #[.string a1] rfl (by (try simp only [List.map_toArray, List.map_cons, List.map_nil]); first | done | rfl | (simp only [List.length_drop, List.length_take]; rfl)) ?_; (with_reducible refine (gens_Parse.calls kj4 a1 t284 t285 t286 t287 t288 t289 _ A234.out).mono ?_); rintro e w335 ⟨rfl, hb⟩; refine ⟨_, rfl, ?_⟩; have n0_ := Aside0.mk (blk_below (g := gb258) (o := .cells #[.int .u8 a0_0, .int .u16 a0_1, .int .u16 a0_2, .int .i64 a0_3] 42 (0, 0)) (by (with_reducible repeat (first | refine blk_drewN ?_ _ | refine blk_drew ?_ | refine blk_alloc ?_ _)); exact BK258.out) hb); have n1_ := Aside0.mk (below_step (by repeat (first | (with_reducible first | exact HB.out | apply below_alloc | apply pw_below_drewN | apply below_drew1 | refine below_set ?_ GE258.out) | exact HB.out)) hb); clear BK258; clear HB; have BK258 := n0_; have HB := n1_; clear n0_ n1_; (try clear hb); (try clear hb2); (try clear hk); (try clear hi)) | ((with_reducible refine gate_dst (N := 18) rfl ?_); (try (refine gate_guard (by rfl) ?_; dsimp only)); refine box_event ?hg (N := 18) ?hd (cs := #[.int .u8 0, .int .u16 0, .int .u16 0, .int .i64 0]) (t := 42) ?hr ?_; (case hd => rfl); (case hg => rfl); (case hr => first | (go_simp; done) | (go_simp; rfl)); intro gb290 hg w336 hbox hb; have n0_ := Aside0.mk (blk_below (g := gb258) (o := .cells #[.int .u8 a0_0, .int .u16 a0_1, .int .u16 a0_2, .int .i64 a0_3] 42 (0, 0)) (by (with_reducible repeat (first | refine blk_drewN ?_ _ | refine blk_drew ?_ | refine blk_alloc ?_ _)); exact BK258.out) hb); have n1_ := Aside0.mk (below_step (by repeat (first | (with_reducible first | exact HB.out | apply below_alloc | apply pw_below_drewN | apply below_drew1 | refine below_set ?_ GE258.out) | exact HB.out)) hb); have n2_ := Aside0.mk (hbox); have n3_ := Aside0.mk ((by rw [hg]; exact (below_size (by repeat (first | (with_reducible first | exact HB.out | apply below_alloc | apply pw_below_drewN | apply below_drew1 | refine below_set ?_ GE258.out) | exact HB.out))) : w.heap.size ≤ gb290)); have n4_ := Aside0.mk ((by rw [hg]; exact (below_size (by repeat (first | (with_reducible first | exact HB.out | apply below_alloc | apply pw_below_drewN | apply below_drew1 | refine below_set ?_ GE258.out) | exact HB.out))) : w.heap.size ≤ gb290)); have n5_ := Aside0.mk ((by rw [hg]; exact Nat.ne_of_lt (blk_lt (g := gb258) (o := .cells #[.int .u8 a0_0, .int .u16 a0_1, .int .u16 a0_2, .int .i64 a0_3] 42 (0, 0)) (by (with_reducible repeat (first | refine blk_drewN ?_ _ | refine blk_drew ?_ | refine blk_alloc ?_ _)); exact BK258.out)) : gb258 ≠ gb290)); have n6_ := Aside0.mk ((by rw [hg]; exact Nat.ne_of_gt (blk_lt (g := gb258) (o := .cells #[.int .u8 a0_0, .int .u16 a0_1, .int .u16 a0_2, .int .i64 a0_3] 42 (0, 0)) (by (with_reducible repeat (first | refine blk_drewN ?_ _ | refine blk_drew ?_ | refine blk_alloc ?_ _)); exact BK258.out)) : gb290 ≠ gb258)); clear BK258; clear HB; have BK258 := n0_; have HB := n1_; have BK290 := n2_; have GW290 := n3_; have GE290 := n4_; have NB258_290 := n5_; have NB290_258 := n6_; clear n0_ n1_ n2_ n3_ n4_ n5_ n6_; clear hb hbox hg; have hnb337 := NB290_258.out; have hnc337 := NB258_290.out; have hcz338_0 : w336.cell? ⟨gb290, 0, none⟩ = some (.int .u8 0) := (blk_cell BK290.out 0).trans rfl; have hcz338_1 : w336.cell? ⟨gb290, 1, none⟩ = some (.int .u16 0) := (blk_cell BK290.out 1).trans rfl; have hcz338_2 : w336.cell? ⟨gb290, 2, none⟩ = some (.int .u16 0) := (blk_cell BK290.out 2).trans rfl; have hcz338_3 : w336.cell? ⟨gb290, 3, none⟩ = some (.int .i64 0) := (blk_cell BK290.out 3).trans rfl; have hfz338_0 := blk_frozen BK290.out 0; have hfz338_1 := blk_frozen BK290.out 1; have hfz338_2 := blk_frozen BK290.out 2; have hfz338_3 := blk_frozen BK290.out 3) | ((with_reducible refine gate_dst (N := 20) rfl ?_); (try (refine gate_guard (by rfl) ?_; dsimp only)); refine box_event ?hg (N := 20) ?hd (cs := #[.int .u8 0, .int .u16 0, .int .u16 0, .int .i64 0]) (t := 42) ?hr ?_; (case hd => rfl); (case hg => rfl); (case hr => first | (go_simp; done) | (go_simp; rfl)); intro gb300 hg w339 hbox hb; have n0_ := Aside0.mk (blk_below (g := gb258) (o := .cells #[.int .u8 a0_0, .int .u16 a0_1, .int .u16 a0_2, .int .i64 a0_3] 42 (0, 0)) (by (with_reducible repeat (first | refine blk_drewN ?_ _ | refine blk_drew ?_ | refine blk_alloc ?_ _)); refine blk_far ?_ NB258_290.out _; (with_reducible repeat (first | refine blk_drewN ?_ _ | refine blk_drew ?_ | refine blk_alloc ?_ _)); refine blk_far ?_ NB258_290.out _; (with_reducible repeat (first | refine blk_drewN ?_ _ | refine blk_drew ?_ | refine blk_alloc ?_ _)); refine blk_far ?_ NB258_290.out _; (with_reducible repeat (first | refine blk_drewN ?_ _ | refine blk_drew ?_ | refine blk_alloc ?_ _)); refine blk_far ?_ NB258_290.out _; (with_reducible repeat (first | refine blk_drewN ?_ _ | refine blk_drew ?_ | refine blk_alloc ?_ _)); exact BK258.out) hb); have n1_ := Aside0.mk (blk_below (g := gb290) (o := .cells #[.int .u8 t284, .int .u16 t285, .int .u16 t286, .int .i64 t287] 42 (0, 0)) (by (with_reducible repeat (first | refine blk_drewN ?_ _ | refine blk_drew ?_ | refine blk_alloc ?_ _)); refine blk_put (cs := #[.int .u8 t284, .int .u16 t285, .int .u16 t286, .int .i64 0]) ?_ 3 _ rfl; (with_reducible repeat (first | refine blk_drewN ?_ _ | refine blk_drew ?_ | refine blk_alloc ?_ _)); refine blk_put (cs := #[.int .u8 t284, .int .u16 t285, .int .u16 0, .int .i64 0]) ?_ 2 _ rfl; (with_reducible repeat (first | refine blk_drewN ?_ _ | refine blk_drew ?_ | refine blk_alloc ?_ _)); refine blk_put (cs := #[.int .u8 t284, .int .u16 0, .int .u16 0, .int .i64 0]) ?_ 1 _ rfl; (with_reducible repeat (first | refine blk_drewN ?_ _ | refine blk_drew ?_ | refine blk_alloc ?_ _)); refine blk_put (cs := #[.int .u8 0, .int .u16 0, .int .u16 0, .int .i64 0]) ?_ 0 _ rfl; (with_reducible repeat (first | refine blk_drewN ?_ _ | refine blk_drew ?_ | refine blk_alloc ?_ _)); exact BK290.out) hb); have n2_ := Aside0.mk (below_step (by repeat (first | (with_reducible first | exact HB.out | apply below_alloc | apply pw_below_drewN | apply below_drew1 | refine below_set ?_ GE258.out | refine below_set ?_ GE290.out) | exact HB.out)) hb); have n3_ := Aside0.mk (hbox); have n4_ := Aside0.mk ((by rw [hg]; exact (below_size (by repeat (first | (with_reducible first | exact HB.out | apply below_alloc | apply pw_below_drewN | apply below_drew1 | refine below_set ?_ GE258.out | refine below_set ?_ GE290.out) | exact HB.out))) : w.heap.size ≤ gb300)); have n5_ := Aside0.mk ((by rw [hg]; exact (below_size (by repeat (first | (with_reducible first | exact HB.out | apply below_alloc | apply pw_below_drewN | apply below_drew1 | refine below_set ?_ GE258.out | refine below_set ?_ GE290.out) | exact HB.out))) : w.heap.size ≤ gb300)); have n6_ := Aside0.mk ((by rw [hg]; exact Nat.ne_of_lt (blk_lt (g := gb258) (o := .cells #[.int .u8 a0_0, .int .u16 a0_1, .int .u16 a0_2, .int .i64 a0_3] 42 (0, 0)) (by (with_reducible repeat (first | refine blk_drewN ?_ _ | refine blk_drew ?_ | refine blk_alloc ?_ _)); refine blk_far ?_ NB258_290.out _; (with_reducible repeat (first | refine blk_drewN ?_ _ | refine blk_drew ?_ | refine blk_alloc ?_ _)); refine blk_far ?_ NB258_290.out _; (with_reducible repeat (first | refine blk_drewN ?_ _ | refine blk_drew ?_ | refine blk_alloc ?_ _)); refine blk_far ?_ NB258_290.out _; (with_reducible repeat (first | refine blk_drewN ?_ _ | refine blk_drew ?_ | refine blk_alloc ?_ _)); refine blk_far ?_ NB258_290.out _; (with_reducible repeat (first | refine blk_drewN ?_ _ | refine blk_drew ?_ | refine blk_alloc ?_ _)); exact BK258.out)) : gb258 ≠ gb300)); have n7_ := Aside0.mk ((by rw [hg]; exact Nat.ne_of_gt (blk_lt (g := gb258) (o := .cells #[.int .u8 a0_0, .int .u16 a0_1, .int .u16 a0_2, .int .i64 a0_3] 42 (0, 0)) (by (with_reducible repeat (first | refine blk_drewN ?_ _ | refine blk_drew ?_ | refine blk_alloc ?_ _)); refine blk_far ?_ NB258_290.out _; (with_reducible repeat (first | refine blk_drewN ?_ _ | refine blk_drew ?_ | refine blk_alloc ?_ _)); refine blk_far ?_ NB258_290.out _; (with_reducible repeat (first | refine blk_drewN ?_ _ | refine blk_drew ?_ | refine blk_alloc ?_ _)); refine blk_far ?_ NB258_290.out _; (with_reducible repeat (first | refine blk_drewN ?_ _ | refine blk_drew ?_ | refine blk_alloc ?_ _)); refine blk_far ?_ NB258_290.out _; (with_reducible repeat (first | refine blk_drewN ?_ _ | refine blk_drew ?_ | refine blk_alloc ?_ _)); exact BK258.out)) : gb300 ≠ gb258)); have n8_ := Aside0.mk ((by rw [hg]; exact Nat.ne_of_lt (blk_lt (g := gb290) (o := .cells #[.int .u8 t284, .int .u16 t285, .int .u16 t286, .int .i64 t287] 42 (0, 0)) (by (with_reducible repeat (first | refine blk_drewN ?_ _ | refine blk_drew ?_ | refine blk_alloc ?_ _)); refine blk_put (cs := #[.int .u8 t284, .int .u16 t285, .int .u16 t286, .int .i64 0]) ?_ 3 _ rfl; (with_reducible repeat (first | refine blk_drewN ?_ _ | refine blk_drew ?_ | refine blk_alloc ?_ _)); refine blk_put (cs := #[.int .u8 t284, .int .u16 t285, .int .u16 0, .int .i64 0]) ?_ 2 _ rfl; (with_reducible repeat (first | refine blk_drewN ?_ _ | refine blk_drew ?_ | refine blk_alloc ?_ _)); refine blk_put (cs := #[.int .u8 t284, .int .u16 0, .int .u16 0, .int .i64 0]) ?_ 1 _ rfl; (with_reducible repeat (first | refine blk_drewN ?_ _ | refine blk_drew ?_ | refine blk_alloc ?_ _)); refine blk_put (cs := #[.int .u8 0, .int .u16 0, .int .u16 0, .int .i64 0]) ?_ 0 _ rfl; (with_reducible repeat (first | refine blk_drewN ?_ _ | refine blk_drew ?_ | refine blk_alloc ?_ _)); exact BK290.out)) : gb290 ≠ gb300)); have n9_ := Aside0.mk ((by rw [hg]; exact Nat.ne_of_gt (blk_lt (g := gb290) (o := .cells #[.int .u8 t284, .int .u16 t285, .int .u16 t286, .int .i64 t287] 42 (0, 0)) (by (with_reducible repeat (first | refine blk_drewN ?_ _ | refine blk_drew ?_ | refine blk_alloc ?_ _)); refine blk_put (cs := #[.int .u8 t284, .int .u16 t285, .int .u16 t286, .int .i64 0]) ?_ 3 _ rfl; (with_reducible repeat (first | refine blk_drewN ?_ _ | refine blk_drew ?_ | refine blk_alloc ?_ _)); refine blk_put (cs := #[.int .u8 t284, .int .u16 t285, .int .u16 0, .int .i64 0]) ?_ 2 _ rfl; (with_reducible repeat (first | refine blk_drewN ?_ _ | refine blk_drew ?_ | refine blk_alloc ?_ _)); refine blk_put (cs := #[.int .u8 t284, .int .u16 0, .int .u16 0, .int .i64 0]) ?_ 1 _ rfl; (with_reducible repeat (first | refine blk_drewN ?_ _ | refine blk_drew ?_ | refine blk_alloc ?_ _)); refine blk_put (cs := #[.int .u8 0, .int .u16 0, .int .u16 0, .int .i64 0]) ?_ 0 _ rfl; (with_reducible repeat (first | refine blk_drewN ?_ _ | refine blk_drew ?_ | refine blk_alloc ?_ _)); exact BK290.out)) : gb300 ≠ gb290)); clear BK258; clear BK290; clear HB; have BK258 := n0_; have BK290 := n1_; have HB := n2_; have BK300 := n3_; have GW300 := n4_; have GE300 := n5_; have NB258_300 := n6_; have NB300_258 := n7_; have NB290_300 := n8_; have NB300_290 := n9_; clear n0_ n1_ n2_ n3_ n4_ n5_ n6_ n7_ n8_ n9_; clear hb hbox hg; have hnb340 := NB300_258.out; have hnc340 := NB258_300.out; have hnb341 := NB300_290.out; have hnc341 := NB290_300.out; have hcz342_0 : w339.cell? ⟨gb300, 0, none⟩ = some (.int .u8 0) := (blk_cell BK300.out 0).trans rfl; have hcz342_1 : w339.cell? ⟨gb300, 1, none⟩ = some (.int .u16 0) := (blk_cell BK300.out 1).trans rfl; have hcz342_2 : w339.cell? ⟨gb300, 2, none⟩ = some (.int .u16 0) := (blk_cell BK300.out 2).trans rfl; have hcz342_3 : w339.cell? ⟨gb300, 3, none⟩ = some (.int .i64 0) := (blk_cell BK300.out 3).trans rfl; have hfz342_0 := blk_frozen BK300.out 0; have hfz342_1 := blk_frozen BK300.out 1; have hfz342_2 := blk_frozen BK300.out 2; have hfz342_3 := blk_frozen BK300.out 3))
     go_ret
     exact ⟨by first | rfl | (simp [errW_none, errW_some] <;> rfl) | (simp [errW_none, errW_some] <;> exact (show ∀ l : List UInt8, l.isEmpty = !(l != []) from fun l => by cases l <;> rfl) _) | (simp [*, errW_none, errW_some] <;> rfl), by repeat (first | (with_reducible first | exact HB.out | apply below_alloc | apply pw_below_drewN | apply below_drew1 | refine below_set ?_ GE258.out | refine below_set ?_ GE290.out | refine below_set ?_ GE300.out) | exact HB.out)⟩

/-- Told where it is true. -/
def vivariumlaw09_GensBack.f (k : Nat) (a0_0 : Int) (a0_1 : Int) (a0_2 : Int) (a0_3 : Int) (a1 : ByteArray) : Option (Bool) := (vivariumlaw09_GensBack.f0 k a0_0 a0_1 a0_2 a0_3 a1).bind fun b => if b = true then some true else none
theorem vivariumlaw09_GensBack.to0 (k : Nat) (a0_0 : Int) (a0_1 : Int) (a0_2 : Int) (a0_3 : Int) (a1 : ByteArray) (r : Bool) (h : vivariumlaw09_GensBack.f k a0_0 a0_1 a0_2 a0_3 a1 = some r) : vivariumlaw09_GensBack.f0 k a0_0 a0_1 a0_2 a0_3 a1 = some r ∧ r = true := by
 unfold vivariumlaw09_GensBack.f at h
 obtain ⟨b, h0, h⟩ := Option.bind_eq_some_iff.mp h
 cases b with
 | true => rw [if_pos rfl] at h; cases h; exact ⟨h0, rfl⟩
 | false => rw [if_neg (by decide)] at h; cases h
theorem vivariumlaw09_GensBack.mono : ∀ a0_0 a0_1 a0_2 a0_3 a1 k, LeO (vivariumlaw09_GensBack.f k a0_0 a0_1 a0_2 a0_3 a1) (vivariumlaw09_GensBack.f (k + 1) a0_0 a0_1 a0_2 a0_3 a1) := by
 intro a0_0 a0_1 a0_2 a0_3 a1 k
 exact LeO.bind (vivariumlaw09_GensBack.mono0 a0_0 a0_1 a0_2 a0_3 a1 k) (fun _ => LeO.refl _)
theorem vivariumlaw09_GensBack.calls (k : Nat) (a0_0 : Int) (a0_1 : Int) (a0_2 : Int) (a0_3 : Int) (a1 : ByteArray) (r : Bool) (w : World) (h : vivariumlaw09_GensBack.f k a0_0 a0_1 a0_2 a0_3 a1 = some r) (HTb_ : TabsOk w) :
  Calls Tryd.prog 7 #[.agg #[.int .u8 a0_0, .int .u16 a0_1, .int .u16 a0_2, .int .i64 a0_3], .string a1] w fun e w' => e = .returned (.bool r) ∧ Below w.heap.size w w' := vivariumlaw09_GensBack.calls0 k a0_0 a0_1 a0_2 a0_3 a1 r w  (vivariumlaw09_GensBack.to0 k a0_0 a0_1 a0_2 a0_3 a1 r h).1 ⟨(vivariumlaw09_GensBack.to0 k a0_0 a0_1 a0_2 a0_3 a1 r h).2⟩ HTb_

/-- THE ONE PURE STATEMENT of vivariumlaw09_GensBack. -/
def vivariumlaw09_GensBack.Pure : Prop := ∀ (a0_0 : Int) (a0_1 : Int) (a0_2 : Int) (a0_3 : Int) (a1 : ByteArray), (Lit.int .u8 a0_0).wf = true → (Lit.int .u16 a0_1).wf = true → (Lit.int .u16 a0_2).wf = true → (Lit.int .i64 a0_3).wf = true → a1.size ≤ 140737488351232 → ∃ k, vivariumlaw09_GensBack.f k a0_0 a0_1 a0_2 a0_3 a1 = some true
theorem vivariumlaw09_GensBack.walk (P : vivariumlaw09_GensBack.Pure) (a0_0 : Int) (a0_1 : Int) (a0_2 : Int) (a0_3 : Int) (a1 : ByteArray) (w : World) (w0_0 : (Lit.int .u8 a0_0).wf = true) (w0_1 : (Lit.int .u16 a0_1).wf = true) (w0_2 : (Lit.int .u16 a0_2).wf = true) (w0_3 : (Lit.int .i64 a0_3).wf = true) (w1 : a1.size ≤ 140737488351232) (HTb_ : TabsOk w) :
  Calls Tryd.prog 7 #[.agg #[.int .u8 a0_0, .int .u16 a0_1, .int .u16 a0_2, .int .i64 a0_3], .string a1] w fun e w' => e = .returned (.bool true) ∧ Below w.heap.size w w' := by
 obtain ⟨k, h⟩ := P a0_0 a0_1 a0_2 a0_3 a1 w0_0 w0_1 w0_2 w0_3 w1
 refine (vivariumlaw09_GensBack.calls k a0_0 a0_1 a0_2 a0_3 a1 true w h HTb_).mono ?_
 rintro e w' ⟨rfl, hd⟩
 exact ⟨rfl, hd⟩

end Go.Proofs.YtkahgdkpehlanaaDoor.P

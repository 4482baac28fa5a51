-- Written by a program of this session (wip/tools/mk.py) that runs the kit's printer; several functions' texts in one.
import Derived.Test.YtkahgdkpehlanaaDoorP0
import Derived.Test.YtkahgdkpehlanaaDoorPm15
namespace Go.Proofs.YtkahgdkpehlanaaDoor.P
open Go.RowKit Go.Proofs.YtkahgdkpehlanaaDoorW.PrintWords Go.Proofs.YtkahgdkpehlanaaDoorW.PrintLast Go.Proofs.YtkahgdkpehlanaaDoorW.PrintMore
attribute [local go_sem] max2_int min2_int max_two min_two   -- for this text's walks alone
set_option linter.unusedVariables false
set_option linter.unusedSimpArgs false

/-! ### vivariumref09_Next: function 21 -/
mutual
def vivariumref09_Next.j0 : Nat → Int → Int → Int → Int → Int → Int → Int → Option (Int × Int)
  | 0, _, _, _, _, _, _, _ => none
  | k + 1, x1, x2, x9, x265000, x265001, x265002, x265003 => if x265000 = 3 then (vivariumref09_Next.j1 k x1 x2 6 x265000 x265001 x265002 x265003) else (vivariumref09_Next.j1 k x1 x2 x9 x265000 x265001 x265002 x265003)
def vivariumref09_Next.j1 : Nat → Int → Int → Int → Int → Int → Int → Int → Option (Int × Int)
  | 0, _, _, _, _, _, _, _ => none
  | k + 1, x1, x2, x9, x265000, x265001, x265002, x265003 => if x2 < 0 then (vivariumref09_Next.j2 k x1 x2 true x265000 x265001 x265002 x265003) else (vivariumref09_Next.j2 k x1 x2 (decide (x2 > x9)) x265000 x265001 x265002 x265003)
def vivariumref09_Next.j2 : Nat → Int → Int → Bool → Int → Int → Int → Int → Option (Int × Int)
  | 0, _, _, _, _, _, _, _ => none
  | k + 1, x1, x2, x36, x265000, x265001, x265002, x265003 => if x36 = true then (some (0, 2)) else (if 0 ≤ x2 then (if x1 = 0 then (if (Go.bits .and .u16 x265001 (shl .u16 1 x2)) = 0 then (if 0 ≥ x265003 then (some (0, 0)) else (some (0, 0))) else (if 1 ≥ x265003 then (some (0, 0)) else (some (1, 0)))) else (if x1 = 1 then (if (Go.bits .and .u16 x265002 (shl .u16 1 x2)) = 0 then (if (wrap64 ((wrap64 (x1)) + 1)) ≥ x265003 then (some (0, 0)) else (some ((wrap64 ((wrap64 (x1)) + 1)) % 256, 0))) else (if 1 ≥ x265003 then (some (0, 0)) else (some (1, 0)))) else (if (wrap64 ((wrap64 (x1)) + 1)) ≥ x265003 then (some (0, 0)) else (some ((wrap64 ((wrap64 (x1)) + 1)) % 256, 0))))) else (none))
end
def vivariumref09_Next.f (k : Nat) (a0_0 : Int) (a0_1 : Int) (a0_2 : Int) (a0_3 : Int) (a1 : Int) (a2 : Int) : Option (Int × Int) := (vivariumref09_Check.f k a0_0 a0_1 a0_2 a0_3).bind fun t265 => (if t265 = 0 then (if (wrap64 (a1)) ≥ a0_3 then (some (0, 7)) else (if a0_0 = 2 then (vivariumref09_Next.j0 k a1 a2 4 a0_0 a0_1 a0_2 a0_3) else (vivariumref09_Next.j0 k a1 a2 8 a0_0 a0_1 a0_2 a0_3))) else (some (0, t265)))
theorem vivariumref09_Next.mono_l : ∀ k, (∀ y0 y1 y2 y3 y4 y5 y6, LeO (vivariumref09_Next.j0 k y0 y1 y2 y3 y4 y5 y6) (vivariumref09_Next.j0 (k + 1) y0 y1 y2 y3 y4 y5 y6)) ∧ (∀ y0 y1 y2 y3 y4 y5 y6, LeO (vivariumref09_Next.j1 k y0 y1 y2 y3 y4 y5 y6) (vivariumref09_Next.j1 (k + 1) y0 y1 y2 y3 y4 y5 y6)) ∧ (∀ y0 y1 y2 y3 y4 y5 y6, LeO (vivariumref09_Next.j2 k y0 y1 y2 y3 y4 y5 y6) (vivariumref09_Next.j2 (k + 1) y0 y1 y2 y3 y4 y5 y6))
  | 0 => ⟨fun _ _ _ _ _ _ _ r h => by simp [vivariumref09_Next.j0] at h, fun _ _ _ _ _ _ _ r h => by simp [vivariumref09_Next.j1] at h, fun _ _ _ _ _ _ _ r h => by simp [vivariumref09_Next.j2] at h⟩
  | k + 1 => by
    obtain ⟨ih0, ih1, ih2⟩ := vivariumref09_Next.mono_l k
    refine ⟨?_, ?_, ?_⟩
    · intro y0 y1 y2 y3 y4 y5 y6
      unfold vivariumref09_Next.j0
      repeat' first
      | (with_reducible exact ih0 _ _ _ _ _ _ _)
      | (with_reducible exact ih1 _ _ _ _ _ _ _)
      | (with_reducible exact ih2 _ _ _ _ _ _ _)
      | (with_reducible exact vivariumref09_Check.mono _ _ _ _ _)
      | (with_reducible exact LeO.refl _)
      | (with_reducible exact LeO.none _)
      | (with_reducible refine LeO.ite ?_ ?_)
      | (with_reducible refine LeO.bind ?_ (fun _ => ?_))
      | exact ih0 _ _ _ _ _ _ _
      | exact ih1 _ _ _ _ _ _ _
      | exact ih2 _ _ _ _ _ _ _
      | exact vivariumref09_Check.mono _ _ _ _ _
      | exact LeO.none _
      | refine LeO.ite ?_ ?_
      | refine LeO.bind ?_ (fun _ => ?_)
    · intro y0 y1 y2 y3 y4 y5 y6
      unfold vivariumref09_Next.j1
      repeat' first
      | (with_reducible exact ih0 _ _ _ _ _ _ _)
      | (with_reducible exact ih1 _ _ _ _ _ _ _)
      | (with_reducible exact ih2 _ _ _ _ _ _ _)
      | (with_reducible exact vivariumref09_Check.mono _ _ _ _ _)
      | (with_reducible exact LeO.refl _)
      | (with_reducible exact LeO.none _)
      | (with_reducible refine LeO.ite ?_ ?_)
      | (with_reducible refine LeO.bind ?_ (fun _ => ?_))
      | exact ih0 _ _ _ _ _ _ _
      | exact ih1 _ _ _ _ _ _ _
      | exact ih2 _ _ _ _ _ _ _
      | exact vivariumref09_Check.mono _ _ _ _ _
      | exact LeO.none _
      | refine LeO.ite ?_ ?_
      | refine LeO.bind ?_ (fun _ => ?_)
    · intro y0 y1 y2 y3 y4 y5 y6
      unfold vivariumref09_Next.j2
      repeat' first
      | (with_reducible exact ih0 _ _ _ _ _ _ _)
      | (with_reducible exact ih1 _ _ _ _ _ _ _)
      | (with_reducible exact ih2 _ _ _ _ _ _ _)
      | (with_reducible exact vivariumref09_Check.mono _ _ _ _ _)
      | (with_reducible exact LeO.refl _)
      | (with_reducible exact LeO.none _)
      | (with_reducible refine LeO.ite ?_ ?_)
      | (with_reducible refine LeO.bind ?_ (fun _ => ?_))
      | exact ih0 _ _ _ _ _ _ _
      | exact ih1 _ _ _ _ _ _ _
      | exact ih2 _ _ _ _ _ _ _
      | exact vivariumref09_Check.mono _ _ _ _ _
      | exact LeO.none _
      | refine LeO.ite ?_ ?_
      | refine LeO.bind ?_ (fun _ => ?_)
theorem vivariumref09_Next.mono : ∀ a0 a1 a2 a3 a4 a5 k, LeO (vivariumref09_Next.f k a0 a1 a2 a3 a4 a5) (vivariumref09_Next.f (k + 1) a0 a1 a2 a3 a4 a5) := by
  intro a0 a1 a2 a3 a4 a5 k
  obtain ⟨ih0, ih1, ih2⟩ := vivariumref09_Next.mono_l k
  unfold vivariumref09_Next.f
  repeat' first
      | (with_reducible exact ih0 _ _ _ _ _ _ _)
      | (with_reducible exact ih1 _ _ _ _ _ _ _)
      | (with_reducible exact ih2 _ _ _ _ _ _ _)
      | (with_reducible exact vivariumref09_Check.mono _ _ _ _ _)
      | (with_reducible exact LeO.refl _)
      | (with_reducible exact LeO.none _)
      | (with_reducible refine LeO.ite ?_ ?_)
      | (with_reducible refine LeO.bind ?_ (fun _ => ?_))
      | exact ih0 _ _ _ _ _ _ _
      | exact ih1 _ _ _ _ _ _ _
      | exact ih2 _ _ _ _ _ _ _
      | exact vivariumref09_Check.mono _ _ _ _ _
      | exact LeO.none _
      | refine LeO.ite ?_ ?_
      | refine LeO.bind ?_ (fun _ => ?_)
set_option maxHeartbeats 8000000 in
set_option maxRecDepth 100000 in
theorem vivariumref09_Next.calls (k : Nat) (a0_0 : Int) (a0_1 : Int) (a0_2 : Int) (a0_3 : Int) (a1 : Int) (a2 : Int) (r1 : Int) (r2 : Int) (w : World) (h : vivariumref09_Next.f k a0_0 a0_1 a0_2 a0_3 a1 a2 = some (r1, r2)) :
    Calls Tryd.prog 21 #[.agg #[.int .u8 a0_0, .int .u16 a0_1, .int .u16 a0_2, .int .i64 a0_3], .int .u8 a1, .int .i64 a2] w fun e w' => e = .returned (.tuple #[.int .u8 r1, .int .i64 r2]) ∧ Below w.heap.size w w' := by
  have hu42 := Tryd.underlying42
  have HB := Aside0.mk (Below.refl w.heap.size w)
  have H : ((vivariumref09_Check.f k a0_0 a0_1 a0_2 a0_3).bind fun t265 => (if t265 = 0 then (if (wrap64 (a1)) ≥ a0_3 then (some (0, 7)) else (if a0_0 = 2 then (vivariumref09_Next.j0 k a1 a2 4 a0_0 a0_1 a0_2 a0_3) else (vivariumref09_Next.j0 k a1 a2 8 a0_0 a0_1 a0_2 a0_3))) else (some (0, t265)))) = some (r1, r2) := h
  clear h
  replace H := Option.bind_eq_some_iff.mp H
  obtain ⟨t265, A40, H⟩ := H
  replace H : (if t265 = 0 then (if (wrap64 (a1)) ≥ a0_3 then (some (0, 7)) else (if a0_0 = 2 then (vivariumref09_Next.j0 k a1 a2 4 a0_0 a0_1 a0_2 a0_3) else (vivariumref09_Next.j0 k a1 a2 8 a0_0 a0_1 a0_2 a0_3))) else (some (0, t265))) = some (r1, r2) := H
  have A4 := Aside0.mk A40
  clear A40
  by_cases c5 : t265 = 0
  · rw [if_pos c5] at H
    have c5b0 : (t265 == 0) = true := beq_iff_eq.mpr c5
    have c5b1 : (t265 != 0) = false := bne_eq_false_iff_eq.mpr c5
    clear c5
    by_cases c6 : (wrap64 (a1)) ≥ a0_3
    · rw [if_pos c6] at H
      have c6b0 : decide (a0_3 ≤ (wrap64 (a1))) = true := decide_eq_true c6
      clear c6
      simp only [Option.some.injEq, Prod.mk.injEq] at H
      obtain ⟨rfl, rfl⟩ := H
      go_enter Tryd.func21, Tryd.ntmps21
      go_wp2_with (first | ((with_reducible refine gate_dst (N := 3) rfl ?_); refine box_event ?hg (N := 3) ?hd (cs := #[.int .u8 a0_0, .int .u16 a0_1, .int .u16 a0_2, .int .i64 a0_3]) (t := 42) ?hr ?_; (case hd => rfl); (case hg => rfl); (case hr => first | (go_simp; done) | (go_simp; rfl)); intro gb264 hg w7 hbox hb; have n0_ := Aside0.mk (below_step (by repeat (first | (with_reducible first | exact HB.out | apply below_alloc | apply pw_below_drewN | apply below_drew1) | exact HB.out)) hb); have n1_ := Aside0.mk (hbox); have n2_ := Aside0.mk ((by rw [hg]; exact (below_size (by repeat (first | (with_reducible first | exact HB.out | apply below_alloc | apply pw_below_drewN | apply below_drew1) | exact HB.out))) : w.heap.size ≤ gb264)); have n3_ := Aside0.mk ((by rw [hg]; exact (below_size (by repeat (first | (with_reducible first | exact HB.out | apply below_alloc | apply pw_below_drewN | apply below_drew1) | exact HB.out))) : w.heap.size ≤ gb264)); clear HB; have HB := n0_; have BK264 := n1_; have GW264 := n2_; have GE264 := n3_; clear n0_ n1_ n2_ n3_; clear hb hbox hg; have hcz8_0 : w7.cell? ⟨gb264, 0, none⟩ = some (.int .u8 a0_0) := (blk_cell BK264.out 0).trans rfl; have hcz8_1 : w7.cell? ⟨gb264, 1, none⟩ = some (.int .u16 a0_1) := (blk_cell BK264.out 1).trans rfl; have hcz8_2 : w7.cell? ⟨gb264, 2, none⟩ = some (.int .u16 a0_2) := (blk_cell BK264.out 2).trans rfl; have hcz8_3 : w7.cell? ⟨gb264, 3, none⟩ = some (.int .i64 a0_3) := (blk_cell BK264.out 3).trans rfl; have hfz8_0 := blk_frozen BK264.out 0; have hfz8_1 := blk_frozen BK264.out 1; have hfz8_2 := blk_frozen BK264.out 2; have hfz8_3 := blk_frozen BK264.out 3) | ((with_reducible refine gate_callee (f := 19) rfl ?_); refine goesL_ (some 13) rfl rfl Tryd.func19 (by kernel_rfl) rfl #[.agg #[.int .u8 a0_0, .int .u16 a0_1, .int .u16 a0_2, .int .i64 a0_3]] rfl (by (try simp only [List.map_toArray, List.map_cons, List.map_nil]); first | done | rfl | (simp only [List.length_drop, List.length_take]; rfl)) ?_; (with_reducible refine (vivariumref09_Check.calls k a0_0 a0_1 a0_2 a0_3 t265 _ A4.out).mono ?_); rintro e w9 ⟨rfl, hb⟩; refine ⟨_, rfl, ?_⟩; have n0_ := Aside0.mk (blk_below (g := gb264) (o := .cells #[.int .u8 a0_0, .int .u16 a0_1, .int .u16 a0_2, .int .i64 a0_3] 42 (0, 0)) (by (with_reducible repeat (first | refine blk_drewN ?_ _ | refine blk_drew ?_ | refine blk_alloc ?_ _)); exact BK264.out) hb); have n1_ := Aside0.mk (below_step (by repeat (first | (with_reducible first | exact HB.out | apply below_alloc | apply pw_below_drewN | apply below_drew1 | refine below_set ?_ GE264.out) | exact HB.out)) hb); clear BK264; clear HB; have BK264 := n0_; have HB := n1_; clear n0_ n1_; (try clear hb); (try clear hb2); (try clear hk); (try clear hi); have hcz10_0 : w9.cell? ⟨gb264, 0, none⟩ = some (.int .u8 a0_0) := (blk_cell BK264.out 0).trans rfl; have hcz10_1 : w9.cell? ⟨gb264, 1, none⟩ = some (.int .u16 a0_1) := (blk_cell BK264.out 1).trans rfl; have hcz10_2 : w9.cell? ⟨gb264, 2, none⟩ = some (.int .u16 a0_2) := (blk_cell BK264.out 2).trans rfl; have hcz10_3 : w9.cell? ⟨gb264, 3, none⟩ = some (.int .i64 a0_3) := (blk_cell BK264.out 3).trans rfl; have hfz10_0 := blk_frozen BK264.out 0; have hfz10_1 := blk_frozen BK264.out 1; have hfz10_2 := blk_frozen BK264.out 2; have hfz10_3 := blk_frozen BK264.out 3))
      go_ret2
      exact ⟨by first | rfl | (simp [errW_none, errW_some] <;> rfl) | (simp [*, errW_none, errW_some] <;> rfl), by repeat (first | (with_reducible first | exact HB.out | apply below_alloc | apply pw_below_drewN | apply below_drew1 | refine below_set ?_ GE264.out) | exact HB.out)⟩
    · rw [if_neg c6] at H
      have c6b0 : decide (a0_3 ≤ (wrap64 (a1))) = false := decide_eq_false c6
      clear c6
      have HC11 := Aside0.mk H
      clear H
      go_enter Tryd.func21, Tryd.ntmps21
      go_upto_if 25 with (first | ((with_reducible refine gate_dst (N := 3) rfl ?_); refine box_event ?hg (N := 3) ?hd (cs := #[.int .u8 a0_0, .int .u16 a0_1, .int .u16 a0_2, .int .i64 a0_3]) (t := 42) ?hr ?_; (case hd => rfl); (case hg => rfl); (case hr => first | (go_simp; done) | (go_simp; rfl)); intro gb264 hg w12 hbox hb; have n0_ := Aside0.mk (below_step (by repeat (first | (with_reducible first | exact HB.out | apply below_alloc | apply pw_below_drewN | apply below_drew1) | exact HB.out)) hb); have n1_ := Aside0.mk (hbox); have n2_ := Aside0.mk ((by rw [hg]; exact (below_size (by repeat (first | (with_reducible first | exact HB.out | apply below_alloc | apply pw_below_drewN | apply below_drew1) | exact HB.out))) : w.heap.size ≤ gb264)); have n3_ := Aside0.mk ((by rw [hg]; exact (below_size (by repeat (first | (with_reducible first | exact HB.out | apply below_alloc | apply pw_below_drewN | apply below_drew1) | exact HB.out))) : w.heap.size ≤ gb264)); clear HB; have HB := n0_; have BK264 := n1_; have GW264 := n2_; have GE264 := n3_; clear n0_ n1_ n2_ n3_; clear hb hbox hg; have hcz13_0 : w12.cell? ⟨gb264, 0, none⟩ = some (.int .u8 a0_0) := (blk_cell BK264.out 0).trans rfl; have hcz13_1 : w12.cell? ⟨gb264, 1, none⟩ = some (.int .u16 a0_1) := (blk_cell BK264.out 1).trans rfl; have hcz13_2 : w12.cell? ⟨gb264, 2, none⟩ = some (.int .u16 a0_2) := (blk_cell BK264.out 2).trans rfl; have hcz13_3 : w12.cell? ⟨gb264, 3, none⟩ = some (.int .i64 a0_3) := (blk_cell BK264.out 3).trans rfl; have hfz13_0 := blk_frozen BK264.out 0; have hfz13_1 := blk_frozen BK264.out 1; have hfz13_2 := blk_frozen BK264.out 2; have hfz13_3 := blk_frozen BK264.out 3) | ((with_reducible refine gate_callee (f := 19) rfl ?_); refine goesL_ (some 13) rfl rfl Tryd.func19 (by kernel_rfl) rfl #[.agg #[.int .u8 a0_0, .int .u16 a0_1, .int .u16 a0_2, .int .i64 a0_3]] rfl (by (try simp only [List.map_toArray, List.map_cons, List.map_nil]); first | done | rfl | (simp only [List.length_drop, List.length_take]; rfl)) ?_; (with_reducible refine (vivariumref09_Check.calls k a0_0 a0_1 a0_2 a0_3 t265 _ A4.out).mono ?_); rintro e w14 ⟨rfl, hb⟩; refine ⟨_, rfl, ?_⟩; have n0_ := Aside0.mk (blk_below (g := gb264) (o := .cells #[.int .u8 a0_0, .int .u16 a0_1, .int .u16 a0_2, .int .i64 a0_3] 42 (0, 0)) (by (with_reducible repeat (first | refine blk_drewN ?_ _ | refine blk_drew ?_ | refine blk_alloc ?_ _)); exact BK264.out) hb); have n1_ := Aside0.mk (below_step (by repeat (first | (with_reducible first | exact HB.out | apply below_alloc | apply pw_below_drewN | apply below_drew1 | refine below_set ?_ GE264.out) | exact HB.out)) hb); clear BK264; clear HB; have BK264 := n0_; have HB := n1_; clear n0_ n1_; (try clear hb); (try clear hb2); (try clear hk); (try clear hi); have hcz15_0 : w14.cell? ⟨gb264, 0, none⟩ = some (.int .u8 a0_0) := (blk_cell BK264.out 0).trans rfl; have hcz15_1 : w14.cell? ⟨gb264, 1, none⟩ = some (.int .u16 a0_1) := (blk_cell BK264.out 1).trans rfl; have hcz15_2 : w14.cell? ⟨gb264, 2, none⟩ = some (.int .u16 a0_2) := (blk_cell BK264.out 2).trans rfl; have hcz15_3 : w14.cell? ⟨gb264, 3, none⟩ = some (.int .i64 a0_3) := (blk_cell BK264.out 3).trans rfl; have hfz15_0 := blk_frozen BK264.out 0; have hfz15_1 := blk_frozen BK264.out 1; have hfz15_2 := blk_frozen BK264.out 2; have hfz15_3 := blk_frozen BK264.out 3))
      (try simp only [Act.put, List.setIfInBounds_toArray, List.set_cons_zero, List.set_cons_succ])
      go_cut [9] (fun v9 wc => ∃ (kq : Nat) (x9_10 : Int), v9 = .int .i64 x9_10 ∧ Aside0 (vivariumref09_Next.j0 kq a1 a2 x9_10 a0_0 a0_1 a0_2 a0_3 = some (r1, r2)) ∧ Aside0 (kq ≤ k) ∧ Aside0 (wc.heap[gb264]? = some (.cells #[.int .u8 a0_0, .int .u16 a0_1, .int .u16 a0_2, .int .i64 a0_3] 42 (0, 0))) ∧ Aside0 (Below w.heap.size w wc))
      case first =>
        have H := HC11.out
        clear HC11
        by_cases c16 : a0_0 = 2
        · rw [if_pos c16] at H
          have c16b0 : (a0_0 == 2) = true := beq_iff_eq.mpr c16
          have c16b1 : (a0_0 != 2) = false := bne_eq_false_iff_eq.mpr c16
          clear c16
          (first | rw [c16b0] | (simp only [i64_w, i32_w]; rw [c16b0]) | skip)
          have H' := Aside0.mk H
          clear H
          go_wp2
          go_meet
          case rel => exact ⟨_, (4), (by first | rfl | (simp; done) | (simp [*]; done)), H', ⟨by first | omega | exact Nat.le_refl _⟩, ⟨by (with_reducible repeat (first | refine blk_drewN ?_ _ | refine blk_drew ?_ | refine blk_alloc ?_ _)); exact BK264.out⟩, ⟨by repeat (first | (with_reducible first | exact HB.out | apply below_alloc | apply pw_below_drewN | apply below_drew1 | refine below_set ?_ GE264.out) | exact HB.out)⟩⟩
        · rw [if_neg c16] at H
          have c16b0 : (a0_0 == 2) = false := beq_eq_false_iff_ne.mpr c16
          have c16b1 : (a0_0 != 2) = true := bne_iff_ne.mpr c16
          (first | rw [c16b0] | (simp only [i64_w, i32_w]; rw [c16b0]) | skip)
          have H' := Aside0.mk H
          clear H
          go_wp2
          go_meet
          case rel => exact ⟨_, (8), (by first | rfl | (simp; done) | (simp [*]; done)), H', ⟨by first | omega | exact Nat.le_refl _⟩, ⟨by (with_reducible repeat (first | refine blk_drewN ?_ _ | refine blk_drew ?_ | refine blk_alloc ?_ _)); exact BK264.out⟩, ⟨by repeat (first | (with_reducible first | exact HB.out | apply below_alloc | apply pw_below_drewN | apply below_drew1 | refine below_set ?_ GE264.out) | exact HB.out)⟩⟩
      case rest =>
        clear HC11
        try clear c1
        try clear c2
        try clear p2
        try clear c5
        try clear c5b0
        try clear c5b1
        try clear c6
        try clear c6b0
        try clear p6
        try clear c16
        try clear c16b0
        try clear c16b1
        try clear hcz10_0
        try clear hcz10_1
        try clear hcz10_2
        try clear hcz10_3
        try clear hcz13_0
        try clear hcz13_1
        try clear hcz13_2
        try clear hcz13_3
        try clear hcz15_0
        try clear hcz15_1
        try clear hcz15_2
        try clear hcz15_3
        try clear hcz8_0
        try clear hcz8_1
        try clear hcz8_2
        try clear hcz8_3
        try clear hfz10_0
        try clear hfz10_1
        try clear hfz10_2
        try clear hfz10_3
        try clear hfz13_0
        try clear hfz13_1
        try clear hfz13_2
        try clear hfz13_3
        try clear hfz15_0
        try clear hfz15_1
        try clear hfz15_2
        try clear hfz15_3
        try clear hfz8_0
        try clear hfz8_1
        try clear hfz8_2
        try clear hfz8_3
        obtain ⟨kq, x9_10, rfl, HA, HJ10, BK264, HB⟩ := hcut
        cases kq with
        | zero => exact absurd HA.out (by simp [vivariumref09_Next.j0])
        | succ kj10 =>
          have H := HA.out
          clear HA
          simp only [vivariumref09_Next.j0] at H
          have HC17 := Aside0.mk H
          clear H
          have hcz18_0 : wc.cell? ⟨gb264, 0, none⟩ = some (.int .u8 a0_0) := (blk_cell BK264.out 0).trans rfl
          have hcz18_1 : wc.cell? ⟨gb264, 1, none⟩ = some (.int .u16 a0_1) := (blk_cell BK264.out 1).trans rfl
          have hcz18_2 : wc.cell? ⟨gb264, 2, none⟩ = some (.int .u16 a0_2) := (blk_cell BK264.out 2).trans rfl
          have hcz18_3 : wc.cell? ⟨gb264, 3, none⟩ = some (.int .i64 a0_3) := (blk_cell BK264.out 3).trans rfl
          have hfz18_0 := blk_frozen BK264.out 0
          have hfz18_1 := blk_frozen BK264.out 1
          have hfz18_2 := blk_frozen BK264.out 2
          have hfz18_3 := blk_frozen BK264.out 3
          go_upto_if 29 with (fail)
          go_cut [9] (fun v9 wc => ∃ (kq : Nat) (x9_16 : Int), v9 = .int .i64 x9_16 ∧ Aside0 (vivariumref09_Next.j1 kq a1 a2 x9_16 a0_0 a0_1 a0_2 a0_3 = some (r1, r2)) ∧ Aside0 (kq ≤ kj10) ∧ Aside0 (wc.heap[gb264]? = some (.cells #[.int .u8 a0_0, .int .u16 a0_1, .int .u16 a0_2, .int .i64 a0_3] 42 (0, 0))) ∧ Aside0 (Below w.heap.size w wc))
          case first =>
            have H := HC17.out
            clear HC17
            by_cases c19 : a0_0 = 3
            · rw [if_pos c19] at H
              have c19b0 : (a0_0 == 3) = true := beq_iff_eq.mpr c19
              have c19b1 : (a0_0 != 3) = false := bne_eq_false_iff_eq.mpr c19
              clear c19
              (first | rw [c19b0] | (simp only [i64_w, i32_w]; rw [c19b0]) | skip)
              have H' := Aside0.mk H
              clear H
              go_wp2
              go_meet
              case rel => exact ⟨_, (6), (by first | rfl | (simp; done) | (simp [*]; done)), H', ⟨by have := HJ10.out; first | omega | exact Nat.le_refl _⟩, ⟨by (with_reducible repeat (first | refine blk_drewN ?_ _ | refine blk_drew ?_ | refine blk_alloc ?_ _)); exact BK264.out⟩, ⟨by repeat (first | (with_reducible first | exact HB.out | apply below_alloc | apply pw_below_drewN | apply below_drew1 | refine below_set ?_ GE264.out) | exact HB.out)⟩⟩
            · rw [if_neg c19] at H
              have c19b0 : (a0_0 == 3) = false := beq_eq_false_iff_ne.mpr c19
              have c19b1 : (a0_0 != 3) = true := bne_iff_ne.mpr c19
              (first | rw [c19b0] | (simp only [i64_w, i32_w]; rw [c19b0]) | skip)
              have H' := Aside0.mk H
              clear H
              go_wp2
              go_meet
              case rel => exact ⟨_, (x9_10), (by first | rfl | (simp; done) | (simp [*]; done)), H', ⟨by have := HJ10.out; first | omega | exact Nat.le_refl _⟩, ⟨by (with_reducible repeat (first | refine blk_drewN ?_ _ | refine blk_drew ?_ | refine blk_alloc ?_ _)); exact BK264.out⟩, ⟨by repeat (first | (with_reducible first | exact HB.out | apply below_alloc | apply pw_below_drewN | apply below_drew1 | refine below_set ?_ GE264.out) | exact HB.out)⟩⟩
          case rest =>
            clear HC17
            try clear c1
            try clear c2
            try clear p2
            try clear c5
            try clear c5b0
            try clear c5b1
            try clear c6
            try clear c6b0
            try clear p6
            try clear c16
            try clear c16b0
            try clear c16b1
            try clear c19
            try clear c19b0
            try clear c19b1
            try clear hcz10_0
            try clear hcz10_1
            try clear hcz10_2
            try clear hcz10_3
            try clear hcz13_0
            try clear hcz13_1
            try clear hcz13_2
            try clear hcz13_3
            try clear hcz15_0
            try clear hcz15_1
            try clear hcz15_2
            try clear hcz15_3
            try clear hcz18_0
            try clear hcz18_1
            try clear hcz18_2
            try clear hcz18_3
            try clear hcz8_0
            try clear hcz8_1
            try clear hcz8_2
            try clear hcz8_3
            try clear hfz10_0
            try clear hfz10_1
            try clear hfz10_2
            try clear hfz10_3
            try clear hfz13_0
            try clear hfz13_1
            try clear hfz13_2
            try clear hfz13_3
            try clear hfz15_0
            try clear hfz15_1
            try clear hfz15_2
            try clear hfz15_3
            try clear hfz18_0
            try clear hfz18_1
            try clear hfz18_2
            try clear hfz18_3
            try clear hfz8_0
            try clear hfz8_1
            try clear hfz8_2
            try clear hfz8_3
            try clear p2
            try clear p6
            obtain ⟨kq, x9_16, rfl, HA, HJ16, BK264, HB⟩ := hcut
            cases kq with
            | zero => exact absurd HA.out (by simp [vivariumref09_Next.j1])
            | succ kj16 =>
              have H := HA.out
              clear HA
              simp only [vivariumref09_Next.j1] at H
              have HC20 := Aside0.mk H
              clear H
              go_upto_region 11 with (fail)
              go_cut [36] (fun v36 wc => ∃ (kq : Nat) (x36_19 : Bool), v36 = .bool x36_19 ∧ Aside0 (vivariumref09_Next.j2 kq a1 a2 x36_19 a0_0 a0_1 a0_2 a0_3 = some (r1, r2)) ∧ Aside0 (kq ≤ kj16) ∧ Aside0 (wc.heap[gb264]? = some (.cells #[.int .u8 a0_0, .int .u16 a0_1, .int .u16 a0_2, .int .i64 a0_3] 42 (0, 0))) ∧ Aside0 (Below w.heap.size w wc))
              case first =>
                have H := HC20.out
                clear HC20
                by_cases c21 : a2 < 0
                · rw [if_pos c21] at H
                  have c21b0 : decide (a2 < 0) = true := decide_eq_true c21
                  clear c21
                  (first | rw [c21b0] | (simp only [i64_w, i32_w]; rw [c21b0]) | skip)
                  have H' := Aside0.mk H
                  clear H
                  go_wp2
                  go_meet
                  case rel => exact ⟨_, (true), (by first | rfl | (simp; done) | (simp [*]; done)), H', ⟨by have := HJ10.out; have := HJ16.out; first | omega | exact Nat.le_refl _⟩, ⟨by (with_reducible repeat (first | refine blk_drewN ?_ _ | refine blk_drew ?_ | refine blk_alloc ?_ _)); exact BK264.out⟩, ⟨by repeat (first | (with_reducible first | exact HB.out | apply below_alloc | apply pw_below_drewN | apply below_drew1 | refine below_set ?_ GE264.out) | exact HB.out)⟩⟩
                · rw [if_neg c21] at H
                  have c21b0 : decide (a2 < 0) = false := decide_eq_false c21
                  clear c21
                  (first | rw [c21b0] | (simp only [i64_w, i32_w]; rw [c21b0]) | skip)
                  have H' := Aside0.mk H
                  clear H
                  go_wp2
                  go_meet
                  case rel => exact ⟨_, (decide (a2 > x9_16)), (by first | rfl | (simp; done) | (simp [*]; done)), H', ⟨by have := HJ10.out; have := HJ16.out; first | omega | exact Nat.le_refl _⟩, ⟨by (with_reducible repeat (first | refine blk_drewN ?_ _ | refine blk_drew ?_ | refine blk_alloc ?_ _)); exact BK264.out⟩, ⟨by repeat (first | (with_reducible first | exact HB.out | apply below_alloc | apply pw_below_drewN | apply below_drew1 | refine below_set ?_ GE264.out) | exact HB.out)⟩⟩
              case rest =>
                clear HC20
                try clear c1
                try clear c2
                try clear p2
                try clear c5
                try clear c5b0
                try clear c5b1
                try clear c6
                try clear c6b0
                try clear p6
                try clear c16
                try clear c16b0
                try clear c16b1
                try clear c19
                try clear c19b0
                try clear c19b1
                try clear c21
                try clear c21b0
                try clear hcz10_0
                try clear hcz10_1
                try clear hcz10_2
                try clear hcz10_3
                try clear hcz13_0
                try clear hcz13_1
                try clear hcz13_2
                try clear hcz13_3
                try clear hcz15_0
                try clear hcz15_1
                try clear hcz15_2
                try clear hcz15_3
                try clear hcz18_0
                try clear hcz18_1
                try clear hcz18_2
                try clear hcz18_3
                try clear hcz8_0
                try clear hcz8_1
                try clear hcz8_2
                try clear hcz8_3
                try clear hfz10_0
                try clear hfz10_1
                try clear hfz10_2
                try clear hfz10_3
                try clear hfz13_0
                try clear hfz13_1
                try clear hfz13_2
                try clear hfz13_3
                try clear hfz15_0
                try clear hfz15_1
                try clear hfz15_2
                try clear hfz15_3
                try clear hfz18_0
                try clear hfz18_1
                try clear hfz18_2
                try clear hfz18_3
                try clear hfz8_0
                try clear hfz8_1
                try clear hfz8_2
                try clear hfz8_3
                try clear p2
                try clear p6
                obtain ⟨kq, x36_19, rfl, HA, HJ19, BK264, HB⟩ := hcut
                cases kq with
                | zero => exact absurd HA.out (by simp [vivariumref09_Next.j2])
                | succ kj19 =>
                  have H := HA.out
                  clear HA
                  simp only [vivariumref09_Next.j2] at H
                  by_cases c22 : x36_19 = true
                  · subst c22
                    have H1 : (some (0, 2)) = some (r1, r2) := by rw [if_pos rfl] at H; exact H
                    clear H
                    have H := H1
                    clear H1
                    simp only [Option.some.injEq, Prod.mk.injEq] at H
                    obtain ⟨rfl, rfl⟩ := H
                    go_wp2
                    go_ret2
                    exact ⟨by first | rfl | (simp [errW_none, errW_some] <;> rfl) | (simp [*, errW_none, errW_some] <;> rfl), by repeat (first | (with_reducible first | exact HB.out | apply below_alloc | apply pw_below_drewN | apply below_drew1 | refine below_set ?_ GE264.out) | exact HB.out)⟩
                  · replace c22 := Bool.eq_false_iff.mpr c22
                    subst c22
                    have H1 : (if 0 ≤ a2 then (if a1 = 0 then (if (Go.bits .and .u16 a0_1 (shl .u16 1 a2)) = 0 then (if 0 ≥ a0_3 then (some (0, 0)) else (some (0, 0))) else (if 1 ≥ a0_3 then (some (0, 0)) else (some (1, 0)))) else (if a1 = 1 then (if (Go.bits .and .u16 a0_2 (shl .u16 1 a2)) = 0 then (if (wrap64 ((wrap64 (a1)) + 1)) ≥ a0_3 then (some (0, 0)) else (some ((wrap64 ((wrap64 (a1)) + 1)) % 256, 0))) else (if 1 ≥ a0_3 then (some (0, 0)) else (some (1, 0)))) else (if (wrap64 ((wrap64 (a1)) + 1)) ≥ a0_3 then (some (0, 0)) else (some ((wrap64 ((wrap64 (a1)) + 1)) % 256, 0))))) else (none)) = some (r1, r2) := by rw [if_neg (show ¬ (false = true) by decide)] at H; exact H
                    clear H
                    have H := H1
                    clear H1
                    by_cases c23 : 0 ≤ a2
                    · rw [if_pos c23] at H
                      have c23b0 := eq_true c23
                      have c23b1 : decide (0 ≤ a2) = true := decide_eq_true c23
                      clear c23
                      obtain ⟨ji24, hji24⟩ : ∃ j_ : Int, (shl .u16 1 a2) = j_ := ⟨_, rfl⟩
                      replace H : (if a1 = 0 then (if (Go.bits .and .u16 a0_1 (ji24)) = 0 then (if 0 ≥ a0_3 then (some (0, 0)) else (some (0, 0))) else (if 1 ≥ a0_3 then (some (0, 0)) else (some (1, 0)))) else (if a1 = 1 then (if (Go.bits .and .u16 a0_2 (ji24)) = 0 then (if (wrap64 ((wrap64 (a1)) + 1)) ≥ a0_3 then (some (0, 0)) else (some ((wrap64 ((wrap64 (a1)) + 1)) % 256, 0))) else (if 1 ≥ a0_3 then (some (0, 0)) else (some (1, 0)))) else (if (wrap64 ((wrap64 (a1)) + 1)) ≥ a0_3 then (some (0, 0)) else (some ((wrap64 ((wrap64 (a1)) + 1)) % 256, 0))))) = some (r1, r2) := by first | (rw [hji24] at H; exact H) | (simp only [hji24] at H ⊢; exact H)
                      have hji24_ : (IntKind.u16.wrap (1 * 2 ^ min a2.toNat 16)) = ji24 := hji24
                      have hji24z : a2 ≤ 16 → (IntKind.u16.wrap (1 * 2 ^ a2.toNat)) = ji24 := shl_small hji24
                      have hji24u : (IntKind.u16.wrap (2 ^ min a2.toNat 16)) = ji24 := by have h_ := hji24_; rw [Int.one_mul] at h_; exact h_
                      have hji24v : a2 ≤ 16 → (IntKind.u16.wrap (2 ^ a2.toNat)) = ji24 := fun hle_ => by have h_ := hji24z hle_; rw [Int.one_mul] at h_; exact h_
                      by_cases c25 : a1 = 0
                      · rw [if_pos c25] at H
                        have c25b0 : (a1 == 0) = true := beq_iff_eq.mpr c25
                        have c25b1 : (a1 != 0) = false := bne_eq_false_iff_eq.mpr c25
                        clear c25
                        by_cases c26 : (Go.bits .and .u16 a0_1 (ji24)) = 0
                        · rw [if_pos c26] at H
                          have c26b0 : ((Go.bits .and .u16 a0_1 (ji24)) == 0) = true := beq_iff_eq.mpr c26
                          have c26b1 : ((Go.bits .and .u16 a0_1 (ji24)) != 0) = false := bne_eq_false_iff_eq.mpr c26
                          clear c26
                          by_cases c27 : 0 ≥ a0_3
                          · rw [if_pos c27] at H
                            have c27b0 : decide (a0_3 ≤ 0) = true := decide_eq_true c27
                            clear c27
                            simp only [Option.some.injEq, Prod.mk.injEq] at H
                            obtain ⟨rfl, rfl⟩ := H
                            have hcz28_0 : wc.cell? ⟨gb264, 0, none⟩ = some (.int .u8 a0_0) := (blk_cell BK264.out 0).trans rfl
                            have hcz28_1 : wc.cell? ⟨gb264, 1, none⟩ = some (.int .u16 a0_1) := (blk_cell BK264.out 1).trans rfl
                            have hcz28_2 : wc.cell? ⟨gb264, 2, none⟩ = some (.int .u16 a0_2) := (blk_cell BK264.out 2).trans rfl
                            have hcz28_3 : wc.cell? ⟨gb264, 3, none⟩ = some (.int .i64 a0_3) := (blk_cell BK264.out 3).trans rfl
                            have hfz28_0 := blk_frozen BK264.out 0
                            have hfz28_1 := blk_frozen BK264.out 1
                            have hfz28_2 := blk_frozen BK264.out 2
                            have hfz28_3 := blk_frozen BK264.out 3
                            go_wp2
                            go_ret2
                            exact ⟨by first | rfl | (simp [errW_none, errW_some] <;> rfl) | (simp only [← hji24]; first | rfl | (simp [errW_none, errW_some] <;> rfl)) | (simp [*, errW_none, errW_some] <;> rfl), by repeat (first | (with_reducible first | exact HB.out | apply below_alloc | apply pw_below_drewN | apply below_drew1 | refine below_set ?_ GE264.out) | exact HB.out)⟩
                          · rw [if_neg c27] at H
                            have c27b0 : decide (a0_3 ≤ 0) = false := decide_eq_false c27
                            clear c27
                            simp only [Option.some.injEq, Prod.mk.injEq] at H
                            obtain ⟨rfl, rfl⟩ := H
                            have hcz29_0 : wc.cell? ⟨gb264, 0, none⟩ = some (.int .u8 a0_0) := (blk_cell BK264.out 0).trans rfl
                            have hcz29_1 : wc.cell? ⟨gb264, 1, none⟩ = some (.int .u16 a0_1) := (blk_cell BK264.out 1).trans rfl
                            have hcz29_2 : wc.cell? ⟨gb264, 2, none⟩ = some (.int .u16 a0_2) := (blk_cell BK264.out 2).trans rfl
                            have hcz29_3 : wc.cell? ⟨gb264, 3, none⟩ = some (.int .i64 a0_3) := (blk_cell BK264.out 3).trans rfl
                            have hfz29_0 := blk_frozen BK264.out 0
                            have hfz29_1 := blk_frozen BK264.out 1
                            have hfz29_2 := blk_frozen BK264.out 2
                            have hfz29_3 := blk_frozen BK264.out 3
                            go_wp2
                            go_ret2
                            exact ⟨by first | rfl | (simp [errW_none, errW_some] <;> rfl) | (simp only [← hji24]; first | rfl | (simp [errW_none, errW_some] <;> rfl)) | (simp [*, errW_none, errW_some] <;> rfl), by repeat (first | (with_reducible first | exact HB.out | apply below_alloc | apply pw_below_drewN | apply below_drew1 | refine below_set ?_ GE264.out) | exact HB.out)⟩
                        · rw [if_neg c26] at H
                          have c26b0 : ((Go.bits .and .u16 a0_1 (ji24)) == 0) = false := beq_eq_false_iff_ne.mpr c26
                          have c26b1 : ((Go.bits .and .u16 a0_1 (ji24)) != 0) = true := bne_iff_ne.mpr c26
                          by_cases c30 : 1 ≥ a0_3
                          · rw [if_pos c30] at H
                            have c30b0 : decide (a0_3 ≤ 1) = true := decide_eq_true c30
                            clear c30
                            simp only [Option.some.injEq, Prod.mk.injEq] at H
                            obtain ⟨rfl, rfl⟩ := H
                            have hcz31_0 : wc.cell? ⟨gb264, 0, none⟩ = some (.int .u8 a0_0) := (blk_cell BK264.out 0).trans rfl
                            have hcz31_1 : wc.cell? ⟨gb264, 1, none⟩ = some (.int .u16 a0_1) := (blk_cell BK264.out 1).trans rfl
                            have hcz31_2 : wc.cell? ⟨gb264, 2, none⟩ = some (.int .u16 a0_2) := (blk_cell BK264.out 2).trans rfl
                            have hcz31_3 : wc.cell? ⟨gb264, 3, none⟩ = some (.int .i64 a0_3) := (blk_cell BK264.out 3).trans rfl
                            have hfz31_0 := blk_frozen BK264.out 0
                            have hfz31_1 := blk_frozen BK264.out 1
                            have hfz31_2 := blk_frozen BK264.out 2
                            have hfz31_3 := blk_frozen BK264.out 3
                            go_wp2
                            go_ret2
                            exact ⟨by first | rfl | (simp [errW_none, errW_some] <;> rfl) | (simp only [← hji24]; first | rfl | (simp [errW_none, errW_some] <;> rfl)) | (simp [*, errW_none, errW_some] <;> rfl), by repeat (first | (with_reducible first | exact HB.out | apply below_alloc | apply pw_below_drewN | apply below_drew1 | refine below_set ?_ GE264.out) | exact HB.out)⟩
                          · rw [if_neg c30] at H
                            have c30b0 : decide (a0_3 ≤ 1) = false := decide_eq_false c30
                            clear c30
                            simp only [Option.some.injEq, Prod.mk.injEq] at H
                            obtain ⟨rfl, rfl⟩ := H
                            have hcz32_0 : wc.cell? ⟨gb264, 0, none⟩ = some (.int .u8 a0_0) := (blk_cell BK264.out 0).trans rfl
                            have hcz32_1 : wc.cell? ⟨gb264, 1, none⟩ = some (.int .u16 a0_1) := (blk_cell BK264.out 1).trans rfl
                            have hcz32_2 : wc.cell? ⟨gb264, 2, none⟩ = some (.int .u16 a0_2) := (blk_cell BK264.out 2).trans rfl
                            have hcz32_3 : wc.cell? ⟨gb264, 3, none⟩ = some (.int .i64 a0_3) := (blk_cell BK264.out 3).trans rfl
                            have hfz32_0 := blk_frozen BK264.out 0
                            have hfz32_1 := blk_frozen BK264.out 1
                            have hfz32_2 := blk_frozen BK264.out 2
                            have hfz32_3 := blk_frozen BK264.out 3
                            go_wp2
                            go_ret2
                            exact ⟨by first | rfl | (simp [errW_none, errW_some] <;> rfl) | (simp only [← hji24]; first | rfl | (simp [errW_none, errW_some] <;> rfl)) | (simp [*, errW_none, errW_some] <;> rfl), by repeat (first | (with_reducible first | exact HB.out | apply below_alloc | apply pw_below_drewN | apply below_drew1 | refine below_set ?_ GE264.out) | exact HB.out)⟩
                      · rw [if_neg c25] at H
                        have c25b0 : (a1 == 0) = false := beq_eq_false_iff_ne.mpr c25
                        have c25b1 : (a1 != 0) = true := bne_iff_ne.mpr c25
                        by_cases c33 : a1 = 1
                        · rw [if_pos c33] at H
                          have c33b0 : (a1 == 1) = true := beq_iff_eq.mpr c33
                          have c33b1 : (a1 != 1) = false := bne_eq_false_iff_eq.mpr c33
                          clear c33
                          by_cases c34 : (Go.bits .and .u16 a0_2 (ji24)) = 0
                          · rw [if_pos c34] at H
                            have c34b0 : ((Go.bits .and .u16 a0_2 (ji24)) == 0) = true := beq_iff_eq.mpr c34
                            have c34b1 : ((Go.bits .and .u16 a0_2 (ji24)) != 0) = false := bne_eq_false_iff_eq.mpr c34
                            clear c34
                            by_cases c35 : (wrap64 ((wrap64 (a1)) + 1)) ≥ a0_3
                            · rw [if_pos c35] at H
                              have c35b0 : decide (a0_3 ≤ (wrap64 ((wrap64 (a1)) + 1))) = true := decide_eq_true c35
                              clear c35
                              simp only [Option.some.injEq, Prod.mk.injEq] at H
                              obtain ⟨rfl, rfl⟩ := H
                              have hcz36_0 : wc.cell? ⟨gb264, 0, none⟩ = some (.int .u8 a0_0) := (blk_cell BK264.out 0).trans rfl
                              have hcz36_1 : wc.cell? ⟨gb264, 1, none⟩ = some (.int .u16 a0_1) := (blk_cell BK264.out 1).trans rfl
                              have hcz36_2 : wc.cell? ⟨gb264, 2, none⟩ = some (.int .u16 a0_2) := (blk_cell BK264.out 2).trans rfl
                              have hcz36_3 : wc.cell? ⟨gb264, 3, none⟩ = some (.int .i64 a0_3) := (blk_cell BK264.out 3).trans rfl
                              have hfz36_0 := blk_frozen BK264.out 0
                              have hfz36_1 := blk_frozen BK264.out 1
                              have hfz36_2 := blk_frozen BK264.out 2
                              have hfz36_3 := blk_frozen BK264.out 3
                              go_wp2
                              go_ret2
                              exact ⟨by first | rfl | (simp [errW_none, errW_some] <;> rfl) | (simp only [← hji24]; first | rfl | (simp [errW_none, errW_some] <;> rfl)) | (simp [*, errW_none, errW_some] <;> rfl), by repeat (first | (with_reducible first | exact HB.out | apply below_alloc | apply pw_below_drewN | apply below_drew1 | refine below_set ?_ GE264.out) | exact HB.out)⟩
                            · rw [if_neg c35] at H
                              have c35b0 : decide (a0_3 ≤ (wrap64 ((wrap64 (a1)) + 1))) = false := decide_eq_false c35
                              clear c35
                              simp only [Option.some.injEq, Prod.mk.injEq] at H
                              obtain ⟨rfl, rfl⟩ := H
                              have hcz37_0 : wc.cell? ⟨gb264, 0, none⟩ = some (.int .u8 a0_0) := (blk_cell BK264.out 0).trans rfl
                              have hcz37_1 : wc.cell? ⟨gb264, 1, none⟩ = some (.int .u16 a0_1) := (blk_cell BK264.out 1).trans rfl
                              have hcz37_2 : wc.cell? ⟨gb264, 2, none⟩ = some (.int .u16 a0_2) := (blk_cell BK264.out 2).trans rfl
                              have hcz37_3 : wc.cell? ⟨gb264, 3, none⟩ = some (.int .i64 a0_3) := (blk_cell BK264.out 3).trans rfl
                              have hfz37_0 := blk_frozen BK264.out 0
                              have hfz37_1 := blk_frozen BK264.out 1
                              have hfz37_2 := blk_frozen BK264.out 2
                              have hfz37_3 := blk_frozen BK264.out 3
                              go_wp2
                              go_ret2
                              exact ⟨by first | rfl | (simp [errW_none, errW_some] <;> rfl) | (simp only [← hji24]; first | rfl | (simp [errW_none, errW_some] <;> rfl)) | (simp [*, errW_none, errW_some] <;> rfl), by repeat (first | (with_reducible first | exact HB.out | apply below_alloc | apply pw_below_drewN | apply below_drew1 | refine below_set ?_ GE264.out) | exact HB.out)⟩
                          · rw [if_neg c34] at H
                            have c34b0 : ((Go.bits .and .u16 a0_2 (ji24)) == 0) = false := beq_eq_false_iff_ne.mpr c34
                            have c34b1 : ((Go.bits .and .u16 a0_2 (ji24)) != 0) = true := bne_iff_ne.mpr c34
                            by_cases c38 : 1 ≥ a0_3
                            · rw [if_pos c38] at H
                              have c38b0 : decide (a0_3 ≤ 1) = true := decide_eq_true c38
                              clear c38
                              simp only [Option.some.injEq, Prod.mk.injEq] at H
                              obtain ⟨rfl, rfl⟩ := H
                              have hcz39_0 : wc.cell? ⟨gb264, 0, none⟩ = some (.int .u8 a0_0) := (blk_cell BK264.out 0).trans rfl
                              have hcz39_1 : wc.cell? ⟨gb264, 1, none⟩ = some (.int .u16 a0_1) := (blk_cell BK264.out 1).trans rfl
                              have hcz39_2 : wc.cell? ⟨gb264, 2, none⟩ = some (.int .u16 a0_2) := (blk_cell BK264.out 2).trans rfl
                              have hcz39_3 : wc.cell? ⟨gb264, 3, none⟩ = some (.int .i64 a0_3) := (blk_cell BK264.out 3).trans rfl
                              have hfz39_0 := blk_frozen BK264.out 0
                              have hfz39_1 := blk_frozen BK264.out 1
                              have hfz39_2 := blk_frozen BK264.out 2
                              have hfz39_3 := blk_frozen BK264.out 3
                              go_wp2
                              go_ret2
                              exact ⟨by first | rfl | (simp [errW_none, errW_some] <;> rfl) | (simp only [← hji24]; first | rfl | (simp [errW_none, errW_some] <;> rfl)) | (simp [*, errW_none, errW_some] <;> rfl), by repeat (first | (with_reducible first | exact HB.out | apply below_alloc | apply pw_below_drewN | apply below_drew1 | refine below_set ?_ GE264.out) | exact HB.out)⟩
                            · rw [if_neg c38] at H
                              have c38b0 : decide (a0_3 ≤ 1) = false := decide_eq_false c38
                              clear c38
                              simp only [Option.some.injEq, Prod.mk.injEq] at H
                              obtain ⟨rfl, rfl⟩ := H
                              have hcz40_0 : wc.cell? ⟨gb264, 0, none⟩ = some (.int .u8 a0_0) := (blk_cell BK264.out 0).trans rfl
                              have hcz40_1 : wc.cell? ⟨gb264, 1, none⟩ = some (.int .u16 a0_1) := (blk_cell BK264.out 1).trans rfl
                              have hcz40_2 : wc.cell? ⟨gb264, 2, none⟩ = some (.int .u16 a0_2) := (blk_cell BK264.out 2).trans rfl
                              have hcz40_3 : wc.cell? ⟨gb264, 3, none⟩ = some (.int .i64 a0_3) := (blk_cell BK264.out 3).trans rfl
                              have hfz40_0 := blk_frozen BK264.out 0
                              have hfz40_1 := blk_frozen BK264.out 1
                              have hfz40_2 := blk_frozen BK264.out 2
                              have hfz40_3 := blk_frozen BK264.out 3
                              go_wp2
                              go_ret2
                              exact ⟨by first | rfl | (simp [errW_none, errW_some] <;> rfl) | (simp only [← hji24]; first | rfl | (simp [errW_none, errW_some] <;> rfl)) | (simp [*, errW_none, errW_some] <;> rfl), by repeat (first | (with_reducible first | exact HB.out | apply below_alloc | apply pw_below_drewN | apply below_drew1 | refine below_set ?_ GE264.out) | exact HB.out)⟩
                        · rw [if_neg c33] at H
                          have c33b0 : (a1 == 1) = false := beq_eq_false_iff_ne.mpr c33
                          have c33b1 : (a1 != 1) = true := bne_iff_ne.mpr c33
                          by_cases c41 : (wrap64 ((wrap64 (a1)) + 1)) ≥ a0_3
                          · rw [if_pos c41] at H
                            have c41b0 : decide (a0_3 ≤ (wrap64 ((wrap64 (a1)) + 1))) = true := decide_eq_true c41
                            clear c41
                            simp only [Option.some.injEq, Prod.mk.injEq] at H
                            obtain ⟨rfl, rfl⟩ := H
                            have hcz42_0 : wc.cell? ⟨gb264, 0, none⟩ = some (.int .u8 a0_0) := (blk_cell BK264.out 0).trans rfl
                            have hcz42_1 : wc.cell? ⟨gb264, 1, none⟩ = some (.int .u16 a0_1) := (blk_cell BK264.out 1).trans rfl
                            have hcz42_2 : wc.cell? ⟨gb264, 2, none⟩ = some (.int .u16 a0_2) := (blk_cell BK264.out 2).trans rfl
                            have hcz42_3 : wc.cell? ⟨gb264, 3, none⟩ = some (.int .i64 a0_3) := (blk_cell BK264.out 3).trans rfl
                            have hfz42_0 := blk_frozen BK264.out 0
                            have hfz42_1 := blk_frozen BK264.out 1
                            have hfz42_2 := blk_frozen BK264.out 2
                            have hfz42_3 := blk_frozen BK264.out 3
                            go_wp2
                            go_ret2
                            exact ⟨by first | rfl | (simp [errW_none, errW_some] <;> rfl) | (simp only [← hji24]; first | rfl | (simp [errW_none, errW_some] <;> rfl)) | (simp [*, errW_none, errW_some] <;> rfl), by repeat (first | (with_reducible first | exact HB.out | apply below_alloc | apply pw_below_drewN | apply below_drew1 | refine below_set ?_ GE264.out) | exact HB.out)⟩
                          · rw [if_neg c41] at H
                            have c41b0 : decide (a0_3 ≤ (wrap64 ((wrap64 (a1)) + 1))) = false := decide_eq_false c41
                            clear c41
                            simp only [Option.some.injEq, Prod.mk.injEq] at H
                            obtain ⟨rfl, rfl⟩ := H
                            have hcz43_0 : wc.cell? ⟨gb264, 0, none⟩ = some (.int .u8 a0_0) := (blk_cell BK264.out 0).trans rfl
                            have hcz43_1 : wc.cell? ⟨gb264, 1, none⟩ = some (.int .u16 a0_1) := (blk_cell BK264.out 1).trans rfl
                            have hcz43_2 : wc.cell? ⟨gb264, 2, none⟩ = some (.int .u16 a0_2) := (blk_cell BK264.out 2).trans rfl
                            have hcz43_3 : wc.cell? ⟨gb264, 3, none⟩ = some (.int .i64 a0_3) := (blk_cell BK264.out 3).trans rfl
                            have hfz43_0 := blk_frozen BK264.out 0
                            have hfz43_1 := blk_frozen BK264.out 1
                            have hfz43_2 := blk_frozen BK264.out 2
                            have hfz43_3 := blk_frozen BK264.out 3
                            go_wp2
                            go_ret2
                            exact ⟨by first | rfl | (simp [errW_none, errW_some] <;> rfl) | (simp only [← hji24]; first | rfl | (simp [errW_none, errW_some] <;> rfl)) | (simp [*, errW_none, errW_some] <;> rfl), by repeat (first | (with_reducible first | exact HB.out | apply below_alloc | apply pw_below_drewN | apply below_drew1 | refine below_set ?_ GE264.out) | exact HB.out)⟩
                    · rw [if_neg c23] at H
                      exact absurd H (by simp)
  · rw [if_neg c5] at H
    have c5b0 : (t265 == 0) = false := beq_eq_false_iff_ne.mpr c5
    have c5b1 : (t265 != 0) = true := bne_iff_ne.mpr c5
    simp only [Option.some.injEq, Prod.mk.injEq] at H
    obtain ⟨rfl, rfl⟩ := H
    go_enter Tryd.func21, Tryd.ntmps21
    go_wp2_with (first | ((with_reducible refine gate_dst (N := 3) rfl ?_); refine box_event ?hg (N := 3) ?hd (cs := #[.int .u8 a0_0, .int .u16 a0_1, .int .u16 a0_2, .int .i64 a0_3]) (t := 42) ?hr ?_; (case hd => rfl); (case hg => rfl); (case hr => first | (go_simp; done) | (go_simp; rfl)); intro gb264 hg w44 hbox hb; have n0_ := Aside0.mk (below_step (by repeat (first | (with_reducible first | exact HB.out | apply below_alloc | apply pw_below_drewN | apply below_drew1) | exact HB.out)) hb); have n1_ := Aside0.mk (hbox); have n2_ := Aside0.mk ((by rw [hg]; exact (below_size (by repeat (first | (with_reducible first | exact HB.out | apply below_alloc | apply pw_below_drewN | apply below_drew1) | exact HB.out))) : w.heap.size ≤ gb264)); have n3_ := Aside0.mk ((by rw [hg]; exact (below_size (by repeat (first | (with_reducible first | exact HB.out | apply below_alloc | apply pw_below_drewN | apply below_drew1) | exact HB.out))) : w.heap.size ≤ gb264)); clear HB; have HB := n0_; have BK264 := n1_; have GW264 := n2_; have GE264 := n3_; clear n0_ n1_ n2_ n3_; clear hb hbox hg; have hcz45_0 : w44.cell? ⟨gb264, 0, none⟩ = some (.int .u8 a0_0) := (blk_cell BK264.out 0).trans rfl; have hcz45_1 : w44.cell? ⟨gb264, 1, none⟩ = some (.int .u16 a0_1) := (blk_cell BK264.out 1).trans rfl; have hcz45_2 : w44.cell? ⟨gb264, 2, none⟩ = some (.int .u16 a0_2) := (blk_cell BK264.out 2).trans rfl; have hcz45_3 : w44.cell? ⟨gb264, 3, none⟩ = some (.int .i64 a0_3) := (blk_cell BK264.out 3).trans rfl; have hfz45_0 := blk_frozen BK264.out 0; have hfz45_1 := blk_frozen BK264.out 1; have hfz45_2 := blk_frozen BK264.out 2; have hfz45_3 := blk_frozen BK264.out 3) | ((with_reducible refine gate_callee (f := 19) rfl ?_); refine goesL_ (some 13) rfl rfl Tryd.func19 (by kernel_rfl) rfl #[.agg #[.int .u8 a0_0, .int .u16 a0_1, .int .u16 a0_2, .int .i64 a0_3]] rfl (by (try simp only [List.map_toArray, List.map_cons, List.map_nil]); first | done | rfl | (simp only [List.length_drop, List.length_take]; rfl)) ?_; (with_reducible refine (vivariumref09_Check.calls k a0_0 a0_1 a0_2 a0_3 t265 _ A4.out).mono ?_); rintro e w46 ⟨rfl, hb⟩; refine ⟨_, rfl, ?_⟩; have n0_ := Aside0.mk (blk_below (g := gb264) (o := .cells #[.int .u8 a0_0, .int .u16 a0_1, .int .u16 a0_2, .int .i64 a0_3] 42 (0, 0)) (by (with_reducible repeat (first | refine blk_drewN ?_ _ | refine blk_drew ?_ | refine blk_alloc ?_ _)); exact BK264.out) hb); have n1_ := Aside0.mk (below_step (by repeat (first | (with_reducible first | exact HB.out | apply below_alloc | apply pw_below_drewN | apply below_drew1 | refine below_set ?_ GE264.out) | exact HB.out)) hb); clear BK264; clear HB; have BK264 := n0_; have HB := n1_; clear n0_ n1_; (try clear hb); (try clear hb2); (try clear hk); (try clear hi)))
    go_ret2
    exact ⟨by first | rfl | (simp [errW_none, errW_some] <;> rfl) | (simp [*, errW_none, errW_some] <;> rfl), by repeat (first | (with_reducible first | exact HB.out | apply below_alloc | apply pw_below_drewN | apply below_drew1 | refine below_set ?_ GE264.out) | exact HB.out)⟩

end Go.Proofs.YtkahgdkpehlanaaDoor.P

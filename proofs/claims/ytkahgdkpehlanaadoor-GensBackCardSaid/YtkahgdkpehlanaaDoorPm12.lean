-- Written by a program of this session (wip/tools/mk.py) that runs the kit's printer; several functions' texts in one.
import Derived.Test.YtkahgdkpehlanaaDoorP0
import Derived.Test.YtkahgdkpehlanaaDoorPm11
namespace Go.Proofs.YtkahgdkpehlanaaDoor.P
open Go.RowKit Go.Proofs.YtkahgdkpehlanaaDoorW.PrintWords Go.Proofs.YtkahgdkpehlanaaDoorW.PrintLast Go.Proofs.YtkahgdkpehlanaaDoorW.PrintMore
attribute [local go_sem] max2_int min2_int max_two min_two   -- for this text's walks alone
set_option linter.unusedVariables false
set_option linter.unusedSimpArgs false

/-! ### gens_fading_next: function 47 -/
def gens_fading_next.j0 : Nat → Int → Int → Bool → Int → Int → Int → Int → Option (Int × Int)
 | 0, _, _, _, _, _, _, _ => none
 | k + 1, x8, x9, x34, x219000, x219001, x219002, x219003 => if x34 = true then (some (x9, 0)) else (if x8 = x219003 then (some (0, 0)) else (some ((x8) % 256, 0)))
def gens_fading_next.f (k : Nat) (a0_0 : Int) (a0_1 : Int) (a0_2 : Int) (a0_3 : Int) (a1 : Int) (a2 : Int) : Option (Int × Int) := if a1 ≤ 1 then ((gens_births_becomes.f k a0_0 a0_1 a0_2 a1 a2).bind fun bt219 => (if bt219.2 = 0 then (if bt219.1 = 1 then (gens_fading_next.j0 k (wrap64 ((wrap64 (a1)) + 1)) bt219.1 true a0_0 a0_1 a0_2 a0_3) else (gens_fading_next.j0 k (wrap64 ((wrap64 (a1)) + 1)) bt219.1 (a1 == 0) a0_0 a0_1 a0_2 a0_3)) else (some (0, bt219.2)))) else ((gens_births_becomes.f k a0_0 a0_1 a0_2 0 a2).bind fun bt221 => (if bt221.2 = 0 then (if (wrap64 ((wrap64 (a1)) + 1)) = a0_3 then (some (0, 0)) else (some ((wrap64 ((wrap64 (a1)) + 1)) % 256, 0))) else (some (0, bt221.2))))
theorem gens_fading_next.mono_l : ∀ k, (∀ y0 y1 y2 y3 y4 y5 y6, LeO (gens_fading_next.j0 k y0 y1 y2 y3 y4 y5 y6) (gens_fading_next.j0 (k + 1) y0 y1 y2 y3 y4 y5 y6))
 | 0 => fun _ _ _ _ _ _ _ r h => by simp [gens_fading_next.j0] at h
 | k + 1 => by
  have ih0 := gens_fading_next.mono_l k
  ·intro y0 y1 y2 y3 y4 y5 y6
   unfold gens_fading_next.j0
   repeat' first
   | (with_reducible exact ih0 _ _ _ _ _ _ _)
   | (with_reducible exact gens_births_becomes.mono _ _ _ _ _ _)
   | (with_reducible exact LeO.refl _)
   | (with_reducible exact LeO.none _)
   | (with_reducible refine LeO.ite ?_ ?_)
   | (with_reducible refine LeO.bind ?_ (fun _ => ?_))
   | exact ih0 _ _ _ _ _ _ _
   | exact gens_births_becomes.mono _ _ _ _ _ _
   | exact LeO.none _
   | refine LeO.ite ?_ ?_
   | refine LeO.bind ?_ (fun _ => ?_)
theorem gens_fading_next.mono : ∀ a0 a1 a2 a3 a4 a5 k, LeO (gens_fading_next.f k a0 a1 a2 a3 a4 a5) (gens_fading_next.f (k + 1) a0 a1 a2 a3 a4 a5) := by
 intro a0 a1 a2 a3 a4 a5 k
 have ih0 := gens_fading_next.mono_l k
 unfold gens_fading_next.f
 repeat' first
   | (with_reducible exact ih0 _ _ _ _ _ _ _)
   | (with_reducible exact gens_births_becomes.mono _ _ _ _ _ _)
   | (with_reducible exact LeO.refl _)
   | (with_reducible exact LeO.none _)
   | (with_reducible refine LeO.ite ?_ ?_)
   | (with_reducible refine LeO.bind ?_ (fun _ => ?_))
   | exact ih0 _ _ _ _ _ _ _
   | exact gens_births_becomes.mono _ _ _ _ _ _
   | exact LeO.none _
   | refine LeO.ite ?_ ?_
   | refine LeO.bind ?_ (fun _ => ?_)
set_option maxHeartbeats 8000000 in
set_option maxRecDepth 100000 in
theorem gens_fading_next.calls (k : Nat) (a0_0 : Int) (a0_1 : Int) (a0_2 : Int) (a0_3 : Int) (a1 : Int) (a2 : Int) (r1 : Int) (r2 : Int) (w : World) (h : gens_fading_next.f k a0_0 a0_1 a0_2 a0_3 a1 a2 = some (r1, r2)) :
  Calls Tryd.prog 47 #[.agg #[.int .u8 a0_0, .int .u16 a0_1, .int .u16 a0_2, .int .i64 a0_3], .int .u8 a1, .int .i64 a2] w fun e w' => e = .returned (.tuple #[.int .u8 r1, .int .i64 r2]) ∧ Below w.heap.size w w' := by
 have hu86 := Tryd.underlying86
 have hu84 := Tryd.underlying84
 have HB := Aside0.mk (Below.refl w.heap.size w)
 have H : (if a1 ≤ 1 then ((gens_births_becomes.f k a0_0 a0_1 a0_2 a1 a2).bind fun bt219 => (if bt219.2 = 0 then (if bt219.1 = 1 then (gens_fading_next.j0 k (wrap64 ((wrap64 (a1)) + 1)) bt219.1 true a0_0 a0_1 a0_2 a0_3) else (gens_fading_next.j0 k (wrap64 ((wrap64 (a1)) + 1)) bt219.1 (a1 == 0) a0_0 a0_1 a0_2 a0_3)) else (some (0, bt219.2)))) else ((gens_births_becomes.f k a0_0 a0_1 a0_2 0 a2).bind fun bt221 => (if bt221.2 = 0 then (if (wrap64 ((wrap64 (a1)) + 1)) = a0_3 then (some (0, 0)) else (some ((wrap64 ((wrap64 (a1)) + 1)) % 256, 0))) else (some (0, bt221.2))))) = some (r1, r2) := h
 clear h
 by_cases c4 : a1 ≤ 1
 ·rw [if_pos c4] at H
  have c4b0 : decide (a1 ≤ 1) = true := decide_eq_true c4
  clear c4
  replace H := Option.bind_eq_some_iff.mp H
  obtain ⟨⟨t219, t220⟩, A50, H⟩ := H
  replace H : (if t220 = 0 then (if t219 = 1 then (gens_fading_next.j0 k (wrap64 ((wrap64 (a1)) + 1)) t219 true a0_0 a0_1 a0_2 a0_3) else (gens_fading_next.j0 k (wrap64 ((wrap64 (a1)) + 1)) t219 (a1 == 0) a0_0 a0_1 a0_2 a0_3)) else (some (0, t220))) = some (r1, r2) := H
  have A5 := Aside0.mk A50
  clear A50
  by_cases c6 : t220 = 0
  ·rw [if_pos c6] at H
   have c6b0 : (t220 == 0) = true := beq_iff_eq.mpr c6
   have c6b1 : (t220 != 0) = false := bne_eq_false_iff_eq.mpr c6
   clear c6
   have HC7 := Aside0.mk H
   clear H
   go_enter Tryd.func47, Tryd.ntmps47
   go_upto_region 6 with (first | ((with_reducible refine gate_dst (N := 3) rfl ?_); refine box_event ?hg (N := 3) ?hd (cs := #[.int .u8 a0_0, .int .u16 a0_1, .int .u16 a0_2, .int .i64 a0_3]) (t := 86) ?hr ?_; (case hd => rfl); (case hg => rfl); (case hr => first | (go_simp; done) | (go_simp; rfl)); intro gb218 hg w8 hbox hb; have n0_ := Aside0.mk (below_step (by repeat (first | (with_reducible first | exact HB.out | apply below_alloc | apply pw_below_drewN | apply below_drew1) | exact HB.out)) hb); have n1_ := Aside0.mk (hbox); have n2_ := Aside0.mk ((by rw [hg]; exact (below_size (by repeat (first | (with_reducible first | exact HB.out | apply below_alloc | apply pw_below_drewN | apply below_drew1) | exact HB.out))) : w.heap.size ≤ gb218)); have n3_ := Aside0.mk ((by rw [hg]; exact (below_size (by repeat (first | (with_reducible first | exact HB.out | apply below_alloc | apply pw_below_drewN | apply below_drew1) | exact HB.out))) : w.heap.size ≤ gb218)); clear HB; have HB := n0_; have BK218 := n1_; have GW218 := n2_; have GE218 := n3_; clear n0_ n1_ n2_ n3_; clear hb hbox hg; have hcz9_0 : w8.cell? ⟨gb218, 0, none⟩ = some (.int .u8 a0_0) := (blk_cell BK218.out 0).trans rfl; have hcz9_1 : w8.cell? ⟨gb218, 1, none⟩ = some (.int .u16 a0_1) := (blk_cell BK218.out 1).trans rfl; have hcz9_2 : w8.cell? ⟨gb218, 2, none⟩ = some (.int .u16 a0_2) := (blk_cell BK218.out 2).trans rfl; have hcz9_3 : w8.cell? ⟨gb218, 3, none⟩ = some (.int .i64 a0_3) := (blk_cell BK218.out 3).trans rfl; have hfz9_0 := blk_frozen BK218.out 0; have hfz9_1 := blk_frozen BK218.out 1; have hfz9_2 := blk_frozen BK218.out 2; have hfz9_3 := blk_frozen BK218.out 3) | ((with_reducible refine gate_callee (f := 73) rfl ?_); refine goesL_ (some 23) rfl rfl Tryd.func73 (by kernel_rfl) rfl #[.agg #[.int .u8 a0_0, .int .u16 a0_1, .int .u16 a0_2], .int .u8 a1, .int .i64 a2] rfl (by (try simp only [List.map_toArray, List.map_cons, List.map_nil]); first | done | rfl | (simp only [List.length_drop, List.length_take]; rfl)) ?_; (with_reducible refine (gens_births_becomes.calls k a0_0 a0_1 a0_2 a1 a2 t219 t220 _ A5.out).mono ?_); rintro e w10 ⟨rfl, hb⟩; refine ⟨_, rfl, ?_⟩; have n0_ := Aside0.mk (blk_below (g := gb218) (o := .cells #[.int .u8 a0_0, .int .u16 a0_1, .int .u16 a0_2, .int .i64 a0_3] 86 (0, 0)) (by (with_reducible repeat (first | refine blk_drewN ?_ _ | refine blk_drew ?_ | refine blk_alloc ?_ _)); exact BK218.out) hb); have n1_ := Aside0.mk (below_step (by repeat (first | (with_reducible first | exact HB.out | apply below_alloc | apply pw_below_drewN | apply below_drew1 | refine below_set ?_ GE218.out) | exact HB.out)) hb); clear BK218; clear HB; have BK218 := n0_; have HB := n1_; clear n0_ n1_; (try clear hb); (try clear hb2); (try clear hk); (try clear hi)))
   (try simp only [Act.put, List.setIfInBounds_toArray, List.set_cons_zero, List.set_cons_succ])
   go_cut [34] (fun v34 wc => ∃ (kq : Nat) (x34_6 : Bool), v34 = .bool x34_6 ∧ Aside0 (gens_fading_next.j0 kq (wrap64 ((wrap64 (a1)) + 1)) t219 x34_6 a0_0 a0_1 a0_2 a0_3 = some (r1, r2)) ∧ Aside0 (kq ≤ k) ∧ Aside0 (wc.heap[gb218]? = some (.cells #[.int .u8 a0_0, .int .u16 a0_1, .int .u16 a0_2, .int .i64 a0_3] 86 (0, 0))) ∧ Aside0 (Below w.heap.size w wc))
   case first =>
    have H := HC7.out
    clear HC7
    by_cases c11 : t219 = 1
    ·rw [if_pos c11] at H
     have c11b0 : (t219 == 1) = true := beq_iff_eq.mpr c11
     have c11b1 : (t219 != 1) = false := bne_eq_false_iff_eq.mpr c11
     clear c11
     (first | rw [c11b0] | (simp only [i64_w, i32_w]; rw [c11b0]) | skip)
     have H' := Aside0.mk H
     clear H
     go_wp2
     go_meet
     case rel => exact ⟨_, (true), (by first | rfl | (simp; done) | (simp [*]; done)), H', ⟨by first | omega | exact Nat.le_refl _⟩, ⟨by (with_reducible repeat (first | refine blk_drewN ?_ _ | refine blk_drew ?_ | refine blk_alloc ?_ _)); exact BK218.out⟩, ⟨by repeat (first | (with_reducible first | exact HB.out | apply below_alloc | apply pw_below_drewN | apply below_drew1 | refine below_set ?_ GE218.out) | exact HB.out)⟩⟩
    ·rw [if_neg c11] at H
     have c11b0 : (t219 == 1) = false := beq_eq_false_iff_ne.mpr c11
     have c11b1 : (t219 != 1) = true := bne_iff_ne.mpr c11
     (first | rw [c11b0] | (simp only [i64_w, i32_w]; rw [c11b0]) | skip)
     have H' := Aside0.mk H
     clear H
     go_wp2
     go_meet
     case rel => exact ⟨_, ((a1 == 0)), (by first | rfl | (simp; done) | (simp [*]; done)), H', ⟨by first | omega | exact Nat.le_refl _⟩, ⟨by (with_reducible repeat (first | refine blk_drewN ?_ _ | refine blk_drew ?_ | refine blk_alloc ?_ _)); exact BK218.out⟩, ⟨by repeat (first | (with_reducible first | exact HB.out | apply below_alloc | apply pw_below_drewN | apply below_drew1 | refine below_set ?_ GE218.out) | exact HB.out)⟩⟩
   case rest =>
    clear HC7
    try clear c1
    try clear p2
    try clear c4
    try clear c4b0
    try clear c6
    try clear c6b0
    try clear c6b1
    try clear p6
    try clear c7
    try clear c11
    try clear c11b0
    try clear c11b1
    try clear hcz9_0
    try clear hcz9_1
    try clear hcz9_2
    try clear hcz9_3
    try clear hfz9_0
    try clear hfz9_1
    try clear hfz9_2
    try clear hfz9_3
    obtain ⟨kq, x34_6, rfl, HA, HJ6, BK218, HB⟩ := hcut
    cases kq with
    | zero => exact absurd HA.out (by simp [gens_fading_next.j0])
    | succ kj6 =>
     have H := HA.out
     clear HA
     simp only [gens_fading_next.j0] at H
     by_cases c12 : x34_6 = true
     ·subst c12
      have H1 : (some (t219, 0)) = some (r1, r2) := by rw [if_pos rfl] at H; exact H
      clear H
      have H := H1
      clear H1
      simp only [Option.some.injEq, Prod.mk.injEq] at H
      obtain ⟨rfl, rfl⟩ := H
      go_wp2
      go_ret2
      exact ⟨by first | rfl | (simp [errW_none, errW_some] <;> rfl) | (simp [*, errW_none, errW_some] <;> rfl), by repeat (first | (with_reducible first | exact HB.out | apply below_alloc | apply pw_below_drewN | apply below_drew1 | refine below_set ?_ GE218.out) | exact HB.out)⟩
     ·replace c12 := Bool.eq_false_iff.mpr c12
      subst c12
      have H1 : (if (wrap64 ((wrap64 (a1)) + 1)) = a0_3 then (some (0, 0)) else (some (((wrap64 ((wrap64 (a1)) + 1))) % 256, 0))) = some (r1, r2) := by rw [if_neg (show ¬ (false = true) by decide)] at H; exact H
      clear H
      have H := H1
      clear H1
      by_cases c13 : (wrap64 ((wrap64 (a1)) + 1)) = a0_3
      ·rw [if_pos c13] at H
       have c13b0 : ((wrap64 ((wrap64 (a1)) + 1)) == a0_3) = true := beq_iff_eq.mpr c13
       have c13b1 : ((wrap64 ((wrap64 (a1)) + 1)) != a0_3) = false := bne_eq_false_iff_eq.mpr c13
       clear c13
       simp only [Option.some.injEq, Prod.mk.injEq] at H
       obtain ⟨rfl, rfl⟩ := H
       have hcz14_0 : wc.cell? ⟨gb218, 0, none⟩ = some (.int .u8 a0_0) := (blk_cell BK218.out 0).trans rfl
       have hcz14_1 : wc.cell? ⟨gb218, 1, none⟩ = some (.int .u16 a0_1) := (blk_cell BK218.out 1).trans rfl
       have hcz14_2 : wc.cell? ⟨gb218, 2, none⟩ = some (.int .u16 a0_2) := (blk_cell BK218.out 2).trans rfl
       have hcz14_3 : wc.cell? ⟨gb218, 3, none⟩ = some (.int .i64 a0_3) := (blk_cell BK218.out 3).trans rfl
       have hfz14_0 := blk_frozen BK218.out 0
       have hfz14_1 := blk_frozen BK218.out 1
       have hfz14_2 := blk_frozen BK218.out 2
       have hfz14_3 := blk_frozen BK218.out 3
       go_wp2
       go_ret2
       exact ⟨by first | rfl | (simp [errW_none, errW_some] <;> rfl) | (simp [*, errW_none, errW_some] <;> rfl), by repeat (first | (with_reducible first | exact HB.out | apply below_alloc | apply pw_below_drewN | apply below_drew1 | refine below_set ?_ GE218.out) | exact HB.out)⟩
      ·rw [if_neg c13] at H
       have c13b0 : ((wrap64 ((wrap64 (a1)) + 1)) == a0_3) = false := beq_eq_false_iff_ne.mpr c13
       have c13b1 : ((wrap64 ((wrap64 (a1)) + 1)) != a0_3) = true := bne_iff_ne.mpr c13
       simp only [Option.some.injEq, Prod.mk.injEq] at H
       obtain ⟨rfl, rfl⟩ := H
       have hcz15_0 : wc.cell? ⟨gb218, 0, none⟩ = some (.int .u8 a0_0) := (blk_cell BK218.out 0).trans rfl
       have hcz15_1 : wc.cell? ⟨gb218, 1, none⟩ = some (.int .u16 a0_1) := (blk_cell BK218.out 1).trans rfl
       have hcz15_2 : wc.cell? ⟨gb218, 2, none⟩ = some (.int .u16 a0_2) := (blk_cell BK218.out 2).trans rfl
       have hcz15_3 : wc.cell? ⟨gb218, 3, none⟩ = some (.int .i64 a0_3) := (blk_cell BK218.out 3).trans rfl
       have hfz15_0 := blk_frozen BK218.out 0
       have hfz15_1 := blk_frozen BK218.out 1
       have hfz15_2 := blk_frozen BK218.out 2
       have hfz15_3 := blk_frozen BK218.out 3
       go_wp2
       go_ret2
       exact ⟨by first | rfl | (simp [errW_none, errW_some] <;> rfl) | (simp [*, errW_none, errW_some] <;> rfl), by repeat (first | (with_reducible first | exact HB.out | apply below_alloc | apply pw_below_drewN | apply below_drew1 | refine below_set ?_ GE218.out) | exact HB.out)⟩
  ·rw [if_neg c6] at H
   have c6b0 : (t220 == 0) = false := beq_eq_false_iff_ne.mpr c6
   have c6b1 : (t220 != 0) = true := bne_iff_ne.mpr c6
   simp only [Option.some.injEq, Prod.mk.injEq] at H
   obtain ⟨rfl, rfl⟩ := H
   go_enter Tryd.func47, Tryd.ntmps47
   go_wp2_with (first | ((with_reducible refine gate_dst (N := 3) rfl ?_); refine box_event ?hg (N := 3) ?hd (cs := #[.int .u8 a0_0, .int .u16 a0_1, .int .u16 a0_2, .int .i64 a0_3]) (t := 86) ?hr ?_; (case hd => rfl); (case hg => rfl); (case hr => first | (go_simp; done) | (go_simp; rfl)); intro gb218 hg w16 hbox hb; have n0_ := Aside0.mk (below_step (by repeat (first | (with_reducible first | exact HB.out | apply below_alloc | apply pw_below_drewN | apply below_drew1) | exact HB.out)) hb); have n1_ := Aside0.mk (hbox); have n2_ := Aside0.mk ((by rw [hg]; exact (below_size (by repeat (first | (with_reducible first | exact HB.out | apply below_alloc | apply pw_below_drewN | apply below_drew1) | exact HB.out))) : w.heap.size ≤ gb218)); have n3_ := Aside0.mk ((by rw [hg]; exact (below_size (by repeat (first | (with_reducible first | exact HB.out | apply below_alloc | apply pw_below_drewN | apply below_drew1) | exact HB.out))) : w.heap.size ≤ gb218)); clear HB; have HB := n0_; have BK218 := n1_; have GW218 := n2_; have GE218 := n3_; clear n0_ n1_ n2_ n3_; clear hb hbox hg; have hcz17_0 : w16.cell? ⟨gb218, 0, none⟩ = some (.int .u8 a0_0) := (blk_cell BK218.out 0).trans rfl; have hcz17_1 : w16.cell? ⟨gb218, 1, none⟩ = some (.int .u16 a0_1) := (blk_cell BK218.out 1).trans rfl; have hcz17_2 : w16.cell? ⟨gb218, 2, none⟩ = some (.int .u16 a0_2) := (blk_cell BK218.out 2).trans rfl; have hcz17_3 : w16.cell? ⟨gb218, 3, none⟩ = some (.int .i64 a0_3) := (blk_cell BK218.out 3).trans rfl; have hfz17_0 := blk_frozen BK218.out 0; have hfz17_1 := blk_frozen BK218.out 1; have hfz17_2 := blk_frozen BK218.out 2; have hfz17_3 := blk_frozen BK218.out 3) | ((with_reducible refine gate_callee (f := 73) rfl ?_); refine goesL_ (some 23) rfl rfl Tryd.func73 (by kernel_rfl) rfl #[.agg #[.int .u8 a0_0, .int .u16 a0_1, .int .u16 a0_2], .int .u8 a1, .int .i64 a2] rfl (by (try simp only [List.map_toArray, List.map_cons, List.map_nil]); first | done | rfl | (simp only [List.length_drop, List.length_take]; rfl)) ?_; (with_reducible refine (gens_births_becomes.calls k a0_0 a0_1 a0_2 a1 a2 t219 t220 _ A5.out).mono ?_); rintro e w18 ⟨rfl, hb⟩; refine ⟨_, rfl, ?_⟩; have n0_ := Aside0.mk (blk_below (g := gb218) (o := .cells #[.int .u8 a0_0, .int .u16 a0_1, .int .u16 a0_2, .int .i64 a0_3] 86 (0, 0)) (by (with_reducible repeat (first | refine blk_drewN ?_ _ | refine blk_drew ?_ | refine blk_alloc ?_ _)); exact BK218.out) hb); have n1_ := Aside0.mk (below_step (by repeat (first | (with_reducible first | exact HB.out | apply below_alloc | apply pw_below_drewN | apply below_drew1 | refine below_set ?_ GE218.out) | exact HB.out)) hb); clear BK218; clear HB; have BK218 := n0_; have HB := n1_; clear n0_ n1_; (try clear hb); (try clear hb2); (try clear hk); (try clear hi)))
   go_ret2
   exact ⟨by first | rfl | (simp [errW_none, errW_some] <;> rfl) | (simp [*, errW_none, errW_some] <;> rfl), by repeat (first | (with_reducible first | exact HB.out | apply below_alloc | apply pw_below_drewN | apply below_drew1 | refine below_set ?_ GE218.out) | exact HB.out)⟩
 ·rw [if_neg c4] at H
  have c4b0 : decide (a1 ≤ 1) = false := decide_eq_false c4
  clear c4
  replace H := Option.bind_eq_some_iff.mp H
  obtain ⟨⟨t221, t222⟩, A190, H⟩ := H
  replace H : (if t222 = 0 then (if (wrap64 ((wrap64 (a1)) + 1)) = a0_3 then (some (0, 0)) else (some ((wrap64 ((wrap64 (a1)) + 1)) % 256, 0))) else (some (0, t222))) = some (r1, r2) := H
  have A19 := Aside0.mk A190
  clear A190
  by_cases c20 : t222 = 0
  ·rw [if_pos c20] at H
   have c20b0 : (t222 == 0) = true := beq_iff_eq.mpr c20
   have c20b1 : (t222 != 0) = false := bne_eq_false_iff_eq.mpr c20
   clear c20
   by_cases c21 : (wrap64 ((wrap64 (a1)) + 1)) = a0_3
   ·rw [if_pos c21] at H
    have c21b0 : ((wrap64 ((wrap64 (a1)) + 1)) == a0_3) = true := beq_iff_eq.mpr c21
    have c21b1 : ((wrap64 ((wrap64 (a1)) + 1)) != a0_3) = false := bne_eq_false_iff_eq.mpr c21
    clear c21
    simp only [Option.some.injEq, Prod.mk.injEq] at H
    obtain ⟨rfl, rfl⟩ := H
    go_enter Tryd.func47, Tryd.ntmps47
    go_wp2_with (first | ((with_reducible refine gate_dst (N := 3) rfl ?_); refine box_event ?hg (N := 3) ?hd (cs := #[.int .u8 a0_0, .int .u16 a0_1, .int .u16 a0_2, .int .i64 a0_3]) (t := 86) ?hr ?_; (case hd => rfl); (case hg => rfl); (case hr => first | (go_simp; done) | (go_simp; rfl)); intro gb218 hg w22 hbox hb; have n0_ := Aside0.mk (below_step (by repeat (first | (with_reducible first | exact HB.out | apply below_alloc | apply pw_below_drewN | apply below_drew1) | exact HB.out)) hb); have n1_ := Aside0.mk (hbox); have n2_ := Aside0.mk ((by rw [hg]; exact (below_size (by repeat (first | (with_reducible first | exact HB.out | apply below_alloc | apply pw_below_drewN | apply below_drew1) | exact HB.out))) : w.heap.size ≤ gb218)); have n3_ := Aside0.mk ((by rw [hg]; exact (below_size (by repeat (first | (with_reducible first | exact HB.out | apply below_alloc | apply pw_below_drewN | apply below_drew1) | exact HB.out))) : w.heap.size ≤ gb218)); clear HB; have HB := n0_; have BK218 := n1_; have GW218 := n2_; have GE218 := n3_; clear n0_ n1_ n2_ n3_; clear hb hbox hg; have hcz23_0 : w22.cell? ⟨gb218, 0, none⟩ = some (.int .u8 a0_0) := (blk_cell BK218.out 0).trans rfl; have hcz23_1 : w22.cell? ⟨gb218, 1, none⟩ = some (.int .u16 a0_1) := (blk_cell BK218.out 1).trans rfl; have hcz23_2 : w22.cell? ⟨gb218, 2, none⟩ = some (.int .u16 a0_2) := (blk_cell BK218.out 2).trans rfl; have hcz23_3 : w22.cell? ⟨gb218, 3, none⟩ = some (.int .i64 a0_3) := (blk_cell BK218.out 3).trans rfl; have hfz23_0 := blk_frozen BK218.out 0; have hfz23_1 := blk_frozen BK218.out 1; have hfz23_2 := blk_frozen BK218.out 2; have hfz23_3 := blk_frozen BK218.out 3) | ((with_reducible refine gate_callee (f := 73) rfl ?_); refine goesL_ (some 40) rfl rfl Tryd.func73 (by kernel_rfl) rfl #[.agg #[.int .u8 a0_0, .int .u16 a0_1, .int .u16 a0_2], .int .u8 0, .int .i64 a2] rfl (by (try simp only [List.map_toArray, List.map_cons, List.map_nil]); first | done | rfl | (simp only [List.length_drop, List.length_take]; rfl)) ?_; (with_reducible refine (gens_births_becomes.calls k a0_0 a0_1 a0_2 0 a2 t221 t222 _ A19.out).mono ?_); rintro e w24 ⟨rfl, hb⟩; refine ⟨_, rfl, ?_⟩; have n0_ := Aside0.mk (blk_below (g := gb218) (o := .cells #[.int .u8 a0_0, .int .u16 a0_1, .int .u16 a0_2, .int .i64 a0_3] 86 (0, 0)) (by (with_reducible repeat (first | refine blk_drewN ?_ _ | refine blk_drew ?_ | refine blk_alloc ?_ _)); exact BK218.out) hb); have n1_ := Aside0.mk (below_step (by repeat (first | (with_reducible first | exact HB.out | apply below_alloc | apply pw_below_drewN | apply below_drew1 | refine below_set ?_ GE218.out) | exact HB.out)) hb); clear BK218; clear HB; have BK218 := n0_; have HB := n1_; clear n0_ n1_; (try clear hb); (try clear hb2); (try clear hk); (try clear hi); have hcz25_0 : w24.cell? ⟨gb218, 0, none⟩ = some (.int .u8 a0_0) := (blk_cell BK218.out 0).trans rfl; have hcz25_1 : w24.cell? ⟨gb218, 1, none⟩ = some (.int .u16 a0_1) := (blk_cell BK218.out 1).trans rfl; have hcz25_2 : w24.cell? ⟨gb218, 2, none⟩ = some (.int .u16 a0_2) := (blk_cell BK218.out 2).trans rfl; have hcz25_3 : w24.cell? ⟨gb218, 3, none⟩ = some (.int .i64 a0_3) := (blk_cell BK218.out 3).trans rfl; have hfz25_0 := blk_frozen BK218.out 0; have hfz25_1 := blk_frozen BK218.out 1; have hfz25_2 := blk_frozen BK218.out 2; have hfz25_3 := blk_frozen BK218.out 3))
    go_ret2
    exact ⟨by first | rfl | (simp [errW_none, errW_some] <;> rfl) | (simp [*, errW_none, errW_some] <;> rfl), by repeat (first | (with_reducible first | exact HB.out | apply below_alloc | apply pw_below_drewN | apply below_drew1 | refine below_set ?_ GE218.out) | exact HB.out)⟩
   ·rw [if_neg c21] at H
    have c21b0 : ((wrap64 ((wrap64 (a1)) + 1)) == a0_3) = false := beq_eq_false_iff_ne.mpr c21
    have c21b1 : ((wrap64 ((wrap64 (a1)) + 1)) != a0_3) = true := bne_iff_ne.mpr c21
    simp only [Option.some.injEq, Prod.mk.injEq] at H
    obtain ⟨rfl, rfl⟩ := H
    go_enter Tryd.func47, Tryd.ntmps47
    go_wp2_with (first | ((with_reducible refine gate_dst (N := 3) rfl ?_); refine box_event ?hg (N := 3) ?hd (cs := #[.int .u8 a0_0, .int .u16 a0_1, .int .u16 a0_2, .int .i64 a0_3]) (t := 86) ?hr ?_; (case hd => rfl); (case hg => rfl); (case hr => first | (go_simp; done) | (go_simp; rfl)); intro gb218 hg w26 hbox hb; have n0_ := Aside0.mk (below_step (by repeat (first | (with_reducible first | exact HB.out | apply below_alloc | apply pw_below_drewN | apply below_drew1) | exact HB.out)) hb); have n1_ := Aside0.mk (hbox); have n2_ := Aside0.mk ((by rw [hg]; exact (below_size (by repeat (first | (with_reducible first | exact HB.out | apply below_alloc | apply pw_below_drewN | apply below_drew1) | exact HB.out))) : w.heap.size ≤ gb218)); have n3_ := Aside0.mk ((by rw [hg]; exact (below_size (by repeat (first | (with_reducible first | exact HB.out | apply below_alloc | apply pw_below_drewN | apply below_drew1) | exact HB.out))) : w.heap.size ≤ gb218)); clear HB; have HB := n0_; have BK218 := n1_; have GW218 := n2_; have GE218 := n3_; clear n0_ n1_ n2_ n3_; clear hb hbox hg; have hcz27_0 : w26.cell? ⟨gb218, 0, none⟩ = some (.int .u8 a0_0) := (blk_cell BK218.out 0).trans rfl; have hcz27_1 : w26.cell? ⟨gb218, 1, none⟩ = some (.int .u16 a0_1) := (blk_cell BK218.out 1).trans rfl; have hcz27_2 : w26.cell? ⟨gb218, 2, none⟩ = some (.int .u16 a0_2) := (blk_cell BK218.out 2).trans rfl; have hcz27_3 : w26.cell? ⟨gb218, 3, none⟩ = some (.int .i64 a0_3) := (blk_cell BK218.out 3).trans rfl; have hfz27_0 := blk_frozen BK218.out 0; have hfz27_1 := blk_frozen BK218.out 1; have hfz27_2 := blk_frozen BK218.out 2; have hfz27_3 := blk_frozen BK218.out 3) | ((with_reducible refine gate_callee (f := 73) rfl ?_); refine goesL_ (some 40) rfl rfl Tryd.func73 (by kernel_rfl) rfl #[.agg #[.int .u8 a0_0, .int .u16 a0_1, .int .u16 a0_2], .int .u8 0, .int .i64 a2] rfl (by (try simp only [List.map_toArray, List.map_cons, List.map_nil]); first | done | rfl | (simp only [List.length_drop, List.length_take]; rfl)) ?_; (with_reducible refine (gens_births_becomes.calls k a0_0 a0_1 a0_2 0 a2 t221 t222 _ A19.out).mono ?_); rintro e w28 ⟨rfl, hb⟩; refine ⟨_, rfl, ?_⟩; have n0_ := Aside0.mk (blk_below (g := gb218) (o := .cells #[.int .u8 a0_0, .int .u16 a0_1, .int .u16 a0_2, .int .i64 a0_3] 86 (0, 0)) (by (with_reducible repeat (first | refine blk_drewN ?_ _ | refine blk_drew ?_ | refine blk_alloc ?_ _)); exact BK218.out) hb); have n1_ := Aside0.mk (below_step (by repeat (first | (with_reducible first | exact HB.out | apply below_alloc | apply pw_below_drewN | apply below_drew1 | refine below_set ?_ GE218.out) | exact HB.out)) hb); clear BK218; clear HB; have BK218 := n0_; have HB := n1_; clear n0_ n1_; (try clear hb); (try clear hb2); (try clear hk); (try clear hi); have hcz29_0 : w28.cell? ⟨gb218, 0, none⟩ = some (.int .u8 a0_0) := (blk_cell BK218.out 0).trans rfl; have hcz29_1 : w28.cell? ⟨gb218, 1, none⟩ = some (.int .u16 a0_1) := (blk_cell BK218.out 1).trans rfl; have hcz29_2 : w28.cell? ⟨gb218, 2, none⟩ = some (.int .u16 a0_2) := (blk_cell BK218.out 2).trans rfl; have hcz29_3 : w28.cell? ⟨gb218, 3, none⟩ = some (.int .i64 a0_3) := (blk_cell BK218.out 3).trans rfl; have hfz29_0 := blk_frozen BK218.out 0; have hfz29_1 := blk_frozen BK218.out 1; have hfz29_2 := blk_frozen BK218.out 2; have hfz29_3 := blk_frozen BK218.out 3))
    go_ret2
    exact ⟨by first | rfl | (simp [errW_none, errW_some] <;> rfl) | (simp [*, errW_none, errW_some] <;> rfl), by repeat (first | (with_reducible first | exact HB.out | apply below_alloc | apply pw_below_drewN | apply below_drew1 | refine below_set ?_ GE218.out) | exact HB.out)⟩
  ·rw [if_neg c20] at H
   have c20b0 : (t222 == 0) = false := beq_eq_false_iff_ne.mpr c20
   have c20b1 : (t222 != 0) = true := bne_iff_ne.mpr c20
   simp only [Option.some.injEq, Prod.mk.injEq] at H
   obtain ⟨rfl, rfl⟩ := H
   go_enter Tryd.func47, Tryd.ntmps47
   go_wp2_with (first | ((with_reducible refine gate_dst (N := 3) rfl ?_); refine box_event ?hg (N := 3) ?hd (cs := #[.int .u8 a0_0, .int .u16 a0_1, .int .u16 a0_2, .int .i64 a0_3]) (t := 86) ?hr ?_; (case hd => rfl); (case hg => rfl); (case hr => first | (go_simp; done) | (go_simp; rfl)); intro gb218 hg w30 hbox hb; have n0_ := Aside0.mk (below_step (by repeat (first | (with_reducible first | exact HB.out | apply below_alloc | apply pw_below_drewN | apply below_drew1) | exact HB.out)) hb); have n1_ := Aside0.mk (hbox); have n2_ := Aside0.mk ((by rw [hg]; exact (below_size (by repeat (first | (with_reducible first | exact HB.out | apply below_alloc | apply pw_below_drewN | apply below_drew1) | exact HB.out))) : w.heap.size ≤ gb218)); have n3_ := Aside0.mk ((by rw [hg]; exact (below_size (by repeat (first | (with_reducible first | exact HB.out | apply below_alloc | apply pw_below_drewN | apply below_drew1) | exact HB.out))) : w.heap.size ≤ gb218)); clear HB; have HB := n0_; have BK218 := n1_; have GW218 := n2_; have GE218 := n3_; clear n0_ n1_ n2_ n3_; clear hb hbox hg; have hcz31_0 : w30.cell? ⟨gb218, 0, none⟩ = some (.int .u8 a0_0) := (blk_cell BK218.out 0).trans rfl; have hcz31_1 : w30.cell? ⟨gb218, 1, none⟩ = some (.int .u16 a0_1) := (blk_cell BK218.out 1).trans rfl; have hcz31_2 : w30.cell? ⟨gb218, 2, none⟩ = some (.int .u16 a0_2) := (blk_cell BK218.out 2).trans rfl; have hcz31_3 : w30.cell? ⟨gb218, 3, none⟩ = some (.int .i64 a0_3) := (blk_cell BK218.out 3).trans rfl; have hfz31_0 := blk_frozen BK218.out 0; have hfz31_1 := blk_frozen BK218.out 1; have hfz31_2 := blk_frozen BK218.out 2; have hfz31_3 := blk_frozen BK218.out 3) | ((with_reducible refine gate_callee (f := 73) rfl ?_); refine goesL_ (some 40) rfl rfl Tryd.func73 (by kernel_rfl) rfl #[.agg #[.int .u8 a0_0, .int .u16 a0_1, .int .u16 a0_2], .int .u8 0, .int .i64 a2] rfl (by (try simp only [List.map_toArray, List.map_cons, List.map_nil]); first | done | rfl | (simp only [List.length_drop, List.length_take]; rfl)) ?_; (with_reducible refine (gens_births_becomes.calls k a0_0 a0_1 a0_2 0 a2 t221 t222 _ A19.out).mono ?_); rintro e w32 ⟨rfl, hb⟩; refine ⟨_, rfl, ?_⟩; have n0_ := Aside0.mk (blk_below (g := gb218) (o := .cells #[.int .u8 a0_0, .int .u16 a0_1, .int .u16 a0_2, .int .i64 a0_3] 86 (0, 0)) (by (with_reducible repeat (first | refine blk_drewN ?_ _ | refine blk_drew ?_ | refine blk_alloc ?_ _)); exact BK218.out) hb); have n1_ := Aside0.mk (below_step (by repeat (first | (with_reducible first | exact HB.out | apply below_alloc | apply pw_below_drewN | apply below_drew1 | refine below_set ?_ GE218.out) | exact HB.out)) hb); clear BK218; clear HB; have BK218 := n0_; have HB := n1_; clear n0_ n1_; (try clear hb); (try clear hb2); (try clear hk); (try clear hi)))
   go_ret2
   exact ⟨by first | rfl | (simp [errW_none, errW_some] <;> rfl) | (simp [*, errW_none, errW_some] <;> rfl), by repeat (first | (with_reducible first | exact HB.out | apply below_alloc | apply pw_below_drewN | apply below_drew1 | refine below_set ?_ GE218.out) | exact HB.out)⟩

end Go.Proofs.YtkahgdkpehlanaaDoor.P

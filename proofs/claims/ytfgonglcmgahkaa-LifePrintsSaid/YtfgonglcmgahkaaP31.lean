-- Written by a program of this session (wip/tools/mk.py) that runs the kit's printer.
import Derived.Test.YtfgonglcmgahkaaP0
import Derived.Test.YtfgonglcmgahkaaP62
import Derived.Test.YtfgonglcmgahkaaP33
namespace Go.Proofs.Ytfgonglcmgahkaa.P
open Go.RowKit Go.Proofs.YtfgonglcmgahkaaW.PrintWords Go.Proofs.YtfgonglcmgahkaaW.PrintLast Go.Proofs.YtfgonglcmgahkaaW.PrintMore
attribute [local go_sem] max2_int min2_int max_two min_two max_three min_three max_four min_four   -- for this text's walks alone
set_option linter.unusedVariables false
set_option linter.unusedSimpArgs false

/-! ### life_Turned: function 31 -/
def life_Turned.l0 : Nat → Int → Int → Int → Int → Int → Int → Int → Int → Int → Option (Int × Int × Int × Int)
  | 0, _, _, _, _, _, _, _, _, _ => none
  | k + 1, x5, x32, x33, x363000, x363001, x363002, x368000, x368001, x368002 => if x33 < x32 then (if 0 ≤ x33 then (if x33 ≤ 16 then (if (Go.bits .and .u16 (x363002 / 2 ^ x33.toNat) 1) = 1 then (if 0 ≤ (wrap64 (x5 - x33)) then (if (wrap64 (x5 - x33)) ≤ 16 then (if (Go.bits .and .u16 (x363001 / 2 ^ x33.toNat) 1) = 1 then (life_Turned.l0 k x5 x32 (wrap64 (x33 + 1)) x363000 x363001 x363002 x368000 (Go.bits .andNot .u16 x368001 (IntKind.u16.wrap (2 ^ (wrap64 (x5 - x33)).toNat))) (Go.bits .andNot .u16 x368002 (IntKind.u16.wrap (2 ^ (wrap64 (x5 - x33)).toNat)))) else (life_Turned.l0 k x5 x32 (wrap64 (x33 + 1)) x363000 x363001 x363002 x368000 (Go.bits .andNot .u16 x368001 (IntKind.u16.wrap (2 ^ (wrap64 (x5 - x33)).toNat))) x368002)) else (none)) else (none)) else (if (Go.bits .and .u16 (x363001 / 2 ^ x33.toNat) 1) = 1 then (if 0 ≤ (wrap64 (x5 - x33)) then (if (wrap64 (x5 - x33)) ≤ 16 then (life_Turned.l0 k x5 x32 (wrap64 (x33 + 1)) x363000 x363001 x363002 x368000 x368001 (Go.bits .andNot .u16 x368002 (IntKind.u16.wrap (2 ^ (wrap64 (x5 - x33)).toNat)))) else (none)) else (none)) else (life_Turned.l0 k x5 x32 (wrap64 (x33 + 1)) x363000 x363001 x363002 x368000 x368001 x368002))) else (none)) else (none)) else (some (x368000, x368001, x368002, 0))
def life_Turned.f (k : Nat) (a0_0 : Int) (a0_1 : Int) (a0_2 : Int) : Option (Int × Int × Int × Int) := (life_Check.f a0_0 a0_1 a0_2).bind fun t364 => (if t364 = 0 then ((life_greatest.f a0_0 a0_1 a0_2).bind fun bt365 => (if 0 ≤ (wrap64 (bt365.1 + 1)) then (if (wrap64 (bt365.1 + 1)) ≤ 16 then (life_Turned.l0 k bt365.1 (wrap64 (bt365.1 + 1)) 0 a0_0 a0_1 a0_2 a0_0 (IntKind.u16.wrap ((IntKind.u16.wrap (2 ^ (wrap64 (bt365.1 + 1)).toNat)) - 1)) (IntKind.u16.wrap ((IntKind.u16.wrap (2 ^ (wrap64 (bt365.1 + 1)).toNat)) - 1))) else (none)) else (none))) else (some (0, 0, 0, t364)))
theorem life_Turned.mono_l : ∀ k, (∀ y0 y1 y2 y3 y4 y5 y6 y7 y8, LeO (life_Turned.l0 k y0 y1 y2 y3 y4 y5 y6 y7 y8) (life_Turned.l0 (k + 1) y0 y1 y2 y3 y4 y5 y6 y7 y8))
  | 0 => fun _ _ _ _ _ _ _ _ _ r h => by simp [life_Turned.l0] at h
  | k + 1 => by
    have ih0 := life_Turned.mono_l k
    · intro y0 y1 y2 y3 y4 y5 y6 y7 y8
      unfold life_Turned.l0
      repeat' first
      | (with_reducible exact ih0 _ _ _ _ _ _ _ _ _)
      | (with_reducible exact LeO.refl _)
      | (with_reducible exact LeO.none _)
      | (with_reducible refine LeO.ite ?_ ?_)
      | (with_reducible refine LeO.bind ?_ (fun _ => ?_))
      | exact ih0 _ _ _ _ _ _ _ _ _
      | exact LeO.none _
      | refine LeO.ite ?_ ?_
      | refine LeO.bind ?_ (fun _ => ?_)
theorem life_Turned.mono : ∀ a0 a1 a2 k, LeO (life_Turned.f k a0 a1 a2) (life_Turned.f (k + 1) a0 a1 a2) := by
  intro a0 a1 a2 k
  have ih0 := life_Turned.mono_l k
  unfold life_Turned.f
  repeat' first
      | (with_reducible exact ih0 _ _ _ _ _ _ _ _ _)
      | (with_reducible exact LeO.refl _)
      | (with_reducible exact LeO.none _)
      | (with_reducible refine LeO.ite ?_ ?_)
      | (with_reducible refine LeO.bind ?_ (fun _ => ?_))
      | exact ih0 _ _ _ _ _ _ _ _ _
      | exact LeO.none _
      | refine LeO.ite ?_ ?_
      | refine LeO.bind ?_ (fun _ => ?_)
def life_Turned.T5 : Bool × List (List Nat × List Nat) := (true, [([], []), ([0], [0]), ([], []), ([2], [2]), ([3], [3]), ([4], [4]), ([], []), ([6], [6]), ([7], [7]), ([8], [8]), ([1, 5, 9], [1, 5, 9]), ([], []), ([11, 10, 0, 1, 2, 3, 4, 5, 6, 7, 8, 9, 10, 11], [10, 11])])
def life_Turned.B5 : List Nat := [0, 1, 0, 4, 12, 28, 0, 64, 192, 448, 1023, 0, 4095]
theorem life_Turned.tab5 : rtab .any (opsOf Try.f31 5) = life_Turned.T5 := by kernel_rfl
theorem life_Turned.bits5 : waitsOk life_Turned.T5.2 life_Turned.B5 = true := by kernel_rfl
def life_Turned.T10 : Bool × List (List Nat × List Nat) := (true, [([], []), ([0], [0]), ([], []), ([], []), ([2, 3], [2, 3]), ([4], [4]), ([1, 5], [1, 5]), ([0, 1, 2, 3, 4, 5, 6], []), ([7, 6, 0, 1, 2, 3, 4, 5, 6], [6, 7])])
def life_Turned.B10 : List Nat := [0, 1, 0, 0, 12, 28, 63, 127, 255]
theorem life_Turned.tab10 : rtab .any (opsOf Try.f31 10) = life_Turned.T10 := by kernel_rfl
theorem life_Turned.bits10 : waitsOk life_Turned.T10.2 life_Turned.B10 = true := by kernel_rfl
def life_Turned.T12 : Bool × List (List Nat × List Nat) := (true, [([], []), ([0], [0]), ([], []), ([], []), ([2, 3], [2, 3]), ([4], [4]), ([1, 5], [1, 5]), ([0, 1, 2, 3, 4, 5, 6], []), ([7, 6, 0, 1, 2, 3, 4, 5, 6], [6, 7])])
def life_Turned.B12 : List Nat := [0, 1, 0, 0, 12, 28, 63, 127, 255]
theorem life_Turned.tab12 : rtab .any (opsOf Try.f31 12) = life_Turned.T12 := by kernel_rfl
theorem life_Turned.bits12 : waitsOk life_Turned.T12.2 life_Turned.B12 = true := by kernel_rfl
set_option maxHeartbeats 8000000 in
set_option maxRecDepth 100000 in
theorem life_Turned.calls (k : Nat) (a0_0 : Int) (a0_1 : Int) (a0_2 : Int) (r1 : Int) (r2 : Int) (r3 : Int) (r4 : Int) (w : World) (h : life_Turned.f k a0_0 a0_1 a0_2 = some (r1, r2, r3, r4)) :
    Calls Try.prog 31 #[.agg #[.int .u8 a0_0, .int .u16 a0_1, .int .u16 a0_2]] w fun e w' => e = .returned (.tuple #[.agg #[.int .u8 r1, .int .u16 r2, .int .u16 r3], .int .i64 r4]) ∧ Below w.heap.size w w' := by
  have hu37 := Try.underlying37
  have HB := Aside0.mk (Below.refl w.heap.size w)
  have H : ((life_Check.f a0_0 a0_1 a0_2).bind fun t364 => (if t364 = 0 then ((life_greatest.f a0_0 a0_1 a0_2).bind fun bt365 => (if 0 ≤ (wrap64 (bt365.1 + 1)) then (if (wrap64 (bt365.1 + 1)) ≤ 16 then (life_Turned.l0 k bt365.1 (wrap64 (bt365.1 + 1)) 0 a0_0 a0_1 a0_2 a0_0 (IntKind.u16.wrap ((IntKind.u16.wrap (2 ^ (wrap64 (bt365.1 + 1)).toNat)) - 1)) (IntKind.u16.wrap ((IntKind.u16.wrap (2 ^ (wrap64 (bt365.1 + 1)).toNat)) - 1))) else (none)) else (none))) else (some (0, 0, 0, t364)))) = some (r1, r2, r3, r4) := h
  clear h
  replace H := Option.bind_eq_some_iff.mp H
  obtain ⟨t364, A20, H⟩ := H
  replace H : (if t364 = 0 then ((life_greatest.f a0_0 a0_1 a0_2).bind fun bt365 => (if 0 ≤ (wrap64 (bt365.1 + 1)) then (if (wrap64 (bt365.1 + 1)) ≤ 16 then (life_Turned.l0 k bt365.1 (wrap64 (bt365.1 + 1)) 0 a0_0 a0_1 a0_2 a0_0 (IntKind.u16.wrap ((IntKind.u16.wrap (2 ^ (wrap64 (bt365.1 + 1)).toNat)) - 1)) (IntKind.u16.wrap ((IntKind.u16.wrap (2 ^ (wrap64 (bt365.1 + 1)).toNat)) - 1))) else (none)) else (none))) else (some (0, 0, 0, t364))) = some (r1, r2, r3, r4) := H
  have A2 := Aside0.mk A20
  clear A20
  by_cases c3 : t364 = 0
  · rw [if_pos c3] at H
    have c3b0 : (t364 == 0) = true := beq_iff_eq.mpr c3
    have c3b1 : (t364 != 0) = false := bne_eq_false_iff_eq.mpr c3
    clear c3
    replace H := Option.bind_eq_some_iff.mp H
    obtain ⟨⟨t365, t366⟩, A40, H⟩ := H
    replace H : (if 0 ≤ (wrap64 (t365 + 1)) then (if (wrap64 (t365 + 1)) ≤ 16 then (life_Turned.l0 k t365 (wrap64 (t365 + 1)) 0 a0_0 a0_1 a0_2 a0_0 (IntKind.u16.wrap ((IntKind.u16.wrap (2 ^ (wrap64 (t365 + 1)).toNat)) - 1)) (IntKind.u16.wrap ((IntKind.u16.wrap (2 ^ (wrap64 (t365 + 1)).toNat)) - 1))) else (none)) else (none)) = some (r1, r2, r3, r4) := H
    have A4 := Aside0.mk A40
    clear A40
    obtain ⟨ji5, hji5⟩ : ∃ j_ : Int, (wrap64 (t365 + 1)) = j_ := ⟨_, rfl⟩
    replace H : (if 0 ≤ (ji5) then (if (ji5) ≤ 16 then (life_Turned.l0 k t365 ji5 0 a0_0 a0_1 a0_2 a0_0 (IntKind.u16.wrap ((IntKind.u16.wrap (2 ^ (ji5).toNat)) - 1)) (IntKind.u16.wrap ((IntKind.u16.wrap (2 ^ (ji5).toNat)) - 1))) else (none)) else (none)) = some (r1, r2, r3, r4) := by first | (rw [hji5] at H; exact H) | (simp only [hji5] at H ⊢; exact H)
    (try rw [hji5] at A2)
    (try rw [hji5] at A4)
    have hji5w : (IntKind.i64.wrap (t365 + 1)) = ji5 := (i64_w _).trans hji5
    by_cases c6 : 0 ≤ (ji5)
    · rw [if_pos c6] at H
      have c6b0 := eq_true c6
      have c6b1 : decide (0 ≤ (ji5)) = true := decide_eq_true c6
      clear c6
      by_cases c7 : (ji5) ≤ 16
      · rw [if_pos c7] at H
        have c7b0 := eq_true c7
        have c7b1 : decide ((ji5) ≤ 16) = true := decide_eq_true c7
        clear c7
        have c8b0 := eq_true (of_decide_eq_true (by first | (with_reducible assumption) | assumption) : 0 ≤ (ji5))
        have c9b0 := eq_true (of_decide_eq_true (by first | (with_reducible assumption) | assumption) : (ji5) ≤ 16)
        have H' := Aside0.mk H
        clear H
        go_enter Try.func31, Try.ntmps31
        try go_wp2_with (first | ((with_reducible refine gate_dst (N := 1) rfl ?_); refine box_event ?hg (N := 1) ?hd (cs := #[.int .u8 a0_0, .int .u16 a0_1, .int .u16 a0_2]) (t := 37) ?hr ?_; (case hd => rfl); (case hg => rfl); (case hr => first | (go_simp; done) | (go_simp; rfl)); intro gb362 hg w10 hbox hb; have n0_ := Aside0.mk (below_step (by repeat (first | (with_reducible first | exact HB.out | apply below_alloc | apply pw_below_drewN | apply below_drew1) | exact HB.out)) hb); have n1_ := Aside0.mk (hbox); have n2_ := Aside0.mk ((by rw [hg]; exact (below_size (by repeat (first | (with_reducible first | exact HB.out | apply below_alloc | apply pw_below_drewN | apply below_drew1) | exact HB.out))) : w.heap.size ≤ gb362)); have n3_ := Aside0.mk ((by rw [hg]; exact (below_size (by repeat (first | (with_reducible first | exact HB.out | apply below_alloc | apply pw_below_drewN | apply below_drew1) | exact HB.out))) : w.heap.size ≤ gb362)); clear HB; have HB := n0_; have BK362 := n1_; have GW362 := n2_; have GE362 := n3_; clear n0_ n1_ n2_ n3_; clear hb hbox hg) | ((with_reducible refine gate_dst (N := 2) rfl ?_); refine box_event ?hg (N := 2) ?hd (cs := #[.int .u8 0, .int .u16 0, .int .u16 0]) (t := 37) ?hr ?_; (case hd => rfl); (case hg => rfl); (case hr => first | (go_simp; done) | (go_simp; rfl)); intro gb363 hg w11 hbox hb; have n0_ := Aside0.mk (blk_below (g := gb362) (o := .cells #[.int .u8 a0_0, .int .u16 a0_1, .int .u16 a0_2] 37 (0, 0)) (by (with_reducible repeat (first | refine blk_drewN ?_ _ | refine blk_drew ?_ | refine blk_alloc ?_ _)); exact BK362.out) hb); have n1_ := Aside0.mk (below_step (by repeat (first | (with_reducible first | exact HB.out | apply below_alloc | apply pw_below_drewN | apply below_drew1 | refine below_set ?_ GE362.out) | exact HB.out)) hb); have n2_ := Aside0.mk (hbox); have n3_ := Aside0.mk ((by rw [hg]; exact (below_size (by repeat (first | (with_reducible first | exact HB.out | apply below_alloc | apply pw_below_drewN | apply below_drew1 | refine below_set ?_ GE362.out) | exact HB.out))) : w.heap.size ≤ gb363)); have n4_ := Aside0.mk ((by rw [hg]; exact (below_size (by repeat (first | (with_reducible first | exact HB.out | apply below_alloc | apply pw_below_drewN | apply below_drew1 | refine below_set ?_ GE362.out) | exact HB.out))) : w.heap.size ≤ gb363)); have n5_ := Aside0.mk ((by rw [hg]; exact Nat.ne_of_lt (blk_lt (g := gb362) (o := .cells #[.int .u8 a0_0, .int .u16 a0_1, .int .u16 a0_2] 37 (0, 0)) (by (with_reducible repeat (first | refine blk_drewN ?_ _ | refine blk_drew ?_ | refine blk_alloc ?_ _)); exact BK362.out)) : gb362 ≠ gb363)); have n6_ := Aside0.mk ((by rw [hg]; exact Nat.ne_of_gt (blk_lt (g := gb362) (o := .cells #[.int .u8 a0_0, .int .u16 a0_1, .int .u16 a0_2] 37 (0, 0)) (by (with_reducible repeat (first | refine blk_drewN ?_ _ | refine blk_drew ?_ | refine blk_alloc ?_ _)); exact BK362.out)) : gb363 ≠ gb362)); clear BK362; clear HB; have BK362 := n0_; have HB := n1_; have BK363 := n2_; have GW363 := n3_; have GE363 := n4_; have NB362_363 := n5_; have NB363_362 := n6_; clear n0_ n1_ n2_ n3_ n4_ n5_ n6_; clear hb hbox hg; have hnb12 := NB362_363.out; have hnc12 := NB363_362.out; have hcz13_0 : w11.cell? ⟨gb362, 0, none⟩ = some (.int .u8 a0_0) := (blk_cell BK362.out 0).trans rfl; have hcz13_1 : w11.cell? ⟨gb362, 1, none⟩ = some (.int .u16 a0_1) := (blk_cell BK362.out 1).trans rfl; have hcz13_2 : w11.cell? ⟨gb362, 2, none⟩ = some (.int .u16 a0_2) := (blk_cell BK362.out 2).trans rfl; have hfz13_0 := blk_frozen BK362.out 0; have hfz13_1 := blk_frozen BK362.out 1; have hfz13_2 := blk_frozen BK362.out 2) | ((with_reducible refine gate_callee (f := 33) rfl ?_); refine goesL_ (some 10) rfl rfl Try.func33 (by kernel_rfl) rfl #[.agg #[.int .u8 a0_0, .int .u16 a0_1, .int .u16 a0_2]] rfl (by (try simp only [List.map_toArray, List.map_cons, List.map_nil]); first | done | rfl | (simp only [List.length_drop, List.length_take]; rfl)) ?_; (with_reducible refine (life_Check.calls a0_0 a0_1 a0_2 t364 _ A2.out).mono ?_); rintro e w14 ⟨rfl, hb⟩; refine ⟨_, rfl, ?_⟩; have n0_ := Aside0.mk (blk_below (g := gb362) (o := .cells #[.int .u8 a0_0, .int .u16 a0_1, .int .u16 a0_2] 37 (0, 0)) (by (with_reducible repeat (first | refine blk_drewN ?_ _ | refine blk_drew ?_ | refine blk_alloc ?_ _)); exact BK362.out) hb); have n1_ := Aside0.mk (blk_below (g := gb363) (o := .cells #[.int .u8 0, .int .u16 0, .int .u16 0] 37 (0, 0)) (by (with_reducible repeat (first | refine blk_drewN ?_ _ | refine blk_drew ?_ | refine blk_alloc ?_ _)); exact BK363.out) hb); have n2_ := Aside0.mk (below_step (by repeat (first | (with_reducible first | exact HB.out | apply below_alloc | apply pw_below_drewN | apply below_drew1 | refine below_set ?_ GE362.out | refine below_set ?_ GE363.out) | exact HB.out)) hb); clear BK362; clear BK363; clear HB; have BK362 := n0_; have BK363 := n1_; have HB := n2_; clear n0_ n1_ n2_; (try clear hb); (try clear hb2); (try clear hk); (try clear hi); have hcz15_0 : w14.cell? ⟨gb362, 0, none⟩ = some (.int .u8 a0_0) := (blk_cell BK362.out 0).trans rfl; have hcz15_1 : w14.cell? ⟨gb362, 1, none⟩ = some (.int .u16 a0_1) := (blk_cell BK362.out 1).trans rfl; have hcz15_2 : w14.cell? ⟨gb362, 2, none⟩ = some (.int .u16 a0_2) := (blk_cell BK362.out 2).trans rfl; have hfz15_0 := blk_frozen BK362.out 0; have hfz15_1 := blk_frozen BK362.out 1; have hfz15_2 := blk_frozen BK362.out 2) | ((with_reducible refine gate_callee (f := 62) rfl ?_); refine goesL_ (some 17) rfl rfl Try.func62 (by kernel_rfl) rfl #[.agg #[.int .u8 a0_0, .int .u16 a0_1, .int .u16 a0_2]] rfl (by (try simp only [List.map_toArray, List.map_cons, List.map_nil]); first | done | rfl | (simp only [List.length_drop, List.length_take]; rfl)) ?_; (with_reducible refine (life_greatest.calls a0_0 a0_1 a0_2 t365 t366 _ A4.out).mono ?_); rintro e w16 ⟨rfl, hb⟩; refine ⟨_, rfl, ?_⟩; have n0_ := Aside0.mk (blk_below (g := gb362) (o := .cells #[.int .u8 a0_0, .int .u16 a0_1, .int .u16 a0_2] 37 (0, 0)) (by (with_reducible repeat (first | refine blk_drewN ?_ _ | refine blk_drew ?_ | refine blk_alloc ?_ _)); exact BK362.out) hb); have n1_ := Aside0.mk (blk_below (g := gb363) (o := .cells #[.int .u8 0, .int .u16 0, .int .u16 0] 37 (0, 0)) (by (with_reducible repeat (first | refine blk_drewN ?_ _ | refine blk_drew ?_ | refine blk_alloc ?_ _)); exact BK363.out) hb); have n2_ := Aside0.mk (below_step (by repeat (first | (with_reducible first | exact HB.out | apply below_alloc | apply pw_below_drewN | apply below_drew1 | refine below_set ?_ GE362.out | refine below_set ?_ GE363.out) | exact HB.out)) hb); clear BK362; clear BK363; clear HB; have BK362 := n0_; have BK363 := n1_; have HB := n2_; clear n0_ n1_ n2_; (try clear hb); (try clear hb2); (try clear hk); (try clear hi)))
        have n0_ := Aside0.mk (blk_drew BK362.out)
        have n1_ := Aside0.mk (blk_drew BK363.out)
        have n2_ := Aside0.mk (below_drew1 HB.out)
        clear BK362
        clear BK363
        clear HB
        have BK362 := n0_
        have BK363 := n1_
        have HB := n2_
        clear n0_ n1_ n2_
        refine start_ (n := 13) (S := fun w' => w'.cell? ⟨gb362, 0, none⟩ = some (.int .u8 a0_0) ∧ w'.cell? ⟨gb362, 1, none⟩ = some (.int .u16 a0_1) ∧ w'.cell? ⟨gb362, 2, none⟩ = some (.int .u16 a0_2)) (ds := []) #[false, false, false, false, false, false, false, false, false, false, false, false, false] (by kernel_rfl) rfl rfl ⟨(blk_cell BK362.out 0).trans rfl, (blk_cell BK362.out 1).trans rfl, (blk_cell BK362.out 2).trans rfl⟩ (fun hHeld => ?_); refine with_tabW life_Turned.tab5 life_Turned.bits5 (fun HT_ HW_ => ?_)
        generalize w16.drew = w17 at BK362 BK363 HB hHeld ⊢
        refine pure_ (i := 0) (N := some 20) (v := ?_) (a' := ?_) #[true, false, false, false, false, false, false, false, false, false, false, false, false] rfl rfl (any_of HT_.out (by kernel_rfl)) (fun _ _ _ h => h) (Or.inl ⟨by rfl, ?_⟩) ?_ ?_
        rotate_left
        · intro w'
          go_simp
          with_reducible rfl
        rotate_left
        · simp only [Act.put, List.setIfInBounds_toArray, List.set_cons_zero, List.set_cons_succ, i64_w, i32_w]
          rfl
        refine pure_ (i := 2) (N := some 22) (v := ?_) (a' := ?_) #[true, false, true, false, false, false, false, false, false, false, false, false, false] rfl rfl (any_of HT_.out (by kernel_rfl)) (fun _ _ _ h => h) (Or.inl ⟨by rfl, ?_⟩) ?_ ?_
        rotate_left
        · intro w'
          go_simp
          with_reducible rfl
        rotate_left
        · simp only [Act.put, List.setIfInBounds_toArray, List.set_cons_zero, List.set_cons_succ, i64_w, i32_w]
          rfl
        refine pure_ (i := 3) (N := some 23) (v := ?_) (a' := ?_) #[true, false, true, true, false, false, false, false, false, false, false, false, false] rfl rfl (any_of HT_.out (by kernel_rfl)) (fun _ _ _ h => h) (Or.inl ⟨by rfl, ?_⟩) ?_ ?_
        rotate_left
        · intro w'
          go_simp
          with_reducible rfl
        rotate_left
        · simp only [Act.put, List.setIfInBounds_toArray, List.set_cons_zero, List.set_cons_succ, i64_w, i32_w]
          rfl
        refine pure_ (i := 4) (N := some 24) (v := ?_) (a' := ?_) #[true, false, true, true, true, false, false, false, false, false, false, false, false] rfl rfl (any_of HT_.out (by kernel_rfl)) (fun _ _ _ h => h) (Or.inl ⟨by rfl, ?_⟩) ?_ ?_
        rotate_left
        · intro w'
          go_simp
          with_reducible rfl
        rotate_left
        · simp only [Act.put, List.setIfInBounds_toArray, List.set_cons_zero, List.set_cons_succ, i64_w, i32_w]
          rfl
        refine pure_ (i := 5) (N := some 25) (v := ?_) (a' := ?_) #[true, false, true, true, true, true, false, false, false, false, false, false, false] rfl rfl (any_of HT_.out (by kernel_rfl)) (fun _ _ _ h => h) (Or.inl ⟨by rfl, ?_⟩) ?_ ?_
        rotate_left
        · intro w'
          go_simp
          with_reducible rfl
        rotate_left
        · simp only [Act.put, List.setIfInBounds_toArray, List.set_cons_zero, List.set_cons_succ, i64_w, i32_w]
          rfl
        refine pure_ (i := 6) (N := some 26) (v := ?_) (a' := ?_) #[true, false, true, true, true, true, true, false, false, false, false, false, false] rfl rfl (any_of HT_.out (by kernel_rfl)) (fun _ _ _ h => h) (Or.inl ⟨by rfl, ?_⟩) ?_ ?_
        rotate_left
        · intro w'
          go_simp
          with_reducible rfl
        rotate_left
        · simp only [Act.put, List.setIfInBounds_toArray, List.set_cons_zero, List.set_cons_succ, i64_w, i32_w]
          rfl
        refine pure_ (i := 7) (N := some 27) (v := ?_) (a' := ?_) #[true, false, true, true, true, true, true, true, false, false, false, false, false] rfl rfl (any_of HT_.out (by kernel_rfl)) (fun _ _ _ h => h) (Or.inl ⟨by rfl, ?_⟩) ?_ ?_
        rotate_left
        · intro w'
          go_simp
          with_reducible rfl
        rotate_left
        · simp only [Act.put, List.setIfInBounds_toArray, List.set_cons_zero, List.set_cons_succ, i64_w, i32_w]
          rfl
        refine pure_ (i := 8) (N := some 28) (v := ?_) (a' := ?_) #[true, false, true, true, true, true, true, true, true, false, false, false, false] rfl rfl (any_of HT_.out (by kernel_rfl)) (fun _ _ _ h => h) (Or.inl ⟨by rfl, ?_⟩) ?_ ?_
        rotate_left
        · intro w'
          go_simp
          with_reducible rfl
        rotate_left
        · simp only [Act.put, List.setIfInBounds_toArray, List.set_cons_zero, List.set_cons_succ, i64_w, i32_w]
          rfl
        refine pure_ (i := 9) (N := some 29) (v := ?_) (a' := ?_) #[true, false, true, true, true, true, true, true, true, true, false, false, false] rfl rfl (any_of HT_.out (by kernel_rfl)) (fun _ _ _ h => h) (Or.inl ⟨by rfl, ?_⟩) ?_ ?_
        rotate_left
        · intro w'
          go_simp
          with_reducible rfl
        rotate_left
        · simp only [Act.put, List.setIfInBounds_toArray, List.set_cons_zero, List.set_cons_succ, i64_w, i32_w]
          rfl
        refine take_ (i := 1) (N := some 21) (v := ?_) (a' := ?_) #[true, true, true, true, true, true, true, true, true, true, false, false, false] rfl rfl (take_ofW HT_.out HW_.out (by kernel_rfl)) (fun _ _ _ h => h) (Or.inl ⟨by rfl, ?_⟩) hHeld ?_ ?_
        rotate_left
        · rintro w' ⟨s0, s1, s2⟩
          go_simp
          with_reducible rfl
        rotate_left
        · simp only [Act.put, List.setIfInBounds_toArray, List.set_cons_zero, List.set_cons_succ, i64_w, i32_w]
          rfl
        refine pure_ (i := 10) (N := some 30) (v := ?_) (a' := ?_) #[true, true, true, true, true, true, true, true, true, true, true, false, false] rfl rfl (any_of HT_.out (by kernel_rfl)) (fun _ _ _ h => h) (Or.inl ⟨by rfl, ?_⟩) ?_ ?_
        rotate_left
        · intro w'
          go_simp
          with_reducible rfl
        rotate_left
        · simp only [Act.put, List.setIfInBounds_toArray, List.set_cons_zero, List.set_cons_succ, i64_w, i32_w]
          rfl
        refine one_ (i := 11) (N := some 7) #[true, true, true, true, true, true, true, true, true, true, true, true, false] rfl rfl (one_of HT_.out (by kernel_rfl)) (by decide) (fun K hK => ?_)
        refine box_step ?hg (N := 7) ?hd (cs := #[.int .u8 0, .int .u16 0, .int .u16 0]) (t := 37) ?hr ?_; (case hd => rfl); (case hg => rfl); (case hr => first | (go_simp; done) | (go_simp; rfl))
        intro gb367 hg w18 hbox hb
        have n0_ := Aside0.mk (blk_below (g := gb362) (o := .cells #[.int .u8 a0_0, .int .u16 a0_1, .int .u16 a0_2] 37 (0, 0)) (by (with_reducible repeat (first | refine blk_drewN ?_ _ | refine blk_drew ?_ | refine blk_alloc ?_ _)); exact BK362.out) hb)
        have n1_ := Aside0.mk (blk_below (g := gb363) (o := .cells #[.int .u8 0, .int .u16 0, .int .u16 0] 37 (0, 0)) (by (with_reducible repeat (first | refine blk_drewN ?_ _ | refine blk_drew ?_ | refine blk_alloc ?_ _)); exact BK363.out) hb)
        have n2_ := Aside0.mk (below_step (by repeat (first | (with_reducible first | exact HB.out | apply below_alloc | apply pw_below_drewN | apply below_drew1 | refine below_set ?_ GE362.out | refine below_set ?_ GE363.out) | exact HB.out)) hb)
        have n3_ := Aside0.mk (hbox)
        have n4_ := Aside0.mk ((by rw [hg]; exact (below_size (by repeat (first | (with_reducible first | exact HB.out | apply below_alloc | apply pw_below_drewN | apply below_drew1 | refine below_set ?_ GE362.out | refine below_set ?_ GE363.out) | exact HB.out))) : w.heap.size ≤ gb367))
        have n5_ := Aside0.mk ((by rw [hg]; exact (below_size (by repeat (first | (with_reducible first | exact HB.out | apply below_alloc | apply pw_below_drewN | apply below_drew1 | refine below_set ?_ GE362.out | refine below_set ?_ GE363.out) | exact HB.out))) : w.heap.size ≤ gb367))
        have n6_ := Aside0.mk ((by rw [hg]; exact Nat.ne_of_lt (blk_lt (g := gb362) (o := .cells #[.int .u8 a0_0, .int .u16 a0_1, .int .u16 a0_2] 37 (0, 0)) (by (with_reducible repeat (first | refine blk_drewN ?_ _ | refine blk_drew ?_ | refine blk_alloc ?_ _)); exact BK362.out)) : gb362 ≠ gb367))
        have n7_ := Aside0.mk ((by rw [hg]; exact Nat.ne_of_gt (blk_lt (g := gb362) (o := .cells #[.int .u8 a0_0, .int .u16 a0_1, .int .u16 a0_2] 37 (0, 0)) (by (with_reducible repeat (first | refine blk_drewN ?_ _ | refine blk_drew ?_ | refine blk_alloc ?_ _)); exact BK362.out)) : gb367 ≠ gb362))
        have n8_ := Aside0.mk ((by rw [hg]; exact Nat.ne_of_lt (blk_lt (g := gb363) (o := .cells #[.int .u8 0, .int .u16 0, .int .u16 0] 37 (0, 0)) (by (with_reducible repeat (first | refine blk_drewN ?_ _ | refine blk_drew ?_ | refine blk_alloc ?_ _)); exact BK363.out)) : gb363 ≠ gb367))
        have n9_ := Aside0.mk ((by rw [hg]; exact Nat.ne_of_gt (blk_lt (g := gb363) (o := .cells #[.int .u8 0, .int .u16 0, .int .u16 0] 37 (0, 0)) (by (with_reducible repeat (first | refine blk_drewN ?_ _ | refine blk_drew ?_ | refine blk_alloc ?_ _)); exact BK363.out)) : gb367 ≠ gb363))
        clear BK362
        clear BK363
        clear HB
        have BK362 := n0_
        have BK363 := n1_
        have HB := n2_
        have BK367 := n3_
        have GW367 := n4_
        have GE367 := n5_
        have NB362_367 := n6_
        have NB367_362 := n7_
        have NB363_367 := n8_
        have NB367_363 := n9_
        clear n0_ n1_ n2_ n3_ n4_ n5_ n6_ n7_ n8_ n9_
        clear hb hbox hg
        refine hK.out _ _ ⟨(blk_cell BK362.out 0).trans rfl, (blk_cell BK362.out 1).trans rfl, (blk_cell BK362.out 2).trans rfl⟩ (fun hHeld => ?_)
        clear hK K
        refine norm_ (a' := ?_) ?_ ?_
        rotate_left
        · show Act.put _ (some 7) _ = _
          simp only [Act.put, List.setIfInBounds_toArray, List.set_cons_zero, List.set_cons_succ, i64_w, i32_w]
          rfl
        refine one_ (i := 12) (N := none) #[true, true, true, true, true, true, true, true, true, true, true, true, true] rfl rfl (one_of HT_.out (by kernel_rfl)) (by decide) (fun K hK => ?_)
        have hs19 : w18.cell? ⟨gb367, 0, none⟩ = some (.int .u8 0) := (blk_cell BK367.out 0).trans rfl
        have hfs19 := blk_frozen BK367.out 0
        have hns19_0 := NB362_367.out
        have hns19_1 := NB363_367.out
        have hms19_0 := NB367_362.out
        have hms19_1 := NB367_363.out
        have hs20 : w18.cell? ⟨gb367, 1, none⟩ = some (.int .u16 0) := (blk_cell BK367.out 1).trans rfl
        have hfs20 := blk_frozen BK367.out 1
        have hns20_0 := NB362_367.out
        have hns20_1 := NB363_367.out
        have hms20_0 := NB367_362.out
        have hms20_1 := NB367_363.out
        have hs21 : w18.cell? ⟨gb367, 2, none⟩ = some (.int .u16 0) := (blk_cell BK367.out 2).trans rfl
        have hfs21 := blk_frozen BK367.out 2
        have hns21_0 := NB362_367.out
        have hns21_1 := NB363_367.out
        have hms21_0 := NB367_362.out
        have hms21_1 := NB367_363.out
        refine skip_ (w1 := ?_) (by rfl) rfl ?_ ?_
        rotate_left
        · go_simp
          rfl
        refine hK.out _ _ ⟨((cell_far (p := ⟨gb367, _, none⟩) NB362_367.out _).trans (((cell_far (p := ⟨gb367, _, none⟩) NB362_367.out _).trans (((cell_far (p := ⟨gb367, _, none⟩) NB362_367.out _).trans (hHeld.1)))))), ((cell_far (p := ⟨gb367, _, none⟩) NB362_367.out _).trans (((cell_far (p := ⟨gb367, _, none⟩) NB362_367.out _).trans (((cell_far (p := ⟨gb367, _, none⟩) NB362_367.out _).trans (hHeld.2.1)))))), ((cell_far (p := ⟨gb367, _, none⟩) NB362_367.out _).trans (((cell_far (p := ⟨gb367, _, none⟩) NB362_367.out _).trans (((cell_far (p := ⟨gb367, _, none⟩) NB362_367.out _).trans (hHeld.2.2))))))⟩ (fun hHeld => ?_)
        clear hK K
        refine done_ (done_of HT_.out (by kernel_rfl)) ?_
        try go_wp2
        go_loopg [33] k (fun kq v33 w' => ∃ (x33_1 : Int) (x368001_1 : Int) (x368002_1 : Int), v33 = .int .i64 x33_1 ∧ Aside0 (life_Turned.l0 kq t365 ji5 x33_1 a0_0 a0_1 a0_2 a0_0 x368001_1 x368002_1 = some (r1, r2, r3, r4)) ∧ Aside0 (kq ≤ k) ∧ Aside0 (w'.heap[gb362]? = some (.cells #[.int .u8 a0_0, .int .u16 a0_1, .int .u16 a0_2] 37 (0, 0))) ∧ Aside0 (w'.heap[gb363]? = some (.cells #[.int .u8 0, .int .u16 0, .int .u16 0] 37 (0, 0))) ∧ Aside0 (w'.heap[gb367]? = some (.cells #[.int .u8 a0_0, .int .u16 x368001_1, .int .u16 x368002_1] 37 (0, 0))) ∧ Aside0 (Below w.heap.size w w'))
        case atStart => exact ⟨(0), (IntKind.u16.wrap ((IntKind.u16.wrap (2 ^ (ji5).toNat)) - 1)), (IntKind.u16.wrap ((IntKind.u16.wrap (2 ^ (ji5).toNat)) - 1)), (by first | rfl | (simp; done) | (simp [*]; done)), H', ⟨Nat.le_refl _⟩, ⟨by (with_reducible repeat (first | refine blk_drewN ?_ _ | refine blk_drew ?_ | refine blk_alloc ?_ _)); refine blk_far ?_ NB362_367.out _; (with_reducible repeat (first | refine blk_drewN ?_ _ | refine blk_drew ?_ | refine blk_alloc ?_ _)); refine blk_far ?_ NB362_367.out _; (with_reducible repeat (first | refine blk_drewN ?_ _ | refine blk_drew ?_ | refine blk_alloc ?_ _)); refine blk_far ?_ NB362_367.out _; (with_reducible repeat (first | refine blk_drewN ?_ _ | refine blk_drew ?_ | refine blk_alloc ?_ _)); exact BK362.out⟩, ⟨by (with_reducible repeat (first | refine blk_drewN ?_ _ | refine blk_drew ?_ | refine blk_alloc ?_ _)); refine blk_far ?_ NB363_367.out _; (with_reducible repeat (first | refine blk_drewN ?_ _ | refine blk_drew ?_ | refine blk_alloc ?_ _)); refine blk_far ?_ NB363_367.out _; (with_reducible repeat (first | refine blk_drewN ?_ _ | refine blk_drew ?_ | refine blk_alloc ?_ _)); refine blk_far ?_ NB363_367.out _; (with_reducible repeat (first | refine blk_drewN ?_ _ | refine blk_drew ?_ | refine blk_alloc ?_ _)); exact BK363.out⟩, ⟨by (with_reducible repeat (first | refine blk_drewN ?_ _ | refine blk_drew ?_ | refine blk_alloc ?_ _)); refine blk_put (cs := #[.int .u8 a0_0, .int .u16 (IntKind.u16.wrap ((IntKind.u16.wrap (2 ^ (ji5).toNat)) - 1)), .int .u16 0]) ?_ 2 _ rfl; (with_reducible repeat (first | refine blk_drewN ?_ _ | refine blk_drew ?_ | refine blk_alloc ?_ _)); refine blk_put (cs := #[.int .u8 a0_0, .int .u16 0, .int .u16 0]) ?_ 1 _ rfl; (with_reducible repeat (first | refine blk_drewN ?_ _ | refine blk_drew ?_ | refine blk_alloc ?_ _)); refine blk_put (cs := #[.int .u8 0, .int .u16 0, .int .u16 0]) ?_ 0 _ rfl; (with_reducible repeat (first | refine blk_drewN ?_ _ | refine blk_drew ?_ | refine blk_alloc ?_ _)); exact BK367.out⟩, ⟨by repeat (first | (with_reducible first | exact HB.out | apply below_alloc | apply pw_below_drewN | apply below_drew1 | refine below_set ?_ GE362.out | refine below_set ?_ GE363.out | refine below_set ?_ GE367.out) | exact HB.out)⟩⟩
        case round =>
          clear H'
          try clear c1
          try clear p2
          try clear c3
          try clear c3b0
          try clear c3b1
          try clear c6
          try clear c6b0
          try clear c6b1
          try clear p6
          try clear c7
          try clear c7b0
          try clear c7b1
          try clear c8
          try clear c8b0
          try clear c9
          try clear c9b0
          try clear c12
          try clear hcz13_0
          try clear hcz13_1
          try clear hcz13_2
          try clear hcz15_0
          try clear hcz15_1
          try clear hcz15_2
          try clear hfz13_0
          try clear hfz13_1
          try clear hfz13_2
          try clear hfz15_0
          try clear hfz15_1
          try clear hfz15_2
          obtain ⟨x33_1, x368001_1, x368002_1, rfl, HA, HK1, BK362, BK363, BK367, HB⟩ := hrel
          cases gk with
          | zero => exact absurd HA.out (by simp [life_Turned.l0])
          | succ k1 =>
            have H := HA.out
            clear HA
            simp only [life_Turned.l0] at H
            by_cases c22 : x33_1 < ji5
            · rw [if_pos c22] at H
              have c22b0 : decide (x33_1 < ji5) = true := decide_eq_true c22
              clear c22
              by_cases c23 : 0 ≤ x33_1
              · rw [if_pos c23] at H
                have c23b0 := eq_true c23
                have c23b1 : decide (0 ≤ x33_1) = true := decide_eq_true c23
                clear c23
                by_cases c24 : x33_1 ≤ 16
                · rw [if_pos c24] at H
                  have c24b0 := eq_true c24
                  have c24b1 : decide (x33_1 ≤ 16) = true := decide_eq_true c24
                  clear c24
                  by_cases c25 : (Go.bits .and .u16 (a0_2 / 2 ^ x33_1.toNat) 1) = 1
                  · rw [if_pos c25] at H
                    have c25b0 : ((Go.bits .and .u16 (a0_2 / 2 ^ x33_1.toNat) 1) == 1) = true := beq_iff_eq.mpr c25
                    have c25b1 : ((Go.bits .and .u16 (a0_2 / 2 ^ x33_1.toNat) 1) != 1) = false := bne_eq_false_iff_eq.mpr c25
                    clear c25
                    obtain ⟨ji26, hji26⟩ : ∃ j_ : Int, (wrap64 (t365 - x33_1)) = j_ := ⟨_, rfl⟩
                    replace H : (if 0 ≤ (ji26) then (if (ji26) ≤ 16 then (if (Go.bits .and .u16 (a0_1 / 2 ^ x33_1.toNat) 1) = 1 then (life_Turned.l0 k1 t365 ji5 (wrap64 (x33_1 + 1)) a0_0 a0_1 a0_2 a0_0 (Go.bits .andNot .u16 x368001_1 (IntKind.u16.wrap (2 ^ (ji26).toNat))) (Go.bits .andNot .u16 x368002_1 (IntKind.u16.wrap (2 ^ (ji26).toNat)))) else (life_Turned.l0 k1 t365 ji5 (wrap64 (x33_1 + 1)) a0_0 a0_1 a0_2 a0_0 (Go.bits .andNot .u16 x368001_1 (IntKind.u16.wrap (2 ^ (ji26).toNat))) x368002_1)) else (none)) else (none)) = some (r1, r2, r3, r4) := by first | (rw [hji26] at H; exact H) | (simp only [hji26] at H ⊢; exact H)
                    have hji26w : (IntKind.i64.wrap (t365 - x33_1)) = ji26 := (i64_w _).trans hji26
                    by_cases c27 : 0 ≤ (ji26)
                    · rw [if_pos c27] at H
                      have c27b0 := eq_true c27
                      have c27b1 : decide (0 ≤ (ji26)) = true := decide_eq_true c27
                      clear c27
                      by_cases c28 : (ji26) ≤ 16
                      · rw [if_pos c28] at H
                        have c28b0 := eq_true c28
                        have c28b1 : decide ((ji26) ≤ 16) = true := decide_eq_true c28
                        clear c28
                        have c29b0 := eq_true (of_decide_eq_true (by first | (with_reducible assumption) | assumption) : 0 ≤ x33_1)
                        have c30b0 := eq_true (of_decide_eq_true (by first | (with_reducible assumption) | assumption) : x33_1 ≤ 16)
                        by_cases c31 : (Go.bits .and .u16 (a0_1 / 2 ^ x33_1.toNat) 1) = 1
                        · rw [if_pos c31] at H
                          have c31b0 : ((Go.bits .and .u16 (a0_1 / 2 ^ x33_1.toNat) 1) == 1) = true := beq_iff_eq.mpr c31
                          have c31b1 : ((Go.bits .and .u16 (a0_1 / 2 ^ x33_1.toNat) 1) != 1) = false := bne_eq_false_iff_eq.mpr c31
                          clear c31
                          have c32b0 := eq_true (of_decide_eq_true (by first | (with_reducible assumption) | assumption) : 0 ≤ (ji26))
                          have c33b0 := eq_true (of_decide_eq_true (by first | (with_reducible assumption) | assumption) : (ji26) ≤ 16)
                          have H' := Aside0.mk H
                          clear H
                          have hnb34 := NB362_363.out
                          have hnc34 := NB363_362.out
                          have hnb35 := NB362_367.out
                          have hnc35 := NB367_362.out
                          have hcz36_0 : wr.cell? ⟨gb362, 0, none⟩ = some (.int .u8 a0_0) := (blk_cell BK362.out 0).trans rfl
                          have hcz36_1 : wr.cell? ⟨gb362, 1, none⟩ = some (.int .u16 a0_1) := (blk_cell BK362.out 1).trans rfl
                          have hcz36_2 : wr.cell? ⟨gb362, 2, none⟩ = some (.int .u16 a0_2) := (blk_cell BK362.out 2).trans rfl
                          have hfz36_0 := blk_frozen BK362.out 0
                          have hfz36_1 := blk_frozen BK362.out 1
                          have hfz36_2 := blk_frozen BK362.out 2
                          try go_wp2
                          have n0_ := Aside0.mk (blk_drew BK362.out)
                          have n1_ := Aside0.mk (blk_drew BK363.out)
                          have n2_ := Aside0.mk (blk_drew BK367.out)
                          have n3_ := Aside0.mk (below_drew1 HB.out)
                          clear BK362
                          clear BK363
                          clear BK367
                          clear HB
                          have BK362 := n0_
                          have BK363 := n1_
                          have BK367 := n2_
                          have HB := n3_
                          clear n0_ n1_ n2_ n3_
                          refine start_ (n := 9) (S := fun w' => w'.cell? ⟨gb367, 0, none⟩ = some (.int .u8 a0_0) ∧ w'.cell? ⟨gb367, 1, none⟩ = some (.int .u16 x368001_1) ∧ w'.cell? ⟨gb367, 2, none⟩ = some (.int .u16 x368002_1)) (ds := [8]) #[false, false, false, false, false, false, false, false, false] (by kernel_rfl) rfl rfl ⟨(blk_cell BK367.out 0).trans rfl, (blk_cell BK367.out 1).trans rfl, (blk_cell BK367.out 2).trans rfl⟩ (fun hHeld => ?_); refine with_tabW life_Turned.tab10 life_Turned.bits10 (fun HT_ HW_ => ?_)
                          generalize wr.drew = w37 at BK362 BK363 BK367 HB hHeld ⊢
                          refine pure_ (i := 0) (N := some 42) (v := ?_) (a' := ?_) #[true, false, false, false, false, false, false, false, false] rfl rfl (any_of HT_.out (by kernel_rfl)) (fun _ _ _ h => h) (Or.inl ⟨by rfl, ?_⟩) ?_ ?_
                          rotate_left
                          · intro w'
                            go_simp
                            with_reducible rfl
                          rotate_left
                          · simp only [Act.put, List.setIfInBounds_toArray, List.set_cons_zero, List.set_cons_succ, i64_w, i32_w]
                            rfl
                          refine pure_ (i := 2) (N := some 44) (v := ?_) (a' := ?_) #[true, false, true, false, false, false, false, false, false] rfl rfl (any_of HT_.out (by kernel_rfl)) (fun _ _ _ h => h) (Or.inl ⟨by rfl, ?_⟩) ?_ ?_
                          rotate_left
                          · intro w'
                            go_simp
                            with_reducible rfl
                          rotate_left
                          · simp only [Act.put, List.setIfInBounds_toArray, List.set_cons_zero, List.set_cons_succ, i64_w, i32_w]
                            rfl
                          refine pure_ (i := 3) (N := some 45) (v := ?_) (a' := ?_) #[true, false, true, true, false, false, false, false, false] rfl rfl (any_of HT_.out (by kernel_rfl)) (fun _ _ _ h => h) (Or.inl ⟨by rfl, ?_⟩) ?_ ?_
                          rotate_left
                          · intro w'
                            go_simp
                            with_reducible rfl
                          rotate_left
                          · simp only [Act.put, List.setIfInBounds_toArray, List.set_cons_zero, List.set_cons_succ, i64_w, i32_w]
                            rfl
                          refine pure_ (i := 4) (N := some 46) (v := ?_) (a' := ?_) #[true, false, true, true, true, false, false, false, false] rfl rfl (any_of HT_.out (by kernel_rfl)) (fun _ _ _ h => h) (Or.inl ⟨by rfl, ?_⟩) ?_ ?_
                          rotate_left
                          · intro w'
                            go_simp
                            with_reducible rfl
                          rotate_left
                          · simp only [Act.put, List.setIfInBounds_toArray, List.set_cons_zero, List.set_cons_succ, i64_w, i32_w]
                            rfl
                          refine pure_ (i := 5) (N := some 47) (v := ?_) (a' := ?_) #[true, false, true, true, true, true, false, false, false] rfl rfl (any_of HT_.out (by kernel_rfl)) (fun _ _ _ h => h) (Or.inl ⟨by rfl, ?_⟩) ?_ ?_
                          rotate_left
                          · intro w'
                            go_simp
                            with_reducible rfl
                          rotate_left
                          · simp only [Act.put, List.setIfInBounds_toArray, List.set_cons_zero, List.set_cons_succ, i64_w, i32_w]
                            rfl
                          refine take_ (i := 1) (N := some 43) (v := ?_) (a' := ?_) #[true, true, true, true, true, true, false, false, false] rfl rfl (take_ofW HT_.out HW_.out (by kernel_rfl)) (fun _ _ _ h => h) (Or.inl ⟨by rfl, ?_⟩) hHeld ?_ ?_
                          rotate_left
                          · rintro w' ⟨s0, s1, s2⟩
                            go_simp
                            with_reducible rfl
                          rotate_left
                          · simp only [Act.put, List.setIfInBounds_toArray, List.set_cons_zero, List.set_cons_succ, i64_w, i32_w]
                            rfl
                          refine pure_ (i := 6) (N := some 48) (v := ?_) (a' := ?_) #[true, true, true, true, true, true, true, false, false] rfl rfl (any_of HT_.out (by kernel_rfl)) (fun _ _ _ h => h) (Or.inl ⟨by rfl, ?_⟩) ?_ ?_
                          rotate_left
                          · intro w'
                            go_simp
                            with_reducible rfl
                          rotate_left
                          · simp only [Act.put, List.setIfInBounds_toArray, List.set_cons_zero, List.set_cons_succ, i64_w, i32_w]
                            rfl
                          refine pure_ (i := 7) (N := some 49) (v := ?_) (a' := ?_) #[true, true, true, true, true, true, true, true, false] rfl rfl (any_of HT_.out (by kernel_rfl)) (fun _ _ _ h => h) (Or.inl ⟨by rfl, ?_⟩) ?_ ?_
                          rotate_left
                          · intro w'
                            go_simp
                            with_reducible rfl
                          rotate_left
                          · simp only [Act.put, List.setIfInBounds_toArray, List.set_cons_zero, List.set_cons_succ, i64_w, i32_w]
                            rfl
                          refine last_ (i := 8) (N := none) #[true, true, true, true, true, true, true, true, true] rfl rfl (one_of HT_.out (by kernel_rfl)) (by decide) (fun K hK => ?_)
                          have hs38 : w37.cell? ⟨gb367, 1, none⟩ = some (.int .u16 x368001_1) := (blk_cell BK367.out 1).trans rfl
                          have hfs38 := blk_frozen BK367.out 1
                          have hns38_0 := NB362_367.out
                          have hns38_1 := NB363_367.out
                          have hms38_0 := NB367_362.out
                          have hms38_1 := NB367_363.out
                          refine skip_ (w1 := ?_) (by rfl) rfl ?_ ?_
                          rotate_left
                          · go_simp
                            rfl
                          refine hK.out _ _ ?_
                          clear hK K
                          refine done_ (done_of HT_.out (by kernel_rfl)) ?_
                          have hcz39_0 : w37.cell? ⟨gb362, 0, none⟩ = some (.int .u8 a0_0) := (blk_cell BK362.out 0).trans rfl
                          have hcz39_1 : w37.cell? ⟨gb362, 1, none⟩ = some (.int .u16 a0_1) := (blk_cell BK362.out 1).trans rfl
                          have hcz39_2 : w37.cell? ⟨gb362, 2, none⟩ = some (.int .u16 a0_2) := (blk_cell BK362.out 2).trans rfl
                          have hfz39_0 := blk_frozen BK362.out 0
                          have hfz39_1 := blk_frozen BK362.out 1
                          have hfz39_2 := blk_frozen BK362.out 2
                          try go_wp2
                          have n0_ : Aside0 ((w37.setCell ⟨gb367, 1, none⟩ (.int .u16 (Go.bits .andNot .u16 x368001_1 (IntKind.u16.wrap (2 ^ (ji26).toNat))))).heap[gb362]? = some (.cells #[.int .u8 a0_0, .int .u16 a0_1, .int .u16 a0_2] 37 (0, 0))) := ⟨by (with_reducible repeat (first | refine blk_drewN ?_ _ | refine blk_drew ?_ | refine blk_alloc ?_ _)); refine blk_far ?_ NB362_367.out _; (with_reducible repeat (first | refine blk_drewN ?_ _ | refine blk_drew ?_ | refine blk_alloc ?_ _)); exact BK362.out⟩
                          have n1_ : Aside0 ((w37.setCell ⟨gb367, 1, none⟩ (.int .u16 (Go.bits .andNot .u16 x368001_1 (IntKind.u16.wrap (2 ^ (ji26).toNat))))).heap[gb363]? = some (.cells #[.int .u8 0, .int .u16 0, .int .u16 0] 37 (0, 0))) := ⟨by (with_reducible repeat (first | refine blk_drewN ?_ _ | refine blk_drew ?_ | refine blk_alloc ?_ _)); refine blk_far ?_ NB363_367.out _; (with_reducible repeat (first | refine blk_drewN ?_ _ | refine blk_drew ?_ | refine blk_alloc ?_ _)); exact BK363.out⟩
                          have n2_ : Aside0 ((w37.setCell ⟨gb367, 1, none⟩ (.int .u16 (Go.bits .andNot .u16 x368001_1 (IntKind.u16.wrap (2 ^ (ji26).toNat))))).heap[gb367]? = some (.cells #[.int .u8 a0_0, .int .u16 (Go.bits .andNot .u16 x368001_1 (IntKind.u16.wrap (2 ^ (ji26).toNat))), .int .u16 x368002_1] 37 (0, 0))) := ⟨by (with_reducible repeat (first | refine blk_drewN ?_ _ | refine blk_drew ?_ | refine blk_alloc ?_ _)); refine blk_put (cs := #[.int .u8 a0_0, .int .u16 x368001_1, .int .u16 x368002_1]) ?_ 1 _ rfl; (with_reducible repeat (first | refine blk_drewN ?_ _ | refine blk_drew ?_ | refine blk_alloc ?_ _)); exact BK367.out⟩
                          have n3_ : Aside0 (Below w.heap.size w (w37.setCell ⟨gb367, 1, none⟩ (.int .u16 (Go.bits .andNot .u16 x368001_1 (IntKind.u16.wrap (2 ^ (ji26).toNat)))))) := ⟨by repeat (first | (with_reducible first | exact HB.out | apply below_alloc | apply pw_below_drewN | apply below_drew1 | refine below_set ?_ GE362.out | refine below_set ?_ GE363.out | refine below_set ?_ GE367.out) | exact HB.out)⟩
                          (try clear BK362)
                          (try clear BK363)
                          (try clear BK367)
                          (try clear HB)
                          generalize (w37.setCell ⟨gb367, 1, none⟩ (.int .u16 (Go.bits .andNot .u16 x368001_1 (IntKind.u16.wrap (2 ^ (ji26).toNat))))) = w40 at n0_ n1_ n2_ n3_ ⊢
                          have BK362 := n0_
                          have BK363 := n1_
                          have BK367 := n2_
                          have HB := n3_
                          clear n0_ n1_ n2_ n3_
                          have n0_ := Aside0.mk (blk_drew BK362.out)
                          have n1_ := Aside0.mk (blk_drew BK363.out)
                          have n2_ := Aside0.mk (blk_drew BK367.out)
                          have n3_ := Aside0.mk (below_drew1 HB.out)
                          clear BK362
                          clear BK363
                          clear BK367
                          clear HB
                          have BK362 := n0_
                          have BK363 := n1_
                          have BK367 := n2_
                          have HB := n3_
                          clear n0_ n1_ n2_ n3_
                          refine start_ (n := 9) (S := fun w' => w'.cell? ⟨gb367, 0, none⟩ = some (.int .u8 a0_0) ∧ w'.cell? ⟨gb367, 1, none⟩ = some (.int .u16 (Go.bits .andNot .u16 x368001_1 (IntKind.u16.wrap (2 ^ (ji26).toNat)))) ∧ w'.cell? ⟨gb367, 2, none⟩ = some (.int .u16 x368002_1)) (ds := [8]) #[false, false, false, false, false, false, false, false, false] (by kernel_rfl) rfl rfl ⟨(blk_cell BK367.out 0).trans rfl, (blk_cell BK367.out 1).trans rfl, (blk_cell BK367.out 2).trans rfl⟩ (fun hHeld => ?_); refine with_tabW life_Turned.tab12 life_Turned.bits12 (fun HT_ HW_ => ?_)
                          generalize w40.drew = w41 at BK362 BK363 BK367 HB hHeld ⊢
                          refine pure_ (i := 0) (N := some 56) (v := ?_) (a' := ?_) #[true, false, false, false, false, false, false, false, false] rfl rfl (any_of HT_.out (by kernel_rfl)) (fun _ _ _ h => h) (Or.inl ⟨by rfl, ?_⟩) ?_ ?_
                          rotate_left
                          · intro w'
                            go_simp
                            with_reducible rfl
                          rotate_left
                          · simp only [Act.put, List.setIfInBounds_toArray, List.set_cons_zero, List.set_cons_succ, i64_w, i32_w]
                            rfl
                          refine pure_ (i := 2) (N := some 58) (v := ?_) (a' := ?_) #[true, false, true, false, false, false, false, false, false] rfl rfl (any_of HT_.out (by kernel_rfl)) (fun _ _ _ h => h) (Or.inl ⟨by rfl, ?_⟩) ?_ ?_
                          rotate_left
                          · intro w'
                            go_simp
                            with_reducible rfl
                          rotate_left
                          · simp only [Act.put, List.setIfInBounds_toArray, List.set_cons_zero, List.set_cons_succ, i64_w, i32_w]
                            rfl
                          refine pure_ (i := 3) (N := some 59) (v := ?_) (a' := ?_) #[true, false, true, true, false, false, false, false, false] rfl rfl (any_of HT_.out (by kernel_rfl)) (fun _ _ _ h => h) (Or.inl ⟨by rfl, ?_⟩) ?_ ?_
                          rotate_left
                          · intro w'
                            go_simp
                            with_reducible rfl
                          rotate_left
                          · simp only [Act.put, List.setIfInBounds_toArray, List.set_cons_zero, List.set_cons_succ, i64_w, i32_w]
                            rfl
                          refine pure_ (i := 4) (N := some 60) (v := ?_) (a' := ?_) #[true, false, true, true, true, false, false, false, false] rfl rfl (any_of HT_.out (by kernel_rfl)) (fun _ _ _ h => h) (Or.inl ⟨by rfl, ?_⟩) ?_ ?_
                          rotate_left
                          · intro w'
                            go_simp
                            with_reducible rfl
                          rotate_left
                          · simp only [Act.put, List.setIfInBounds_toArray, List.set_cons_zero, List.set_cons_succ, i64_w, i32_w]
                            rfl
                          refine pure_ (i := 5) (N := some 61) (v := ?_) (a' := ?_) #[true, false, true, true, true, true, false, false, false] rfl rfl (any_of HT_.out (by kernel_rfl)) (fun _ _ _ h => h) (Or.inl ⟨by rfl, ?_⟩) ?_ ?_
                          rotate_left
                          · intro w'
                            go_simp
                            with_reducible rfl
                          rotate_left
                          · simp only [Act.put, List.setIfInBounds_toArray, List.set_cons_zero, List.set_cons_succ, i64_w, i32_w]
                            rfl
                          refine take_ (i := 1) (N := some 57) (v := ?_) (a' := ?_) #[true, true, true, true, true, true, false, false, false] rfl rfl (take_ofW HT_.out HW_.out (by kernel_rfl)) (fun _ _ _ h => h) (Or.inl ⟨by rfl, ?_⟩) hHeld ?_ ?_
                          rotate_left
                          · rintro w' ⟨s0, s1, s2⟩
                            go_simp
                            with_reducible rfl
                          rotate_left
                          · simp only [Act.put, List.setIfInBounds_toArray, List.set_cons_zero, List.set_cons_succ, i64_w, i32_w]
                            rfl
                          refine pure_ (i := 6) (N := some 62) (v := ?_) (a' := ?_) #[true, true, true, true, true, true, true, false, false] rfl rfl (any_of HT_.out (by kernel_rfl)) (fun _ _ _ h => h) (Or.inl ⟨by rfl, ?_⟩) ?_ ?_
                          rotate_left
                          · intro w'
                            go_simp
                            with_reducible rfl
                          rotate_left
                          · simp only [Act.put, List.setIfInBounds_toArray, List.set_cons_zero, List.set_cons_succ, i64_w, i32_w]
                            rfl
                          refine pure_ (i := 7) (N := some 63) (v := ?_) (a' := ?_) #[true, true, true, true, true, true, true, true, false] rfl rfl (any_of HT_.out (by kernel_rfl)) (fun _ _ _ h => h) (Or.inl ⟨by rfl, ?_⟩) ?_ ?_
                          rotate_left
                          · intro w'
                            go_simp
                            with_reducible rfl
                          rotate_left
                          · simp only [Act.put, List.setIfInBounds_toArray, List.set_cons_zero, List.set_cons_succ, i64_w, i32_w]
                            rfl
                          refine last_ (i := 8) (N := none) #[true, true, true, true, true, true, true, true, true] rfl rfl (one_of HT_.out (by kernel_rfl)) (by decide) (fun K hK => ?_)
                          have hs42 : w41.cell? ⟨gb367, 2, none⟩ = some (.int .u16 x368002_1) := (blk_cell BK367.out 2).trans rfl
                          have hfs42 := blk_frozen BK367.out 2
                          have hns42_0 := NB362_367.out
                          have hns42_1 := NB363_367.out
                          have hms42_0 := NB367_362.out
                          have hms42_1 := NB367_363.out
                          refine skip_ (w1 := ?_) (by rfl) rfl ?_ ?_
                          rotate_left
                          · go_simp
                            rfl
                          refine hK.out _ _ ?_
                          clear hK K
                          refine done_ (done_of HT_.out (by kernel_rfl)) ?_
                          try go_wp2
                          go_roundg k1
                          case measure => have := HK1.out; omega
                          case rel => exact ⟨(wrap64 (x33_1 + 1)), (Go.bits .andNot .u16 x368001_1 (IntKind.u16.wrap (2 ^ (ji26).toNat))), (Go.bits .andNot .u16 x368002_1 (IntKind.u16.wrap (2 ^ (ji26).toNat))), (by first | rfl | (simp; done) | (simp [*]; done)), H', ⟨by have := HK1.out; omega⟩, ⟨by (with_reducible repeat (first | refine blk_drewN ?_ _ | refine blk_drew ?_ | refine blk_alloc ?_ _)); refine blk_far ?_ NB362_367.out _; (with_reducible repeat (first | refine blk_drewN ?_ _ | refine blk_drew ?_ | refine blk_alloc ?_ _)); exact BK362.out⟩, ⟨by (with_reducible repeat (first | refine blk_drewN ?_ _ | refine blk_drew ?_ | refine blk_alloc ?_ _)); refine blk_far ?_ NB363_367.out _; (with_reducible repeat (first | refine blk_drewN ?_ _ | refine blk_drew ?_ | refine blk_alloc ?_ _)); exact BK363.out⟩, ⟨by (with_reducible repeat (first | refine blk_drewN ?_ _ | refine blk_drew ?_ | refine blk_alloc ?_ _)); refine blk_put (cs := #[.int .u8 a0_0, .int .u16 (Go.bits .andNot .u16 x368001_1 (IntKind.u16.wrap (2 ^ (ji26).toNat))), .int .u16 x368002_1]) ?_ 2 _ rfl; (with_reducible repeat (first | refine blk_drewN ?_ _ | refine blk_drew ?_ | refine blk_alloc ?_ _)); exact BK367.out⟩, ⟨by repeat (first | (with_reducible first | exact HB.out | apply below_alloc | apply pw_below_drewN | apply below_drew1 | refine below_set ?_ GE362.out | refine below_set ?_ GE363.out | refine below_set ?_ GE367.out) | exact HB.out)⟩⟩
                        · rw [if_neg c31] at H
                          have c31b0 : ((Go.bits .and .u16 (a0_1 / 2 ^ x33_1.toNat) 1) == 1) = false := beq_eq_false_iff_ne.mpr c31
                          have c31b1 : ((Go.bits .and .u16 (a0_1 / 2 ^ x33_1.toNat) 1) != 1) = true := bne_iff_ne.mpr c31
                          have H' := Aside0.mk H
                          clear H
                          have hnb43 := NB362_363.out
                          have hnc43 := NB363_362.out
                          have hnb44 := NB362_367.out
                          have hnc44 := NB367_362.out
                          have hcz45_0 : wr.cell? ⟨gb362, 0, none⟩ = some (.int .u8 a0_0) := (blk_cell BK362.out 0).trans rfl
                          have hcz45_1 : wr.cell? ⟨gb362, 1, none⟩ = some (.int .u16 a0_1) := (blk_cell BK362.out 1).trans rfl
                          have hcz45_2 : wr.cell? ⟨gb362, 2, none⟩ = some (.int .u16 a0_2) := (blk_cell BK362.out 2).trans rfl
                          have hfz45_0 := blk_frozen BK362.out 0
                          have hfz45_1 := blk_frozen BK362.out 1
                          have hfz45_2 := blk_frozen BK362.out 2
                          try go_wp2
                          have n0_ := Aside0.mk (blk_drew BK362.out)
                          have n1_ := Aside0.mk (blk_drew BK363.out)
                          have n2_ := Aside0.mk (blk_drew BK367.out)
                          have n3_ := Aside0.mk (below_drew1 HB.out)
                          clear BK362
                          clear BK363
                          clear BK367
                          clear HB
                          have BK362 := n0_
                          have BK363 := n1_
                          have BK367 := n2_
                          have HB := n3_
                          clear n0_ n1_ n2_ n3_
                          refine start_ (n := 9) (S := fun w' => w'.cell? ⟨gb367, 0, none⟩ = some (.int .u8 a0_0) ∧ w'.cell? ⟨gb367, 1, none⟩ = some (.int .u16 x368001_1) ∧ w'.cell? ⟨gb367, 2, none⟩ = some (.int .u16 x368002_1)) (ds := [8]) #[false, false, false, false, false, false, false, false, false] (by kernel_rfl) rfl rfl ⟨(blk_cell BK367.out 0).trans rfl, (blk_cell BK367.out 1).trans rfl, (blk_cell BK367.out 2).trans rfl⟩ (fun hHeld => ?_); refine with_tabW life_Turned.tab10 life_Turned.bits10 (fun HT_ HW_ => ?_)
                          generalize wr.drew = w46 at BK362 BK363 BK367 HB hHeld ⊢
                          refine pure_ (i := 0) (N := some 42) (v := ?_) (a' := ?_) #[true, false, false, false, false, false, false, false, false] rfl rfl (any_of HT_.out (by kernel_rfl)) (fun _ _ _ h => h) (Or.inl ⟨by rfl, ?_⟩) ?_ ?_
                          rotate_left
                          · intro w'
                            go_simp
                            with_reducible rfl
                          rotate_left
                          · simp only [Act.put, List.setIfInBounds_toArray, List.set_cons_zero, List.set_cons_succ, i64_w, i32_w]
                            rfl
                          refine pure_ (i := 2) (N := some 44) (v := ?_) (a' := ?_) #[true, false, true, false, false, false, false, false, false] rfl rfl (any_of HT_.out (by kernel_rfl)) (fun _ _ _ h => h) (Or.inl ⟨by rfl, ?_⟩) ?_ ?_
                          rotate_left
                          · intro w'
                            go_simp
                            with_reducible rfl
                          rotate_left
                          · simp only [Act.put, List.setIfInBounds_toArray, List.set_cons_zero, List.set_cons_succ, i64_w, i32_w]
                            rfl
                          refine pure_ (i := 3) (N := some 45) (v := ?_) (a' := ?_) #[true, false, true, true, false, false, false, false, false] rfl rfl (any_of HT_.out (by kernel_rfl)) (fun _ _ _ h => h) (Or.inl ⟨by rfl, ?_⟩) ?_ ?_
                          rotate_left
                          · intro w'
                            go_simp
                            with_reducible rfl
                          rotate_left
                          · simp only [Act.put, List.setIfInBounds_toArray, List.set_cons_zero, List.set_cons_succ, i64_w, i32_w]
                            rfl
                          refine pure_ (i := 4) (N := some 46) (v := ?_) (a' := ?_) #[true, false, true, true, true, false, false, false, false] rfl rfl (any_of HT_.out (by kernel_rfl)) (fun _ _ _ h => h) (Or.inl ⟨by rfl, ?_⟩) ?_ ?_
                          rotate_left
                          · intro w'
                            go_simp
                            with_reducible rfl
                          rotate_left
                          · simp only [Act.put, List.setIfInBounds_toArray, List.set_cons_zero, List.set_cons_succ, i64_w, i32_w]
                            rfl
                          refine pure_ (i := 5) (N := some 47) (v := ?_) (a' := ?_) #[true, false, true, true, true, true, false, false, false] rfl rfl (any_of HT_.out (by kernel_rfl)) (fun _ _ _ h => h) (Or.inl ⟨by rfl, ?_⟩) ?_ ?_
                          rotate_left
                          · intro w'
                            go_simp
                            with_reducible rfl
                          rotate_left
                          · simp only [Act.put, List.setIfInBounds_toArray, List.set_cons_zero, List.set_cons_succ, i64_w, i32_w]
                            rfl
                          refine take_ (i := 1) (N := some 43) (v := ?_) (a' := ?_) #[true, true, true, true, true, true, false, false, false] rfl rfl (take_ofW HT_.out HW_.out (by kernel_rfl)) (fun _ _ _ h => h) (Or.inl ⟨by rfl, ?_⟩) hHeld ?_ ?_
                          rotate_left
                          · rintro w' ⟨s0, s1, s2⟩
                            go_simp
                            with_reducible rfl
                          rotate_left
                          · simp only [Act.put, List.setIfInBounds_toArray, List.set_cons_zero, List.set_cons_succ, i64_w, i32_w]
                            rfl
                          refine pure_ (i := 6) (N := some 48) (v := ?_) (a' := ?_) #[true, true, true, true, true, true, true, false, false] rfl rfl (any_of HT_.out (by kernel_rfl)) (fun _ _ _ h => h) (Or.inl ⟨by rfl, ?_⟩) ?_ ?_
                          rotate_left
                          · intro w'
                            go_simp
                            with_reducible rfl
                          rotate_left
                          · simp only [Act.put, List.setIfInBounds_toArray, List.set_cons_zero, List.set_cons_succ, i64_w, i32_w]
                            rfl
                          refine pure_ (i := 7) (N := some 49) (v := ?_) (a' := ?_) #[true, true, true, true, true, true, true, true, false] rfl rfl (any_of HT_.out (by kernel_rfl)) (fun _ _ _ h => h) (Or.inl ⟨by rfl, ?_⟩) ?_ ?_
                          rotate_left
                          · intro w'
                            go_simp
                            with_reducible rfl
                          rotate_left
                          · simp only [Act.put, List.setIfInBounds_toArray, List.set_cons_zero, List.set_cons_succ, i64_w, i32_w]
                            rfl
                          refine last_ (i := 8) (N := none) #[true, true, true, true, true, true, true, true, true] rfl rfl (one_of HT_.out (by kernel_rfl)) (by decide) (fun K hK => ?_)
                          have hs47 : w46.cell? ⟨gb367, 1, none⟩ = some (.int .u16 x368001_1) := (blk_cell BK367.out 1).trans rfl
                          have hfs47 := blk_frozen BK367.out 1
                          have hns47_0 := NB362_367.out
                          have hns47_1 := NB363_367.out
                          have hms47_0 := NB367_362.out
                          have hms47_1 := NB367_363.out
                          refine skip_ (w1 := ?_) (by rfl) rfl ?_ ?_
                          rotate_left
                          · go_simp
                            rfl
                          refine hK.out _ _ ?_
                          clear hK K
                          refine done_ (done_of HT_.out (by kernel_rfl)) ?_
                          have hcz48_0 : w46.cell? ⟨gb362, 0, none⟩ = some (.int .u8 a0_0) := (blk_cell BK362.out 0).trans rfl
                          have hcz48_1 : w46.cell? ⟨gb362, 1, none⟩ = some (.int .u16 a0_1) := (blk_cell BK362.out 1).trans rfl
                          have hcz48_2 : w46.cell? ⟨gb362, 2, none⟩ = some (.int .u16 a0_2) := (blk_cell BK362.out 2).trans rfl
                          have hfz48_0 := blk_frozen BK362.out 0
                          have hfz48_1 := blk_frozen BK362.out 1
                          have hfz48_2 := blk_frozen BK362.out 2
                          try go_wp2
                          go_roundg k1
                          case measure => have := HK1.out; omega
                          case rel => exact ⟨(wrap64 (x33_1 + 1)), (Go.bits .andNot .u16 x368001_1 (IntKind.u16.wrap (2 ^ (ji26).toNat))), (x368002_1), (by first | rfl | (simp; done) | (simp [*]; done)), H', ⟨by have := HK1.out; omega⟩, ⟨by (with_reducible repeat (first | refine blk_drewN ?_ _ | refine blk_drew ?_ | refine blk_alloc ?_ _)); refine blk_far ?_ NB362_367.out _; (with_reducible repeat (first | refine blk_drewN ?_ _ | refine blk_drew ?_ | refine blk_alloc ?_ _)); exact BK362.out⟩, ⟨by (with_reducible repeat (first | refine blk_drewN ?_ _ | refine blk_drew ?_ | refine blk_alloc ?_ _)); refine blk_far ?_ NB363_367.out _; (with_reducible repeat (first | refine blk_drewN ?_ _ | refine blk_drew ?_ | refine blk_alloc ?_ _)); exact BK363.out⟩, ⟨by (with_reducible repeat (first | refine blk_drewN ?_ _ | refine blk_drew ?_ | refine blk_alloc ?_ _)); refine blk_put (cs := #[.int .u8 a0_0, .int .u16 x368001_1, .int .u16 x368002_1]) ?_ 1 _ rfl; (with_reducible repeat (first | refine blk_drewN ?_ _ | refine blk_drew ?_ | refine blk_alloc ?_ _)); exact BK367.out⟩, ⟨by repeat (first | (with_reducible first | exact HB.out | apply below_alloc | apply pw_below_drewN | apply below_drew1 | refine below_set ?_ GE362.out | refine below_set ?_ GE363.out | refine below_set ?_ GE367.out) | exact HB.out)⟩⟩
                      · rw [if_neg c28] at H
                        exact absurd H (by simp)
                    · rw [if_neg c27] at H
                      exact absurd H (by simp)
                  · rw [if_neg c25] at H
                    have c25b0 : ((Go.bits .and .u16 (a0_2 / 2 ^ x33_1.toNat) 1) == 1) = false := beq_eq_false_iff_ne.mpr c25
                    have c25b1 : ((Go.bits .and .u16 (a0_2 / 2 ^ x33_1.toNat) 1) != 1) = true := bne_iff_ne.mpr c25
                    have c49b0 := eq_true (of_decide_eq_true (by first | (with_reducible assumption) | assumption) : 0 ≤ x33_1)
                    have c50b0 := eq_true (of_decide_eq_true (by first | (with_reducible assumption) | assumption) : x33_1 ≤ 16)
                    by_cases c51 : (Go.bits .and .u16 (a0_1 / 2 ^ x33_1.toNat) 1) = 1
                    · rw [if_pos c51] at H
                      have c51b0 : ((Go.bits .and .u16 (a0_1 / 2 ^ x33_1.toNat) 1) == 1) = true := beq_iff_eq.mpr c51
                      have c51b1 : ((Go.bits .and .u16 (a0_1 / 2 ^ x33_1.toNat) 1) != 1) = false := bne_eq_false_iff_eq.mpr c51
                      clear c51
                      obtain ⟨ji52, hji52⟩ : ∃ j_ : Int, (wrap64 (t365 - x33_1)) = j_ := ⟨_, rfl⟩
                      replace H : (if 0 ≤ (ji52) then (if (ji52) ≤ 16 then (life_Turned.l0 k1 t365 ji5 (wrap64 (x33_1 + 1)) a0_0 a0_1 a0_2 a0_0 x368001_1 (Go.bits .andNot .u16 x368002_1 (IntKind.u16.wrap (2 ^ (ji52).toNat)))) else (none)) else (none)) = some (r1, r2, r3, r4) := by first | (rw [hji52] at H; exact H) | (simp only [hji52] at H ⊢; exact H)
                      have hji52w : (IntKind.i64.wrap (t365 - x33_1)) = ji52 := (i64_w _).trans hji52
                      by_cases c53 : 0 ≤ (ji52)
                      · rw [if_pos c53] at H
                        have c53b0 := eq_true c53
                        have c53b1 : decide (0 ≤ (ji52)) = true := decide_eq_true c53
                        clear c53
                        by_cases c54 : (ji52) ≤ 16
                        · rw [if_pos c54] at H
                          have c54b0 := eq_true c54
                          have c54b1 : decide ((ji52) ≤ 16) = true := decide_eq_true c54
                          clear c54
                          have H' := Aside0.mk H
                          clear H
                          have hnb55 := NB362_363.out
                          have hnc55 := NB363_362.out
                          have hnb56 := NB362_367.out
                          have hnc56 := NB367_362.out
                          have hcz57_0 : wr.cell? ⟨gb362, 0, none⟩ = some (.int .u8 a0_0) := (blk_cell BK362.out 0).trans rfl
                          have hcz57_1 : wr.cell? ⟨gb362, 1, none⟩ = some (.int .u16 a0_1) := (blk_cell BK362.out 1).trans rfl
                          have hcz57_2 : wr.cell? ⟨gb362, 2, none⟩ = some (.int .u16 a0_2) := (blk_cell BK362.out 2).trans rfl
                          have hfz57_0 := blk_frozen BK362.out 0
                          have hfz57_1 := blk_frozen BK362.out 1
                          have hfz57_2 := blk_frozen BK362.out 2
                          try go_wp2
                          have n0_ := Aside0.mk (blk_drew BK362.out)
                          have n1_ := Aside0.mk (blk_drew BK363.out)
                          have n2_ := Aside0.mk (blk_drew BK367.out)
                          have n3_ := Aside0.mk (below_drew1 HB.out)
                          clear BK362
                          clear BK363
                          clear BK367
                          clear HB
                          have BK362 := n0_
                          have BK363 := n1_
                          have BK367 := n2_
                          have HB := n3_
                          clear n0_ n1_ n2_ n3_
                          refine start_ (n := 9) (S := fun w' => w'.cell? ⟨gb367, 0, none⟩ = some (.int .u8 a0_0) ∧ w'.cell? ⟨gb367, 1, none⟩ = some (.int .u16 x368001_1) ∧ w'.cell? ⟨gb367, 2, none⟩ = some (.int .u16 x368002_1)) (ds := [8]) #[false, false, false, false, false, false, false, false, false] (by kernel_rfl) rfl rfl ⟨(blk_cell BK367.out 0).trans rfl, (blk_cell BK367.out 1).trans rfl, (blk_cell BK367.out 2).trans rfl⟩ (fun hHeld => ?_); refine with_tabW life_Turned.tab12 life_Turned.bits12 (fun HT_ HW_ => ?_)
                          generalize wr.drew = w58 at BK362 BK363 BK367 HB hHeld ⊢
                          refine pure_ (i := 0) (N := some 56) (v := ?_) (a' := ?_) #[true, false, false, false, false, false, false, false, false] rfl rfl (any_of HT_.out (by kernel_rfl)) (fun _ _ _ h => h) (Or.inl ⟨by rfl, ?_⟩) ?_ ?_
                          rotate_left
                          · intro w'
                            go_simp
                            with_reducible rfl
                          rotate_left
                          · simp only [Act.put, List.setIfInBounds_toArray, List.set_cons_zero, List.set_cons_succ, i64_w, i32_w]
                            rfl
                          refine pure_ (i := 2) (N := some 58) (v := ?_) (a' := ?_) #[true, false, true, false, false, false, false, false, false] rfl rfl (any_of HT_.out (by kernel_rfl)) (fun _ _ _ h => h) (Or.inl ⟨by rfl, ?_⟩) ?_ ?_
                          rotate_left
                          · intro w'
                            go_simp
                            with_reducible rfl
                          rotate_left
                          · simp only [Act.put, List.setIfInBounds_toArray, List.set_cons_zero, List.set_cons_succ, i64_w, i32_w]
                            rfl
                          refine pure_ (i := 3) (N := some 59) (v := ?_) (a' := ?_) #[true, false, true, true, false, false, false, false, false] rfl rfl (any_of HT_.out (by kernel_rfl)) (fun _ _ _ h => h) (Or.inl ⟨by rfl, ?_⟩) ?_ ?_
                          rotate_left
                          · intro w'
                            go_simp
                            with_reducible rfl
                          rotate_left
                          · simp only [Act.put, List.setIfInBounds_toArray, List.set_cons_zero, List.set_cons_succ, i64_w, i32_w]
                            rfl
                          refine pure_ (i := 4) (N := some 60) (v := ?_) (a' := ?_) #[true, false, true, true, true, false, false, false, false] rfl rfl (any_of HT_.out (by kernel_rfl)) (fun _ _ _ h => h) (Or.inl ⟨by rfl, ?_⟩) ?_ ?_
                          rotate_left
                          · intro w'
                            go_simp
                            with_reducible rfl
                          rotate_left
                          · simp only [Act.put, List.setIfInBounds_toArray, List.set_cons_zero, List.set_cons_succ, i64_w, i32_w]
                            rfl
                          refine pure_ (i := 5) (N := some 61) (v := ?_) (a' := ?_) #[true, false, true, true, true, true, false, false, false] rfl rfl (any_of HT_.out (by kernel_rfl)) (fun _ _ _ h => h) (Or.inl ⟨by rfl, ?_⟩) ?_ ?_
                          rotate_left
                          · intro w'
                            go_simp
                            with_reducible rfl
                          rotate_left
                          · simp only [Act.put, List.setIfInBounds_toArray, List.set_cons_zero, List.set_cons_succ, i64_w, i32_w]
                            rfl
                          refine take_ (i := 1) (N := some 57) (v := ?_) (a' := ?_) #[true, true, true, true, true, true, false, false, false] rfl rfl (take_ofW HT_.out HW_.out (by kernel_rfl)) (fun _ _ _ h => h) (Or.inl ⟨by rfl, ?_⟩) hHeld ?_ ?_
                          rotate_left
                          · rintro w' ⟨s0, s1, s2⟩
                            go_simp
                            with_reducible rfl
                          rotate_left
                          · simp only [Act.put, List.setIfInBounds_toArray, List.set_cons_zero, List.set_cons_succ, i64_w, i32_w]
                            rfl
                          refine pure_ (i := 6) (N := some 62) (v := ?_) (a' := ?_) #[true, true, true, true, true, true, true, false, false] rfl rfl (any_of HT_.out (by kernel_rfl)) (fun _ _ _ h => h) (Or.inl ⟨by rfl, ?_⟩) ?_ ?_
                          rotate_left
                          · intro w'
                            go_simp
                            with_reducible rfl
                          rotate_left
                          · simp only [Act.put, List.setIfInBounds_toArray, List.set_cons_zero, List.set_cons_succ, i64_w, i32_w]
                            rfl
                          refine pure_ (i := 7) (N := some 63) (v := ?_) (a' := ?_) #[true, true, true, true, true, true, true, true, false] rfl rfl (any_of HT_.out (by kernel_rfl)) (fun _ _ _ h => h) (Or.inl ⟨by rfl, ?_⟩) ?_ ?_
                          rotate_left
                          · intro w'
                            go_simp
                            with_reducible rfl
                          rotate_left
                          · simp only [Act.put, List.setIfInBounds_toArray, List.set_cons_zero, List.set_cons_succ, i64_w, i32_w]
                            rfl
                          refine last_ (i := 8) (N := none) #[true, true, true, true, true, true, true, true, true] rfl rfl (one_of HT_.out (by kernel_rfl)) (by decide) (fun K hK => ?_)
                          have hs59 : w58.cell? ⟨gb367, 2, none⟩ = some (.int .u16 x368002_1) := (blk_cell BK367.out 2).trans rfl
                          have hfs59 := blk_frozen BK367.out 2
                          have hns59_0 := NB362_367.out
                          have hns59_1 := NB363_367.out
                          have hms59_0 := NB367_362.out
                          have hms59_1 := NB367_363.out
                          refine skip_ (w1 := ?_) (by rfl) rfl ?_ ?_
                          rotate_left
                          · go_simp
                            rfl
                          refine hK.out _ _ ?_
                          clear hK K
                          refine done_ (done_of HT_.out (by kernel_rfl)) ?_
                          try go_wp2
                          go_roundg k1
                          case measure => have := HK1.out; omega
                          case rel => exact ⟨(wrap64 (x33_1 + 1)), (x368001_1), (Go.bits .andNot .u16 x368002_1 (IntKind.u16.wrap (2 ^ (ji52).toNat))), (by first | rfl | (simp; done) | (simp [*]; done)), H', ⟨by have := HK1.out; omega⟩, ⟨by (with_reducible repeat (first | refine blk_drewN ?_ _ | refine blk_drew ?_ | refine blk_alloc ?_ _)); refine blk_far ?_ NB362_367.out _; (with_reducible repeat (first | refine blk_drewN ?_ _ | refine blk_drew ?_ | refine blk_alloc ?_ _)); exact BK362.out⟩, ⟨by (with_reducible repeat (first | refine blk_drewN ?_ _ | refine blk_drew ?_ | refine blk_alloc ?_ _)); refine blk_far ?_ NB363_367.out _; (with_reducible repeat (first | refine blk_drewN ?_ _ | refine blk_drew ?_ | refine blk_alloc ?_ _)); exact BK363.out⟩, ⟨by (with_reducible repeat (first | refine blk_drewN ?_ _ | refine blk_drew ?_ | refine blk_alloc ?_ _)); refine blk_put (cs := #[.int .u8 a0_0, .int .u16 x368001_1, .int .u16 x368002_1]) ?_ 2 _ rfl; (with_reducible repeat (first | refine blk_drewN ?_ _ | refine blk_drew ?_ | refine blk_alloc ?_ _)); exact BK367.out⟩, ⟨by repeat (first | (with_reducible first | exact HB.out | apply below_alloc | apply pw_below_drewN | apply below_drew1 | refine below_set ?_ GE362.out | refine below_set ?_ GE363.out | refine below_set ?_ GE367.out) | exact HB.out)⟩⟩
                        · rw [if_neg c54] at H
                          exact absurd H (by simp)
                      · rw [if_neg c53] at H
                        exact absurd H (by simp)
                    · rw [if_neg c51] at H
                      have c51b0 : ((Go.bits .and .u16 (a0_1 / 2 ^ x33_1.toNat) 1) == 1) = false := beq_eq_false_iff_ne.mpr c51
                      have c51b1 : ((Go.bits .and .u16 (a0_1 / 2 ^ x33_1.toNat) 1) != 1) = true := bne_iff_ne.mpr c51
                      have H' := Aside0.mk H
                      clear H
                      have hnb60 := NB362_363.out
                      have hnc60 := NB363_362.out
                      have hnb61 := NB362_367.out
                      have hnc61 := NB367_362.out
                      have hcz62_0 : wr.cell? ⟨gb362, 0, none⟩ = some (.int .u8 a0_0) := (blk_cell BK362.out 0).trans rfl
                      have hcz62_1 : wr.cell? ⟨gb362, 1, none⟩ = some (.int .u16 a0_1) := (blk_cell BK362.out 1).trans rfl
                      have hcz62_2 : wr.cell? ⟨gb362, 2, none⟩ = some (.int .u16 a0_2) := (blk_cell BK362.out 2).trans rfl
                      have hfz62_0 := blk_frozen BK362.out 0
                      have hfz62_1 := blk_frozen BK362.out 1
                      have hfz62_2 := blk_frozen BK362.out 2
                      go_wp2
                      go_roundg k1
                      case measure => have := HK1.out; omega
                      case rel => exact ⟨(wrap64 (x33_1 + 1)), (x368001_1), (x368002_1), (by first | rfl | (simp; done) | (simp [*]; done)), H', ⟨by have := HK1.out; omega⟩, ⟨by (with_reducible repeat (first | refine blk_drewN ?_ _ | refine blk_drew ?_ | refine blk_alloc ?_ _)); exact BK362.out⟩, ⟨by (with_reducible repeat (first | refine blk_drewN ?_ _ | refine blk_drew ?_ | refine blk_alloc ?_ _)); exact BK363.out⟩, ⟨by (with_reducible repeat (first | refine blk_drewN ?_ _ | refine blk_drew ?_ | refine blk_alloc ?_ _)); exact BK367.out⟩, ⟨by repeat (first | (with_reducible first | exact HB.out | apply below_alloc | apply pw_below_drewN | apply below_drew1 | refine below_set ?_ GE362.out | refine below_set ?_ GE363.out | refine below_set ?_ GE367.out) | exact HB.out)⟩⟩
                · rw [if_neg c24] at H
                  exact absurd H (by simp)
              · rw [if_neg c23] at H
                exact absurd H (by simp)
            · rw [if_neg c22] at H
              have c22b0 : decide (x33_1 < ji5) = false := decide_eq_false c22
              clear c22
              simp only [Option.some.injEq, Prod.mk.injEq] at H
              obtain ⟨rfl, rfl, rfl, rfl⟩ := H
              have hnb63 := NB367_362.out
              have hnc63 := NB362_367.out
              have hnb64 := NB367_363.out
              have hnc64 := NB363_367.out
              have hcz65_0 : wr.cell? ⟨gb367, 0, none⟩ = some (.int .u8 a0_0) := (blk_cell BK367.out 0).trans rfl
              have hcz65_1 : wr.cell? ⟨gb367, 1, none⟩ = some (.int .u16 x368001_1) := (blk_cell BK367.out 1).trans rfl
              have hcz65_2 : wr.cell? ⟨gb367, 2, none⟩ = some (.int .u16 x368002_1) := (blk_cell BK367.out 2).trans rfl
              have hfz65_0 := blk_frozen BK367.out 0
              have hfz65_1 := blk_frozen BK367.out 1
              have hfz65_2 := blk_frozen BK367.out 2
              have hnb66 := NB363_362.out
              have hnc66 := NB362_363.out
              have hcz67_0 : wr.cell? ⟨gb363, 0, none⟩ = some (.int .u8 0) := (blk_cell BK363.out 0).trans rfl
              have hcz67_1 : wr.cell? ⟨gb363, 1, none⟩ = some (.int .u16 0) := (blk_cell BK363.out 1).trans rfl
              have hcz67_2 : wr.cell? ⟨gb363, 2, none⟩ = some (.int .u16 0) := (blk_cell BK363.out 2).trans rfl
              have hfz67_0 := blk_frozen BK363.out 0
              have hfz67_1 := blk_frozen BK363.out 1
              have hfz67_2 := blk_frozen BK363.out 2
              go_wp2
              refine bodyPost_ret (results_ct rfl _ _ gb363 37 #[.int .u8 a0_0, .int .u16 x368001_1, .int .u16 x368002_1] (0, 0) _ rfl (by (with_reducible repeat (first | refine blk_drewN ?_ _ | refine blk_drew ?_ | refine blk_alloc ?_ _)); refine blk_put (cs := #[.int .u8 a0_0, .int .u16 x368001_1, .int .u16 0]) ?_ 2 _ rfl; (with_reducible repeat (first | refine blk_drewN ?_ _ | refine blk_drew ?_ | refine blk_alloc ?_ _)); refine blk_put (cs := #[.int .u8 a0_0, .int .u16 0, .int .u16 0]) ?_ 1 _ rfl; (with_reducible repeat (first | refine blk_drewN ?_ _ | refine blk_drew ?_ | refine blk_alloc ?_ _)); refine blk_put (cs := #[.int .u8 0, .int .u16 0, .int .u16 0]) ?_ 0 _ rfl; (with_reducible repeat (first | refine blk_drewN ?_ _ | refine blk_drew ?_ | refine blk_alloc ?_ _)); exact BK363.out) Try.underlying37 rfl (by kernel_rfl)) rfl ?_
              exact ⟨by first | rfl | (simp [errW_none, errW_some] <;> rfl) | (simp only [← hji5]; first | rfl | (simp [errW_none, errW_some] <;> rfl)) | (simp [*, errW_none, errW_some] <;> rfl), by repeat (first | (with_reducible first | exact HB.out | apply below_alloc | apply pw_below_drewN | apply below_drew1 | refine below_set ?_ GE362.out | refine below_set ?_ GE363.out | refine below_set ?_ GE367.out) | exact HB.out)⟩
      · rw [if_neg c7] at H
        exact absurd H (by simp)
    · rw [if_neg c6] at H
      exact absurd H (by simp)
  · rw [if_neg c3] at H
    have c3b0 : (t364 == 0) = false := beq_eq_false_iff_ne.mpr c3
    have c3b1 : (t364 != 0) = true := bne_iff_ne.mpr c3
    simp only [Option.some.injEq, Prod.mk.injEq] at H
    obtain ⟨rfl, rfl, rfl, rfl⟩ := H
    go_enter Try.func31, Try.ntmps31
    go_wp2_with (first | ((with_reducible refine gate_dst (N := 1) rfl ?_); refine box_event ?hg (N := 1) ?hd (cs := #[.int .u8 a0_0, .int .u16 a0_1, .int .u16 a0_2]) (t := 37) ?hr ?_; (case hd => rfl); (case hg => rfl); (case hr => first | (go_simp; done) | (go_simp; rfl)); intro gb362 hg w68 hbox hb; have n0_ := Aside0.mk (below_step (by repeat (first | (with_reducible first | exact HB.out | apply below_alloc | apply pw_below_drewN | apply below_drew1) | exact HB.out)) hb); have n1_ := Aside0.mk (hbox); have n2_ := Aside0.mk ((by rw [hg]; exact (below_size (by repeat (first | (with_reducible first | exact HB.out | apply below_alloc | apply pw_below_drewN | apply below_drew1) | exact HB.out))) : w.heap.size ≤ gb362)); have n3_ := Aside0.mk ((by rw [hg]; exact (below_size (by repeat (first | (with_reducible first | exact HB.out | apply below_alloc | apply pw_below_drewN | apply below_drew1) | exact HB.out))) : w.heap.size ≤ gb362)); clear HB; have HB := n0_; have BK362 := n1_; have GW362 := n2_; have GE362 := n3_; clear n0_ n1_ n2_ n3_; clear hb hbox hg) | ((with_reducible refine gate_dst (N := 2) rfl ?_); refine box_event ?hg (N := 2) ?hd (cs := #[.int .u8 0, .int .u16 0, .int .u16 0]) (t := 37) ?hr ?_; (case hd => rfl); (case hg => rfl); (case hr => first | (go_simp; done) | (go_simp; rfl)); intro gb363 hg w69 hbox hb; have n0_ := Aside0.mk (blk_below (g := gb362) (o := .cells #[.int .u8 a0_0, .int .u16 a0_1, .int .u16 a0_2] 37 (0, 0)) (by (with_reducible repeat (first | refine blk_drewN ?_ _ | refine blk_drew ?_ | refine blk_alloc ?_ _)); exact BK362.out) hb); have n1_ := Aside0.mk (below_step (by repeat (first | (with_reducible first | exact HB.out | apply below_alloc | apply pw_below_drewN | apply below_drew1 | refine below_set ?_ GE362.out) | exact HB.out)) hb); have n2_ := Aside0.mk (hbox); have n3_ := Aside0.mk ((by rw [hg]; exact (below_size (by repeat (first | (with_reducible first | exact HB.out | apply below_alloc | apply pw_below_drewN | apply below_drew1 | refine below_set ?_ GE362.out) | exact HB.out))) : w.heap.size ≤ gb363)); have n4_ := Aside0.mk ((by rw [hg]; exact (below_size (by repeat (first | (with_reducible first | exact HB.out | apply below_alloc | apply pw_below_drewN | apply below_drew1 | refine below_set ?_ GE362.out) | exact HB.out))) : w.heap.size ≤ gb363)); have n5_ := Aside0.mk ((by rw [hg]; exact Nat.ne_of_lt (blk_lt (g := gb362) (o := .cells #[.int .u8 a0_0, .int .u16 a0_1, .int .u16 a0_2] 37 (0, 0)) (by (with_reducible repeat (first | refine blk_drewN ?_ _ | refine blk_drew ?_ | refine blk_alloc ?_ _)); exact BK362.out)) : gb362 ≠ gb363)); have n6_ := Aside0.mk ((by rw [hg]; exact Nat.ne_of_gt (blk_lt (g := gb362) (o := .cells #[.int .u8 a0_0, .int .u16 a0_1, .int .u16 a0_2] 37 (0, 0)) (by (with_reducible repeat (first | refine blk_drewN ?_ _ | refine blk_drew ?_ | refine blk_alloc ?_ _)); exact BK362.out)) : gb363 ≠ gb362)); clear BK362; clear HB; have BK362 := n0_; have HB := n1_; have BK363 := n2_; have GW363 := n3_; have GE363 := n4_; have NB362_363 := n5_; have NB363_362 := n6_; clear n0_ n1_ n2_ n3_ n4_ n5_ n6_; clear hb hbox hg; have hnb70 := NB362_363.out; have hnc70 := NB363_362.out; have hcz71_0 : w69.cell? ⟨gb362, 0, none⟩ = some (.int .u8 a0_0) := (blk_cell BK362.out 0).trans rfl; have hcz71_1 : w69.cell? ⟨gb362, 1, none⟩ = some (.int .u16 a0_1) := (blk_cell BK362.out 1).trans rfl; have hcz71_2 : w69.cell? ⟨gb362, 2, none⟩ = some (.int .u16 a0_2) := (blk_cell BK362.out 2).trans rfl; have hfz71_0 := blk_frozen BK362.out 0; have hfz71_1 := blk_frozen BK362.out 1; have hfz71_2 := blk_frozen BK362.out 2) | ((with_reducible refine gate_callee (f := 33) rfl ?_); refine goesL_ (some 10) rfl rfl Try.func33 (by kernel_rfl) rfl #[.agg #[.int .u8 a0_0, .int .u16 a0_1, .int .u16 a0_2]] rfl (by (try simp only [List.map_toArray, List.map_cons, List.map_nil]); first | done | rfl | (simp only [List.length_drop, List.length_take]; rfl)) ?_; (with_reducible refine (life_Check.calls a0_0 a0_1 a0_2 t364 _ A2.out).mono ?_); rintro e w72 ⟨rfl, hb⟩; refine ⟨_, rfl, ?_⟩; have n0_ := Aside0.mk (blk_below (g := gb362) (o := .cells #[.int .u8 a0_0, .int .u16 a0_1, .int .u16 a0_2] 37 (0, 0)) (by (with_reducible repeat (first | refine blk_drewN ?_ _ | refine blk_drew ?_ | refine blk_alloc ?_ _)); exact BK362.out) hb); have n1_ := Aside0.mk (blk_below (g := gb363) (o := .cells #[.int .u8 0, .int .u16 0, .int .u16 0] 37 (0, 0)) (by (with_reducible repeat (first | refine blk_drewN ?_ _ | refine blk_drew ?_ | refine blk_alloc ?_ _)); exact BK363.out) hb); have n2_ := Aside0.mk (below_step (by repeat (first | (with_reducible first | exact HB.out | apply below_alloc | apply pw_below_drewN | apply below_drew1 | refine below_set ?_ GE362.out | refine below_set ?_ GE363.out) | exact HB.out)) hb); clear BK362; clear BK363; clear HB; have BK362 := n0_; have BK363 := n1_; have HB := n2_; clear n0_ n1_ n2_; (try clear hb); (try clear hb2); (try clear hk); (try clear hi); have hcz73_0 : w72.cell? ⟨gb363, 0, none⟩ = some (.int .u8 0) := (blk_cell BK363.out 0).trans rfl; have hcz73_1 : w72.cell? ⟨gb363, 1, none⟩ = some (.int .u16 0) := (blk_cell BK363.out 1).trans rfl; have hcz73_2 : w72.cell? ⟨gb363, 2, none⟩ = some (.int .u16 0) := (blk_cell BK363.out 2).trans rfl; have hfz73_0 := blk_frozen BK363.out 0; have hfz73_1 := blk_frozen BK363.out 1; have hfz73_2 := blk_frozen BK363.out 2))
    refine bodyPost_ret (results_ct rfl _ _ gb363 37 #[.int .u8 0, .int .u16 0, .int .u16 0] (0, 0) _ rfl (by (with_reducible repeat (first | refine blk_drewN ?_ _ | refine blk_drew ?_ | refine blk_alloc ?_ _)); refine blk_put (cs := #[.int .u8 0, .int .u16 0, .int .u16 0]) ?_ 2 _ rfl; (with_reducible repeat (first | refine blk_drewN ?_ _ | refine blk_drew ?_ | refine blk_alloc ?_ _)); refine blk_put (cs := #[.int .u8 0, .int .u16 0, .int .u16 0]) ?_ 1 _ rfl; (with_reducible repeat (first | refine blk_drewN ?_ _ | refine blk_drew ?_ | refine blk_alloc ?_ _)); refine blk_put (cs := #[.int .u8 0, .int .u16 0, .int .u16 0]) ?_ 0 _ rfl; (with_reducible repeat (first | refine blk_drewN ?_ _ | refine blk_drew ?_ | refine blk_alloc ?_ _)); exact BK363.out) Try.underlying37 rfl (by kernel_rfl)) rfl ?_
    exact ⟨by first | rfl | (simp [errW_none, errW_some] <;> rfl) | (simp [*, errW_none, errW_some] <;> rfl), by repeat (first | (with_reducible first | exact HB.out | apply below_alloc | apply pw_below_drewN | apply below_drew1 | refine below_set ?_ GE362.out | refine below_set ?_ GE363.out) | exact HB.out)⟩

end Go.Proofs.Ytfgonglcmgahkaa.P

-- Written by a program of this session (wip/tools/mk.py) that runs the kit's printer; several functions' texts in one.
import Derived.Test.YtfgonglcmgahkabP0
import Derived.Test.YtfgonglcmgahkabPm1
import Derived.Test.YtfgonglcmgahkabPm10
import Derived.Test.YtfgonglcmgahkabPm2
import Derived.Test.YtfgonglcmgahkabPm5
import Derived.Test.YtfgonglcmgahkabPm6
import Derived.Test.YtfgonglcmgahkabPm7
namespace Go.Proofs.Ytfgonglcmgahkab.P
open Go.RowKit Go.Proofs.YtfgonglcmgahkabW.PrintWords Go.Proofs.YtfgonglcmgahkabW.PrintLast Go.Proofs.YtfgonglcmgahkabW.PrintMore
attribute [local go_sem] max2_int min2_int max_two min_two   -- for this text's walks alone
set_option linter.unusedVariables false
set_option linter.unusedSimpArgs false

/-! ### vivariumlaw23_PlainWrites: function 7 -/
mutual
def vivariumlaw23_PlainWrites.j0 : Nat → List (S35) → Bool → Bool → Int → Int → Int → Int → Option (Bool)
 | 0, _, _, _, _, _, _, _ => none
 | k + 1, x0, x5, x34, x189000, x189001, x189002, x189003 => if x34 = true then (some x5) else ((vivariumlaw23_lent.f k x0).bind fun t192 => ((plain_Write.f t192 x189000 x189001 x189002 x189003).bind fun bt195 => ((vivariumref23_Write.f k x0 x189000 x189001 x189002 x189003).bind fun bt197 => ((plain_Halves.f t192 x189000 x189001 x189002 x189003).bind fun bt199 => ((vivariumref23_Halves.f k x0 x189000 x189001 x189002 x189003).bind fun bt201 => ((vivariumlaw23_kept.f2 k ((vivariumlaw23_lent.f2 k x0).getD []) t192 x0).bind fun t203 => (if x5 = true then (if bt195.1.toList = bt197.1.toList then (if bt195.2 = bt197.2 then (if bt199.1.toList = bt201.1.toList then (if bt199.2 = bt201.2 then (vivariumlaw23_PlainWrites.j1 k t192 (!t203) x189000 x189001 x189002 x189003) else (vivariumlaw23_PlainWrites.j1 k t192 true x189000 x189001 x189002 x189003)) else (vivariumlaw23_PlainWrites.j1 k t192 true x189000 x189001 x189002 x189003)) else (vivariumlaw23_PlainWrites.j1 k t192 true x189000 x189001 x189002 x189003)) else (vivariumlaw23_PlainWrites.j1 k t192 true x189000 x189001 x189002 x189003)) else (vivariumlaw23_PlainWrites.j1 k t192 true x189000 x189001 x189002 x189003))))))))
def vivariumlaw23_PlainWrites.j1 : Nat → List (S35) → Bool → Int → Int → Int → Int → Option (Bool)
 | 0, _, _, _, _, _, _ => none
 | k + 1, x6, x90, x189000, x189001, x189002, x189003 => if x90 = true then (some false) else (vivariumlaw23_PlainWrites.l0 k x6 0 x189000 x189001 x189002 x189003)
def vivariumlaw23_PlainWrites.l0 : Nat → List (S35) → Int → Int → Int → Int → Int → Option (Bool)
 | 0, _, _, _, _, _, _ => none
 | k + 1, x6, x16, x189000, x189001, x189002, x189003 => if x16 < (x6.length : Int) then (if 0 ≤ x16 then ((some (x6.set (x16 : Int).toNat (⟨wrap64 (Int.tdiv ((rd_T35 x6 x16).f0) 2), (rd_T35 x6 x16).f1, (rd_T35 x6 x16).f2⟩ : S35) : List (S35))).bind fun y205 => (vivariumlaw23_PlainWrites.l0 k (y205.set (x16 : Int).toNat (⟨(rd_T35 y205 x16).f0, (rd_T35 y205 x16).f1, Go.bits .xor .u8 ((rd_T35 y205 x16).f2) 1⟩ : S35)) (wrap64 (x16 + 1)) x189000 x189001 x189002 x189003)) else (none)) else ((vivariumlaw23_lent.f k x6).bind fun t208 => ((vivariumref23_Write.f k t208 x189000 x189001 x189002 x189003).bind fun bt211 => ((plain_Write.f x6 x189000 x189001 x189002 x189003).bind fun bt213 => (if bt213.1.toList = bt211.1.toList then (some (bt213.2 == bt211.2)) else (some false)))))
end
def vivariumlaw23_PlainWrites.f (k : Nat) (l0 : List (S35)) (a1_0 : Int) (a1_1 : Int) (a1_2 : Int) (a1_3 : Int) : Option (Bool) := (vivariumlaw23_alive.f).bind fun t189 => (if (l0.length : Int) > 2000 then (vivariumlaw23_PlainWrites.j0 k l0 t189 true a1_0 a1_1 a1_2 a1_3) else ((vivariumref23_Size.f a1_0 a1_1 a1_2 a1_3).bind fun t190 => (if t190 > 3000 then ((vivariumref23_Size.f a1_0 a1_1 a1_2 a1_3).bind fun t191 => (vivariumlaw23_PlainWrites.j0 k l0 t189 (decide (t191 ≤ 2097152)) a1_0 a1_1 a1_2 a1_3)) else (vivariumlaw23_PlainWrites.j0 k l0 t189 false a1_0 a1_1 a1_2 a1_3))))
def vivariumlaw23_PlainWrites.T17 : Bool × List (List Nat × List Nat) := (true, [([], []), ([0], [0]), ([], []), ([1, 2, 1], [1, 2]), ([3], [3]), ([4], [4]), ([4], [4]), ([5, 3, 0, 1, 2, 3, 4, 5], [5]), ([6, 7, 0, 1, 2, 3, 4, 5, 6, 7], [6])])
def vivariumlaw23_PlainWrites.B17 : List Nat := [0, 1, 0, 7, 15, 31, 31, 63, 255]
theorem vivariumlaw23_PlainWrites.tab17 : rtab .any (opsOf Try.f7 17) = vivariumlaw23_PlainWrites.T17 := by kernel_rfl
theorem vivariumlaw23_PlainWrites.bits17 : waitsOk vivariumlaw23_PlainWrites.T17.2 vivariumlaw23_PlainWrites.B17 = true := by kernel_rfl
set_option maxHeartbeats 8000000 in
set_option maxRecDepth 100000 in
theorem vivariumlaw23_PlainWrites.calls (k : Nat) (A0 : Option Addr) (c0 : Nat) (l0 : List (S35)) (a1_0 : Int) (a1_1 : Int) (a1_2 : Int) (a1_3 : Int) (r : Bool) (w : World) (hr0 : Kd.C k35 w A0 l0.length l0) (hc0 : l0.length ≤ c0) (h : vivariumlaw23_PlainWrites.f k l0 a1_0 a1_1 a1_2 a1_3 = some r) :
  Calls Try.prog 7 #[.slice A0 l0.length c0, .agg #[.int .i64 a1_0, .int .i64 a1_1, .int .i64 a1_2, .int .i64 a1_3]] w fun e w' => e = .returned (.bool r) ∧ Below w.heap.size w w' := by
 have hu23 := Try.underlying23
 have HR0 := Aside0.mk hr0
 have HC0 := Aside0.mk hc0
 clear hr0 hc0
 have HB := Aside0.mk (Below.refl w.heap.size w)
 have H : ((vivariumlaw23_alive.f).bind fun t189 => (if (l0.length : Int) > 2000 then (vivariumlaw23_PlainWrites.j0 k l0 t189 true a1_0 a1_1 a1_2 a1_3) else ((vivariumref23_Size.f a1_0 a1_1 a1_2 a1_3).bind fun t190 => (if t190 > 3000 then ((vivariumref23_Size.f a1_0 a1_1 a1_2 a1_3).bind fun t191 => (vivariumlaw23_PlainWrites.j0 k l0 t189 (decide (t191 ≤ 2097152)) a1_0 a1_1 a1_2 a1_3)) else (vivariumlaw23_PlainWrites.j0 k l0 t189 false a1_0 a1_1 a1_2 a1_3))))) = some r := h
 clear h
 replace H := Option.bind_eq_some_iff.mp H
 obtain ⟨t189, A30, H⟩ := H
 replace H : (if (l0.length : Int) > 2000 then (vivariumlaw23_PlainWrites.j0 k l0 t189 true a1_0 a1_1 a1_2 a1_3) else ((vivariumref23_Size.f a1_0 a1_1 a1_2 a1_3).bind fun t190 => (if t190 > 3000 then ((vivariumref23_Size.f a1_0 a1_1 a1_2 a1_3).bind fun t191 => (vivariumlaw23_PlainWrites.j0 k l0 t189 (decide (t191 ≤ 2097152)) a1_0 a1_1 a1_2 a1_3)) else (vivariumlaw23_PlainWrites.j0 k l0 t189 false a1_0 a1_1 a1_2 a1_3)))) = some r := H
 have A3 := Aside0.mk A30
 clear A30
 have HC4 := Aside0.mk H
 clear H
 go_enter Try.func7, Try.ntmps7
 go_upto_region 2 with (first | ((with_reducible refine gate_dst (N := 3) rfl ?_); refine box_event ?hg (N := 3) ?hd (cs := #[.int .i64 a1_0, .int .i64 a1_1, .int .i64 a1_2, .int .i64 a1_3]) (t := 23) ?hr ?_; (case hd => rfl); (case hg => rfl); (case hr => first | (go_simp; done) | (go_simp; rfl)); intro gb188 hg w5 hbox hb; have n0_ := Aside0.mk (below_step (by repeat (first | (with_reducible first | exact HB.out | apply below_alloc | apply pw_below_drewN | apply below_drew1) | exact HB.out)) hb); have n1_ := Aside0.mk (hbox); have n2_ := Aside0.mk ((by rw [hg]; exact (below_size (by repeat (first | (with_reducible first | exact HB.out | apply below_alloc | apply pw_below_drewN | apply below_drew1) | exact HB.out))) : w.heap.size ≤ gb188)); have n3_ := Aside0.mk ((by rw [hg]; exact (below_size (by repeat (first | (with_reducible first | exact HB.out | apply below_alloc | apply pw_below_drewN | apply below_drew1) | exact HB.out))) : w.heap.size ≤ gb188)); clear HB; have HB := n0_; have BK188 := n1_; have GW188 := n2_; have GE188 := n3_; clear n0_ n1_ n2_ n3_; clear hb hbox hg) | ((with_reducible refine gate_callee (f := 9) rfl ?_); refine goesL_ (some 21) rfl rfl Try.func9 (by kernel_rfl) rfl #[] rfl (by (try simp only [List.map_toArray, List.map_cons, List.map_nil]); first | done | rfl | (simp only [List.length_drop, List.length_take]; rfl)) ?_; (with_reducible refine (vivariumlaw23_alive.calls  t189 _ A3.out).mono ?_); rintro e w6 ⟨rfl, hb⟩; refine ⟨_, rfl, ?_⟩; have n0_ := Aside0.mk (blk_below (g := gb188) (o := .cells #[.int .i64 a1_0, .int .i64 a1_1, .int .i64 a1_2, .int .i64 a1_3] 23 (0, 0)) (by (with_reducible repeat (first | refine blk_drewN ?_ _ | refine blk_drew ?_ | refine blk_alloc ?_ _)); exact BK188.out) hb); have n1_ := Aside0.mk (below_step (by repeat (first | (with_reducible first | exact HB.out | apply below_alloc | apply pw_below_drewN | apply below_drew1 | refine below_set ?_ GE188.out) | exact HB.out)) hb); clear BK188; clear HB; have BK188 := n0_; have HB := n1_; clear n0_ n1_; (try clear hb); (try clear hb2); (try clear hk); (try clear hi)))
 (try simp only [Act.put, List.setIfInBounds_toArray, List.set_cons_zero, List.set_cons_succ])
 go_cut [34] (fun v34 wc => ∃ (kq : Nat) (x34_3 : Bool), v34 = .bool x34_3 ∧ Aside0 (vivariumlaw23_PlainWrites.j0 kq l0 t189 x34_3 a1_0 a1_1 a1_2 a1_3 = some r) ∧ Aside0 (kq ≤ k) ∧ Aside0 (wc.heap[gb188]? = some (.cells #[.int .i64 a1_0, .int .i64 a1_1, .int .i64 a1_2, .int .i64 a1_3] 23 (0, 0))) ∧ Aside0 (Below w.heap.size w wc))
 case first =>
  have H := HC4.out
  clear HC4
  by_cases c7 : (l0.length : Int) > 2000
  ·rw [if_pos c7] at H
   have c7b0 : decide (2000 < (l0.length : Int)) = true := decide_eq_true c7
   have c7b1 : decide (2000 < l0.length) = true := decide_eq_true (by omega)
   clear c7
   (first | rw [c7b0] | (simp only [i64_w, i32_w]; rw [c7b0]) | skip)
   have H' := Aside0.mk H
   clear H
   go_wp2
   go_meet
   case rel => exact ⟨_, (true), (by first | rfl | (simp; done) | (simp [*]; done)), H', ⟨by first | omega | exact Nat.le_refl _⟩, ⟨by (with_reducible repeat (first | refine blk_drewN ?_ _ | refine blk_drew ?_ | refine blk_alloc ?_ _)); exact BK188.out⟩, ⟨by repeat (first | (with_reducible first | exact HB.out | apply below_alloc | apply pw_below_drewN | apply below_drew1 | refine below_set ?_ GE188.out) | exact HB.out)⟩⟩
  ·rw [if_neg c7] at H
   have c7b0 : decide (2000 < (l0.length : Int)) = false := decide_eq_false c7
   have c7b1 : decide (2000 < l0.length) = false := decide_eq_false (by omega)
   clear c7
   (first | rw [c7b0] | (simp only [i64_w, i32_w]; rw [c7b0]) | skip)
   replace H := Option.bind_eq_some_iff.mp H
   obtain ⟨t190, A80, H⟩ := H
   replace H : (if t190 > 3000 then ((vivariumref23_Size.f a1_0 a1_1 a1_2 a1_3).bind fun t191 => (vivariumlaw23_PlainWrites.j0 k l0 t189 (decide (t191 ≤ 2097152)) a1_0 a1_1 a1_2 a1_3)) else (vivariumlaw23_PlainWrites.j0 k l0 t189 false a1_0 a1_1 a1_2 a1_3)) = some r := H
   have A8 := Aside0.mk A80
   clear A80
   by_cases c9 : t190 > 3000
   ·rw [if_pos c9] at H
    have c9b0 : decide (3000 < t190) = true := decide_eq_true c9
    clear c9
    replace H := Option.bind_eq_some_iff.mp H
    obtain ⟨t191, A100, H⟩ := H
    replace H : (vivariumlaw23_PlainWrites.j0 k l0 t189 (decide (t191 ≤ 2097152)) a1_0 a1_1 a1_2 a1_3) = some r := H
    have A10 := Aside0.mk A100
    clear A100
    have E191 := Aside0.mk (Option.some.inj (A8.out.symm.trans A10.out))
    have H' := Aside0.mk H
    clear H
    have hcz11_0 : w6.cell? ⟨gb188, 0, none⟩ = some (.int .i64 a1_0) := (blk_cell BK188.out 0).trans rfl
    have hcz11_1 : w6.cell? ⟨gb188, 1, none⟩ = some (.int .i64 a1_1) := (blk_cell BK188.out 1).trans rfl
    have hcz11_2 : w6.cell? ⟨gb188, 2, none⟩ = some (.int .i64 a1_2) := (blk_cell BK188.out 2).trans rfl
    have hcz11_3 : w6.cell? ⟨gb188, 3, none⟩ = some (.int .i64 a1_3) := (blk_cell BK188.out 3).trans rfl
    have hfz11_0 := blk_frozen BK188.out 0
    have hfz11_1 := blk_frozen BK188.out 1
    have hfz11_2 := blk_frozen BK188.out 2
    have hfz11_3 := blk_frozen BK188.out 3
    go_wp2_with (first | (go_at_call 18; (with_reducible refine (vivariumref23_Size.calls a1_0 a1_1 a1_2 a1_3 t190 _ A8.out).mono ?_); rintro e w12 ⟨rfl, hb⟩; have n0_ := Aside0.mk (blk_below (g := gb188) (o := .cells #[.int .i64 a1_0, .int .i64 a1_1, .int .i64 a1_2, .int .i64 a1_3] 23 (0, 0)) (by (with_reducible repeat (first | refine blk_drewN ?_ _ | refine blk_drew ?_ | refine blk_alloc ?_ _)); exact BK188.out) hb); have n1_ := Aside0.mk (below_step (by repeat (first | (with_reducible first | exact HB.out | apply below_alloc | apply pw_below_drewN | apply below_drew1 | refine below_set ?_ GE188.out) | exact HB.out)) hb); clear BK188; clear HB; have BK188 := n0_; have HB := n1_; clear n0_ n1_; (try clear hb); (try clear hb2); (try clear hk); (try clear hi); have hcz13_0 : w12.cell? ⟨gb188, 0, none⟩ = some (.int .i64 a1_0) := (blk_cell BK188.out 0).trans rfl; have hcz13_1 : w12.cell? ⟨gb188, 1, none⟩ = some (.int .i64 a1_1) := (blk_cell BK188.out 1).trans rfl; have hcz13_2 : w12.cell? ⟨gb188, 2, none⟩ = some (.int .i64 a1_2) := (blk_cell BK188.out 2).trans rfl; have hcz13_3 : w12.cell? ⟨gb188, 3, none⟩ = some (.int .i64 a1_3) := (blk_cell BK188.out 3).trans rfl; have hfz13_0 := blk_frozen BK188.out 0; have hfz13_1 := blk_frozen BK188.out 1; have hfz13_2 := blk_frozen BK188.out 2; have hfz13_3 := blk_frozen BK188.out 3) | (go_at_call 18; (with_reducible refine (vivariumref23_Size.calls a1_0 a1_1 a1_2 a1_3 t191 _ A10.out).mono ?_); rintro e w14 ⟨rfl, hb⟩; have n0_ := Aside0.mk (blk_below (g := gb188) (o := .cells #[.int .i64 a1_0, .int .i64 a1_1, .int .i64 a1_2, .int .i64 a1_3] 23 (0, 0)) (by (with_reducible repeat (first | refine blk_drewN ?_ _ | refine blk_drew ?_ | refine blk_alloc ?_ _)); exact BK188.out) hb); have n1_ := Aside0.mk (below_step (by repeat (first | (with_reducible first | exact HB.out | apply below_alloc | apply pw_below_drewN | apply below_drew1 | refine below_set ?_ GE188.out) | exact HB.out)) hb); clear BK188; clear HB; have BK188 := n0_; have HB := n1_; clear n0_ n1_; (try clear hb); (try clear hb2); (try clear hk); (try clear hi)))
    go_meet
    case rel => exact ⟨_, (decide (t191 ≤ 2097152)), (by first | rfl | (rw [E191.out]) | (simp; done) | (simp [*]; done)), H', ⟨by first | omega | exact Nat.le_refl _⟩, ⟨by (with_reducible repeat (first | refine blk_drewN ?_ _ | refine blk_drew ?_ | refine blk_alloc ?_ _)); exact BK188.out⟩, ⟨by repeat (first | (with_reducible first | exact HB.out | apply below_alloc | apply pw_below_drewN | apply below_drew1 | refine below_set ?_ GE188.out) | exact HB.out)⟩⟩
   ·rw [if_neg c9] at H
    have c9b0 : decide (3000 < t190) = false := decide_eq_false c9
    clear c9
    have H' := Aside0.mk H
    clear H
    have hcz15_0 : w6.cell? ⟨gb188, 0, none⟩ = some (.int .i64 a1_0) := (blk_cell BK188.out 0).trans rfl
    have hcz15_1 : w6.cell? ⟨gb188, 1, none⟩ = some (.int .i64 a1_1) := (blk_cell BK188.out 1).trans rfl
    have hcz15_2 : w6.cell? ⟨gb188, 2, none⟩ = some (.int .i64 a1_2) := (blk_cell BK188.out 2).trans rfl
    have hcz15_3 : w6.cell? ⟨gb188, 3, none⟩ = some (.int .i64 a1_3) := (blk_cell BK188.out 3).trans rfl
    have hfz15_0 := blk_frozen BK188.out 0
    have hfz15_1 := blk_frozen BK188.out 1
    have hfz15_2 := blk_frozen BK188.out 2
    have hfz15_3 := blk_frozen BK188.out 3
    go_wp2_with (first | (go_at_call 18; (with_reducible refine (vivariumref23_Size.calls a1_0 a1_1 a1_2 a1_3 t190 _ A8.out).mono ?_); rintro e w16 ⟨rfl, hb⟩; have n0_ := Aside0.mk (blk_below (g := gb188) (o := .cells #[.int .i64 a1_0, .int .i64 a1_1, .int .i64 a1_2, .int .i64 a1_3] 23 (0, 0)) (by (with_reducible repeat (first | refine blk_drewN ?_ _ | refine blk_drew ?_ | refine blk_alloc ?_ _)); exact BK188.out) hb); have n1_ := Aside0.mk (below_step (by repeat (first | (with_reducible first | exact HB.out | apply below_alloc | apply pw_below_drewN | apply below_drew1 | refine below_set ?_ GE188.out) | exact HB.out)) hb); clear BK188; clear HB; have BK188 := n0_; have HB := n1_; clear n0_ n1_; (try clear hb); (try clear hb2); (try clear hk); (try clear hi)))
    go_meet
    case rel => exact ⟨_, (false), (by first | rfl | (simp; done) | (simp [*]; done)), H', ⟨by first | omega | exact Nat.le_refl _⟩, ⟨by (with_reducible repeat (first | refine blk_drewN ?_ _ | refine blk_drew ?_ | refine blk_alloc ?_ _)); exact BK188.out⟩, ⟨by repeat (first | (with_reducible first | exact HB.out | apply below_alloc | apply pw_below_drewN | apply below_drew1 | refine below_set ?_ GE188.out) | exact HB.out)⟩⟩
 case rest =>
  clear HC4
  try clear p2
  try clear c7
  try clear c7b0
  try clear c7b1
  try clear c9
  try clear c9b0
  try clear hcz11_0
  try clear hcz11_1
  try clear hcz11_2
  try clear hcz11_3
  try clear hcz13_0
  try clear hcz13_1
  try clear hcz13_2
  try clear hcz13_3
  try clear hcz15_0
  try clear hcz15_1
  try clear hcz15_2
  try clear hcz15_3
  try clear hfz11_0
  try clear hfz11_1
  try clear hfz11_2
  try clear hfz11_3
  try clear hfz13_0
  try clear hfz13_1
  try clear hfz13_2
  try clear hfz13_3
  try clear hfz15_0
  try clear hfz15_1
  try clear hfz15_2
  try clear hfz15_3
  obtain ⟨kq, x34_3, rfl, HA, HJ3, BK188, HB⟩ := hcut
  cases kq with
  | zero => exact absurd HA.out (by simp [vivariumlaw23_PlainWrites.j0])
  | succ kj3 =>
   have H := HA.out
   clear HA
   simp only [vivariumlaw23_PlainWrites.j0] at H
   by_cases c17 : x34_3 = true
   ·subst c17
    have H1 : (some t189) = some r := by rw [if_pos rfl] at H; exact H
    clear H
    have H := H1
    clear H1
    obtain rfl := Option.some.inj H
    go_wp2
    go_ret
    exact ⟨by first | rfl | (simp [errW_none, errW_some] <;> rfl) | (simp [*, errW_none, errW_some] <;> rfl), by repeat (first | (with_reducible first | exact HB.out | apply below_alloc | apply pw_below_drewN | apply below_drew1 | refine below_set ?_ GE188.out) | exact HB.out)⟩
   ·replace c17 := Bool.eq_false_iff.mpr c17
    subst c17
    have H1 : ((vivariumlaw23_lent.f kj3 l0).bind fun t192 => ((plain_Write.f t192 a1_0 a1_1 a1_2 a1_3).bind fun bt195 => ((vivariumref23_Write.f kj3 l0 a1_0 a1_1 a1_2 a1_3).bind fun bt197 => ((plain_Halves.f t192 a1_0 a1_1 a1_2 a1_3).bind fun bt199 => ((vivariumref23_Halves.f kj3 l0 a1_0 a1_1 a1_2 a1_3).bind fun bt201 => ((vivariumlaw23_kept.f2 kj3 ((vivariumlaw23_lent.f2 kj3 l0).getD []) t192 l0).bind fun t203 => (if t189 = true then (if bt195.1.toList = bt197.1.toList then (if bt195.2 = bt197.2 then (if bt199.1.toList = bt201.1.toList then (if bt199.2 = bt201.2 then (vivariumlaw23_PlainWrites.j1 kj3 t192 (!t203) a1_0 a1_1 a1_2 a1_3) else (vivariumlaw23_PlainWrites.j1 kj3 t192 true a1_0 a1_1 a1_2 a1_3)) else (vivariumlaw23_PlainWrites.j1 kj3 t192 true a1_0 a1_1 a1_2 a1_3)) else (vivariumlaw23_PlainWrites.j1 kj3 t192 true a1_0 a1_1 a1_2 a1_3)) else (vivariumlaw23_PlainWrites.j1 kj3 t192 true a1_0 a1_1 a1_2 a1_3)) else (vivariumlaw23_PlainWrites.j1 kj3 t192 true a1_0 a1_1 a1_2 a1_3)))))))) = some r := by rw [if_neg (show ¬ (false = true) by decide)] at H; exact H
    clear H
    have H := H1
    clear H1
    replace H := Option.bind_eq_some_iff.mp H
    obtain ⟨t192, A180, H⟩ := H
    replace H : ((plain_Write.f t192 a1_0 a1_1 a1_2 a1_3).bind fun bt195 => ((vivariumref23_Write.f kj3 l0 a1_0 a1_1 a1_2 a1_3).bind fun bt197 => ((plain_Halves.f t192 a1_0 a1_1 a1_2 a1_3).bind fun bt199 => ((vivariumref23_Halves.f kj3 l0 a1_0 a1_1 a1_2 a1_3).bind fun bt201 => ((vivariumlaw23_kept.f2 kj3 ((vivariumlaw23_lent.f2 kj3 l0).getD []) t192 l0).bind fun t203 => (if t189 = true then (if bt195.1.toList = bt197.1.toList then (if bt195.2 = bt197.2 then (if bt199.1.toList = bt201.1.toList then (if bt199.2 = bt201.2 then (vivariumlaw23_PlainWrites.j1 kj3 t192 (!t203) a1_0 a1_1 a1_2 a1_3) else (vivariumlaw23_PlainWrites.j1 kj3 t192 true a1_0 a1_1 a1_2 a1_3)) else (vivariumlaw23_PlainWrites.j1 kj3 t192 true a1_0 a1_1 a1_2 a1_3)) else (vivariumlaw23_PlainWrites.j1 kj3 t192 true a1_0 a1_1 a1_2 a1_3)) else (vivariumlaw23_PlainWrites.j1 kj3 t192 true a1_0 a1_1 a1_2 a1_3)) else (vivariumlaw23_PlainWrites.j1 kj3 t192 true a1_0 a1_1 a1_2 a1_3))))))) = some r := H
    have A18 := Aside0.mk A180
    clear A180
    replace H := Option.bind_eq_some_iff.mp H
    obtain ⟨⟨t195, t196⟩, A190, H⟩ := H
    replace H : ((vivariumref23_Write.f kj3 l0 a1_0 a1_1 a1_2 a1_3).bind fun bt197 => ((plain_Halves.f t192 a1_0 a1_1 a1_2 a1_3).bind fun bt199 => ((vivariumref23_Halves.f kj3 l0 a1_0 a1_1 a1_2 a1_3).bind fun bt201 => ((vivariumlaw23_kept.f2 kj3 ((vivariumlaw23_lent.f2 kj3 l0).getD []) t192 l0).bind fun t203 => (if t189 = true then (if t195.toList = bt197.1.toList then (if t196 = bt197.2 then (if bt199.1.toList = bt201.1.toList then (if bt199.2 = bt201.2 then (vivariumlaw23_PlainWrites.j1 kj3 t192 (!t203) a1_0 a1_1 a1_2 a1_3) else (vivariumlaw23_PlainWrites.j1 kj3 t192 true a1_0 a1_1 a1_2 a1_3)) else (vivariumlaw23_PlainWrites.j1 kj3 t192 true a1_0 a1_1 a1_2 a1_3)) else (vivariumlaw23_PlainWrites.j1 kj3 t192 true a1_0 a1_1 a1_2 a1_3)) else (vivariumlaw23_PlainWrites.j1 kj3 t192 true a1_0 a1_1 a1_2 a1_3)) else (vivariumlaw23_PlainWrites.j1 kj3 t192 true a1_0 a1_1 a1_2 a1_3)))))) = some r := H
    have A19 := Aside0.mk A190
    clear A190
    replace H := Option.bind_eq_some_iff.mp H
    obtain ⟨⟨t197, t198⟩, A200, H⟩ := H
    replace H : ((plain_Halves.f t192 a1_0 a1_1 a1_2 a1_3).bind fun bt199 => ((vivariumref23_Halves.f kj3 l0 a1_0 a1_1 a1_2 a1_3).bind fun bt201 => ((vivariumlaw23_kept.f2 kj3 ((vivariumlaw23_lent.f2 kj3 l0).getD []) t192 l0).bind fun t203 => (if t189 = true then (if t195.toList = t197.toList then (if t196 = t198 then (if bt199.1.toList = bt201.1.toList then (if bt199.2 = bt201.2 then (vivariumlaw23_PlainWrites.j1 kj3 t192 (!t203) a1_0 a1_1 a1_2 a1_3) else (vivariumlaw23_PlainWrites.j1 kj3 t192 true a1_0 a1_1 a1_2 a1_3)) else (vivariumlaw23_PlainWrites.j1 kj3 t192 true a1_0 a1_1 a1_2 a1_3)) else (vivariumlaw23_PlainWrites.j1 kj3 t192 true a1_0 a1_1 a1_2 a1_3)) else (vivariumlaw23_PlainWrites.j1 kj3 t192 true a1_0 a1_1 a1_2 a1_3)) else (vivariumlaw23_PlainWrites.j1 kj3 t192 true a1_0 a1_1 a1_2 a1_3))))) = some r := H
    have A20 := Aside0.mk A200
    clear A200
    replace H := Option.bind_eq_some_iff.mp H
    obtain ⟨⟨t199, t200⟩, A210, H⟩ := H
    replace H : ((vivariumref23_Halves.f kj3 l0 a1_0 a1_1 a1_2 a1_3).bind fun bt201 => ((vivariumlaw23_kept.f2 kj3 ((vivariumlaw23_lent.f2 kj3 l0).getD []) t192 l0).bind fun t203 => (if t189 = true then (if t195.toList = t197.toList then (if t196 = t198 then (if t199.toList = bt201.1.toList then (if t200 = bt201.2 then (vivariumlaw23_PlainWrites.j1 kj3 t192 (!t203) a1_0 a1_1 a1_2 a1_3) else (vivariumlaw23_PlainWrites.j1 kj3 t192 true a1_0 a1_1 a1_2 a1_3)) else (vivariumlaw23_PlainWrites.j1 kj3 t192 true a1_0 a1_1 a1_2 a1_3)) else (vivariumlaw23_PlainWrites.j1 kj3 t192 true a1_0 a1_1 a1_2 a1_3)) else (vivariumlaw23_PlainWrites.j1 kj3 t192 true a1_0 a1_1 a1_2 a1_3)) else (vivariumlaw23_PlainWrites.j1 kj3 t192 true a1_0 a1_1 a1_2 a1_3)))) = some r := H
    have A21 := Aside0.mk A210
    clear A210
    replace H := Option.bind_eq_some_iff.mp H
    obtain ⟨⟨t201, t202⟩, A220, H⟩ := H
    replace H : ((vivariumlaw23_kept.f2 kj3 ((vivariumlaw23_lent.f2 kj3 l0).getD []) t192 l0).bind fun t203 => (if t189 = true then (if t195.toList = t197.toList then (if t196 = t198 then (if t199.toList = t201.toList then (if t200 = t202 then (vivariumlaw23_PlainWrites.j1 kj3 t192 (!t203) a1_0 a1_1 a1_2 a1_3) else (vivariumlaw23_PlainWrites.j1 kj3 t192 true a1_0 a1_1 a1_2 a1_3)) else (vivariumlaw23_PlainWrites.j1 kj3 t192 true a1_0 a1_1 a1_2 a1_3)) else (vivariumlaw23_PlainWrites.j1 kj3 t192 true a1_0 a1_1 a1_2 a1_3)) else (vivariumlaw23_PlainWrites.j1 kj3 t192 true a1_0 a1_1 a1_2 a1_3)) else (vivariumlaw23_PlainWrites.j1 kj3 t192 true a1_0 a1_1 a1_2 a1_3))) = some r := H
    have A22 := Aside0.mk A220
    clear A220
    replace H := Option.bind_eq_some_iff.mp H
    obtain ⟨t203, A230, H⟩ := H
    replace H : (if t189 = true then (if t195.toList = t197.toList then (if t196 = t198 then (if t199.toList = t201.toList then (if t200 = t202 then (vivariumlaw23_PlainWrites.j1 kj3 t192 (!t203) a1_0 a1_1 a1_2 a1_3) else (vivariumlaw23_PlainWrites.j1 kj3 t192 true a1_0 a1_1 a1_2 a1_3)) else (vivariumlaw23_PlainWrites.j1 kj3 t192 true a1_0 a1_1 a1_2 a1_3)) else (vivariumlaw23_PlainWrites.j1 kj3 t192 true a1_0 a1_1 a1_2 a1_3)) else (vivariumlaw23_PlainWrites.j1 kj3 t192 true a1_0 a1_1 a1_2 a1_3)) else (vivariumlaw23_PlainWrites.j1 kj3 t192 true a1_0 a1_1 a1_2 a1_3)) = some r := H
    have A23 := Aside0.mk A230
    clear A230
    have HC24 := Aside0.mk H
    clear H
    go_upto_region 10 with (first | ((with_reducible refine gate_callee (f := 19) rfl ?_); refine goesL_ (some 37) rfl rfl Try.func19 (by kernel_rfl) rfl #[.slice A0 l0.length c0] rfl (by (try simp only [List.map_toArray, List.map_cons, List.map_nil]); first | done | rfl | (simp only [List.length_drop, List.length_take]; rfl)) ?_; (with_reducible refine (vivariumlaw23_lent.calls2 kj3 _ _ l0 t192 _ ?side1 ?side2 A18.out).mono ?_); (case side1 => repeat (first | exact (Kd.C_below HR0.out HB.out) | (with_reducible refine Kd.C_alloc ?_ _) | (with_reducible refine Kd.C_drewN ?_ _) | (with_reducible refine Kd.C_drew ?_))); (case side2 => exact HC0.out); rintro e w25 ⟨v193, rfl, ho0, hmk0, hb⟩; have HMK := Aside0.mk hmk0; clear hmk0; refine ⟨_, rfl, ?_⟩; have n0_ := Aside0.mk (Kd.R_lower ho0 (below_size (by repeat (first | (with_reducible first | exact HB.out | apply below_alloc | apply pw_below_drewN | apply below_drew1 | refine below_set ?_ GE188.out) | exact HB.out)))); have n1_ := Aside0.mk (blk_below (g := gb188) (o := .cells #[.int .i64 a1_0, .int .i64 a1_1, .int .i64 a1_2, .int .i64 a1_3] 23 (0, 0)) (by (with_reducible repeat (first | refine blk_drewN ?_ _ | refine blk_drew ?_ | refine blk_alloc ?_ _)); exact BK188.out) hb); have n2_ := Aside0.mk (below_step (by repeat (first | (with_reducible first | exact HB.out | apply below_alloc | apply pw_below_drewN | apply below_drew1 | refine below_set ?_ GE188.out) | exact HB.out)) hb); clear BK188; clear HB; have HO194 := n0_; have BK188 := n1_; have HB := n2_; clear n0_ n1_ n2_; (try clear hb); (try clear hb2); (try clear hk); (try clear hi); (try clear ho0); have hcz26_0 : w25.cell? ⟨gb188, 0, none⟩ = some (.int .i64 a1_0) := (blk_cell BK188.out 0).trans rfl; have hcz26_1 : w25.cell? ⟨gb188, 1, none⟩ = some (.int .i64 a1_1) := (blk_cell BK188.out 1).trans rfl; have hcz26_2 : w25.cell? ⟨gb188, 2, none⟩ = some (.int .i64 a1_2) := (blk_cell BK188.out 2).trans rfl; have hcz26_3 : w25.cell? ⟨gb188, 3, none⟩ = some (.int .i64 a1_3) := (blk_cell BK188.out 3).trans rfl; have hfz26_0 := blk_frozen BK188.out 0; have hfz26_1 := blk_frozen BK188.out 1; have hfz26_2 := blk_frozen BK188.out 2; have hfz26_3 := blk_frozen BK188.out 3; obtain ⟨Ao27, co27, eo27⟩ := Kd.R_slice HO194.out; subst eo27; have HMC := Aside0.mk (marked_C HMK.out); clear HMK) | ((with_reducible refine gate_callee (f := 12) rfl ?_); refine goesL_ (some 41) rfl rfl Try.func12 (by kernel_rfl) rfl #[.slice Ao27 t192.length co27, .agg #[.int .i64 a1_0, .int .i64 a1_1, .int .i64 a1_2, .int .i64 a1_3]] rfl (by (try simp only [List.map_toArray, List.map_cons, List.map_nil]); first | done | rfl | (simp only [List.length_drop, List.length_take]; rfl)) ?_; (with_reducible refine (plain_Write.calls _ _ t192 a1_0 a1_1 a1_2 a1_3 t195 t196 _ ?side1 ?side2 A19.out).mono ?_); (case side1 => repeat (first | exact (Kd.R_reads' HO194.out).2.2 | (with_reducible refine Kd.C_alloc ?_ _) | (with_reducible refine Kd.C_drewN ?_ _) | (with_reducible refine Kd.C_drew ?_))); (case side2 => exact (Kd.R_reads' HO194.out).2.1); rintro e w28 ⟨rfl, hb⟩; have nm_ := Aside0.mk (And.intro (Kd.C_below (by (with_reducible repeat (first | refine Kd.C_alloc ?_ _ | refine Kd.C_drewN ?_ _ | refine Kd.C_drew ?_)); exact HMC.out.1) hb) HMC.out.2); clear HMC; have HMC := nm_; clear nm_; refine ⟨_, rfl, ?_⟩; have n0_ := Aside0.mk (Kd.R_below (by (with_reducible repeat (first | apply Kd.R_alloc | apply Kd.R_drewN | apply Kd.R_drew)); exact HO194.out) hb); have n1_ := Aside0.mk (blk_below (g := gb188) (o := .cells #[.int .i64 a1_0, .int .i64 a1_1, .int .i64 a1_2, .int .i64 a1_3] 23 (0, 0)) (by (with_reducible repeat (first | refine blk_drewN ?_ _ | refine blk_drew ?_ | refine blk_alloc ?_ _)); exact BK188.out) hb); have n2_ := Aside0.mk (below_step (by repeat (first | (with_reducible first | exact HB.out | apply below_alloc | apply pw_below_drewN | apply below_drew1 | refine below_set ?_ GE188.out) | exact HB.out)) hb); clear HO194; clear BK188; clear HB; have HO194 := n0_; have BK188 := n1_; have HB := n2_; clear n0_ n1_ n2_; (try clear hb); (try clear hb2); (try clear hk); (try clear hi); have hcz29_0 : w28.cell? ⟨gb188, 0, none⟩ = some (.int .i64 a1_0) := (blk_cell BK188.out 0).trans rfl; have hcz29_1 : w28.cell? ⟨gb188, 1, none⟩ = some (.int .i64 a1_1) := (blk_cell BK188.out 1).trans rfl; have hcz29_2 : w28.cell? ⟨gb188, 2, none⟩ = some (.int .i64 a1_2) := (blk_cell BK188.out 2).trans rfl; have hcz29_3 : w28.cell? ⟨gb188, 3, none⟩ = some (.int .i64 a1_3) := (blk_cell BK188.out 3).trans rfl; have hfz29_0 := blk_frozen BK188.out 0; have hfz29_1 := blk_frozen BK188.out 1; have hfz29_2 := blk_frozen BK188.out 2; have hfz29_3 := blk_frozen BK188.out 3) | ((with_reducible refine gate_callee (f := 20) rfl ?_); refine goesL_ (some 47) rfl rfl Try.func20 (by kernel_rfl) rfl #[.slice A0 l0.length c0, .agg #[.int .i64 a1_0, .int .i64 a1_1, .int .i64 a1_2, .int .i64 a1_3]] rfl (by (try simp only [List.map_toArray, List.map_cons, List.map_nil]); first | done | rfl | (simp only [List.length_drop, List.length_take]; rfl)) ?_; (with_reducible refine (vivariumref23_Write.calls kj3 _ _ l0 a1_0 a1_1 a1_2 a1_3 t197 t198 _ ?side1 ?side2 A20.out).mono ?_); (case side1 => repeat (first | exact (Kd.C_below HR0.out HB.out) | (with_reducible refine Kd.C_alloc ?_ _) | (with_reducible refine Kd.C_drewN ?_ _) | (with_reducible refine Kd.C_drew ?_))); (case side2 => exact HC0.out); rintro e w30 ⟨rfl, hb⟩; have nm_ := Aside0.mk (And.intro (Kd.C_below (by (with_reducible repeat (first | refine Kd.C_alloc ?_ _ | refine Kd.C_drewN ?_ _ | refine Kd.C_drew ?_)); exact HMC.out.1) hb) HMC.out.2); clear HMC; have HMC := nm_; clear nm_; refine ⟨_, rfl, ?_⟩; have n0_ := Aside0.mk (Kd.R_below (by (with_reducible repeat (first | apply Kd.R_alloc | apply Kd.R_drewN | apply Kd.R_drew)); exact HO194.out) hb); have n1_ := Aside0.mk (blk_below (g := gb188) (o := .cells #[.int .i64 a1_0, .int .i64 a1_1, .int .i64 a1_2, .int .i64 a1_3] 23 (0, 0)) (by (with_reducible repeat (first | refine blk_drewN ?_ _ | refine blk_drew ?_ | refine blk_alloc ?_ _)); exact BK188.out) hb); have n2_ := Aside0.mk (below_step (by repeat (first | (with_reducible first | exact HB.out | apply below_alloc | apply pw_below_drewN | apply below_drew1 | refine below_set ?_ GE188.out) | exact HB.out)) hb); clear HO194; clear BK188; clear HB; have HO194 := n0_; have BK188 := n1_; have HB := n2_; clear n0_ n1_ n2_; (try clear hb); (try clear hb2); (try clear hk); (try clear hi); have hcz31_0 : w30.cell? ⟨gb188, 0, none⟩ = some (.int .i64 a1_0) := (blk_cell BK188.out 0).trans rfl; have hcz31_1 : w30.cell? ⟨gb188, 1, none⟩ = some (.int .i64 a1_1) := (blk_cell BK188.out 1).trans rfl; have hcz31_2 : w30.cell? ⟨gb188, 2, none⟩ = some (.int .i64 a1_2) := (blk_cell BK188.out 2).trans rfl; have hcz31_3 : w30.cell? ⟨gb188, 3, none⟩ = some (.int .i64 a1_3) := (blk_cell BK188.out 3).trans rfl; have hfz31_0 := blk_frozen BK188.out 0; have hfz31_1 := blk_frozen BK188.out 1; have hfz31_2 := blk_frozen BK188.out 2; have hfz31_3 := blk_frozen BK188.out 3) | ((with_reducible refine gate_callee (f := 17) rfl ?_); refine goesL_ (some 53) rfl rfl Try.func17 (by kernel_rfl) rfl #[.slice Ao27 t192.length co27, .agg #[.int .i64 a1_0, .int .i64 a1_1, .int .i64 a1_2, .int .i64 a1_3]] rfl (by (try simp only [List.map_toArray, List.map_cons, List.map_nil]); first | done | rfl | (simp only [List.length_drop, List.length_take]; rfl)) ?_; (with_reducible refine (plain_Halves.calls _ _ t192 a1_0 a1_1 a1_2 a1_3 t199 t200 _ ?side1 ?side2 A21.out).mono ?_); (case side1 => repeat (first | exact (Kd.R_reads' HO194.out).2.2 | (with_reducible refine Kd.C_alloc ?_ _) | (with_reducible refine Kd.C_drewN ?_ _) | (with_reducible refine Kd.C_drew ?_))); (case side2 => exact (Kd.R_reads' HO194.out).2.1); rintro e w32 ⟨rfl, hb⟩; have nm_ := Aside0.mk (And.intro (Kd.C_below (by (with_reducible repeat (first | refine Kd.C_alloc ?_ _ | refine Kd.C_drewN ?_ _ | refine Kd.C_drew ?_)); exact HMC.out.1) hb) HMC.out.2); clear HMC; have HMC := nm_; clear nm_; refine ⟨_, rfl, ?_⟩; have n0_ := Aside0.mk (Kd.R_below (by (with_reducible repeat (first | apply Kd.R_alloc | apply Kd.R_drewN | apply Kd.R_drew)); exact HO194.out) hb); have n1_ := Aside0.mk (blk_below (g := gb188) (o := .cells #[.int .i64 a1_0, .int .i64 a1_1, .int .i64 a1_2, .int .i64 a1_3] 23 (0, 0)) (by (with_reducible repeat (first | refine blk_drewN ?_ _ | refine blk_drew ?_ | refine blk_alloc ?_ _)); exact BK188.out) hb); have n2_ := Aside0.mk (below_step (by repeat (first | (with_reducible first | exact HB.out | apply below_alloc | apply pw_below_drewN | apply below_drew1 | refine below_set ?_ GE188.out) | exact HB.out)) hb); clear HO194; clear BK188; clear HB; have HO194 := n0_; have BK188 := n1_; have HB := n2_; clear n0_ n1_ n2_; (try clear hb); (try clear hb2); (try clear hk); (try clear hi); have hcz33_0 : w32.cell? ⟨gb188, 0, none⟩ = some (.int .i64 a1_0) := (blk_cell BK188.out 0).trans rfl; have hcz33_1 : w32.cell? ⟨gb188, 1, none⟩ = some (.int .i64 a1_1) := (blk_cell BK188.out 1).trans rfl; have hcz33_2 : w32.cell? ⟨gb188, 2, none⟩ = some (.int .i64 a1_2) := (blk_cell BK188.out 2).trans rfl; have hcz33_3 : w32.cell? ⟨gb188, 3, none⟩ = some (.int .i64 a1_3) := (blk_cell BK188.out 3).trans rfl; have hfz33_0 := blk_frozen BK188.out 0; have hfz33_1 := blk_frozen BK188.out 1; have hfz33_2 := blk_frozen BK188.out 2; have hfz33_3 := blk_frozen BK188.out 3) | ((with_reducible refine gate_callee (f := 21) rfl ?_); refine goesL_ (some 59) rfl rfl Try.func21 (by kernel_rfl) rfl #[.slice A0 l0.length c0, .agg #[.int .i64 a1_0, .int .i64 a1_1, .int .i64 a1_2, .int .i64 a1_3]] rfl (by (try simp only [List.map_toArray, List.map_cons, List.map_nil]); first | done | rfl | (simp only [List.length_drop, List.length_take]; rfl)) ?_; (with_reducible refine (vivariumref23_Halves.calls kj3 _ _ l0 a1_0 a1_1 a1_2 a1_3 t201 t202 _ ?side1 ?side2 A22.out).mono ?_); (case side1 => repeat (first | exact (Kd.C_below HR0.out HB.out) | (with_reducible refine Kd.C_alloc ?_ _) | (with_reducible refine Kd.C_drewN ?_ _) | (with_reducible refine Kd.C_drew ?_))); (case side2 => exact HC0.out); rintro e w34 ⟨rfl, hb⟩; have nm_ := Aside0.mk (And.intro (Kd.C_below (by (with_reducible repeat (first | refine Kd.C_alloc ?_ _ | refine Kd.C_drewN ?_ _ | refine Kd.C_drew ?_)); exact HMC.out.1) hb) HMC.out.2); clear HMC; have HMC := nm_; clear nm_; refine ⟨_, rfl, ?_⟩; have n0_ := Aside0.mk (Kd.R_below (by (with_reducible repeat (first | apply Kd.R_alloc | apply Kd.R_drewN | apply Kd.R_drew)); exact HO194.out) hb); have n1_ := Aside0.mk (blk_below (g := gb188) (o := .cells #[.int .i64 a1_0, .int .i64 a1_1, .int .i64 a1_2, .int .i64 a1_3] 23 (0, 0)) (by (with_reducible repeat (first | refine blk_drewN ?_ _ | refine blk_drew ?_ | refine blk_alloc ?_ _)); exact BK188.out) hb); have n2_ := Aside0.mk (below_step (by repeat (first | (with_reducible first | exact HB.out | apply below_alloc | apply pw_below_drewN | apply below_drew1 | refine below_set ?_ GE188.out) | exact HB.out)) hb); clear HO194; clear BK188; clear HB; have HO194 := n0_; have BK188 := n1_; have HB := n2_; clear n0_ n1_ n2_; (try clear hb); (try clear hb2); (try clear hk); (try clear hi)) | ((with_reducible refine gate_callee (f := 22) rfl ?_); refine goesL_ (some 64) rfl rfl Try.func22 (by kernel_rfl) rfl #[.slice Ao27 t192.length co27, .slice A0 l0.length c0] rfl (by (try simp only [List.map_toArray, List.map_cons, List.map_nil]); first | done | rfl | (simp only [List.length_drop, List.length_take]; rfl)) ?_; (with_reducible refine (vivariumlaw23_kept.calls2 kj3 ((vivariumlaw23_lent.f2 kj3 l0).getD []) _ _ t192 _ _ l0 t203 _ ?side1 ?side2 ?side3 ?side4 ?sideA ?sideB A23.out).mono ?_); (case sideA => (with_reducible repeat (first | refine Kd.C_alloc ?_ _ | refine Kd.C_drewN ?_ _ | refine Kd.C_drew ?_)); exact HMC.out.1); (case sideB => exact HMC.out.2); (case side1 => repeat (first | exact (Kd.R_reads' HO194.out).2.2 | (with_reducible refine Kd.C_alloc ?_ _) | (with_reducible refine Kd.C_drewN ?_ _) | (with_reducible refine Kd.C_drew ?_))); (case side2 => exact (Kd.R_reads' HO194.out).2.1); (case side3 => repeat (first | exact (Kd.C_below HR0.out HB.out) | (with_reducible refine Kd.C_alloc ?_ _) | (with_reducible refine Kd.C_drewN ?_ _) | (with_reducible refine Kd.C_drew ?_))); (case side4 => exact HC0.out); rintro e w' ⟨rfl, ⟨nd, rfl⟩⟩; refine ⟨_, rfl, ?_⟩))
    (try simp only [Act.put, List.setIfInBounds_toArray, List.set_cons_zero, List.set_cons_succ])
    go_cut [90] (fun v90 wc => ∃ (kq : Nat) (x90_23 : Bool), v90 = .bool x90_23 ∧ Aside0 (vivariumlaw23_PlainWrites.j1 kq t192 x90_23 a1_0 a1_1 a1_2 a1_3 = some r) ∧ Aside0 (kq ≤ kj3) ∧ Aside0 (Kd.R k35 35 wc w.heap.size (fun _ => True) (.slice Ao27 t192.length co27) t192) ∧ Aside0 (wc.heap[gb188]? = some (.cells #[.int .i64 a1_0, .int .i64 a1_1, .int .i64 a1_2, .int .i64 a1_3] 23 (0, 0))) ∧ Aside0 (Below w.heap.size w wc))
    case first =>
     have H := HC24.out
     clear HC24
     by_cases c35 : t189 = true
     ·subst c35
      have H1 : (if t195.toList = t197.toList then (if t196 = t198 then (if t199.toList = t201.toList then (if t200 = t202 then (vivariumlaw23_PlainWrites.j1 kj3 t192 (!t203) a1_0 a1_1 a1_2 a1_3) else (vivariumlaw23_PlainWrites.j1 kj3 t192 true a1_0 a1_1 a1_2 a1_3)) else (vivariumlaw23_PlainWrites.j1 kj3 t192 true a1_0 a1_1 a1_2 a1_3)) else (vivariumlaw23_PlainWrites.j1 kj3 t192 true a1_0 a1_1 a1_2 a1_3)) else (vivariumlaw23_PlainWrites.j1 kj3 t192 true a1_0 a1_1 a1_2 a1_3)) = some r := by rw [if_pos rfl] at H; exact H
      clear H
      have H := H1
      clear H1
      by_cases c36 : t195.toList = t197.toList
      ·rw [if_pos c36] at H
       have c36b0 : (t195.toList == t197.toList) = true := beq_iff_eq.mpr c36
       have c36b1 : (t195.toList != t197.toList) = false := bne_eq_false_iff_eq.mpr c36
       clear c36
       (first | rw [c36b0] | (simp only [i64_w, i32_w]; rw [c36b0]) | skip)
       by_cases c37 : t196 = t198
       ·rw [if_pos c37] at H
        have c37b0 : (t196 == t198) = true := beq_iff_eq.mpr c37
        have c37b1 : (t196 != t198) = false := bne_eq_false_iff_eq.mpr c37
        clear c37
        by_cases c38 : t199.toList = t201.toList
        ·rw [if_pos c38] at H
         have c38b0 : (t199.toList == t201.toList) = true := beq_iff_eq.mpr c38
         have c38b1 : (t199.toList != t201.toList) = false := bne_eq_false_iff_eq.mpr c38
         clear c38
         by_cases c39 : t200 = t202
         ·rw [if_pos c39] at H
          have c39b0 : (t200 == t202) = true := beq_iff_eq.mpr c39
          have c39b1 : (t200 != t202) = false := bne_eq_false_iff_eq.mpr c39
          clear c39
          have H' := Aside0.mk H
          clear H
          go_wp2
          go_meet
          case rel => exact ⟨_, (!t203), (by first | rfl | (simp; done) | (simp [*]; done)), H', ⟨by have := HJ3.out; first | omega | exact Nat.le_refl _⟩, ⟨by (with_reducible repeat (first | apply Kd.R_alloc | apply Kd.R_drewN | apply Kd.R_drew)); exact HO194.out⟩, ⟨by (with_reducible repeat (first | refine blk_drewN ?_ _ | refine blk_drew ?_ | refine blk_alloc ?_ _)); exact BK188.out⟩, ⟨by repeat (first | (with_reducible first | exact HB.out | apply below_alloc | apply pw_below_drewN | apply below_drew1 | refine below_set ?_ GE188.out) | exact HB.out)⟩⟩
         ·rw [if_neg c39] at H
          have c39b0 : (t200 == t202) = false := beq_eq_false_iff_ne.mpr c39
          have c39b1 : (t200 != t202) = true := bne_iff_ne.mpr c39
          have H' := Aside0.mk H
          clear H
          go_wp2
          go_meet
          case rel => exact ⟨_, (true), (by first | rfl | (simp; done) | (simp [*]; done)), H', ⟨by have := HJ3.out; first | omega | exact Nat.le_refl _⟩, ⟨by (with_reducible repeat (first | apply Kd.R_alloc | apply Kd.R_drewN | apply Kd.R_drew)); exact HO194.out⟩, ⟨by (with_reducible repeat (first | refine blk_drewN ?_ _ | refine blk_drew ?_ | refine blk_alloc ?_ _)); exact BK188.out⟩, ⟨by repeat (first | (with_reducible first | exact HB.out | apply below_alloc | apply pw_below_drewN | apply below_drew1 | refine below_set ?_ GE188.out) | exact HB.out)⟩⟩
        ·rw [if_neg c38] at H
         have c38b0 : (t199.toList == t201.toList) = false := beq_eq_false_iff_ne.mpr c38
         have c38b1 : (t199.toList != t201.toList) = true := bne_iff_ne.mpr c38
         have H' := Aside0.mk H
         clear H
         go_wp2
         go_meet
         case rel => exact ⟨_, (true), (by first | rfl | (simp; done) | (simp [*]; done)), H', ⟨by have := HJ3.out; first | omega | exact Nat.le_refl _⟩, ⟨by (with_reducible repeat (first | apply Kd.R_alloc | apply Kd.R_drewN | apply Kd.R_drew)); exact HO194.out⟩, ⟨by (with_reducible repeat (first | refine blk_drewN ?_ _ | refine blk_drew ?_ | refine blk_alloc ?_ _)); exact BK188.out⟩, ⟨by repeat (first | (with_reducible first | exact HB.out | apply below_alloc | apply pw_below_drewN | apply below_drew1 | refine below_set ?_ GE188.out) | exact HB.out)⟩⟩
       ·rw [if_neg c37] at H
        have c37b0 : (t196 == t198) = false := beq_eq_false_iff_ne.mpr c37
        have c37b1 : (t196 != t198) = true := bne_iff_ne.mpr c37
        have H' := Aside0.mk H
        clear H
        go_wp2
        go_meet
        case rel => exact ⟨_, (true), (by first | rfl | (simp; done) | (simp [*]; done)), H', ⟨by have := HJ3.out; first | omega | exact Nat.le_refl _⟩, ⟨by (with_reducible repeat (first | apply Kd.R_alloc | apply Kd.R_drewN | apply Kd.R_drew)); exact HO194.out⟩, ⟨by (with_reducible repeat (first | refine blk_drewN ?_ _ | refine blk_drew ?_ | refine blk_alloc ?_ _)); exact BK188.out⟩, ⟨by repeat (first | (with_reducible first | exact HB.out | apply below_alloc | apply pw_below_drewN | apply below_drew1 | refine below_set ?_ GE188.out) | exact HB.out)⟩⟩
      ·rw [if_neg c36] at H
       have c36b0 : (t195.toList == t197.toList) = false := beq_eq_false_iff_ne.mpr c36
       have c36b1 : (t195.toList != t197.toList) = true := bne_iff_ne.mpr c36
       (first | rw [c36b0] | (simp only [i64_w, i32_w]; rw [c36b0]) | skip)
       have H' := Aside0.mk H
       clear H
       go_wp2
       go_meet
       case rel => exact ⟨_, (true), (by first | rfl | (simp; done) | (simp [*]; done)), H', ⟨by have := HJ3.out; first | omega | exact Nat.le_refl _⟩, ⟨by (with_reducible repeat (first | apply Kd.R_alloc | apply Kd.R_drewN | apply Kd.R_drew)); exact HO194.out⟩, ⟨by (with_reducible repeat (first | refine blk_drewN ?_ _ | refine blk_drew ?_ | refine blk_alloc ?_ _)); exact BK188.out⟩, ⟨by repeat (first | (with_reducible first | exact HB.out | apply below_alloc | apply pw_below_drewN | apply below_drew1 | refine below_set ?_ GE188.out) | exact HB.out)⟩⟩
     ·replace c35 := Bool.eq_false_iff.mpr c35
      subst c35
      have H1 : (vivariumlaw23_PlainWrites.j1 kj3 t192 true a1_0 a1_1 a1_2 a1_3) = some r := by rw [if_neg (show ¬ (false = true) by decide)] at H; exact H
      clear H
      have H := H1
      clear H1
      have H' := Aside0.mk H
      clear H
      go_wp2
      go_meet
      case rel => exact ⟨_, (true), (by first | rfl | (simp; done) | (simp [*]; done)), H', ⟨by have := HJ3.out; first | omega | exact Nat.le_refl _⟩, ⟨by (with_reducible repeat (first | apply Kd.R_alloc | apply Kd.R_drewN | apply Kd.R_drew)); exact HO194.out⟩, ⟨by (with_reducible repeat (first | refine blk_drewN ?_ _ | refine blk_drew ?_ | refine blk_alloc ?_ _)); exact BK188.out⟩, ⟨by repeat (first | (with_reducible first | exact HB.out | apply below_alloc | apply pw_below_drewN | apply below_drew1 | refine below_set ?_ GE188.out) | exact HB.out)⟩⟩
    case rest =>
     clear HC24
     try clear c1
     try clear c2
     try clear p2
     try clear c3
     try clear c7
     try clear c7b0
     try clear c7b1
     try clear c9
     try clear c9b0
     try clear c12
     try clear c17
     try clear c19
     try clear c20
     try clear c21
     try clear c22
     try clear c35
     try clear c36
     try clear c36b0
     try clear c36b1
     try clear c37
     try clear c37b0
     try clear c37b1
     try clear c38
     try clear c38b0
     try clear c38b1
     try clear c39
     try clear c39b0
     try clear c39b1
     try clear hcz11_0
     try clear hcz11_1
     try clear hcz11_2
     try clear hcz11_3
     try clear hcz13_0
     try clear hcz13_1
     try clear hcz13_2
     try clear hcz13_3
     try clear hcz15_0
     try clear hcz15_1
     try clear hcz15_2
     try clear hcz15_3
     try clear hcz26_0
     try clear hcz26_1
     try clear hcz26_2
     try clear hcz26_3
     try clear hcz29_0
     try clear hcz29_1
     try clear hcz29_2
     try clear hcz29_3
     try clear hcz31_0
     try clear hcz31_1
     try clear hcz31_2
     try clear hcz31_3
     try clear hcz33_0
     try clear hcz33_1
     try clear hcz33_2
     try clear hcz33_3
     try clear hfz11_0
     try clear hfz11_1
     try clear hfz11_2
     try clear hfz11_3
     try clear hfz13_0
     try clear hfz13_1
     try clear hfz13_2
     try clear hfz13_3
     try clear hfz15_0
     try clear hfz15_1
     try clear hfz15_2
     try clear hfz15_3
     try clear hfz26_0
     try clear hfz26_1
     try clear hfz26_2
     try clear hfz26_3
     try clear hfz29_0
     try clear hfz29_1
     try clear hfz29_2
     try clear hfz29_3
     try clear hfz31_0
     try clear hfz31_1
     try clear hfz31_2
     try clear hfz31_3
     try clear hfz33_0
     try clear hfz33_1
     try clear hfz33_2
     try clear hfz33_3
     try clear p2
     obtain ⟨kq, x90_23, rfl, HA, HJ23, HO_6, BK188, HB⟩ := hcut
     cases kq with
     | zero => exact absurd HA.out (by simp [vivariumlaw23_PlainWrites.j1])
     | succ kj23 =>
      have H := HA.out
      clear HA
      simp only [vivariumlaw23_PlainWrites.j1] at H
      by_cases c40 : x90_23 = true
      ·subst c40
       have H1 : (some false) = some r := by rw [if_pos rfl] at H; exact H
       clear H
       have H := H1
       clear H1
       obtain rfl := Option.some.inj H
       go_wp2
       go_ret
       exact ⟨by first | rfl | (simp [errW_none, errW_some] <;> rfl) | (simp [*, errW_none, errW_some] <;> rfl), by repeat (first | (with_reducible first | exact HB.out | apply below_alloc | apply pw_below_drewN | apply below_drew1 | refine below_set ?_ GE188.out) | exact HB.out)⟩
      ·replace c40 := Bool.eq_false_iff.mpr c40
       subst c40
       have H1 : (vivariumlaw23_PlainWrites.l0 kj23 t192 0 a1_0 a1_1 a1_2 a1_3) = some r := by rw [if_neg (show ¬ (false = true) by decide)] at H; exact H
       clear H
       have H := H1
       clear H1
       have H' := Aside0.mk H
       clear H
       go_wp2
       go_loopg [16] kj23 (fun kq v16 w' => ∃ (x6_3 : List (S35)) (x16_3 : Int), v16 = .int .i64 x16_3 ∧ Aside0 (vivariumlaw23_PlainWrites.l0 kq x6_3 x16_3 a1_0 a1_1 a1_2 a1_3 = some r) ∧ Aside0 (kq ≤ kj23) ∧ Aside0 (Kd.R k35 35 w' w.heap.size (fun _ => True) (.slice Ao27 t192.length co27) x6_3) ∧ Aside0 (w'.heap[gb188]? = some (.cells #[.int .i64 a1_0, .int .i64 a1_1, .int .i64 a1_2, .int .i64 a1_3] 23 (0, 0))) ∧ Aside0 (Below w.heap.size w w'))
       case atStart => exact ⟨(t192), (0), (by first | rfl | (simp; done) | (simp [*]; done)), H', ⟨Nat.le_refl _⟩, ⟨by (with_reducible repeat (first | apply Kd.R_alloc | apply Kd.R_drewN | apply Kd.R_drew)); exact HO_6.out⟩, ⟨by (with_reducible repeat (first | refine blk_drewN ?_ _ | refine blk_drew ?_ | refine blk_alloc ?_ _)); exact BK188.out⟩, ⟨by repeat (first | (with_reducible first | exact HB.out | apply below_alloc | apply pw_below_drewN | apply below_drew1 | refine below_set ?_ GE188.out) | exact HB.out)⟩⟩
       case round =>
        clear H'
        try clear c1
        try clear c2
        try clear p2
        try clear c3
        try clear c4
        try clear c7
        try clear c7b0
        try clear c7b1
        try clear c9
        try clear c9b0
        try clear c12
        try clear c17
        try clear c19
        try clear c20
        try clear c21
        try clear c22
        try clear c35
        try clear c36
        try clear c36b0
        try clear c36b1
        try clear c37
        try clear c37b0
        try clear c37b1
        try clear c38
        try clear c38b0
        try clear c38b1
        try clear c39
        try clear c39b0
        try clear c39b1
        try clear c40
        try clear hcz11_0
        try clear hcz11_1
        try clear hcz11_2
        try clear hcz11_3
        try clear hcz13_0
        try clear hcz13_1
        try clear hcz13_2
        try clear hcz13_3
        try clear hcz15_0
        try clear hcz15_1
        try clear hcz15_2
        try clear hcz15_3
        try clear hcz26_0
        try clear hcz26_1
        try clear hcz26_2
        try clear hcz26_3
        try clear hcz29_0
        try clear hcz29_1
        try clear hcz29_2
        try clear hcz29_3
        try clear hcz31_0
        try clear hcz31_1
        try clear hcz31_2
        try clear hcz31_3
        try clear hcz33_0
        try clear hcz33_1
        try clear hcz33_2
        try clear hcz33_3
        try clear hfz11_0
        try clear hfz11_1
        try clear hfz11_2
        try clear hfz11_3
        try clear hfz13_0
        try clear hfz13_1
        try clear hfz13_2
        try clear hfz13_3
        try clear hfz15_0
        try clear hfz15_1
        try clear hfz15_2
        try clear hfz15_3
        try clear hfz26_0
        try clear hfz26_1
        try clear hfz26_2
        try clear hfz26_3
        try clear hfz29_0
        try clear hfz29_1
        try clear hfz29_2
        try clear hfz29_3
        try clear hfz31_0
        try clear hfz31_1
        try clear hfz31_2
        try clear hfz31_3
        try clear hfz33_0
        try clear hfz33_1
        try clear hfz33_2
        try clear hfz33_3
        try clear p2
        obtain ⟨x6_3, x16_3, rfl, HA, HK3, HO_6, BK188, HB⟩ := hrel
        have hl6_3 := (Kd.R_reads' HO_6.out).1
        rw [hl6_3] at HO_6
        (try simp only [hl6_3])
        (try simp only [hl6_3] at BK188)
        cases gk with
        | zero => exact absurd HA.out (by simp [vivariumlaw23_PlainWrites.l0])
        | succ k3 =>
         have H := HA.out
         clear HA
         simp only [vivariumlaw23_PlainWrites.l0] at H
         by_cases c41 : x16_3 < (x6_3.length : Int)
         ·rw [if_pos c41] at H
          have c41b0 : decide (x16_3 < (x6_3.length : Int)) = true := decide_eq_true c41
          clear c41
          by_cases c42 : 0 ≤ x16_3
          ·rw [if_pos c42] at H
           have c42b0 : decide (0 ≤ x16_3) = true := decide_eq_true c42
           clear c42
           obtain ⟨y205, hy205⟩ : ∃ y_ : List (S35), y_ = (x6_3.set (x16_3 : Int).toNat (⟨wrap64 (Int.tdiv ((rd_T35 x6_3 x16_3).f0) 2), (rd_T35 x6_3 x16_3).f1, (rd_T35 x6_3 x16_3).f2⟩ : S35)) := ⟨_, rfl⟩
           replace H : (vivariumlaw23_PlainWrites.l0 k3 (y205.set (x16_3 : Int).toNat (⟨(rd_T35 y205 x16_3).f0, (rd_T35 y205 x16_3).f1, Go.bits .xor .u8 ((rd_T35 y205 x16_3).f2) 1⟩ : S35)) (wrap64 (x16_3 + 1)) a1_0 a1_1 a1_2 a1_3) = some r := by first | (rw [hy205]; with_reducible exact H) | (have H2_ := (Option.bind_some _ _).symm.trans H; rw [hy205]; with_reducible exact H2_) | (have H2_ := (Option.bind_some _ _).symm.trans H; with_reducible exact H2_) | with_reducible exact H | (rw [hy205]; exact H) | exact H
           have Ny205 := Aside0.mk hy205
           clear hy205
           obtain ⟨y207, hy207⟩ : ∃ y_ : List (S35), y_ = (y205.set (x16_3 : Int).toNat (⟨(rd_T35 y205 x16_3).f0, (rd_T35 y205 x16_3).f1, Go.bits .xor .u8 ((rd_T35 y205 x16_3).f2) 1⟩ : S35)) := ⟨_, rfl⟩
           replace H : (vivariumlaw23_PlainWrites.l0 k3 y207 (wrap64 (x16_3 + 1)) a1_0 a1_1 a1_2 a1_3) = some r := by first | (rw [hy207]; with_reducible exact H) | (have H2_ := (Option.bind_some _ _).symm.trans H; rw [hy207]; with_reducible exact H2_) | (have H2_ := (Option.bind_some _ _).symm.trans H; with_reducible exact H2_) | with_reducible exact H | (rw [hy207]; exact H) | exact H
           have Ny207 := Aside0.mk hy207
           clear hy207
           have H' := Aside0.mk H
           clear H
           have p204 : 0 ≤ (x16_3 : Int) := of_decide_eq_true (by first | (with_reducible assumption) | assumption)
           have q204 : x16_3 < (x6_3.length : Int) := of_decide_eq_true (by first | (with_reducible assumption) | assumption)
           obtain ⟨ad204, e204, hx204_0, hx204_1, hx204_2⟩ := at_T35 (Kd.R_reads' HO_6.out).2.2 x16_3 p204 q204
           cases e204
           replace p204 := eq_true p204
           replace q204 := eq_true q204
           have p43 : 0 ≤ (x16_3 : Int) := of_decide_eq_true (by first | (with_reducible assumption) | assumption)
           have q43 : (x16_3 : Int) < ((x6_3.length : Int) : Int) := of_decide_eq_true (by first | (with_reducible assumption) | assumption)
           obtain ⟨go43, co43, eo43, gb43, gl43, cl43, HG43⟩ := Kd.R_form HO_6.out (by omega)
           (first | cases eo43 | (injection eo43 with ea_ en_ ec_; (first | subst ea_ | (injection ea_ with ea_; subst ea_)); subst ec_; clear en_))
           have GB43 := Aside0.mk gb43
           have GG43 := Aside0.mk HG43
           clear gb43 gl43 HG43
           (first | simp only [add_plain] at hx204_0 | skip)
           (first | simp only [add_plain] at hx204_1 | skip)
           (first | simp only [add_plain] at hx204_2 | skip)
           obtain ⟨ce43, hcl43, hM43, hcc43, hfr43⟩ := Kd.R_elem HO_6.out z35 (x16_3 : Int) p43 q43
           obtain rfl := k35_openM hM43
           have hx43_0 : wr.cell? ⟨go43, (x16_3 : Int).toNat * 3, none⟩ = some (.int .i64 ((rd_T35 x6_3 x16_3).f0)) := hcc43 0 _ rfl
           have hx43_1 : wr.cell? ⟨go43, (x16_3 : Int).toNat * 3 + 1, none⟩ = some (.int .i64 ((rd_T35 x6_3 x16_3).f1)) := hcc43 1 _ rfl
           have hx43_2 : wr.cell? ⟨go43, (x16_3 : Int).toNat * 3 + 2, none⟩ = some (.int .u8 ((rd_T35 x6_3 x16_3).f2)) := hcc43 2 _ rfl
           have hf43_0 : wr.frozen? ⟨go43, (x16_3 : Int).toNat * 3, none⟩ = false := hfr43 0
           have hf43_1 : wr.frozen? ⟨go43, (x16_3 : Int).toNat * 3 + 1, none⟩ = false := hfr43 1
           have hf43_2 : wr.frozen? ⟨go43, (x16_3 : Int).toNat * 3 + 2, none⟩ = false := hfr43 2
           clear hcl43 hcc43 hfr43 hM43
           replace p43 := eq_true p43
           replace q43 := eq_true q43
           have HX45 := Aside0.mk (show Kd.R k35 35 wr w.heap.size (fun _ => True) (.slice (some ⟨go43, 0, none⟩) x6_3.length co27) x6_3 from (by (with_reducible repeat (first | apply Kd.R_alloc | apply Kd.R_drewN | apply Kd.R_drew)); exact HO_6.out))
           obtain ⟨ce45, hcl45, hM45, hcc45, hfr45⟩ := Kd.R_elem HX45.out z35 (x16_3 : Int) (of_decide_eq_true (by first | (with_reducible assumption) | assumption)) (by have h_ : (x16_3 : Int) < ((x6_3.length : Int) : Int) := of_decide_eq_true (by first | (with_reducible assumption) | assumption); first | exact h_ | (have e_ := (Kd.R_reads' HO_6.out).1; omega) | simpa using h_)
           obtain rfl := k35_openM hM45
           have HP45 := Kd.R_seg HX45.out (x16_3 : Int) (of_decide_eq_true (by first | (with_reducible assumption) | assumption)) (by have h_ : (x16_3 : Int) < ((x6_3.length : Int) : Int) := of_decide_eq_true (by first | (with_reducible assumption) | assumption); first | exact h_ | (have e_ := (Kd.R_reads' HO_6.out).1; omega) | simpa using h_) (seg := [.int .i64 (wrap64 (Int.tdiv ((rd_T35 x6_3 x16_3).f0) 2))]) (j := 0) hcl45 hcc45 (show 1 ≤ 3 from by decide) (x' := (⟨wrap64 (Int.tdiv ((rd_T35 x6_3 x16_3).f0) 2), (rd_T35 x6_3 x16_3).f1, (rd_T35 x6_3 x16_3).f2⟩ : S35)) (k35_mkM _ _ _ (⟨wrap64 (Int.tdiv ((rd_T35 x6_3 x16_3).f0) 2), (rd_T35 x6_3 x16_3).f1, (rd_T35 x6_3 x16_3).f2⟩ : S35) ) (fun _ hk => hk)
           have hx45_0 := hcc45 0 _ rfl
           (try simp only [show (k35).sz = 3 from rfl, Nat.mul_one, Nat.add_zero] at hx45_0)
           have hf45_0 := hfr45 0
           (try simp only [show (k35).sz = 3 from rfl, Nat.mul_one, Nat.add_zero] at hf45_0)
           clear hcl45 hcc45 hfr45 hM45
           go_wp2_with (first | ((with_reducible refine gate_store (t := 3) (p := 106) rfl ?_); refine store_event (t := 3) (p := 106) (v := ?vo_w46) (w1 := (wr.setCell ⟨go43, (x16_3 : Int).toNat * 3, none⟩ (.int .i64 (wrap64 (Int.tdiv ((rd_T35 x6_3 x16_3).f0) 2))))) ?hg ?ho ?hn ?hr ?_; (case ho => rfl); (case hg => rfl); (case hn => rfl); (case hr => first | (go_simp; done) | (go_simp; rfl)); intro w46 hw; have hg : wr.grownBy w46 (some go43) := (by rw [hw]; exact HP45.2); have hp_ : Kd.R k35 35 w46 w.heap.size (fun _ => True) (.slice (some ⟨go43, 0, none⟩) x6_3.length co27) y205 := (by rw [hw, Ny205.out]; exact HP45.1); clear HP45; have n0_ := Aside0.mk (hp_); have n1_ := Aside0.mk (blk_grown (g := gb188) (o := .cells #[.int .i64 a1_0, .int .i64 a1_1, .int .i64 a1_2, .int .i64 a1_3] 23 (0, 0)) (by (with_reducible repeat (first | refine blk_drewN ?_ _ | refine blk_drew ?_ | refine blk_alloc ?_ _)); exact BK188.out) hg (Kd.R_ne HO_6.out BK188.out (by decide))); have n2_ := Aside0.mk ((by rw [hw]; exact below_set (HB.out) GB43.out : Below w.heap.size w w46)); clear HO_6; clear BK188; clear HB; have HO_6 := n0_; have BK188 := n1_; have HB := n2_; clear n0_ n1_ n2_; clear hg hw hp_; have p206 : 0 ≤ (x16_3 : Int) := of_decide_eq_true (by first | (with_reducible assumption) | assumption); have q206 : x16_3 < (y205.length : Int) := (by have h_ : (x16_3 : Int) < ((x6_3.length : Int) : Int) := of_decide_eq_true (by first | (with_reducible assumption) | assumption); first | (have e_ := (Kd.R_reads' HO_6.out).1; omega) | simpa only [Ny205.out, List.length_set] using h_); have ql206 : ((x16_3 : Int) < ((x6_3.length : Int) : Int)) = True := eq_true (of_decide_eq_true (by first | (with_reducible assumption) | assumption)); obtain ⟨ad206, e206, hx206_0, hx206_1, hx206_2⟩ := at_T35 (Kd.R_reads' HO_6.out).2.2 x16_3 p206 q206; obtain rfl : (⟨go43, 0, none⟩ : Addr) = ad206 := (by injection e206); (first | simp only [add_plain] at hx206_0 | simp only [add_at] at hx206_0 | simp only [Addr.add, Nat.zero_add] at hx206_0 | skip); (first | simp only [add_plain] at hx206_1 | simp only [add_at] at hx206_1 | simp only [Addr.add, Nat.zero_add] at hx206_1 | skip); (first | simp only [add_plain] at hx206_2 | simp only [add_at] at hx206_2 | simp only [Addr.add, Nat.zero_add] at hx206_2 | skip); replace p206 := eq_true p206; replace q206 := eq_true q206; have p44 : 0 ≤ (x16_3 : Int) := of_decide_eq_true (by first | (with_reducible assumption) | assumption); have q44 : (x16_3 : Int) < ((x6_3.length : Int) : Int) := of_decide_eq_true (by first | (with_reducible assumption) | assumption); obtain ⟨ce44, hcl44, hM44, hcc44, hfr44⟩ := Kd.R_elem HO_6.out z35 (x16_3 : Int) p44 q44; obtain rfl := k35_openM hM44; have hx44_0 : w46.cell? ⟨go43, (x16_3 : Int).toNat * 3, none⟩ = some (.int .i64 ((rd_T35 y205 x16_3).f0)) := hcc44 0 _ rfl; have hx44_1 : w46.cell? ⟨go43, (x16_3 : Int).toNat * 3 + 1, none⟩ = some (.int .i64 ((rd_T35 y205 x16_3).f1)) := hcc44 1 _ rfl; have hx44_2 : w46.cell? ⟨go43, (x16_3 : Int).toNat * 3 + 2, none⟩ = some (.int .u8 ((rd_T35 y205 x16_3).f2)) := hcc44 2 _ rfl; have hf44_0 : w46.frozen? ⟨go43, (x16_3 : Int).toNat * 3, none⟩ = false := hfr44 0; have hf44_1 : w46.frozen? ⟨go43, (x16_3 : Int).toNat * 3 + 1, none⟩ = false := hfr44 1; have hf44_2 : w46.frozen? ⟨go43, (x16_3 : Int).toNat * 3 + 2, none⟩ = false := hfr44 2; clear hcl44 hcc44 hfr44 hM44; replace p44 := eq_true p44; replace q44 := eq_true q44; have HX47 := Aside0.mk (show Kd.R k35 35 w46 w.heap.size (fun _ => True) (.slice (some ⟨go43, 0, none⟩) x6_3.length co27) y205 from (by (with_reducible repeat (first | apply Kd.R_alloc | apply Kd.R_drewN | apply Kd.R_drew)); exact HO_6.out)); obtain ⟨ce47, hcl47, hM47, hcc47, hfr47⟩ := Kd.R_elem HX47.out z35 (x16_3 : Int) (of_decide_eq_true (by first | (with_reducible assumption) | assumption)) (by have h_ : (x16_3 : Int) < ((x6_3.length : Int) : Int) := of_decide_eq_true (by first | (with_reducible assumption) | assumption); first | exact h_ | (have e_ := (Kd.R_reads' HO_6.out).1; omega) | simpa using h_); obtain rfl := k35_openM hM47; have HP47 := Kd.R_seg HX47.out (x16_3 : Int) (of_decide_eq_true (by first | (with_reducible assumption) | assumption)) (by have h_ : (x16_3 : Int) < ((x6_3.length : Int) : Int) := of_decide_eq_true (by first | (with_reducible assumption) | assumption); first | exact h_ | (have e_ := (Kd.R_reads' HO_6.out).1; omega) | simpa using h_) (seg := [.int .u8 (Go.bits .xor .u8 ((rd_T35 y205 x16_3).f2) 1)]) (j := 2) hcl47 hcc47 (show 3 ≤ 3 from by decide) (x' := (⟨(rd_T35 y205 x16_3).f0, (rd_T35 y205 x16_3).f1, Go.bits .xor .u8 ((rd_T35 y205 x16_3).f2) 1⟩ : S35)) (k35_mkM _ _ _ (⟨(rd_T35 y205 x16_3).f0, (rd_T35 y205 x16_3).f1, Go.bits .xor .u8 ((rd_T35 y205 x16_3).f2) 1⟩ : S35) ) (fun _ hk => hk); have hx47_2 := hcc47 2 _ rfl; (try simp only [show (k35).sz = 3 from rfl, Nat.mul_one, Nat.add_zero] at hx47_2); have hf47_2 := hfr47 2; (try simp only [show (k35).sz = 3 from rfl, Nat.mul_one, Nat.add_zero] at hf47_2); clear hcl47 hcc47 hfr47 hM47) | ((with_reducible refine gate_store (t := 5) (p := 116) rfl ?_); refine store_event (t := 5) (p := 116) (v := ?vo_w48) (w1 := (w46.setCell ⟨go43, (x16_3 : Int).toNat * 3 + 2, none⟩ (.int .u8 (Go.bits .xor .u8 ((rd_T35 y205 x16_3).f2) 1)))) ?hg ?ho ?hn ?hr ?_; (case ho => rfl); (case hg => rfl); (case hn => rfl); (case hr => first | (go_simp; done) | (go_simp; rfl)); intro w48 hw; have hg : w46.grownBy w48 (some go43) := (by rw [hw]; exact HP47.2); have hp_ : Kd.R k35 35 w48 w.heap.size (fun _ => True) (.slice (some ⟨go43, 0, none⟩) x6_3.length co27) y207 := (by rw [hw, Ny207.out]; exact HP47.1); clear HP47; have n0_ := Aside0.mk (hp_); have n1_ := Aside0.mk (blk_grown (g := gb188) (o := .cells #[.int .i64 a1_0, .int .i64 a1_1, .int .i64 a1_2, .int .i64 a1_3] 23 (0, 0)) (by (with_reducible repeat (first | refine blk_drewN ?_ _ | refine blk_drew ?_ | refine blk_alloc ?_ _)); exact BK188.out) hg (Kd.R_ne HO_6.out BK188.out (by decide))); have n2_ := Aside0.mk ((by rw [hw]; exact below_set (HB.out) GB43.out : Below w.heap.size w w48)); clear HO_6; clear BK188; clear HB; have HO_6 := n0_; have BK188 := n1_; have HB := n2_; clear n0_ n1_ n2_; clear hg hw hp_))
           (try simp only [← hl6_3])
           go_roundg k3
           case measure => have := HJ3.out; have := HJ23.out; have := HK3.out; omega
           case rel => exact ⟨(y207), (wrap64 (x16_3 + 1)), (by first | rfl | (simp; done) | (simp [*]; done)), H', ⟨by have := HJ3.out; have := HJ23.out; have := HK3.out; omega⟩, ⟨by (try simp only [hl6_3]); (with_reducible repeat (first | apply Kd.R_alloc | apply Kd.R_drewN | apply Kd.R_drew)); exact HO_6.out⟩, ⟨by (try simp only [hl6_3]); (with_reducible repeat (first | refine blk_drewN ?_ _ | refine blk_drew ?_ | refine blk_alloc ?_ _)); exact BK188.out⟩, ⟨by repeat (first | (with_reducible first | exact HB.out | apply below_alloc | apply pw_below_drewN | apply below_drew1 | refine below_set ?_ GE188.out) | exact HB.out)⟩⟩
          ·rw [if_neg c42] at H
           exact absurd H (by simp)
         ·rw [if_neg c41] at H
          have c41b0 : decide (x16_3 < (x6_3.length : Int)) = false := decide_eq_false c41
          clear c41
          replace H := Option.bind_eq_some_iff.mp H
          obtain ⟨t208, A490, H⟩ := H
          replace H : ((vivariumref23_Write.f k3 t208 a1_0 a1_1 a1_2 a1_3).bind fun bt211 => ((plain_Write.f x6_3 a1_0 a1_1 a1_2 a1_3).bind fun bt213 => (if bt213.1.toList = bt211.1.toList then (some (bt213.2 == bt211.2)) else (some false)))) = some r := H
          have A49 := Aside0.mk A490
          clear A490
          replace H := Option.bind_eq_some_iff.mp H
          obtain ⟨⟨t211, t212⟩, A500, H⟩ := H
          replace H : ((plain_Write.f x6_3 a1_0 a1_1 a1_2 a1_3).bind fun bt213 => (if bt213.1.toList = t211.toList then (some (bt213.2 == t212)) else (some false))) = some r := H
          have A50 := Aside0.mk A500
          clear A500
          replace H := Option.bind_eq_some_iff.mp H
          obtain ⟨⟨t213, t214⟩, A510, H⟩ := H
          replace H : (if t213.toList = t211.toList then (some (t214 == t212)) else (some false)) = some r := H
          have A51 := Aside0.mk A510
          clear A510
          by_cases c52 : t213.toList = t211.toList
          ·rw [if_pos c52] at H
           have c52b0 : (t213.toList == t211.toList) = true := beq_iff_eq.mpr c52
           have c52b1 : (t213.toList != t211.toList) = false := bne_eq_false_iff_eq.mpr c52
           clear c52
           obtain rfl := Option.some.inj H
           try go_wp2
           have n0_ := Aside0.mk (Kd.R_drew HO_6.out)
           have n1_ := Aside0.mk (blk_drew BK188.out)
           have n2_ := Aside0.mk (below_drew1 HB.out)
           clear HO_6
           clear BK188
           clear HB
           have HO_6 := n0_
           have BK188 := n1_
           have HB := n2_
           clear n0_ n1_ n2_
           refine start_ (n := 9) (S := fun w' => w'.cell? ⟨gb188, 0, none⟩ = some (.int .i64 a1_0) ∧ w'.cell? ⟨gb188, 1, none⟩ = some (.int .i64 a1_1) ∧ w'.cell? ⟨gb188, 2, none⟩ = some (.int .i64 a1_2) ∧ w'.cell? ⟨gb188, 3, none⟩ = some (.int .i64 a1_3)) (ds := []) #[false, false, false, false, false, false, false, false, false] (by kernel_rfl) rfl rfl ⟨(blk_cell BK188.out 0).trans rfl, (blk_cell BK188.out 1).trans rfl, (blk_cell BK188.out 2).trans rfl, (blk_cell BK188.out 3).trans rfl⟩ (fun hHeld => ?_); refine with_tabW vivariumlaw23_PlainWrites.tab17 vivariumlaw23_PlainWrites.bits17 (fun HT_ HW_ => ?_)
           generalize wr.drew = w53 at HO_6 BK188 HB hHeld ⊢
           refine pure_ (i := 0) (N := some 118) (v := ?_) (a' := ?_) #[true, false, false, false, false, false, false, false, false] rfl rfl (any_of HT_.out (by kernel_rfl)) (fun _ _ _ h => h) (Or.inl ⟨by rfl, ?_⟩) ?_ ?_
           rotate_left
           ·intro w'
            go_simp
            with_reducible rfl
           rotate_left
           ·simp only [Act.put, List.setIfInBounds_toArray, List.set_cons_zero, List.set_cons_succ, i64_w, i32_w]
            rfl
           refine take_ (i := 2) (N := some 120) (v := ?_) (a' := ?_) #[true, false, true, false, false, false, false, false, false] rfl rfl (take_ofW HT_.out HW_.out (by kernel_rfl)) (fun _ _ _ h => h) (Or.inl ⟨by rfl, ?_⟩) hHeld ?_ ?_
           rotate_left
           ·rintro w' ⟨s0, s1, s2, s3⟩
            go_simp
            with_reducible rfl
           rotate_left
           ·simp only [Act.put, List.setIfInBounds_toArray, List.set_cons_zero, List.set_cons_succ, i64_w, i32_w]
            rfl
           refine one_ (i := 1) (N := some 119) #[true, true, true, false, false, false, false, false, false] rfl rfl (one_of HT_.out (by kernel_rfl)) (by decide) (fun K hK => ?_)
           refine goes_ Try.func19 (by kernel_rfl) rfl #[.slice Ao27 x6_3.length co27] (by rfl) rfl rfl (by (try simp only [List.map_toArray, List.map_cons, List.map_nil]); first | done | rfl | (simp only [List.length_drop, List.length_take]; rfl)) ?_
           with_reducible refine (vivariumlaw23_lent.calls k3 _ _ x6_3 t208 _ ?side1 ?side2 A49.out).mono ?_
           (case side1 => repeat (first | exact (Kd.R_reads' HO_6.out).2.2 | (with_reducible refine Kd.C_alloc ?_ _) | (with_reducible refine Kd.C_drewN ?_ _) | (with_reducible refine Kd.C_drew ?_)))
           (case side2 => exact (Kd.R_reads' HO_6.out).2.1)
           rintro e w54 ⟨v209, rfl, ho0, hb⟩
           refine ⟨_, rfl, ?_⟩
           have n0_ := Aside0.mk (Kd.R_elder' (by (with_reducible repeat (first | apply Kd.R_alloc | apply Kd.R_drewN | apply Kd.R_drew)); exact HO_6.out) (Kd.R_base ho0) hb)
           have n1_ := Aside0.mk (Kd.R_lower (Kd.R_new' ho0 (Kd.R_lt (by (with_reducible repeat (first | apply Kd.R_alloc | apply Kd.R_drewN | apply Kd.R_drew)); exact HO_6.out))) (below_size (by repeat (first | (with_reducible first | exact HB.out | apply below_alloc | apply pw_below_drewN | apply below_drew1 | refine below_set ?_ GE188.out) | exact HB.out))))
           have n2_ := Aside0.mk (blk_below (g := gb188) (o := .cells #[.int .i64 a1_0, .int .i64 a1_1, .int .i64 a1_2, .int .i64 a1_3] 23 (0, 0)) (by (with_reducible repeat (first | refine blk_drewN ?_ _ | refine blk_drew ?_ | refine blk_alloc ?_ _)); exact BK188.out) hb)
           have n3_ := Aside0.mk (below_step (by repeat (first | (with_reducible first | exact HB.out | apply below_alloc | apply pw_below_drewN | apply below_drew1 | refine below_set ?_ GE188.out) | exact HB.out)) hb)
           clear HO_6
           clear BK188
           clear HB
           have HO_6 := n0_
           have HO210 := n1_
           have BK188 := n2_
           have HB := n3_
           clear n0_ n1_ n2_ n3_
           (try clear hb)
           (try clear hb2)
           (try clear hk)
           (try clear hi)
           (try clear ho0)
           obtain ⟨Ao55, co55, eo55⟩ := Kd.R_slice HO210.out
           (first | subst eo55 | (injection eo55 with f1_ f2_ f3_; have f4_ := f1_.symm; have f5_ := f3_.symm; clear f1_ f2_ f3_; subst f4_; subst f5_))
           refine hK.out _ _ ⟨(blk_cell BK188.out 0).trans rfl, (blk_cell BK188.out 1).trans rfl, (blk_cell BK188.out 2).trans rfl, (blk_cell BK188.out 3).trans rfl⟩ (fun hHeld => ?_)
           clear hK K
           refine norm_ (a' := ?_) ?_ ?_
           rotate_left
           ·show Act.put _ (some 119) _ = _
            simp only [Act.put, List.setIfInBounds_toArray, List.set_cons_zero, List.set_cons_succ, i64_w, i32_w]
            rfl
           refine one_ (i := 3) (N := some 121) #[true, true, true, true, false, false, false, false, false] rfl rfl (one_of HT_.out (by kernel_rfl)) (by decide) (fun K hK => ?_)
           refine goes_ Try.func20 (by kernel_rfl) rfl #[.slice Ao55 t208.length co55, .agg #[.int .i64 a1_0, .int .i64 a1_1, .int .i64 a1_2, .int .i64 a1_3]] (by rfl) rfl rfl (by (try simp only [List.map_toArray, List.map_cons, List.map_nil]); first | done | rfl | (simp only [List.length_drop, List.length_take]; rfl)) ?_
           with_reducible refine (vivariumref23_Write.calls k3 _ _ t208 a1_0 a1_1 a1_2 a1_3 t211 t212 _ ?side1 ?side2 A50.out).mono ?_
           (case side1 => repeat (first | exact (Kd.R_reads' HO210.out).2.2 | (with_reducible refine Kd.C_alloc ?_ _) | (with_reducible refine Kd.C_drewN ?_ _) | (with_reducible refine Kd.C_drew ?_)))
           (case side2 => exact (Kd.R_reads' HO210.out).2.1)
           rintro e w56 ⟨rfl, hb⟩
           refine ⟨_, rfl, ?_⟩
           have n0_ := Aside0.mk (Kd.R_below (by (with_reducible repeat (first | apply Kd.R_alloc | apply Kd.R_drewN | apply Kd.R_drew)); exact HO_6.out) hb)
           have n1_ := Aside0.mk (Kd.R_below (by (with_reducible repeat (first | apply Kd.R_alloc | apply Kd.R_drewN | apply Kd.R_drew)); exact HO210.out) hb)
           have n2_ := Aside0.mk (blk_below (g := gb188) (o := .cells #[.int .i64 a1_0, .int .i64 a1_1, .int .i64 a1_2, .int .i64 a1_3] 23 (0, 0)) (by (with_reducible repeat (first | refine blk_drewN ?_ _ | refine blk_drew ?_ | refine blk_alloc ?_ _)); exact BK188.out) hb)
           have n3_ := Aside0.mk (below_step (by repeat (first | (with_reducible first | exact HB.out | apply below_alloc | apply pw_below_drewN | apply below_drew1 | refine below_set ?_ GE188.out) | exact HB.out)) hb)
           clear HO_6
           clear HO210
           clear BK188
           clear HB
           have HO_6 := n0_
           have HO210 := n1_
           have BK188 := n2_
           have HB := n3_
           clear n0_ n1_ n2_ n3_
           (try clear hb)
           (try clear hb2)
           (try clear hk)
           (try clear hi)
           refine hK.out _ _ ⟨(blk_cell BK188.out 0).trans rfl, (blk_cell BK188.out 1).trans rfl, (blk_cell BK188.out 2).trans rfl, (blk_cell BK188.out 3).trans rfl⟩ (fun hHeld => ?_)
           clear hK K
           refine norm_ (a' := ?_) ?_ ?_
           rotate_left
           ·show Act.put _ (some 121) _ = _
            simp only [Act.put, List.setIfInBounds_toArray, List.set_cons_zero, List.set_cons_succ, i64_w, i32_w]
            rfl
           refine pure_ (i := 4) (N := some 117) (v := ?_) (a' := ?_) #[true, true, true, true, true, false, false, false, false] rfl rfl (any_of HT_.out (by kernel_rfl)) (fun _ _ _ h => h) (Or.inl ⟨by rfl, ?_⟩) ?_ ?_
           rotate_left
           ·intro w'
            go_simp
            with_reducible rfl
           rotate_left
           ·simp only [Act.put, List.setIfInBounds_toArray, List.set_cons_zero, List.set_cons_succ, i64_w, i32_w]
            rfl
           refine pure_ (i := 5) (N := some 122) (v := ?_) (a' := ?_) #[true, true, true, true, true, true, false, false, false] rfl rfl (any_of HT_.out (by kernel_rfl)) (fun _ _ _ h => h) (Or.inl ⟨by rfl, ?_⟩) ?_ ?_
           rotate_left
           ·intro w'
            go_simp
            with_reducible rfl
           rotate_left
           ·simp only [Act.put, List.setIfInBounds_toArray, List.set_cons_zero, List.set_cons_succ, i64_w, i32_w]
            rfl
           refine pure_ (i := 6) (N := some 123) (v := ?_) (a' := ?_) #[true, true, true, true, true, true, true, false, false] rfl rfl (any_of HT_.out (by kernel_rfl)) (fun _ _ _ h => h) (Or.inl ⟨by rfl, ?_⟩) ?_ ?_
           rotate_left
           ·intro w'
            go_simp
            with_reducible rfl
           rotate_left
           ·simp only [Act.put, List.setIfInBounds_toArray, List.set_cons_zero, List.set_cons_succ, i64_w, i32_w]
            rfl
           refine pure_ (i := 7) (N := some 17) (v := ?_) (a' := ?_) #[true, true, true, true, true, true, true, true, false] rfl rfl (any_of HT_.out (by kernel_rfl)) (fun _ _ _ h => h) (Or.inl ⟨by rfl, ?_⟩) ?_ ?_
           rotate_left
           ·intro w'
            go_simp
            with_reducible rfl
           rotate_left
           ·simp only [Act.put, List.setIfInBounds_toArray, List.set_cons_zero, List.set_cons_succ, i64_w, i32_w]
            rfl
           refine pure_ (i := 8) (N := some 18) (v := ?_) (a' := ?_) #[true, true, true, true, true, true, true, true, true] rfl rfl (any_of HT_.out (by kernel_rfl)) (fun _ _ _ h => h) (Or.inl ⟨by rfl, ?_⟩) ?_ ?_
           rotate_left
           ·intro w'
            go_simp
            with_reducible rfl
           rotate_left
           ·simp only [Act.put, List.setIfInBounds_toArray, List.set_cons_zero, List.set_cons_succ, i64_w, i32_w]
            rfl
           refine done_ (done_of HT_.out (by kernel_rfl)) ?_
           have hcz57_0 : w56.cell? ⟨gb188, 0, none⟩ = some (.int .i64 a1_0) := (blk_cell BK188.out 0).trans rfl
           have hcz57_1 : w56.cell? ⟨gb188, 1, none⟩ = some (.int .i64 a1_1) := (blk_cell BK188.out 1).trans rfl
           have hcz57_2 : w56.cell? ⟨gb188, 2, none⟩ = some (.int .i64 a1_2) := (blk_cell BK188.out 2).trans rfl
           have hcz57_3 : w56.cell? ⟨gb188, 3, none⟩ = some (.int .i64 a1_3) := (blk_cell BK188.out 3).trans rfl
           have hfz57_0 := blk_frozen BK188.out 0
           have hfz57_1 := blk_frozen BK188.out 1
           have hfz57_2 := blk_frozen BK188.out 2
           have hfz57_3 := blk_frozen BK188.out 3
           try go_wp2_with (first | ((with_reducible refine gate_callee (f := 12) rfl ?_); refine goesL_ (some 127) rfl rfl Try.func12 (by kernel_rfl) rfl #[.slice Ao27 x6_3.length co27, .agg #[.int .i64 a1_0, .int .i64 a1_1, .int .i64 a1_2, .int .i64 a1_3]] rfl (by (try simp only [List.map_toArray, List.map_cons, List.map_nil]); first | done | rfl | (simp only [List.length_drop, List.length_take]; rfl)) ?_; (with_reducible refine (plain_Write.calls _ _ x6_3 a1_0 a1_1 a1_2 a1_3 t213 t214 _ ?side1 ?side2 A51.out).mono ?_); (case side1 => repeat (first | exact (Kd.R_reads' HO_6.out).2.2 | (with_reducible refine Kd.C_alloc ?_ _) | (with_reducible refine Kd.C_drewN ?_ _) | (with_reducible refine Kd.C_drew ?_))); (case side2 => exact (Kd.R_reads' HO_6.out).2.1); rintro e w58 ⟨rfl, hb⟩; refine ⟨_, rfl, ?_⟩; have n0_ := Aside0.mk (Kd.R_below (by (with_reducible repeat (first | apply Kd.R_alloc | apply Kd.R_drewN | apply Kd.R_drew)); exact HO_6.out) hb); have n1_ := Aside0.mk (Kd.R_below (by (with_reducible repeat (first | apply Kd.R_alloc | apply Kd.R_drewN | apply Kd.R_drew)); exact HO210.out) hb); have n2_ := Aside0.mk (blk_below (g := gb188) (o := .cells #[.int .i64 a1_0, .int .i64 a1_1, .int .i64 a1_2, .int .i64 a1_3] 23 (0, 0)) (by (with_reducible repeat (first | refine blk_drewN ?_ _ | refine blk_drew ?_ | refine blk_alloc ?_ _)); exact BK188.out) hb); have n3_ := Aside0.mk (below_step (by repeat (first | (with_reducible first | exact HB.out | apply below_alloc | apply pw_below_drewN | apply below_drew1 | refine below_set ?_ GE188.out) | exact HB.out)) hb); clear HO_6; clear HO210; clear BK188; clear HB; have HO_6 := n0_; have HO210 := n1_; have BK188 := n2_; have HB := n3_; clear n0_ n1_ n2_ n3_; (try clear hb); (try clear hb2); (try clear hk); (try clear hi)))
           go_ret
           exact ⟨by first | rfl | (simp [errW_none, errW_some] <;> rfl) | (simp [*, errW_none, errW_some] <;> rfl), by repeat (first | (with_reducible first | exact HB.out | apply below_alloc | apply pw_below_drewN | apply below_drew1 | refine below_set ?_ GE188.out) | exact HB.out)⟩
          ·rw [if_neg c52] at H
           have c52b0 : (t213.toList == t211.toList) = false := beq_eq_false_iff_ne.mpr c52
           have c52b1 : (t213.toList != t211.toList) = true := bne_iff_ne.mpr c52
           obtain rfl := Option.some.inj H
           try go_wp2
           have n0_ := Aside0.mk (Kd.R_drew HO_6.out)
           have n1_ := Aside0.mk (blk_drew BK188.out)
           have n2_ := Aside0.mk (below_drew1 HB.out)
           clear HO_6
           clear BK188
           clear HB
           have HO_6 := n0_
           have BK188 := n1_
           have HB := n2_
           clear n0_ n1_ n2_
           refine start_ (n := 9) (S := fun w' => w'.cell? ⟨gb188, 0, none⟩ = some (.int .i64 a1_0) ∧ w'.cell? ⟨gb188, 1, none⟩ = some (.int .i64 a1_1) ∧ w'.cell? ⟨gb188, 2, none⟩ = some (.int .i64 a1_2) ∧ w'.cell? ⟨gb188, 3, none⟩ = some (.int .i64 a1_3)) (ds := []) #[false, false, false, false, false, false, false, false, false] (by kernel_rfl) rfl rfl ⟨(blk_cell BK188.out 0).trans rfl, (blk_cell BK188.out 1).trans rfl, (blk_cell BK188.out 2).trans rfl, (blk_cell BK188.out 3).trans rfl⟩ (fun hHeld => ?_); refine with_tabW vivariumlaw23_PlainWrites.tab17 vivariumlaw23_PlainWrites.bits17 (fun HT_ HW_ => ?_)
           generalize wr.drew = w59 at HO_6 BK188 HB hHeld ⊢
           refine pure_ (i := 0) (N := some 118) (v := ?_) (a' := ?_) #[true, false, false, false, false, false, false, false, false] rfl rfl (any_of HT_.out (by kernel_rfl)) (fun _ _ _ h => h) (Or.inl ⟨by rfl, ?_⟩) ?_ ?_
           rotate_left
           ·intro w'
            go_simp
            with_reducible rfl
           rotate_left
           ·simp only [Act.put, List.setIfInBounds_toArray, List.set_cons_zero, List.set_cons_succ, i64_w, i32_w]
            rfl
           refine take_ (i := 2) (N := some 120) (v := ?_) (a' := ?_) #[true, false, true, false, false, false, false, false, false] rfl rfl (take_ofW HT_.out HW_.out (by kernel_rfl)) (fun _ _ _ h => h) (Or.inl ⟨by rfl, ?_⟩) hHeld ?_ ?_
           rotate_left
           ·rintro w' ⟨s0, s1, s2, s3⟩
            go_simp
            with_reducible rfl
           rotate_left
           ·simp only [Act.put, List.setIfInBounds_toArray, List.set_cons_zero, List.set_cons_succ, i64_w, i32_w]
            rfl
           refine one_ (i := 1) (N := some 119) #[true, true, true, false, false, false, false, false, false] rfl rfl (one_of HT_.out (by kernel_rfl)) (by decide) (fun K hK => ?_)
           refine goes_ Try.func19 (by kernel_rfl) rfl #[.slice Ao27 x6_3.length co27] (by rfl) rfl rfl (by (try simp only [List.map_toArray, List.map_cons, List.map_nil]); first | done | rfl | (simp only [List.length_drop, List.length_take]; rfl)) ?_
           with_reducible refine (vivariumlaw23_lent.calls k3 _ _ x6_3 t208 _ ?side1 ?side2 A49.out).mono ?_
           (case side1 => repeat (first | exact (Kd.R_reads' HO_6.out).2.2 | (with_reducible refine Kd.C_alloc ?_ _) | (with_reducible refine Kd.C_drewN ?_ _) | (with_reducible refine Kd.C_drew ?_)))
           (case side2 => exact (Kd.R_reads' HO_6.out).2.1)
           rintro e w60 ⟨v209, rfl, ho0, hb⟩
           refine ⟨_, rfl, ?_⟩
           have n0_ := Aside0.mk (Kd.R_elder' (by (with_reducible repeat (first | apply Kd.R_alloc | apply Kd.R_drewN | apply Kd.R_drew)); exact HO_6.out) (Kd.R_base ho0) hb)
           have n1_ := Aside0.mk (Kd.R_lower (Kd.R_new' ho0 (Kd.R_lt (by (with_reducible repeat (first | apply Kd.R_alloc | apply Kd.R_drewN | apply Kd.R_drew)); exact HO_6.out))) (below_size (by repeat (first | (with_reducible first | exact HB.out | apply below_alloc | apply pw_below_drewN | apply below_drew1 | refine below_set ?_ GE188.out) | exact HB.out))))
           have n2_ := Aside0.mk (blk_below (g := gb188) (o := .cells #[.int .i64 a1_0, .int .i64 a1_1, .int .i64 a1_2, .int .i64 a1_3] 23 (0, 0)) (by (with_reducible repeat (first | refine blk_drewN ?_ _ | refine blk_drew ?_ | refine blk_alloc ?_ _)); exact BK188.out) hb)
           have n3_ := Aside0.mk (below_step (by repeat (first | (with_reducible first | exact HB.out | apply below_alloc | apply pw_below_drewN | apply below_drew1 | refine below_set ?_ GE188.out) | exact HB.out)) hb)
           clear HO_6
           clear BK188
           clear HB
           have HO_6 := n0_
           have HO210 := n1_
           have BK188 := n2_
           have HB := n3_
           clear n0_ n1_ n2_ n3_
           (try clear hb)
           (try clear hb2)
           (try clear hk)
           (try clear hi)
           (try clear ho0)
           obtain ⟨Ao61, co61, eo61⟩ := Kd.R_slice HO210.out
           (first | subst eo61 | (injection eo61 with f1_ f2_ f3_; have f4_ := f1_.symm; have f5_ := f3_.symm; clear f1_ f2_ f3_; subst f4_; subst f5_))
           refine hK.out _ _ ⟨(blk_cell BK188.out 0).trans rfl, (blk_cell BK188.out 1).trans rfl, (blk_cell BK188.out 2).trans rfl, (blk_cell BK188.out 3).trans rfl⟩ (fun hHeld => ?_)
           clear hK K
           refine norm_ (a' := ?_) ?_ ?_
           rotate_left
           ·show Act.put _ (some 119) _ = _
            simp only [Act.put, List.setIfInBounds_toArray, List.set_cons_zero, List.set_cons_succ, i64_w, i32_w]
            rfl
           refine one_ (i := 3) (N := some 121) #[true, true, true, true, false, false, false, false, false] rfl rfl (one_of HT_.out (by kernel_rfl)) (by decide) (fun K hK => ?_)
           refine goes_ Try.func20 (by kernel_rfl) rfl #[.slice Ao61 t208.length co61, .agg #[.int .i64 a1_0, .int .i64 a1_1, .int .i64 a1_2, .int .i64 a1_3]] (by rfl) rfl rfl (by (try simp only [List.map_toArray, List.map_cons, List.map_nil]); first | done | rfl | (simp only [List.length_drop, List.length_take]; rfl)) ?_
           with_reducible refine (vivariumref23_Write.calls k3 _ _ t208 a1_0 a1_1 a1_2 a1_3 t211 t212 _ ?side1 ?side2 A50.out).mono ?_
           (case side1 => repeat (first | exact (Kd.R_reads' HO210.out).2.2 | (with_reducible refine Kd.C_alloc ?_ _) | (with_reducible refine Kd.C_drewN ?_ _) | (with_reducible refine Kd.C_drew ?_)))
           (case side2 => exact (Kd.R_reads' HO210.out).2.1)
           rintro e w62 ⟨rfl, hb⟩
           refine ⟨_, rfl, ?_⟩
           have n0_ := Aside0.mk (Kd.R_below (by (with_reducible repeat (first | apply Kd.R_alloc | apply Kd.R_drewN | apply Kd.R_drew)); exact HO_6.out) hb)
           have n1_ := Aside0.mk (Kd.R_below (by (with_reducible repeat (first | apply Kd.R_alloc | apply Kd.R_drewN | apply Kd.R_drew)); exact HO210.out) hb)
           have n2_ := Aside0.mk (blk_below (g := gb188) (o := .cells #[.int .i64 a1_0, .int .i64 a1_1, .int .i64 a1_2, .int .i64 a1_3] 23 (0, 0)) (by (with_reducible repeat (first | refine blk_drewN ?_ _ | refine blk_drew ?_ | refine blk_alloc ?_ _)); exact BK188.out) hb)
           have n3_ := Aside0.mk (below_step (by repeat (first | (with_reducible first | exact HB.out | apply below_alloc | apply pw_below_drewN | apply below_drew1 | refine below_set ?_ GE188.out) | exact HB.out)) hb)
           clear HO_6
           clear HO210
           clear BK188
           clear HB
           have HO_6 := n0_
           have HO210 := n1_
           have BK188 := n2_
           have HB := n3_
           clear n0_ n1_ n2_ n3_
           (try clear hb)
           (try clear hb2)
           (try clear hk)
           (try clear hi)
           refine hK.out _ _ ⟨(blk_cell BK188.out 0).trans rfl, (blk_cell BK188.out 1).trans rfl, (blk_cell BK188.out 2).trans rfl, (blk_cell BK188.out 3).trans rfl⟩ (fun hHeld => ?_)
           clear hK K
           refine norm_ (a' := ?_) ?_ ?_
           rotate_left
           ·show Act.put _ (some 121) _ = _
            simp only [Act.put, List.setIfInBounds_toArray, List.set_cons_zero, List.set_cons_succ, i64_w, i32_w]
            rfl
           refine pure_ (i := 4) (N := some 117) (v := ?_) (a' := ?_) #[true, true, true, true, true, false, false, false, false] rfl rfl (any_of HT_.out (by kernel_rfl)) (fun _ _ _ h => h) (Or.inl ⟨by rfl, ?_⟩) ?_ ?_
           rotate_left
           ·intro w'
            go_simp
            with_reducible rfl
           rotate_left
           ·simp only [Act.put, List.setIfInBounds_toArray, List.set_cons_zero, List.set_cons_succ, i64_w, i32_w]
            rfl
           refine pure_ (i := 5) (N := some 122) (v := ?_) (a' := ?_) #[true, true, true, true, true, true, false, false, false] rfl rfl (any_of HT_.out (by kernel_rfl)) (fun _ _ _ h => h) (Or.inl ⟨by rfl, ?_⟩) ?_ ?_
           rotate_left
           ·intro w'
            go_simp
            with_reducible rfl
           rotate_left
           ·simp only [Act.put, List.setIfInBounds_toArray, List.set_cons_zero, List.set_cons_succ, i64_w, i32_w]
            rfl
           refine pure_ (i := 6) (N := some 123) (v := ?_) (a' := ?_) #[true, true, true, true, true, true, true, false, false] rfl rfl (any_of HT_.out (by kernel_rfl)) (fun _ _ _ h => h) (Or.inl ⟨by rfl, ?_⟩) ?_ ?_
           rotate_left
           ·intro w'
            go_simp
            with_reducible rfl
           rotate_left
           ·simp only [Act.put, List.setIfInBounds_toArray, List.set_cons_zero, List.set_cons_succ, i64_w, i32_w]
            rfl
           refine pure_ (i := 7) (N := some 17) (v := ?_) (a' := ?_) #[true, true, true, true, true, true, true, true, false] rfl rfl (any_of HT_.out (by kernel_rfl)) (fun _ _ _ h => h) (Or.inl ⟨by rfl, ?_⟩) ?_ ?_
           rotate_left
           ·intro w'
            go_simp
            with_reducible rfl
           rotate_left
           ·simp only [Act.put, List.setIfInBounds_toArray, List.set_cons_zero, List.set_cons_succ, i64_w, i32_w]
            rfl
           refine pure_ (i := 8) (N := some 18) (v := ?_) (a' := ?_) #[true, true, true, true, true, true, true, true, true] rfl rfl (any_of HT_.out (by kernel_rfl)) (fun _ _ _ h => h) (Or.inl ⟨by rfl, ?_⟩) ?_ ?_
           rotate_left
           ·intro w'
            go_simp
            with_reducible rfl
           rotate_left
           ·simp only [Act.put, List.setIfInBounds_toArray, List.set_cons_zero, List.set_cons_succ, i64_w, i32_w]
            rfl
           refine done_ (done_of HT_.out (by kernel_rfl)) ?_
           have hcz63_0 : w62.cell? ⟨gb188, 0, none⟩ = some (.int .i64 a1_0) := (blk_cell BK188.out 0).trans rfl
           have hcz63_1 : w62.cell? ⟨gb188, 1, none⟩ = some (.int .i64 a1_1) := (blk_cell BK188.out 1).trans rfl
           have hcz63_2 : w62.cell? ⟨gb188, 2, none⟩ = some (.int .i64 a1_2) := (blk_cell BK188.out 2).trans rfl
           have hcz63_3 : w62.cell? ⟨gb188, 3, none⟩ = some (.int .i64 a1_3) := (blk_cell BK188.out 3).trans rfl
           have hfz63_0 := blk_frozen BK188.out 0
           have hfz63_1 := blk_frozen BK188.out 1
           have hfz63_2 := blk_frozen BK188.out 2
           have hfz63_3 := blk_frozen BK188.out 3
           try go_wp2_with (first | ((with_reducible refine gate_callee (f := 12) rfl ?_); refine goesL_ (some 127) rfl rfl Try.func12 (by kernel_rfl) rfl #[.slice Ao27 x6_3.length co27, .agg #[.int .i64 a1_0, .int .i64 a1_1, .int .i64 a1_2, .int .i64 a1_3]] rfl (by (try simp only [List.map_toArray, List.map_cons, List.map_nil]); first | done | rfl | (simp only [List.length_drop, List.length_take]; rfl)) ?_; (with_reducible refine (plain_Write.calls _ _ x6_3 a1_0 a1_1 a1_2 a1_3 t213 t214 _ ?side1 ?side2 A51.out).mono ?_); (case side1 => repeat (first | exact (Kd.R_reads' HO_6.out).2.2 | (with_reducible refine Kd.C_alloc ?_ _) | (with_reducible refine Kd.C_drewN ?_ _) | (with_reducible refine Kd.C_drew ?_))); (case side2 => exact (Kd.R_reads' HO_6.out).2.1); rintro e w64 ⟨rfl, hb⟩; refine ⟨_, rfl, ?_⟩; have n0_ := Aside0.mk (Kd.R_below (by (with_reducible repeat (first | apply Kd.R_alloc | apply Kd.R_drewN | apply Kd.R_drew)); exact HO_6.out) hb); have n1_ := Aside0.mk (Kd.R_below (by (with_reducible repeat (first | apply Kd.R_alloc | apply Kd.R_drewN | apply Kd.R_drew)); exact HO210.out) hb); have n2_ := Aside0.mk (blk_below (g := gb188) (o := .cells #[.int .i64 a1_0, .int .i64 a1_1, .int .i64 a1_2, .int .i64 a1_3] 23 (0, 0)) (by (with_reducible repeat (first | refine blk_drewN ?_ _ | refine blk_drew ?_ | refine blk_alloc ?_ _)); exact BK188.out) hb); have n3_ := Aside0.mk (below_step (by repeat (first | (with_reducible first | exact HB.out | apply below_alloc | apply pw_below_drewN | apply below_drew1 | refine below_set ?_ GE188.out) | exact HB.out)) hb); clear HO_6; clear HO210; clear BK188; clear HB; have HO_6 := n0_; have HO210 := n1_; have BK188 := n2_; have HB := n3_; clear n0_ n1_ n2_ n3_; (try clear hb); (try clear hb2); (try clear hk); (try clear hi)))
           go_ret
           exact ⟨by first | rfl | (simp [errW_none, errW_some] <;> rfl) | (simp [*, errW_none, errW_some] <;> rfl), by repeat (first | (with_reducible first | exact HB.out | apply below_alloc | apply pw_below_drewN | apply below_drew1 | refine below_set ?_ GE188.out) | exact HB.out)⟩

end Go.Proofs.Ytfgonglcmgahkab.P

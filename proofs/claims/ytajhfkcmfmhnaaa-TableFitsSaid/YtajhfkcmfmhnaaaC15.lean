-- Written by a program of this session (wip/tools/shake.py): texts of this claim, of each what the claim names.
import Derived.Test.YtajhfkcmfmhnaaaC2
import Derived.Test.YtajhfkcmfmhnaaaC3
import Derived.Test.YtajhfkcmfmhnaaaC9
import Derived.Test.YtajhfkcmfmhnaaaC13
import Derived.Test.YtajhfkcmfmhnaaaC14
import Derived.Deep.DeepMust
section
namespace Go.Proofs.Ytajhfkcmfmhnaaa.P
open Go.RowKit Go.Proofs.YtajhfkcmfmhnaaaW.PrintWords Go.Proofs.YtajhfkcmfmhnaaaW.PrintLast Go.Proofs.YtajhfkcmfmhnaaaW.PrintMore
attribute [local go_sem] max2_int min2_int max_two min_two max_three min_three max_four min_four   -- for this text's walks alone
set_option linter.unusedVariables false
set_option linter.unusedSimpArgs false
mutual
def vivariumref10_Twin.l0 : Nat → Int → Int → Int → Int → List (S65) → List (S62) → Int → Int → Int → List (S65) → Option (Int × Int × Int × (List (S65)) × (List (S62)))
 | 0, _, _, _, _, _, _, _, _, _, _ => none
 | k + 1, x4, x195000, x195001, x195002, x195003, x195004, x197000, x197001, x197002, x197003 => if x4 < (x195003.length : Int) then (if 0 ≤ x4 then (if ([] : List Int).length + ((rd_T65 x195003 x4).f1).length < 140737488355328 then (if x197003.length < 3518437208883 then (vivariumref10_Twin.l0 k (wrap64 (x4 + 1)) x195000 x195001 x195002 x195003 x195004 x197000 x197001 x197002 (x197003 ++ [(⟨(rd_T65 x195003 x4).f0, (([] : List Int) ++ ((rd_T65 x195003 x4).f1))⟩ : S65)])) else (none)) else (none)) else (none)) else (vivariumref10_Twin.l1 k 0 x195000 x195001 x195002 x195003 x195004 x197000 x197001 x197002 x197003 ([] : List (S62)))
def vivariumref10_Twin.l1 : Nat → Int → Int → Int → Int → List (S65) → List (S62) → Int → Int → Int → List (S65) → List (S62) → Option (Int × Int × Int × (List (S65)) × (List (S62)))
 | 0, _, _, _, _, _, _, _, _, _, _, _ => none
 | k + 1, x6, x195000, x195001, x195002, x195003, x195004, x197000, x197001, x197002, x197003, x197004 => if x6 < (x195004.length : Int) then (if 0 ≤ x6 then (if ([] : List (S59)).length + ((rd_T62 x195004 x6).f1).length < 8796093022208 then (if x197004.length < 2513169434916 then (vivariumref10_Twin.l1 k (wrap64 (x6 + 1)) x195000 x195001 x195002 x195003 x195004 x197000 x197001 x197002 x197003 (x197004 ++ [(⟨(⟨(rd_T62 x195004 x6).f0.f0, (rd_T62 x195004 x6).f0.f1⟩ : S59), (([] : List (S59)) ++ ((rd_T62 x195004 x6).f1)), (⟨(rd_T62 x195004 x6).f2.f0, (rd_T62 x195004 x6).f2.f1⟩ : S59)⟩ : S62)])) else (none)) else (none)) else (none)) else (some (x197000, x197001, x197002, x197003, x197004))
end
def vivariumref10_Twin.f (k : Nat) (a0_0 : Int) (a0_1 : Int) (a0_2 : Int) (l0_3 : List (S65)) (l0_4 : List (S62)) : Option (Int × Int × Int × (List (S65)) × (List (S62))) := vivariumref10_Twin.l0 k 0 a0_0 a0_1 a0_2 l0_3 l0_4 a0_0 a0_1 a0_2 ([] : List (S65))
def vivariumref10_Twin.T6 : Bool × List (List Nat × List Nat) := (true, [([], []), ([0], [0]), ([], []), ([2], [2]), ([], []), ([3, 4], [3, 4]), ([5], [5]), ([6], [6]), ([], []), ([], []), ([9], [9]), ([], []), ([10, 11], [10, 11]), ([12], [12]), ([13], [13]), ([8, 14], [8, 14]), ([7, 15], [7, 15]), ([16], [16]), ([1, 17, 15], [1, 17]), ([0, 1, 2, 3, 4, 5, 6, 7, 8, 9, 10, 11, 12, 13, 14, 15, 16, 17, 18], []), ([19, 18, 18, 0, 1, 2, 3, 4, 5, 6, 7, 8, 9, 10, 11, 12, 13, 14, 15, 16, 17, 18], [18, 19])])
def vivariumref10_Twin.B6 : List Nat := [0, 1, 0, 4, 0, 28, 60, 124, 0, 0, 512, 0, 3584, 7680, 15872, 32512, 65532, 131068, 262143, 524287, 1048575]
theorem vivariumref10_Twin.tab6 : rtab .any (opsOf Try.f11 6) = vivariumref10_Twin.T6 := by kernel_rfl
theorem vivariumref10_Twin.bits6 : waitsOk vivariumref10_Twin.T6.2 vivariumref10_Twin.B6 = true := by kernel_rfl
set_option maxHeartbeats 8000000 in
set_option maxRecDepth 100000 in
theorem vivariumref10_Twin.calls (k : Nat) (a0_0 : Int) (a0_1 : Int) (a0_2 : Int) (A0_3 : Option Addr) (c0_3 : Nat) (l0_3 : List (S65)) (A0_4 : Option Addr) (c0_4 : Nat) (l0_4 : List (S62)) (r1 : Int) (r2 : Int) (r3 : Int) (r4 : List (S65)) (r5 : List (S62)) (w : World) (hr0_3 : Kd.C k65 w A0_3 l0_3.length l0_3) (hc0_3 : l0_3.length ≤ c0_3) (hr0_4 : Kd.C k62 w A0_4 l0_4.length l0_4) (hc0_4 : l0_4.length ≤ c0_4) (h : vivariumref10_Twin.f k a0_0 a0_1 a0_2 l0_3 l0_4 = some (r1, r2, r3, r4, r5)) :
  Calls Try.prog 11 #[.agg #[.int .i64 a0_0, .int .u8 a0_1, .int .u8 a0_2, .slice A0_3 l0_3.length c0_3, .slice A0_4 l0_4.length c0_4]] w fun e w' => ∃ v3_ v4_ : Value, e = .returned (.agg #[.int .i64 r1, .int .u8 r2, .int .u8 r3, v3_, v4_]) ∧ Kd.S k65 65 w' w.heap.size (fun _ => True) v3_ r4 ∧ Kd.S k62 62 w' w.heap.size (fun _ => True) v4_ r5 ∧ Below w.heap.size w w' := by
 have hu33 := Try.underlying33
 have hu65 := Try.underlying65
 have hu62 := Try.underlying62
 have HR0_3 := Aside0.mk hr0_3
 have HC0_3 := Aside0.mk hc0_3
 clear hr0_3 hc0_3
 have HR0_4 := Aside0.mk hr0_4
 have HC0_4 := Aside0.mk hc0_4
 clear hr0_4 hc0_4
 have HB := Aside0.mk (Below.refl w.heap.size w)
 have H : (vivariumref10_Twin.l0 k 0 a0_0 a0_1 a0_2 l0_3 l0_4 a0_0 a0_1 a0_2 ([] : List (S65))) = some (r1, r2, r3, r4, r5) := h
 clear h
 have H' := Aside0.mk H
 clear H
 go_enter Try.func11, Try.ntmps11
 go_wp2_with (first | ((with_reducible refine gate_dst (N := 1) rfl ?_); refine box_event ?hg (N := 1) ?hd (cs := #[.int .i64 a0_0, .int .u8 a0_1, .int .u8 a0_2, .slice A0_3 l0_3.length c0_3, .slice A0_4 l0_4.length c0_4]) (t := 33) ?hr ?_; (case hd => rfl); (case hg => rfl); (case hr => first | (go_simp; done) | (go_simp; rfl)); intro gb194 hg w2 hbox hb; have n0_ := Aside0.mk (below_step (by repeat (first | (with_reducible first | exact HB.out | apply below_alloc | apply pw_below_drewN | apply below_drew1) | exact HB.out)) hb); have n1_ := Aside0.mk (hbox); have n2_ := Aside0.mk ((by rw [hg]; exact (below_size (by repeat (first | (with_reducible first | exact HB.out | apply below_alloc | apply pw_below_drewN | apply below_drew1) | exact HB.out))) : w.heap.size ≤ gb194)); have n3_ := Aside0.mk ((by rw [hg]; exact (below_size (by repeat (first | (with_reducible first | exact HB.out | apply below_alloc | apply pw_below_drewN | apply below_drew1) | exact HB.out))) : w.heap.size ≤ gb194)); clear HB; have HB := n0_; have BK194 := n1_; have GW194 := n2_; have GE194 := n3_; clear n0_ n1_ n2_ n3_; clear hb hbox hg) | ((with_reducible refine gate_dst (N := 2) rfl ?_); refine box_event ?hg (N := 2) ?hd (cs := #[.int .i64 0, .int .u8 0, .int .u8 0, .slice none 0 0, .slice none 0 0]) (t := 33) ?hr ?_; (case hd => rfl); (case hg => rfl); (case hr => first | (go_simp; done) | (go_simp; rfl)); intro gb195 hg w3 hbox hb; have n0_ := Aside0.mk (blk_below (g := gb194) (o := .cells #[.int .i64 a0_0, .int .u8 a0_1, .int .u8 a0_2, .slice A0_3 l0_3.length c0_3, .slice A0_4 l0_4.length c0_4] 33 (0, 0)) (by (with_reducible repeat (first | refine blk_drewN ?_ _ | refine blk_drew ?_ | refine blk_alloc ?_ _)); exact BK194.out) hb); have n1_ := Aside0.mk (below_step (by repeat (first | (with_reducible first | exact HB.out | apply below_alloc | apply pw_below_drewN | apply below_drew1 | refine below_set ?_ GE194.out) | exact HB.out)) hb); have n2_ := Aside0.mk (hbox); have n3_ := Aside0.mk ((by rw [hg]; exact (below_size (by repeat (first | (with_reducible first | exact HB.out | apply below_alloc | apply pw_below_drewN | apply below_drew1 | refine below_set ?_ GE194.out) | exact HB.out))) : w.heap.size ≤ gb195)); have n4_ := Aside0.mk ((by rw [hg]; exact (below_size (by repeat (first | (with_reducible first | exact HB.out | apply below_alloc | apply pw_below_drewN | apply below_drew1 | refine below_set ?_ GE194.out) | exact HB.out))) : w.heap.size ≤ gb195)); have n5_ := Aside0.mk ((by rw [hg]; exact Nat.ne_of_lt (blk_lt (g := gb194) (o := .cells #[.int .i64 a0_0, .int .u8 a0_1, .int .u8 a0_2, .slice A0_3 l0_3.length c0_3, .slice A0_4 l0_4.length c0_4] 33 (0, 0)) (by (with_reducible repeat (first | refine blk_drewN ?_ _ | refine blk_drew ?_ | refine blk_alloc ?_ _)); exact BK194.out)) : gb194 ≠ gb195)); have n6_ := Aside0.mk ((by rw [hg]; exact Nat.ne_of_gt (blk_lt (g := gb194) (o := .cells #[.int .i64 a0_0, .int .u8 a0_1, .int .u8 a0_2, .slice A0_3 l0_3.length c0_3, .slice A0_4 l0_4.length c0_4] 33 (0, 0)) (by (with_reducible repeat (first | refine blk_drewN ?_ _ | refine blk_drew ?_ | refine blk_alloc ?_ _)); exact BK194.out)) : gb195 ≠ gb194)); clear BK194; clear HB; have BK194 := n0_; have HB := n1_; have BK195 := n2_; have GW195 := n3_; have GE195 := n4_; have NB194_195 := n5_; have NB195_194 := n6_; clear n0_ n1_ n2_ n3_ n4_ n5_ n6_; clear hb hbox hg; have hnb4 := NB194_195.out; have hnc4 := NB195_194.out; have hcz5_0 : w3.cell? ⟨gb194, 0, none⟩ = some (.int .i64 a0_0) := (blk_cell BK194.out 0).trans rfl; have hcz5_1 : w3.cell? ⟨gb194, 1, none⟩ = some (.int .u8 a0_1) := (blk_cell BK194.out 1).trans rfl; have hcz5_2 : w3.cell? ⟨gb194, 2, none⟩ = some (.int .u8 a0_2) := (blk_cell BK194.out 2).trans rfl; have hcz5_3 : w3.cell? ⟨gb194, 3, none⟩ = some (.slice A0_3 l0_3.length c0_3) := (blk_cell BK194.out 3).trans rfl; have hcz5_4 : w3.cell? ⟨gb194, 4, none⟩ = some (.slice A0_4 l0_4.length c0_4) := (blk_cell BK194.out 4).trans rfl; have hfz5_0 := blk_frozen BK194.out 0; have hfz5_1 := blk_frozen BK194.out 1; have hfz5_2 := blk_frozen BK194.out 2; have hfz5_3 := blk_frozen BK194.out 3; have hfz5_4 := blk_frozen BK194.out 4) | ((with_reducible refine gate_dst (N := 3) rfl ?_); refine box_event ?hg (N := 3) ?hd (cs := #[.int .i64 0, .int .u8 0, .int .u8 0, .slice none 0 0, .slice none 0 0]) (t := 33) ?hr ?_; (case hd => rfl); (case hg => rfl); (case hr => first | (go_simp; done) | (go_simp; rfl)); intro gb196 hg w6 hbox hb; have n0_ := Aside0.mk (blk_below (g := gb194) (o := .cells #[.int .i64 a0_0, .int .u8 a0_1, .int .u8 a0_2, .slice A0_3 l0_3.length c0_3, .slice A0_4 l0_4.length c0_4] 33 (0, 0)) (by (with_reducible repeat (first | refine blk_drewN ?_ _ | refine blk_drew ?_ | refine blk_alloc ?_ _)); exact BK194.out) hb); have n1_ := Aside0.mk (blk_below (g := gb195) (o := .cells #[.int .i64 0, .int .u8 0, .int .u8 0, .slice none 0 0, .slice none 0 0] 33 (0, 0)) (by (with_reducible repeat (first | refine blk_drewN ?_ _ | refine blk_drew ?_ | refine blk_alloc ?_ _)); exact BK195.out) hb); have n2_ := Aside0.mk (below_step (by repeat (first | (with_reducible first | exact HB.out | apply below_alloc | apply pw_below_drewN | apply below_drew1 | refine below_set ?_ GE194.out | refine below_set ?_ GE195.out) | exact HB.out)) hb); have n3_ := Aside0.mk (hbox); have n4_ := Aside0.mk ((by rw [hg]; exact (below_size (by repeat (first | (with_reducible first | exact HB.out | apply below_alloc | apply pw_below_drewN | apply below_drew1 | refine below_set ?_ GE194.out | refine below_set ?_ GE195.out) | exact HB.out))) : w.heap.size ≤ gb196)); have n5_ := Aside0.mk ((by rw [hg]; exact (below_size (by repeat (first | (with_reducible first | exact HB.out | apply below_alloc | apply pw_below_drewN | apply below_drew1 | refine below_set ?_ GE194.out | refine below_set ?_ GE195.out) | exact HB.out))) : w.heap.size ≤ gb196)); have n6_ := Aside0.mk ((by rw [hg]; exact Nat.ne_of_lt (blk_lt (g := gb194) (o := .cells #[.int .i64 a0_0, .int .u8 a0_1, .int .u8 a0_2, .slice A0_3 l0_3.length c0_3, .slice A0_4 l0_4.length c0_4] 33 (0, 0)) (by (with_reducible repeat (first | refine blk_drewN ?_ _ | refine blk_drew ?_ | refine blk_alloc ?_ _)); exact BK194.out)) : gb194 ≠ gb196)); have n7_ := Aside0.mk ((by rw [hg]; exact Nat.ne_of_gt (blk_lt (g := gb194) (o := .cells #[.int .i64 a0_0, .int .u8 a0_1, .int .u8 a0_2, .slice A0_3 l0_3.length c0_3, .slice A0_4 l0_4.length c0_4] 33 (0, 0)) (by (with_reducible repeat (first | refine blk_drewN ?_ _ | refine blk_drew ?_ | refine blk_alloc ?_ _)); exact BK194.out)) : gb196 ≠ gb194)); have n8_ := Aside0.mk ((by rw [hg]; exact Nat.ne_of_lt (blk_lt (g := gb195) (o := .cells #[.int .i64 0, .int .u8 0, .int .u8 0, .slice none 0 0, .slice none 0 0] 33 (0, 0)) (by (with_reducible repeat (first | refine blk_drewN ?_ _ | refine blk_drew ?_ | refine blk_alloc ?_ _)); exact BK195.out)) : gb195 ≠ gb196)); have n9_ := Aside0.mk ((by rw [hg]; exact Nat.ne_of_gt (blk_lt (g := gb195) (o := .cells #[.int .i64 0, .int .u8 0, .int .u8 0, .slice none 0 0, .slice none 0 0] 33 (0, 0)) (by (with_reducible repeat (first | refine blk_drewN ?_ _ | refine blk_drew ?_ | refine blk_alloc ?_ _)); exact BK195.out)) : gb196 ≠ gb195)); clear BK194; clear BK195; clear HB; have BK194 := n0_; have BK195 := n1_; have HB := n2_; have BK196 := n3_; have GW196 := n4_; have GE196 := n5_; have NB194_196 := n6_; have NB196_194 := n7_; have NB195_196 := n8_; have NB196_195 := n9_; clear n0_ n1_ n2_ n3_ n4_ n5_ n6_ n7_ n8_ n9_; clear hb hbox hg; have hnb7 := NB196_194.out; have hnc7 := NB194_196.out; have hnb8 := NB196_195.out; have hnc8 := NB195_196.out; have hcz9_0 : w6.cell? ⟨gb196, 0, none⟩ = some (.int .i64 0) := (blk_cell BK196.out 0).trans rfl; have hcz9_1 : w6.cell? ⟨gb196, 1, none⟩ = some (.int .u8 0) := (blk_cell BK196.out 1).trans rfl; have hcz9_2 : w6.cell? ⟨gb196, 2, none⟩ = some (.int .u8 0) := (blk_cell BK196.out 2).trans rfl; have hcz9_3 : w6.cell? ⟨gb196, 3, none⟩ = some (.slice none 0 0) := (blk_cell BK196.out 3).trans rfl; have hcz9_4 : w6.cell? ⟨gb196, 4, none⟩ = some (.slice none 0 0) := (blk_cell BK196.out 4).trans rfl; have hfz9_0 := blk_frozen BK196.out 0; have hfz9_1 := blk_frozen BK196.out 1; have hfz9_2 := blk_frozen BK196.out 2; have hfz9_3 := blk_frozen BK196.out 3; have hfz9_4 := blk_frozen BK196.out 4))
 go_loopg [4] k (fun kq v4 w' => ∃ (x4_1 : Int) (x197003_1 : List (S65)) (u197003 : Value), v4 = .int .i64 x4_1 ∧ Aside0 (vivariumref10_Twin.l0 kq x4_1 a0_0 a0_1 a0_2 l0_3 l0_4 a0_0 a0_1 a0_2 x197003_1 = some (r1, r2, r3, r4, r5)) ∧ Aside0 (kq ≤ k) ∧ Aside0 (Kd.S k65 65 w' w.heap.size (fun _ => True) u197003 x197003_1) ∧ Aside0 (w'.heap[gb194]? = some (.cells #[.int .i64 a0_0, .int .u8 a0_1, .int .u8 a0_2, (.slice A0_3 l0_3.length c0_3), (.slice A0_4 l0_4.length c0_4)] 33 (0, 0))) ∧ Aside0 (w'.heap[gb195]? = some (.cells #[.int .i64 0, .int .u8 0, .int .u8 0, (.slice none 0 0), (.slice none 0 0)] 33 (0, 0))) ∧ Aside0 (w'.heap[gb196]? = some (.cells #[.int .i64 a0_0, .int .u8 a0_1, .int .u8 a0_2, u197003, (.slice none 0 0)] 33 (0, 0))) ∧ Aside0 (Below w.heap.size w w'))
 case atStart => exact ⟨(0), (([] : List (S65))), (.slice none 0 0), (by first | rfl | (simp; done) | (simp [*]; done)), H', ⟨Nat.le_refl _⟩, ⟨by first | exact Kd.S_nil _ _ _ _ _ | exact Kd.N_nil _ _ _ _ _ | exact Kd.V_nil _ _ _ _ _ | exact Kd.Q_nil _ _ _ _ _ | exact Kd.R_nil _ _ _ _ _⟩, ⟨by (with_reducible repeat (first | refine blk_drewN ?_ _ | refine blk_drew ?_ | refine blk_alloc ?_ _)); refine blk_far ?_ NB194_196.out _; (with_reducible repeat (first | refine blk_drewN ?_ _ | refine blk_drew ?_ | refine blk_alloc ?_ _)); refine blk_far ?_ NB194_196.out _; (with_reducible repeat (first | refine blk_drewN ?_ _ | refine blk_drew ?_ | refine blk_alloc ?_ _)); refine blk_far ?_ NB194_196.out _; (with_reducible repeat (first | refine blk_drewN ?_ _ | refine blk_drew ?_ | refine blk_alloc ?_ _)); refine blk_far ?_ NB194_196.out _; (with_reducible repeat (first | refine blk_drewN ?_ _ | refine blk_drew ?_ | refine blk_alloc ?_ _)); refine blk_far ?_ NB194_196.out _; (with_reducible repeat (first | refine blk_drewN ?_ _ | refine blk_drew ?_ | refine blk_alloc ?_ _)); exact BK194.out⟩, ⟨by (with_reducible repeat (first | refine blk_drewN ?_ _ | refine blk_drew ?_ | refine blk_alloc ?_ _)); refine blk_far ?_ NB195_196.out _; (with_reducible repeat (first | refine blk_drewN ?_ _ | refine blk_drew ?_ | refine blk_alloc ?_ _)); refine blk_far ?_ NB195_196.out _; (with_reducible repeat (first | refine blk_drewN ?_ _ | refine blk_drew ?_ | refine blk_alloc ?_ _)); refine blk_far ?_ NB195_196.out _; (with_reducible repeat (first | refine blk_drewN ?_ _ | refine blk_drew ?_ | refine blk_alloc ?_ _)); refine blk_far ?_ NB195_196.out _; (with_reducible repeat (first | refine blk_drewN ?_ _ | refine blk_drew ?_ | refine blk_alloc ?_ _)); refine blk_far ?_ NB195_196.out _; (with_reducible repeat (first | refine blk_drewN ?_ _ | refine blk_drew ?_ | refine blk_alloc ?_ _)); exact BK195.out⟩, ⟨by (with_reducible repeat (first | refine blk_drewN ?_ _ | refine blk_drew ?_ | refine blk_alloc ?_ _)); refine blk_put (cs := #[.int .i64 a0_0, .int .u8 a0_1, .int .u8 a0_2, .slice none 0 0, .slice none 0 0]) ?_ 4 _ rfl; (with_reducible repeat (first | refine blk_drewN ?_ _ | refine blk_drew ?_ | refine blk_alloc ?_ _)); refine blk_put (cs := #[.int .i64 a0_0, .int .u8 a0_1, .int .u8 a0_2, .slice none 0 0, .slice none 0 0]) ?_ 3 _ rfl; (with_reducible repeat (first | refine blk_drewN ?_ _ | refine blk_drew ?_ | refine blk_alloc ?_ _)); refine blk_put (cs := #[.int .i64 a0_0, .int .u8 a0_1, .int .u8 0, .slice none 0 0, .slice none 0 0]) ?_ 2 _ rfl; (with_reducible repeat (first | refine blk_drewN ?_ _ | refine blk_drew ?_ | refine blk_alloc ?_ _)); refine blk_put (cs := #[.int .i64 a0_0, .int .u8 0, .int .u8 0, .slice none 0 0, .slice none 0 0]) ?_ 1 _ rfl; (with_reducible repeat (first | refine blk_drewN ?_ _ | refine blk_drew ?_ | refine blk_alloc ?_ _)); refine blk_put (cs := #[.int .i64 0, .int .u8 0, .int .u8 0, .slice none 0 0, .slice none 0 0]) ?_ 0 _ rfl; (with_reducible repeat (first | refine blk_drewN ?_ _ | refine blk_drew ?_ | refine blk_alloc ?_ _)); exact BK196.out⟩, ⟨by repeat (first | (with_reducible first | exact HB.out | apply below_alloc | apply pw_below_drewN | apply below_drew1 | refine below_set ?_ GE194.out | refine below_set ?_ GE195.out | refine below_set ?_ GE196.out) | exact HB.out)⟩⟩
 case round =>
  clear H'
  try clear c1
  try clear p2
  try clear c4
  try clear c7
  try clear c8
  try clear hcz5_0
  try clear hcz5_1
  try clear hcz5_2
  try clear hcz5_3
  try clear hcz5_4
  try clear hcz9_0
  try clear hcz9_1
  try clear hcz9_2
  try clear hcz9_3
  try clear hcz9_4
  try clear hfz5_0
  try clear hfz5_1
  try clear hfz5_2
  try clear hfz5_3
  try clear hfz5_4
  try clear hfz9_0
  try clear hfz9_1
  try clear hfz9_2
  try clear hfz9_3
  try clear hfz9_4
  obtain ⟨x4_1, x197003_1, u197003, rfl, HA, HK1, HO_197003, BK194, BK195, BK196, HB⟩ := hrel
  cases gk with
  | zero => exact absurd HA.out (by simp [vivariumref10_Twin.l0])
  | succ k1 =>
   have H := HA.out
   clear HA
   simp only [vivariumref10_Twin.l0] at H
   by_cases c10 : x4_1 < (l0_3.length : Int)
   ·rw [if_pos c10] at H
    have c10b0 : decide (x4_1 < (l0_3.length : Int)) = true := decide_eq_true c10
    clear c10
    by_cases c11 : 0 ≤ x4_1
    ·rw [if_pos c11] at H
     have c11b0 : decide (0 ≤ x4_1) = true := decide_eq_true c11
     clear c11
     by_cases c12 : ([] : List Int).length + ((rd_T65 l0_3 x4_1).f1).length < 140737488355328
     ·rw [if_pos c12] at H
      have LMc12 := Aside0.mk c12
      clear c12
      obtain ⟨y199, hy199⟩ : ∃ y_ : List Int, y_ = (([] : List Int) ++ ((rd_T65 l0_3 x4_1).f1)) := ⟨_, rfl⟩
      replace H : (if x197003_1.length < 3518437208883 then (vivariumref10_Twin.l0 k1 (wrap64 (x4_1 + 1)) a0_0 a0_1 a0_2 l0_3 l0_4 a0_0 a0_1 a0_2 (x197003_1 ++ [(⟨(rd_T65 l0_3 x4_1).f0, y199⟩ : S65)])) else (none)) = some (r1, r2, r3, r4, r5) := by first | (rw [hy199]; with_reducible exact H) | (have H2_ := (Option.bind_some _ _).symm.trans H; rw [hy199]; with_reducible exact H2_) | (have H2_ := (Option.bind_some _ _).symm.trans H; with_reducible exact H2_) | with_reducible exact H | (rw [hy199]; exact H) | exact H
      have Ny199 := Aside0.mk hy199
      clear hy199
      by_cases c13 : x197003_1.length < 3518437208883
      ·rw [if_pos c13] at H
       have LMc13 := Aside0.mk c13
       clear c13
       obtain ⟨y202, hy202⟩ : ∃ y_ : List (S65), y_ = (x197003_1 ++ [(⟨(rd_T65 l0_3 x4_1).f0, y199⟩ : S65)]) := ⟨_, rfl⟩
       replace H : (vivariumref10_Twin.l0 k1 (wrap64 (x4_1 + 1)) a0_0 a0_1 a0_2 l0_3 l0_4 a0_0 a0_1 a0_2 y202) = some (r1, r2, r3, r4, r5) := by first | (rw [hy202]; with_reducible exact H) | (have H2_ := (Option.bind_some _ _).symm.trans H; rw [hy202]; with_reducible exact H2_) | (have H2_ := (Option.bind_some _ _).symm.trans H; with_reducible exact H2_) | with_reducible exact H | (rw [hy202]; exact H) | exact H
       have Ny202 := Aside0.mk hy202
       clear hy202
       have H' := Aside0.mk H
       clear H
       have hnb14 := NB194_195.out
       have hnc14 := NB195_194.out
       have hnb15 := NB194_196.out
       have hnc15 := NB196_194.out
       have hcz16_0 : wr.cell? ⟨gb194, 0, none⟩ = some (.int .i64 a0_0) := (blk_cell BK194.out 0).trans rfl
       have hcz16_1 : wr.cell? ⟨gb194, 1, none⟩ = some (.int .u8 a0_1) := (blk_cell BK194.out 1).trans rfl
       have hcz16_2 : wr.cell? ⟨gb194, 2, none⟩ = some (.int .u8 a0_2) := (blk_cell BK194.out 2).trans rfl
       have hcz16_3 : wr.cell? ⟨gb194, 3, none⟩ = some (.slice A0_3 l0_3.length c0_3) := (blk_cell BK194.out 3).trans rfl
       have hcz16_4 : wr.cell? ⟨gb194, 4, none⟩ = some (.slice A0_4 l0_4.length c0_4) := (blk_cell BK194.out 4).trans rfl
       have hfz16_0 := blk_frozen BK194.out 0
       have hfz16_1 := blk_frozen BK194.out 1
       have hfz16_2 := blk_frozen BK194.out 2
       have hfz16_3 := blk_frozen BK194.out 3
       have hfz16_4 := blk_frozen BK194.out 4
       try go_wp2
       have n0_ := Aside0.mk (Kd.S_drew HO_197003.out)
       have n1_ := Aside0.mk (blk_drew BK194.out)
       have n2_ := Aside0.mk (blk_drew BK195.out)
       have n3_ := Aside0.mk (blk_drew BK196.out)
       have n4_ := Aside0.mk (below_drew1 HB.out)
       clear HO_197003
       clear BK194
       clear BK195
       clear BK196
       clear HB
       have HO_197003 := n0_
       have BK194 := n1_
       have BK195 := n2_
       have BK196 := n3_
       have HB := n4_
       clear n0_ n1_ n2_ n3_ n4_
       have p197 : 0 ≤ (x4_1 : Int) := of_decide_eq_true (by first | (with_reducible assumption) | assumption)
       have q197 : x4_1 < (l0_3.length : Int) := of_decide_eq_true (by first | (with_reducible assumption) | assumption)
       obtain ⟨ad197, A197_1, c197_1, e197, hx197_0, hx197_1, hl197_1, hi197_1⟩ := at_T65 HR0_3.out x4_1 p197 q197
       have hw197_1 := hx197_1
       have hw197_0 := hx197_0
       cases e197
       replace hx197_0 := (HB.out.cell (World.block_lt_of_cell? w _ hx197_0)).trans hx197_0
       replace hx197_1 := (HB.out.cell (World.block_lt_of_cell? w _ hx197_1)).trans hx197_1
       have HR197_1 := Aside0.mk hi197_1
       have HC197_1 := Aside0.mk hl197_1
       clear hi197_1 hl197_1
       replace p197 := eq_true p197
       replace q197 := eq_true q197
       have p198 : 0 ≤ (x4_1 : Int) := of_decide_eq_true (by first | (with_reducible assumption) | assumption)
       have q198 : x4_1 < (l0_3.length : Int) := of_decide_eq_true (by first | (with_reducible assumption) | assumption)
       obtain ⟨ad198, A198_1, c198_1, e198, hx198_0, hx198_1, hl198_1, hi198_1⟩ := at_T65 HR0_3.out x4_1 p198 q198
       have hw198_1 := hx198_1
       have hw198_0 := hx198_0
       obtain rfl : ad197 = ad198 := (by injection e198)
       replace hx198_0 := (HB.out.cell (World.block_lt_of_cell? w _ hx198_0)).trans hx198_0
       replace hx198_1 := (HB.out.cell (World.block_lt_of_cell? w _ hx198_1)).trans hx198_1
       have HR198_1 := Aside0.mk hi198_1
       have HC198_1 := Aside0.mk hl198_1
       clear hi198_1 hl198_1
       replace p198 := eq_true p198
       replace q198 := eq_true q198
       have ea_ := Option.some.inj (hx197_1.symm.trans hx198_1)
       injection ea_ with ea_ en_ ec_
       subst ea_
       subst ec_
       clear en_
       refine start_ (n := 21) (S := fun w' => w'.cell? ⟨gb196, 0, none⟩ = some (.int .i64 a0_0) ∧ w'.cell? ⟨gb196, 1, none⟩ = some (.int .u8 a0_1) ∧ w'.cell? ⟨gb196, 2, none⟩ = some (.int .u8 a0_2) ∧ w'.cell? ⟨gb196, 3, none⟩ = some (u197003) ∧ w'.cell? ⟨gb196, 4, none⟩ = some (.slice none 0 0) ∧ w'.cell? ⟨gb194, 0, none⟩ = some (.int .i64 a0_0) ∧ w'.cell? ⟨gb194, 1, none⟩ = some (.int .u8 a0_1) ∧ w'.cell? ⟨gb194, 2, none⟩ = some (.int .u8 a0_2) ∧ w'.cell? ⟨gb194, 3, none⟩ = some (.slice (some ad197) l0_3.length c0_3) ∧ w'.cell? ⟨gb194, 4, none⟩ = some (.slice A0_4 l0_4.length c0_4) ∧ w'.cell? (ad197.add ((x4_1).toNat * 2)) = some (.string ((rd_T65 l0_3 x4_1).f0)) ∧ w'.cell? ⟨(ad197.add ((x4_1).toNat * 2)).block, (ad197.add ((x4_1).toNat * 2)).off + 1, none⟩ = some (.slice A197_1 ((rd_T65 l0_3 x4_1).f1).length c197_1) ∧ w'.cell? (ad197.add ((x4_1).toNat * 2)) = some (.string ((rd_T65 l0_3 x4_1).f0)) ∧ w'.cell? ⟨(ad197.add ((x4_1).toNat * 2)).block, (ad197.add ((x4_1).toNat * 2)).off + 1, none⟩ = some (.slice A197_1 ((rd_T65 l0_3 x4_1).f1).length c197_1)) (ds := [20]) #[false, false, false, false, false, false, false, false, false, false, false, false, false, false, false, false, false, false, false, false, false] (by kernel_rfl) rfl rfl ⟨(blk_cell BK196.out 0).trans rfl, (blk_cell BK196.out 1).trans rfl, (blk_cell BK196.out 2).trans rfl, (blk_cell BK196.out 3).trans rfl, (blk_cell BK196.out 4).trans rfl, (blk_cell BK194.out 0).trans rfl, (blk_cell BK194.out 1).trans rfl, (blk_cell BK194.out 2).trans rfl, (blk_cell BK194.out 3).trans rfl, (blk_cell BK194.out 4).trans rfl, ((HB.out.cell (World.block_lt_of_cell? w _ hw197_0)).trans hw197_0), ((HB.out.cell (World.block_lt_of_cell? w _ hw197_1)).trans hw197_1), ((HB.out.cell (World.block_lt_of_cell? w _ hw198_0)).trans hw198_0), ((HB.out.cell (World.block_lt_of_cell? w _ hw198_1)).trans hw198_1)⟩ (fun hHeld => ?_); refine with_tabW vivariumref10_Twin.tab6 vivariumref10_Twin.bits6 (fun HT_ HW_ => ?_)
       generalize wr.drew = w17 at HO_197003 BK194 BK195 BK196 HB HR197_1 HR198_1 hx197_0 hx197_1 hx198_0 hx198_1 hHeld ⊢
       refine pure_ (i := 0) (N := some 23) (v := ?_) (a' := ?_) #[true, false, false, false, false, false, false, false, false, false, false, false, false, false, false, false, false, false, false, false, false] rfl rfl (any_of HT_.out (by kernel_rfl)) (fun _ _ _ h => h) (Or.inl ⟨by rfl, ?_⟩) ?_ ?_
       rotate_left
       ·intro w'
        go_simp
        with_reducible rfl
       rotate_left
       ·simp only [Act.put, List.setIfInBounds_toArray, List.set_cons_zero, List.set_cons_succ, i64_w, i32_w]
        rfl
       refine pure_ (i := 2) (N := some 25) (v := ?_) (a' := ?_) #[true, false, true, false, false, false, false, false, false, false, false, false, false, false, false, false, false, false, false, false, false] rfl rfl (any_of HT_.out (by kernel_rfl)) (fun _ _ _ h => h) (Or.inl ⟨by rfl, ?_⟩) ?_ ?_
       rotate_left
       ·intro w'
        go_simp
        with_reducible rfl
       rotate_left
       ·simp only [Act.put, List.setIfInBounds_toArray, List.set_cons_zero, List.set_cons_succ, i64_w, i32_w]
        rfl
       refine pure_ (i := 4) (N := some 27) (v := ?_) (a' := ?_) #[true, false, true, false, true, false, false, false, false, false, false, false, false, false, false, false, false, false, false, false, false] rfl rfl (any_of HT_.out (by kernel_rfl)) (fun _ _ _ h => h) (Or.inl ⟨by rfl, ?_⟩) ?_ ?_
       rotate_left
       ·intro w'
        go_simp
        with_reducible rfl
       rotate_left
       ·simp only [Act.put, List.setIfInBounds_toArray, List.set_cons_zero, List.set_cons_succ, i64_w, i32_w]
        rfl
       refine pure_ (i := 8) (N := some 31) (v := ?_) (a' := ?_) #[true, false, true, false, true, false, false, false, true, false, false, false, false, false, false, false, false, false, false, false, false] rfl rfl (any_of HT_.out (by kernel_rfl)) (fun _ _ _ h => h) (Or.inl ⟨by rfl, ?_⟩) ?_ ?_
       rotate_left
       ·intro w'
        go_simp
        with_reducible rfl
       rotate_left
       ·simp only [Act.put, List.setIfInBounds_toArray, List.set_cons_zero, List.set_cons_succ, i64_w, i32_w]
        rfl
       refine pure_ (i := 9) (N := some 32) (v := ?_) (a' := ?_) #[true, false, true, false, true, false, false, false, true, true, false, false, false, false, false, false, false, false, false, false, false] rfl rfl (any_of HT_.out (by kernel_rfl)) (fun _ _ _ h => h) (Or.inl ⟨by rfl, ?_⟩) ?_ ?_
       rotate_left
       ·intro w'
        go_simp
        with_reducible rfl
       rotate_left
       ·simp only [Act.put, List.setIfInBounds_toArray, List.set_cons_zero, List.set_cons_succ, i64_w, i32_w]
        rfl
       refine pure_ (i := 11) (N := some 34) (v := ?_) (a' := ?_) #[true, false, true, false, true, false, false, false, true, true, false, true, false, false, false, false, false, false, false, false, false] rfl rfl (any_of HT_.out (by kernel_rfl)) (fun _ _ _ h => h) (Or.inl ⟨by rfl, ?_⟩) ?_ ?_
       rotate_left
       ·intro w'
        go_simp
        with_reducible rfl
       rotate_left
       ·simp only [Act.put, List.setIfInBounds_toArray, List.set_cons_zero, List.set_cons_succ, i64_w, i32_w]
        rfl
       refine take_ (i := 1) (N := some 24) (v := ?_) (a' := ?_) #[true, true, true, false, true, false, false, false, true, true, false, true, false, false, false, false, false, false, false, false, false] rfl rfl (take_ofW HT_.out HW_.out (by kernel_rfl)) (fun _ _ _ h => h) (Or.inl ⟨by rfl, ?_⟩) hHeld ?_ ?_
       rotate_left
       ·rintro w' ⟨s0, s1, s2, s3, s4, s5, s6, s7, s8, s9, s10, s11, s12, s13⟩
        go_simp
        with_reducible rfl
       rotate_left
       ·simp only [Act.put, List.setIfInBounds_toArray, List.set_cons_zero, List.set_cons_succ, i64_w, i32_w]
        rfl
       refine take_ (i := 3) (N := some 26) (v := ?_) (a' := ?_) #[true, true, true, true, true, false, false, false, true, true, false, true, false, false, false, false, false, false, false, false, false] rfl rfl (take_ofW HT_.out HW_.out (by kernel_rfl)) (fun _ _ _ h => h) (Or.inl ⟨by rfl, ?_⟩) hHeld ?_ ?_
       rotate_left
       ·rintro w' ⟨s0, s1, s2, s3, s4, s5, s6, s7, s8, s9, s10, s11, s12, s13⟩
        go_simp
        with_reducible rfl
       rotate_left
       ·simp only [Act.put, List.setIfInBounds_toArray, List.set_cons_zero, List.set_cons_succ, i64_w, i32_w]
        rfl
       refine pure_ (i := 5) (N := some 28) (v := ?_) (a' := ?_) #[true, true, true, true, true, true, false, false, true, true, false, true, false, false, false, false, false, false, false, false, false] rfl rfl (any_of HT_.out (by kernel_rfl)) (fun _ _ _ h => h) (Or.inl ⟨by rfl, ?_⟩) ?_ ?_
       rotate_left
       ·intro w'
        go_simp
        with_reducible rfl
       rotate_left
       ·simp only [Act.put, List.setIfInBounds_toArray, List.set_cons_zero, List.set_cons_succ, i64_w, i32_w]
        rfl
       refine pure_ (i := 6) (N := some 29) (v := ?_) (a' := ?_) #[true, true, true, true, true, true, true, false, true, true, false, true, false, false, false, false, false, false, false, false, false] rfl rfl (any_of HT_.out (by kernel_rfl)) (fun _ _ _ h => h) (Or.inl ⟨by rfl, ?_⟩) ?_ ?_
       rotate_left
       ·intro w'
        go_simp
        with_reducible rfl
       rotate_left
       ·simp only [Act.put, List.setIfInBounds_toArray, List.set_cons_zero, List.set_cons_succ, i64_w, i32_w]
        rfl
       refine take_ (i := 7) (N := some 30) (v := ?_) (a' := ?_) #[true, true, true, true, true, true, true, true, true, true, false, true, false, false, false, false, false, false, false, false, false] rfl rfl (take_ofW HT_.out HW_.out (by kernel_rfl)) (fun _ _ _ h => h) (Or.inl ⟨by rfl, ?_⟩) hHeld ?_ ?_
       rotate_left
       ·rintro w' ⟨s0, s1, s2, s3, s4, s5, s6, s7, s8, s9, s10, s11, s12, s13⟩
        go_simp
        with_reducible rfl
       rotate_left
       ·simp only [Act.put, List.setIfInBounds_toArray, List.set_cons_zero, List.set_cons_succ, i64_w, i32_w]
        rfl
       refine take_ (i := 10) (N := some 33) (v := ?_) (a' := ?_) #[true, true, true, true, true, true, true, true, true, true, true, true, false, false, false, false, false, false, false, false, false] rfl rfl (take_ofW HT_.out HW_.out (by kernel_rfl)) (fun _ _ _ h => h) (Or.inl ⟨by rfl, ?_⟩) hHeld ?_ ?_
       rotate_left
       ·rintro w' ⟨s0, s1, s2, s3, s4, s5, s6, s7, s8, s9, s10, s11, s12, s13⟩
        go_simp
        with_reducible rfl
       rotate_left
       ·simp only [Act.put, List.setIfInBounds_toArray, List.set_cons_zero, List.set_cons_succ, i64_w, i32_w]
        rfl
       refine pure_ (i := 12) (N := some 35) (v := ?_) (a' := ?_) #[true, true, true, true, true, true, true, true, true, true, true, true, true, false, false, false, false, false, false, false, false] rfl rfl (any_of HT_.out (by kernel_rfl)) (fun _ _ _ h => h) (Or.inl ⟨by rfl, ?_⟩) ?_ ?_
       rotate_left
       ·intro w'
        go_simp
        with_reducible rfl
       rotate_left
       ·simp only [Act.put, List.setIfInBounds_toArray, List.set_cons_zero, List.set_cons_succ, i64_w, i32_w]
        rfl
       refine pure_ (i := 13) (N := some 36) (v := ?_) (a' := ?_) #[true, true, true, true, true, true, true, true, true, true, true, true, true, true, false, false, false, false, false, false, false] rfl rfl (any_of HT_.out (by kernel_rfl)) (fun _ _ _ h => h) (Or.inl ⟨by rfl, ?_⟩) ?_ ?_
       rotate_left
       ·intro w'
        go_simp
        with_reducible rfl
       rotate_left
       ·simp only [Act.put, List.setIfInBounds_toArray, List.set_cons_zero, List.set_cons_succ, i64_w, i32_w]
        rfl
       refine take_ (i := 14) (N := some 37) (v := ?_) (a' := ?_) #[true, true, true, true, true, true, true, true, true, true, true, true, true, true, true, false, false, false, false, false, false] rfl rfl (take_ofW HT_.out HW_.out (by kernel_rfl)) (fun _ _ _ h => h) (Or.inl ⟨by rfl, ?_⟩) hHeld ?_ ?_
       rotate_left
       ·rintro w' ⟨s0, s1, s2, s3, s4, s5, s6, s7, s8, s9, s10, s11, s12, s13⟩
        go_simp
        with_reducible rfl
       rotate_left
       ·simp only [Act.put, List.setIfInBounds_toArray, List.set_cons_zero, List.set_cons_succ, i64_w, i32_w]
        rfl
       refine one_ (i := 15) (N := some 38) #[true, true, true, true, true, true, true, true, true, true, true, true, true, true, true, true, false, false, false, false, false] rfl rfl (one_of HT_.out (by kernel_rfl)) (by decide) (fun K hK => ?_)
       refine Kd.R_append_rows_step (Kd.int .u8) (w0 := w) w.heap.size (by rfl) (.tmp 31) (.tmp 37) 34 5 (.int .u8 0) 1 rfl Try.underlying34 info5 rfl (by decide) (by omega) (.slice none 0 0) ([] : List Int) ((rd_T65 l0_3 x4_1).f1) _ _ _ (fun _ => True) (fun _ => False) rfl rfl ?aO ?aR (fun _ _ h => h) (fun _ h => h.elim) ?aF ?aB ?aS ?aL ?_
       (case aR => repeat (first | exact (Kd.C_below HR198_1.out HB.out) | (with_reducible refine Kd.C_alloc ?_ _) | (with_reducible refine Kd.C_drewN ?_ _) | (with_reducible refine Kd.C_drew ?_)))
       (case aB => exact (by repeat (first | (with_reducible first | exact HB.out | apply below_alloc | apply pw_below_drewN | apply below_drew1 | refine below_set ?_ GE194.out | refine below_set ?_ GE195.out | refine below_set ?_ GE196.out) | exact HB.out)))
       (case aF => exact (fun _ _ => trivial))
       (case aO => exact ((Kd.R_nil _ _ _ _ (fun _ => True))))
       (case aS => exact (below_size (by repeat (first | (with_reducible first | exact HB.out | apply below_alloc | apply pw_below_drewN | apply below_drew1 | refine below_set ?_ GE194.out | refine below_set ?_ GE195.out | refine below_set ?_ GE196.out) | exact HB.out))))
       (case aL => have := LMc12.out; omega)
       intro v200 w18 ho hb hg hat
       rw [← Ny199.out] at ho
       have n0_ := Aside0.mk (Kd.S_after (Kd.S_apart_nil (by (with_reducible repeat (first | apply Kd.S_alloc | apply Kd.S_drewN | apply Kd.S_drew)); exact HO_197003.out)) hg hat)
       have n1_ := Aside0.mk (blk_grown (g := gb194) (o := .cells #[.int .i64 a0_0, .int .u8 a0_1, .int .u8 a0_2, .slice (some ad197) l0_3.length c0_3, .slice A0_4 l0_4.length c0_4] 33 (0, 0)) (by (with_reducible repeat (first | refine blk_drewN ?_ _ | refine blk_drew ?_ | refine blk_alloc ?_ _)); exact BK194.out) hg (by simp [Value.ownBlock]))
       have n2_ := Aside0.mk (blk_grown (g := gb195) (o := .cells #[.int .i64 0, .int .u8 0, .int .u8 0, .slice none 0 0, .slice none 0 0] 33 (0, 0)) (by (with_reducible repeat (first | refine blk_drewN ?_ _ | refine blk_drew ?_ | refine blk_alloc ?_ _)); exact BK195.out) hg (by simp [Value.ownBlock]))
       have n3_ := Aside0.mk (blk_grown (g := gb196) (o := .cells #[.int .i64 a0_0, .int .u8 a0_1, .int .u8 a0_2, u197003, .slice none 0 0] 33 (0, 0)) (by (with_reducible repeat (first | refine blk_drewN ?_ _ | refine blk_drew ?_ | refine blk_alloc ?_ _)); exact BK196.out) hg (by simp [Value.ownBlock]))
       have n4_ := Aside0.mk (hb)
       have n5_ := Aside0.mk (ho)
       clear HO_197003
       clear BK194
       clear BK195
       clear BK196
       clear HB
       have HO_197003 := n0_
       have BK194 := n1_
       have BK195 := n2_
       have BK196 := n3_
       have HB := n4_
       have HO201 := n5_
       clear n0_ n1_ n2_ n3_ n4_ n5_
       clear ho hb hg hat
       obtain ⟨Ao19, co19, eo19⟩ := Kd.R_slice HO201.out
       (first | subst eo19 | (injection eo19 with f1_ f2_ f3_; have f4_ := f1_.symm; have f5_ := f3_.symm; clear f1_ f2_ f3_; subst f4_; subst f5_))
       refine hK.out _ _ ⟨(blk_cell BK196.out 0).trans rfl, (blk_cell BK196.out 1).trans rfl, (blk_cell BK196.out 2).trans rfl, (blk_cell BK196.out 3).trans rfl, (blk_cell BK196.out 4).trans rfl, (blk_cell BK194.out 0).trans rfl, (blk_cell BK194.out 1).trans rfl, (blk_cell BK194.out 2).trans rfl, (blk_cell BK194.out 3).trans rfl, (blk_cell BK194.out 4).trans rfl, ((HB.out.cell (World.block_lt_of_cell? w _ hw197_0)).trans hw197_0), ((HB.out.cell (World.block_lt_of_cell? w _ hw197_1)).trans hw197_1), ((HB.out.cell (World.block_lt_of_cell? w _ hw198_0)).trans hw198_0), ((HB.out.cell (World.block_lt_of_cell? w _ hw198_1)).trans hw198_1)⟩ (fun hHeld => ?_)
       clear hK K
       refine norm_ (a' := ?_) ?_ ?_
       rotate_left
       ·show Act.put _ (some 38) _ = _
        simp only [Act.put, List.setIfInBounds_toArray, List.set_cons_zero, List.set_cons_succ, i64_w, i32_w]
        rfl
       refine pure_ (i := 16) (N := some 39) (v := ?_) (a' := ?_) #[true, true, true, true, true, true, true, true, true, true, true, true, true, true, true, true, true, false, false, false, false] rfl rfl (any_of HT_.out (by kernel_rfl)) (fun _ _ _ h => h) (Or.inl ⟨by rfl, ?_⟩) ?_ ?_
       rotate_left
       ·intro w'
        go_simp
        with_reducible rfl
       rotate_left
       ·simp only [Act.put, List.setIfInBounds_toArray, List.set_cons_zero, List.set_cons_succ, i64_w, i32_w]
        rfl
       refine one_ (i := 17) (N := some 40) #[true, true, true, true, true, true, true, true, true, true, true, true, true, true, true, true, true, true, false, false, false] rfl rfl (one_of HT_.out (by kernel_rfl)) (by decide) (fun K hK => ?_)
       refine value_ (w1 := ?_) (v := ?_) (by rfl) rfl ?_ ?_
       rotate_left 2
       ·go_simp
        constructor
        ·rfl
        ·rfl
       refine hK.out _ _ ⟨(blk_cell (blk_alloc BK196.out _) 0).trans rfl, (blk_cell (blk_alloc BK196.out _) 1).trans rfl, (blk_cell (blk_alloc BK196.out _) 2).trans rfl, (blk_cell (blk_alloc BK196.out _) 3).trans rfl, (blk_cell (blk_alloc BK196.out _) 4).trans rfl, (blk_cell (blk_alloc BK194.out _) 0).trans rfl, (blk_cell (blk_alloc BK194.out _) 1).trans rfl, (blk_cell (blk_alloc BK194.out _) 2).trans rfl, (blk_cell (blk_alloc BK194.out _) 3).trans rfl, (blk_cell (blk_alloc BK194.out _) 4).trans rfl, (World.cell?_alloc_lt _ _ _ (World.block_lt_of_cell? _ _ (((HB.out.cell (World.block_lt_of_cell? w _ hw197_0)).trans hw197_0)))).trans (((HB.out.cell (World.block_lt_of_cell? w _ hw197_0)).trans hw197_0)), (World.cell?_alloc_lt _ _ _ (World.block_lt_of_cell? _ _ (((HB.out.cell (World.block_lt_of_cell? w _ hw197_1)).trans hw197_1)))).trans (((HB.out.cell (World.block_lt_of_cell? w _ hw197_1)).trans hw197_1)), (World.cell?_alloc_lt _ _ _ (World.block_lt_of_cell? _ _ (((HB.out.cell (World.block_lt_of_cell? w _ hw198_0)).trans hw198_0)))).trans (((HB.out.cell (World.block_lt_of_cell? w _ hw198_0)).trans hw198_0)), (World.cell?_alloc_lt _ _ _ (World.block_lt_of_cell? _ _ (((HB.out.cell (World.block_lt_of_cell? w _ hw198_1)).trans hw198_1)))).trans (((HB.out.cell (World.block_lt_of_cell? w _ hw198_1)).trans hw198_1))⟩ (fun hHeld => ?_)
       clear hK K
       refine norm_ (a' := ?_) ?_ ?_
       rotate_left
       ·show Act.put _ (some 40) _ = _
        simp only [Act.put, List.setIfInBounds_toArray, List.set_cons_zero, List.set_cons_succ, i64_w, i32_w]
        rfl
       refine one_ (i := 18) (N := some 41) #[true, true, true, true, true, true, true, true, true, true, true, true, true, true, true, true, true, true, true, false, false] rfl rfl (one_of HT_.out (by kernel_rfl)) (by decide) (fun K hK => ?_)
       refine Kd.S_append_step k65 (w0 := w) w.heap.size (by rfl) (.tmp 24) (.tmp 40) 30 65 (.agg #[(.string ⟨#[]⟩), (.slice none 0 0)]) 40 rfl Try.underlying30 info65 rfl (by decide) (by omega) u197003 x197003_1 (⟨(rd_T65 l0_3 x4_1).f0, y199⟩ : S65) [.string ((rd_T65 l0_3 x4_1).f0), .slice Ao19 y199.length co19] (fun _ => True) (fun k_ => some k_ = (.slice Ao19 y199.length co19 : Value).ownBlock) rfl rfl ?aP (fun k_ hk_ => ((Kd.R_mono (ok' := fun k_ => ((fun _ => True)) k_ ∧ some k_ ≠ (u197003 : Value).ownBlock) (Kd.R_apart' (HO201.out) (Kd.S_typed HO_197003.out) (by decide)) (fun k_ hk => ⟨trivial, hk.2⟩))).1 k_ hk_.symm) ?aF ?aO ?aB ?aS ?aL ?_
       (case aP => exact k65_mkM _ _ _ (⟨(rd_T65 l0_3 x4_1).f0, y199⟩ : S65) (Kd.R_mono (Kd.R_tight rfl (Kd.R_mono (ok' := fun k_ => ((fun _ => True)) k_ ∧ some k_ ≠ (u197003 : Value).ownBlock) (Kd.R_apart' (HO201.out) (Kd.S_typed HO_197003.out) (by decide)) (fun k_ hk => ⟨trivial, hk.2⟩))) (fun _ h_ => h_)))
       (case aB => exact (by repeat (first | (with_reducible first | exact HB.out | apply below_alloc | apply pw_below_drewN | apply below_drew1 | refine below_set ?_ GE194.out | refine below_set ?_ GE195.out | refine below_set ?_ GE196.out) | exact HB.out)))
       (case aF => exact (fun _ _ => trivial))
       (case aO => exact (by (with_reducible repeat (first | apply Kd.S_alloc | apply Kd.S_drewN | apply Kd.S_drew)); exact Kd.S_mono HO_197003.out (fun k_ hk => ⟨trivial, fun e_ => hk.2 e_⟩)))
       (case aS => exact (below_size (by repeat (first | (with_reducible first | exact HB.out | apply below_alloc | apply pw_below_drewN | apply below_drew1 | refine below_set ?_ GE194.out | refine below_set ?_ GE195.out | refine below_set ?_ GE196.out) | exact HB.out))))
       (case aL => have := LMc13.out; omega)
       intro v203 w20 ho hb hg hat
       rw [← Ny202.out] at ho
       have n0_ := Aside0.mk (blk_grown (g := gb194) (o := .cells #[.int .i64 a0_0, .int .u8 a0_1, .int .u8 a0_2, .slice (some ad197) l0_3.length c0_3, .slice A0_4 l0_4.length c0_4] 33 (0, 0)) (by (with_reducible repeat (first | refine blk_drewN ?_ _ | refine blk_drew ?_ | refine blk_alloc ?_ _)); exact BK194.out) hg (Kd.S_ne HO_197003.out BK194.out (by decide)))
       have n1_ := Aside0.mk (blk_grown (g := gb195) (o := .cells #[.int .i64 0, .int .u8 0, .int .u8 0, .slice none 0 0, .slice none 0 0] 33 (0, 0)) (by (with_reducible repeat (first | refine blk_drewN ?_ _ | refine blk_drew ?_ | refine blk_alloc ?_ _)); exact BK195.out) hg (Kd.S_ne HO_197003.out BK195.out (by decide)))
       have n2_ := Aside0.mk (blk_grown (g := gb196) (o := .cells #[.int .i64 a0_0, .int .u8 a0_1, .int .u8 a0_2, u197003, .slice none 0 0] 33 (0, 0)) (by (with_reducible repeat (first | refine blk_drewN ?_ _ | refine blk_drew ?_ | refine blk_alloc ?_ _)); exact BK196.out) hg (Kd.S_ne HO_197003.out BK196.out (by decide)))
       have n3_ := Aside0.mk (hb)
       have n4_ := Aside0.mk (ho)
       clear BK194
       clear BK195
       clear BK196
       clear HB
       clear HO_197003
       clear HO201
       have BK194 := n0_
       have BK195 := n1_
       have BK196 := n2_
       have HB := n3_
       have HO204 := n4_
       clear n0_ n1_ n2_ n3_ n4_
       clear ho hb hg hat
       obtain ⟨Ao21, co21, eo21⟩ := Kd.S_slice HO204.out
       (first | subst eo21 | (injection eo21 with f1_ f2_ f3_; have f4_ := f1_.symm; have f5_ := f3_.symm; clear f1_ f2_ f3_; subst f4_; subst f5_))
       refine hK.out _ _ ⟨(blk_cell BK196.out 0).trans rfl, (blk_cell BK196.out 1).trans rfl, (blk_cell BK196.out 2).trans rfl, (blk_cell BK196.out 3).trans rfl, (blk_cell BK196.out 4).trans rfl, (blk_cell BK194.out 0).trans rfl, (blk_cell BK194.out 1).trans rfl, (blk_cell BK194.out 2).trans rfl, (blk_cell BK194.out 3).trans rfl, (blk_cell BK194.out 4).trans rfl, ((HB.out.cell (World.block_lt_of_cell? w _ hw197_0)).trans hw197_0), ((HB.out.cell (World.block_lt_of_cell? w _ hw197_1)).trans hw197_1), ((HB.out.cell (World.block_lt_of_cell? w _ hw198_0)).trans hw198_0), ((HB.out.cell (World.block_lt_of_cell? w _ hw198_1)).trans hw198_1)⟩ (fun hHeld => ?_)
       clear hK K
       refine norm_ (a' := ?_) ?_ ?_
       rotate_left
       ·show Act.put _ (some 41) _ = _
        simp only [Act.put, List.setIfInBounds_toArray, List.set_cons_zero, List.set_cons_succ, i64_w, i32_w]
        rfl
       refine pure_ (i := 19) (N := some 42) (v := ?_) (a' := ?_) #[true, true, true, true, true, true, true, true, true, true, true, true, true, true, true, true, true, true, true, true, false] rfl rfl (any_of HT_.out (by kernel_rfl)) (fun _ _ _ h => h) (Or.inl ⟨by rfl, ?_⟩) ?_ ?_
       rotate_left
       ·intro w'
        go_simp
        with_reducible rfl
       rotate_left
       ·simp only [Act.put, List.setIfInBounds_toArray, List.set_cons_zero, List.set_cons_succ, i64_w, i32_w]
        rfl
       refine last_ (i := 20) (N := none) #[true, true, true, true, true, true, true, true, true, true, true, true, true, true, true, true, true, true, true, true, true] rfl rfl (one_of HT_.out (by kernel_rfl)) (by decide) (fun K hK => ?_)
       have hs22 : w20.cell? ⟨gb196, 3, none⟩ = some (u197003) := (blk_cell BK196.out 3).trans rfl
       have hfs22 := blk_frozen BK196.out 3
       have hns22_0 := NB194_196.out
       have hns22_1 := NB195_196.out
       have hms22_0 := NB196_194.out
       have hms22_1 := NB196_195.out
       refine skip_ (w1 := ?_) (by rfl) rfl ?_ ?_
       rotate_left
       ·go_simp
        rfl
       refine hK.out _ _ ?_
       clear hK K
       refine done_ (done_of HT_.out (by kernel_rfl)) ?_
       try go_wp2
       go_roundg k1
       case measure => have := HK1.out; omega
       case rel => exact ⟨(wrap64 (x4_1 + 1)), (y202), (.slice Ao21 y202.length co21), (by first | rfl | (simp; done) | (simp [*]; done)), H', ⟨by have := HK1.out; omega⟩, ⟨by (with_reducible repeat (first | apply Kd.S_alloc | apply Kd.S_drewN | apply Kd.S_drew)); exact Kd.S_mono (Kd.S_far (p := ⟨gb196, 3, none⟩) (Kd.S_types HO204.out BK196.out (by decide)) (fun _ hk => hk.2) (.slice Ao21 y202.length co21)) (fun _ hk => trivial)⟩, ⟨by (with_reducible repeat (first | refine blk_drewN ?_ _ | refine blk_drew ?_ | refine blk_alloc ?_ _)); refine blk_far ?_ NB194_196.out _; (with_reducible repeat (first | refine blk_drewN ?_ _ | refine blk_drew ?_ | refine blk_alloc ?_ _)); exact BK194.out⟩, ⟨by (with_reducible repeat (first | refine blk_drewN ?_ _ | refine blk_drew ?_ | refine blk_alloc ?_ _)); refine blk_far ?_ NB195_196.out _; (with_reducible repeat (first | refine blk_drewN ?_ _ | refine blk_drew ?_ | refine blk_alloc ?_ _)); exact BK195.out⟩, ⟨by (with_reducible repeat (first | refine blk_drewN ?_ _ | refine blk_drew ?_ | refine blk_alloc ?_ _)); refine blk_put (cs := #[.int .i64 a0_0, .int .u8 a0_1, .int .u8 a0_2, u197003, .slice none 0 0]) ?_ 3 _ rfl; (with_reducible repeat (first | refine blk_drewN ?_ _ | refine blk_drew ?_ | refine blk_alloc ?_ _)); exact BK196.out⟩, ⟨by repeat (first | (with_reducible first | exact HB.out | apply below_alloc | apply pw_below_drewN | apply below_drew1 | refine below_set ?_ GE194.out | refine below_set ?_ GE195.out | refine below_set ?_ GE196.out) | exact HB.out)⟩⟩
      ·rw [if_neg c13] at H
       exact absurd H (by simp)
     ·rw [if_neg c12] at H
      exact absurd H (by simp)
    ·rw [if_neg c11] at H
     exact absurd H (by simp)
   ·rw [if_neg c10] at H
    have c10b0 : decide (x4_1 < (l0_3.length : Int)) = false := decide_eq_false c10
    clear c10
    have H' := Aside0.mk H
    clear H
    have hnb23 := NB194_195.out
    have hnc23 := NB195_194.out
    have hnb24 := NB194_196.out
    have hnc24 := NB196_194.out
    have hcz25_0 : wr.cell? ⟨gb194, 0, none⟩ = some (.int .i64 a0_0) := (blk_cell BK194.out 0).trans rfl
    have hcz25_1 : wr.cell? ⟨gb194, 1, none⟩ = some (.int .u8 a0_1) := (blk_cell BK194.out 1).trans rfl
    have hcz25_2 : wr.cell? ⟨gb194, 2, none⟩ = some (.int .u8 a0_2) := (blk_cell BK194.out 2).trans rfl
    have hcz25_3 : wr.cell? ⟨gb194, 3, none⟩ = some (.slice A0_3 l0_3.length c0_3) := (blk_cell BK194.out 3).trans rfl
    have hcz25_4 : wr.cell? ⟨gb194, 4, none⟩ = some (.slice A0_4 l0_4.length c0_4) := (blk_cell BK194.out 4).trans rfl
    have hfz25_0 := blk_frozen BK194.out 0
    have hfz25_1 := blk_frozen BK194.out 1
    have hfz25_2 := blk_frozen BK194.out 2
    have hfz25_3 := blk_frozen BK194.out 3
    have hfz25_4 := blk_frozen BK194.out 4
    go_wp2
    go_loopg [6] k1 (fun kq v6 w' => ∃ (x6_2 : Int) (x197004_2 : List (S62)) (u197004 : Value), v6 = .int .i64 x6_2 ∧ Aside0 (vivariumref10_Twin.l1 kq x6_2 a0_0 a0_1 a0_2 l0_3 l0_4 a0_0 a0_1 a0_2 x197003_1 x197004_2 = some (r1, r2, r3, r4, r5)) ∧ Aside0 (kq ≤ k1) ∧ Aside0 (Kd.S k65 65 w' w.heap.size (fun _ => True) u197003 x197003_1) ∧ Aside0 (Kd.S k62 62 w' w.heap.size (fun _ => True) u197004 x197004_2) ∧ Aside0 (w'.heap[gb194]? = some (.cells #[.int .i64 a0_0, .int .u8 a0_1, .int .u8 a0_2, (.slice A0_3 l0_3.length c0_3), (.slice A0_4 l0_4.length c0_4)] 33 (0, 0))) ∧ Aside0 (w'.heap[gb195]? = some (.cells #[.int .i64 0, .int .u8 0, .int .u8 0, (.slice none 0 0), (.slice none 0 0)] 33 (0, 0))) ∧ Aside0 (w'.heap[gb196]? = some (.cells #[.int .i64 a0_0, .int .u8 a0_1, .int .u8 a0_2, u197003, u197004] 33 (0, 0))) ∧ Aside0 (Below w.heap.size w w'))
    case atStart => exact ⟨(0), (([] : List (S62))), (.slice none 0 0), (by first | rfl | (simp; done) | (simp [*]; done)), H', ⟨Nat.le_refl _⟩, ⟨by (with_reducible repeat (first | apply Kd.S_alloc | apply Kd.S_drewN | apply Kd.S_drew)); exact HO_197003.out⟩, ⟨by first | exact Kd.S_nil _ _ _ _ _ | exact Kd.N_nil _ _ _ _ _ | exact Kd.V_nil _ _ _ _ _ | exact Kd.Q_nil _ _ _ _ _ | exact Kd.R_nil _ _ _ _ _⟩, ⟨by (with_reducible repeat (first | refine blk_drewN ?_ _ | refine blk_drew ?_ | refine blk_alloc ?_ _)); exact BK194.out⟩, ⟨by (with_reducible repeat (first | refine blk_drewN ?_ _ | refine blk_drew ?_ | refine blk_alloc ?_ _)); exact BK195.out⟩, ⟨by (with_reducible repeat (first | refine blk_drewN ?_ _ | refine blk_drew ?_ | refine blk_alloc ?_ _)); exact BK196.out⟩, ⟨by repeat (first | (with_reducible first | exact HB.out | apply below_alloc | apply pw_below_drewN | apply below_drew1 | refine below_set ?_ GE194.out | refine below_set ?_ GE195.out | refine below_set ?_ GE196.out) | exact HB.out)⟩⟩
    case round =>
     clear H'
     try clear c1
     try clear p1
     try clear q1
     try clear hx1
     try clear c2
     try clear p2
     try clear c4
     try clear p6
     try clear c7
     try clear c8
     try clear c10
     try clear c10b0
     try clear c11
     try clear c11b0
     try clear c12
     try clear c13
     try clear c14
     try clear c15
     try clear c19
     try clear p19
     try clear q19
     try clear hx19
     try clear c23
     try clear c24
     try clear hcz16_0
     try clear hcz16_1
     try clear hcz16_2
     try clear hcz16_3
     try clear hcz16_4
     try clear hcz25_0
     try clear hcz25_1
     try clear hcz25_2
     try clear hcz25_3
     try clear hcz25_4
     try clear hcz5_0
     try clear hcz5_1
     try clear hcz5_2
     try clear hcz5_3
     try clear hcz5_4
     try clear hcz9_0
     try clear hcz9_1
     try clear hcz9_2
     try clear hcz9_3
     try clear hcz9_4
     try clear hfz16_0
     try clear hfz16_1
     try clear hfz16_2
     try clear hfz16_3
     try clear hfz16_4
     try clear hfz25_0
     try clear hfz25_1
     try clear hfz25_2
     try clear hfz25_3
     try clear hfz25_4
     try clear hfz5_0
     try clear hfz5_1
     try clear hfz5_2
     try clear hfz5_3
     try clear hfz5_4
     try clear hfz9_0
     try clear hfz9_1
     try clear hfz9_2
     try clear hfz9_3
     try clear hfz9_4
     try clear hx197_0
     try clear hx197_1
     try clear hx198_0
     try clear hx198_1
     try clear p197
     try clear p198
     try clear p2
     try clear q197
     try clear q198
     obtain ⟨x6_2, x197004_2, u197004, rfl, HA, HK2, HO_197003, HO_197004, BK194, BK195, BK196, HB⟩ := hrel
     cases gk with
     | zero => exact absurd HA.out (by simp [vivariumref10_Twin.l1])
     | succ k2 =>
      have H := HA.out
      clear HA
      simp only [vivariumref10_Twin.l1] at H
      by_cases c26 : x6_2 < (l0_4.length : Int)
      ·rw [if_pos c26] at H
       have c26b0 : decide (x6_2 < (l0_4.length : Int)) = true := decide_eq_true c26
       clear c26
       by_cases c27 : 0 ≤ x6_2
       ·rw [if_pos c27] at H
        have c27b0 : decide (0 ≤ x6_2) = true := decide_eq_true c27
        clear c27
        by_cases c28 : ([] : List (S59)).length + ((rd_T62 l0_4 x6_2).f1).length < 8796093022208
        ·rw [if_pos c28] at H
         have LMc28 := Aside0.mk c28
         clear c28
         obtain ⟨y207, hy207⟩ : ∃ y_ : List (S59), y_ = (([] : List (S59)) ++ ((rd_T62 l0_4 x6_2).f1)) := ⟨_, rfl⟩
         replace H : (if x197004_2.length < 2513169434916 then (vivariumref10_Twin.l1 k2 (wrap64 (x6_2 + 1)) a0_0 a0_1 a0_2 l0_3 l0_4 a0_0 a0_1 a0_2 x197003_1 (x197004_2 ++ [(⟨(⟨(rd_T62 l0_4 x6_2).f0.f0, (rd_T62 l0_4 x6_2).f0.f1⟩ : S59), y207, (⟨(rd_T62 l0_4 x6_2).f2.f0, (rd_T62 l0_4 x6_2).f2.f1⟩ : S59)⟩ : S62)])) else (none)) = some (r1, r2, r3, r4, r5) := by first | (rw [hy207]; with_reducible exact H) | (have H2_ := (Option.bind_some _ _).symm.trans H; rw [hy207]; with_reducible exact H2_) | (have H2_ := (Option.bind_some _ _).symm.trans H; with_reducible exact H2_) | with_reducible exact H | (rw [hy207]; exact H) | exact H
         have Ny207 := Aside0.mk hy207
         clear hy207
         by_cases c29 : x197004_2.length < 2513169434916
         ·rw [if_pos c29] at H
          have LMc29 := Aside0.mk c29
          clear c29
          obtain ⟨y210, hy210⟩ : ∃ y_ : List (S62), y_ = (x197004_2 ++ [(⟨(⟨(rd_T62 l0_4 x6_2).f0.f0, (rd_T62 l0_4 x6_2).f0.f1⟩ : S59), y207, (⟨(rd_T62 l0_4 x6_2).f2.f0, (rd_T62 l0_4 x6_2).f2.f1⟩ : S59)⟩ : S62)]) := ⟨_, rfl⟩
          replace H : (vivariumref10_Twin.l1 k2 (wrap64 (x6_2 + 1)) a0_0 a0_1 a0_2 l0_3 l0_4 a0_0 a0_1 a0_2 x197003_1 y210) = some (r1, r2, r3, r4, r5) := by first | (rw [hy210]; with_reducible exact H) | (have H2_ := (Option.bind_some _ _).symm.trans H; rw [hy210]; with_reducible exact H2_) | (have H2_ := (Option.bind_some _ _).symm.trans H; with_reducible exact H2_) | with_reducible exact H | (rw [hy210]; exact H) | exact H
          have Ny210 := Aside0.mk hy210
          clear hy210
          have H' := Aside0.mk H
          clear H
          have hnb30 := NB194_195.out
          have hnc30 := NB195_194.out
          have hnb31 := NB194_196.out
          have hnc31 := NB196_194.out
          have hcz32_0 : wr.cell? ⟨gb194, 0, none⟩ = some (.int .i64 a0_0) := (blk_cell BK194.out 0).trans rfl
          have hcz32_1 : wr.cell? ⟨gb194, 1, none⟩ = some (.int .u8 a0_1) := (blk_cell BK194.out 1).trans rfl
          have hcz32_2 : wr.cell? ⟨gb194, 2, none⟩ = some (.int .u8 a0_2) := (blk_cell BK194.out 2).trans rfl
          have hcz32_3 : wr.cell? ⟨gb194, 3, none⟩ = some (.slice A0_3 l0_3.length c0_3) := (blk_cell BK194.out 3).trans rfl
          have hcz32_4 : wr.cell? ⟨gb194, 4, none⟩ = some (.slice A0_4 l0_4.length c0_4) := (blk_cell BK194.out 4).trans rfl
          have hfz32_0 := blk_frozen BK194.out 0
          have hfz32_1 := blk_frozen BK194.out 1
          have hfz32_2 := blk_frozen BK194.out 2
          have hfz32_3 := blk_frozen BK194.out 3
          have hfz32_4 := blk_frozen BK194.out 4
          have p205 : 0 ≤ (x6_2 : Int) := of_decide_eq_true (by first | (with_reducible assumption) | assumption)
          have q205 : x6_2 < (l0_4.length : Int) := of_decide_eq_true (by first | (with_reducible assumption) | assumption)
          obtain ⟨ad205, A205_2, c205_2, e205, hx205_0, hx205_1, hx205_2, hx205_3, hx205_4, hl205_2, hi205_2⟩ := at_T62 HR0_4.out x6_2 p205 q205
          cases e205
          replace hx205_0 := (HB.out.cell (World.block_lt_of_cell? w _ hx205_0)).trans hx205_0
          replace hx205_1 := (HB.out.cell (World.block_lt_of_cell? w _ hx205_1)).trans hx205_1
          replace hx205_2 := (HB.out.cell (World.block_lt_of_cell? w _ hx205_2)).trans hx205_2
          replace hx205_3 := (HB.out.cell (World.block_lt_of_cell? w _ hx205_3)).trans hx205_3
          replace hx205_4 := (HB.out.cell (World.block_lt_of_cell? w _ hx205_4)).trans hx205_4
          have HR205_2 := Aside0.mk hi205_2
          have HC205_2 := Aside0.mk hl205_2
          clear hi205_2 hl205_2
          replace p205 := eq_true p205
          replace q205 := eq_true q205
          go_wp2_with (first | ((with_reducible refine gate_dst (N := 7) rfl ?_); refine box_event ?hg (N := 7) ?hd (cs := #[.int .u8 0, .int .i64 0, .slice none 0 0, .int .u8 0, .int .i64 0]) (t := 62) ?hr ?_; (case hd => rfl); (case hg => rfl); (case hr => first | (go_simp; done) | (go_simp; rfl)); intro gb206 hg w33 hbox hb; have n0_ := Aside0.mk (Kd.S_below (by (with_reducible repeat (first | apply Kd.S_alloc | apply Kd.S_drewN | apply Kd.S_drew)); exact HO_197003.out) hb); have n1_ := Aside0.mk (Kd.S_below (Kd.S_elderB (by (with_reducible repeat (first | apply Kd.S_alloc | apply Kd.S_drewN | apply Kd.S_drew)); exact HO_197004.out) gb206 (Nat.le_of_eq hg.symm)) hb); have n2_ := Aside0.mk (blk_below (g := gb194) (o := .cells #[.int .i64 a0_0, .int .u8 a0_1, .int .u8 a0_2, .slice A0_3 l0_3.length c0_3, .slice (some ad205) l0_4.length c0_4] 33 (0, 0)) (by (with_reducible repeat (first | refine blk_drewN ?_ _ | refine blk_drew ?_ | refine blk_alloc ?_ _)); exact BK194.out) hb); have n3_ := Aside0.mk (blk_below (g := gb195) (o := .cells #[.int .i64 0, .int .u8 0, .int .u8 0, .slice none 0 0, .slice none 0 0] 33 (0, 0)) (by (with_reducible repeat (first | refine blk_drewN ?_ _ | refine blk_drew ?_ | refine blk_alloc ?_ _)); exact BK195.out) hb); have n4_ := Aside0.mk (blk_below (g := gb196) (o := .cells #[.int .i64 a0_0, .int .u8 a0_1, .int .u8 a0_2, u197003, u197004] 33 (0, 0)) (by (with_reducible repeat (first | refine blk_drewN ?_ _ | refine blk_drew ?_ | refine blk_alloc ?_ _)); exact BK196.out) hb); have n5_ := Aside0.mk (below_step (by repeat (first | (with_reducible first | exact HB.out | apply below_alloc | apply pw_below_drewN | apply below_drew1 | refine below_set ?_ GE194.out | refine below_set ?_ GE195.out | refine below_set ?_ GE196.out) | exact HB.out)) hb); have n6_ := Aside0.mk (hbox); have n7_ := Aside0.mk ((by rw [hg]; exact (below_size (by repeat (first | (with_reducible first | exact HB.out | apply below_alloc | apply pw_below_drewN | apply below_drew1 | refine below_set ?_ GE194.out | refine below_set ?_ GE195.out | refine below_set ?_ GE196.out) | exact HB.out))) : w.heap.size ≤ gb206)); have n8_ := Aside0.mk ((by rw [hg]; exact (below_size (by repeat (first | (with_reducible first | exact HB.out | apply below_alloc | apply pw_below_drewN | apply below_drew1 | refine below_set ?_ GE194.out | refine below_set ?_ GE195.out | refine below_set ?_ GE196.out) | exact HB.out))) : w.heap.size ≤ gb206)); have n9_ := Aside0.mk ((by rw [hg]; exact Nat.ne_of_lt (blk_lt (g := gb194) (o := .cells #[.int .i64 a0_0, .int .u8 a0_1, .int .u8 a0_2, .slice A0_3 l0_3.length c0_3, .slice (some ad205) l0_4.length c0_4] 33 (0, 0)) (by (with_reducible repeat (first | refine blk_drewN ?_ _ | refine blk_drew ?_ | refine blk_alloc ?_ _)); exact BK194.out)) : gb194 ≠ gb206)); have n10_ := Aside0.mk ((by rw [hg]; exact Nat.ne_of_gt (blk_lt (g := gb194) (o := .cells #[.int .i64 a0_0, .int .u8 a0_1, .int .u8 a0_2, .slice A0_3 l0_3.length c0_3, .slice (some ad205) l0_4.length c0_4] 33 (0, 0)) (by (with_reducible repeat (first | refine blk_drewN ?_ _ | refine blk_drew ?_ | refine blk_alloc ?_ _)); exact BK194.out)) : gb206 ≠ gb194)); have n11_ := Aside0.mk ((by rw [hg]; exact Nat.ne_of_lt (blk_lt (g := gb195) (o := .cells #[.int .i64 0, .int .u8 0, .int .u8 0, .slice none 0 0, .slice none 0 0] 33 (0, 0)) (by (with_reducible repeat (first | refine blk_drewN ?_ _ | refine blk_drew ?_ | refine blk_alloc ?_ _)); exact BK195.out)) : gb195 ≠ gb206)); have n12_ := Aside0.mk ((by rw [hg]; exact Nat.ne_of_gt (blk_lt (g := gb195) (o := .cells #[.int .i64 0, .int .u8 0, .int .u8 0, .slice none 0 0, .slice none 0 0] 33 (0, 0)) (by (with_reducible repeat (first | refine blk_drewN ?_ _ | refine blk_drew ?_ | refine blk_alloc ?_ _)); exact BK195.out)) : gb206 ≠ gb195)); have n13_ := Aside0.mk ((by rw [hg]; exact Nat.ne_of_lt (blk_lt (g := gb196) (o := .cells #[.int .i64 a0_0, .int .u8 a0_1, .int .u8 a0_2, u197003, u197004] 33 (0, 0)) (by (with_reducible repeat (first | refine blk_drewN ?_ _ | refine blk_drew ?_ | refine blk_alloc ?_ _)); exact BK196.out)) : gb196 ≠ gb206)); have n14_ := Aside0.mk ((by rw [hg]; exact Nat.ne_of_gt (blk_lt (g := gb196) (o := .cells #[.int .i64 a0_0, .int .u8 a0_1, .int .u8 a0_2, u197003, u197004] 33 (0, 0)) (by (with_reducible repeat (first | refine blk_drewN ?_ _ | refine blk_drew ?_ | refine blk_alloc ?_ _)); exact BK196.out)) : gb206 ≠ gb196)); clear HO_197003; clear HO_197004; clear BK194; clear BK195; clear BK196; clear HB; have HO_197003 := n0_; have HO_197004 := n1_; have BK194 := n2_; have BK195 := n3_; have BK196 := n4_; have HB := n5_; have BK206 := n6_; have GW206 := n7_; have GE206 := n8_; have NB194_206 := n9_; have NB206_194 := n10_; have NB195_206 := n11_; have NB206_195 := n12_; have NB196_206 := n13_; have NB206_196 := n14_; clear n0_ n1_ n2_ n3_ n4_ n5_ n6_ n7_ n8_ n9_ n10_ n11_ n12_ n13_ n14_; clear hb hbox hg; have hnb34 := NB206_194.out; have hnc34 := NB194_206.out; have hnb35 := NB206_195.out; have hnc35 := NB195_206.out; have hnb36 := NB206_196.out; have hnc36 := NB196_206.out; have hcz37_0 : w33.cell? ⟨gb206, 0, none⟩ = some (.int .u8 0) := (blk_cell BK206.out 0).trans rfl; have hcz37_1 : w33.cell? ⟨gb206, 1, none⟩ = some (.int .i64 0) := (blk_cell BK206.out 1).trans rfl; have hcz37_2 : w33.cell? ⟨gb206, 2, none⟩ = some (.slice none 0 0) := (blk_cell BK206.out 2).trans rfl; have hcz37_3 : w33.cell? ⟨gb206, 3, none⟩ = some (.int .u8 0) := (blk_cell BK206.out 3).trans rfl; have hcz37_4 : w33.cell? ⟨gb206, 4, none⟩ = some (.int .i64 0) := (blk_cell BK206.out 4).trans rfl; have hfz37_0 := blk_frozen BK206.out 0; have hfz37_1 := blk_frozen BK206.out 1; have hfz37_2 := blk_frozen BK206.out 2; have hfz37_3 := blk_frozen BK206.out 3; have hfz37_4 := blk_frozen BK206.out 4) | ((with_reducible refine gate_builtin (b := .append) (xs := #[.tmp 55, .tmp 57]) rfl ?_); at_builtin; refine Kd.R_append_rows k59 (w0 := w) w.heap.size rfl (.tmp 55) (.tmp 57) 60 59 (.agg #[(.int .u8 0), (.int .i64 0)]) 16 rfl Try.underlying60 info59 rfl (by decide) (by omega) (.slice none 0 0) ([] : List (S59)) ((rd_T62 l0_4 x6_2).f1) _ _ _ (fun _ => True) (fun _ => False) rfl rfl ?aO ?aR (fun _ _ h => h) (fun _ h => h.elim) ?aF ?aB ?aS ?aL ?_; (case aR => exact Kd.C_below HR205_2.out (by repeat (first | (with_reducible first | exact HB.out | apply below_alloc | apply pw_below_drewN | apply below_drew1 | refine below_set ?_ GE194.out | refine below_set ?_ GE195.out | refine below_set ?_ GE196.out | refine below_set ?_ GE206.out) | exact HB.out))); (case aB => exact (by repeat (first | (with_reducible first | exact HB.out | apply below_alloc | apply pw_below_drewN | apply below_drew1 | refine below_set ?_ GE194.out | refine below_set ?_ GE195.out | refine below_set ?_ GE196.out | refine below_set ?_ GE206.out) | exact HB.out))); (case aF => exact (fun _ _ => trivial)); (case aO => exact ((Kd.R_nil _ _ _ _ (fun _ => True)))); (case aS => exact (below_size (by repeat (first | (with_reducible first | exact HB.out | apply below_alloc | apply pw_below_drewN | apply below_drew1 | refine below_set ?_ GE194.out | refine below_set ?_ GE195.out | refine below_set ?_ GE196.out | refine below_set ?_ GE206.out) | exact HB.out)))); (case aL => have := LMc28.out; omega); intro v208 w38 ho hb hg hat; rw [← Ny207.out] at ho; have n0_ := Aside0.mk (Kd.S_grown (by (with_reducible repeat (first | apply Kd.S_alloc | apply Kd.S_drewN | apply Kd.S_drew)); exact (Kd.S_mono (Kd.S_far (p := ⟨gb206, 4, none⟩) (Kd.S_far (p := ⟨gb206, 3, none⟩) (Kd.S_far (p := ⟨gb206, 2, none⟩) (Kd.S_far (p := ⟨gb206, 1, none⟩) (Kd.S_far (p := ⟨gb206, 0, none⟩) (Kd.S_types HO_197003.out BK206.out (by decide)) (fun _ hk => hk.2) (.int .u8 ((rd_T62 l0_4 x6_2).f0.f0))) (fun _ hk => hk.2) (.int .i64 ((rd_T62 l0_4 x6_2).f0.f1))) (fun _ hk => hk.2) (.slice A205_2 ((rd_T62 l0_4 x6_2).f1).length c205_2)) (fun _ hk => hk.2) (.int .u8 ((rd_T62 l0_4 x6_2).f2.f0))) (fun _ hk => hk.2) (.int .i64 ((rd_T62 l0_4 x6_2).f2.f1))) (fun _ h_ => h_.1))) hg (fun _ _ => by simp [Value.ownBlock])); have n1_ := Aside0.mk (Kd.S_after (Kd.S_apart_nil (by (with_reducible repeat (first | apply Kd.S_alloc | apply Kd.S_drewN | apply Kd.S_drew)); exact (Kd.S_mono (Kd.S_far (p := ⟨gb206, 4, none⟩) (Kd.S_far (p := ⟨gb206, 3, none⟩) (Kd.S_far (p := ⟨gb206, 2, none⟩) (Kd.S_far (p := ⟨gb206, 1, none⟩) (Kd.S_far (p := ⟨gb206, 0, none⟩) (Kd.S_mono HO_197004.out (fun k_ hk => (⟨hk, hk.2⟩ : _ ∧ k_ ≠ gb206))) (fun _ hk => hk.2) (.int .u8 ((rd_T62 l0_4 x6_2).f0.f0))) (fun _ hk => hk.2) (.int .i64 ((rd_T62 l0_4 x6_2).f0.f1))) (fun _ hk => hk.2) (.slice A205_2 ((rd_T62 l0_4 x6_2).f1).length c205_2)) (fun _ hk => hk.2) (.int .u8 ((rd_T62 l0_4 x6_2).f2.f0))) (fun _ hk => hk.2) (.int .i64 ((rd_T62 l0_4 x6_2).f2.f1))) (fun _ h_ => h_.1)))) hg hat); have n2_ := Aside0.mk (blk_grown (g := gb194) (o := .cells #[.int .i64 a0_0, .int .u8 a0_1, .int .u8 a0_2, .slice A0_3 l0_3.length c0_3, .slice (some ad205) l0_4.length c0_4] 33 (0, 0)) (by (with_reducible repeat (first | refine blk_drewN ?_ _ | refine blk_drew ?_ | refine blk_alloc ?_ _)); refine blk_far ?_ NB194_206.out _; (with_reducible repeat (first | refine blk_drewN ?_ _ | refine blk_drew ?_ | refine blk_alloc ?_ _)); refine blk_far ?_ NB194_206.out _; (with_reducible repeat (first | refine blk_drewN ?_ _ | refine blk_drew ?_ | refine blk_alloc ?_ _)); refine blk_far ?_ NB194_206.out _; (with_reducible repeat (first | refine blk_drewN ?_ _ | refine blk_drew ?_ | refine blk_alloc ?_ _)); refine blk_far ?_ NB194_206.out _; (with_reducible repeat (first | refine blk_drewN ?_ _ | refine blk_drew ?_ | refine blk_alloc ?_ _)); refine blk_far ?_ NB194_206.out _; (with_reducible repeat (first | refine blk_drewN ?_ _ | refine blk_drew ?_ | refine blk_alloc ?_ _)); exact BK194.out) hg (by simp [Value.ownBlock])); have n3_ := Aside0.mk (blk_grown (g := gb195) (o := .cells #[.int .i64 0, .int .u8 0, .int .u8 0, .slice none 0 0, .slice none 0 0] 33 (0, 0)) (by (with_reducible repeat (first | refine blk_drewN ?_ _ | refine blk_drew ?_ | refine blk_alloc ?_ _)); refine blk_far ?_ NB195_206.out _; (with_reducible repeat (first | refine blk_drewN ?_ _ | refine blk_drew ?_ | refine blk_alloc ?_ _)); refine blk_far ?_ NB195_206.out _; (with_reducible repeat (first | refine blk_drewN ?_ _ | refine blk_drew ?_ | refine blk_alloc ?_ _)); refine blk_far ?_ NB195_206.out _; (with_reducible repeat (first | refine blk_drewN ?_ _ | refine blk_drew ?_ | refine blk_alloc ?_ _)); refine blk_far ?_ NB195_206.out _; (with_reducible repeat (first | refine blk_drewN ?_ _ | refine blk_drew ?_ | refine blk_alloc ?_ _)); refine blk_far ?_ NB195_206.out _; (with_reducible repeat (first | refine blk_drewN ?_ _ | refine blk_drew ?_ | refine blk_alloc ?_ _)); exact BK195.out) hg (by simp [Value.ownBlock])); have n4_ := Aside0.mk (blk_grown (g := gb196) (o := .cells #[.int .i64 a0_0, .int .u8 a0_1, .int .u8 a0_2, u197003, u197004] 33 (0, 0)) (by (with_reducible repeat (first | refine blk_drewN ?_ _ | refine blk_drew ?_ | refine blk_alloc ?_ _)); refine blk_far ?_ NB196_206.out _; (with_reducible repeat (first | refine blk_drewN ?_ _ | refine blk_drew ?_ | refine blk_alloc ?_ _)); refine blk_far ?_ NB196_206.out _; (with_reducible repeat (first | refine blk_drewN ?_ _ | refine blk_drew ?_ | refine blk_alloc ?_ _)); refine blk_far ?_ NB196_206.out _; (with_reducible repeat (first | refine blk_drewN ?_ _ | refine blk_drew ?_ | refine blk_alloc ?_ _)); refine blk_far ?_ NB196_206.out _; (with_reducible repeat (first | refine blk_drewN ?_ _ | refine blk_drew ?_ | refine blk_alloc ?_ _)); refine blk_far ?_ NB196_206.out _; (with_reducible repeat (first | refine blk_drewN ?_ _ | refine blk_drew ?_ | refine blk_alloc ?_ _)); exact BK196.out) hg (by simp [Value.ownBlock])); have n5_ := Aside0.mk (blk_grown (g := gb206) (o := .cells #[.int .u8 ((rd_T62 l0_4 x6_2).f0.f0), .int .i64 ((rd_T62 l0_4 x6_2).f0.f1), .slice A205_2 ((rd_T62 l0_4 x6_2).f1).length c205_2, .int .u8 ((rd_T62 l0_4 x6_2).f2.f0), .int .i64 ((rd_T62 l0_4 x6_2).f2.f1)] 62 (0, 0)) (by (with_reducible repeat (first | refine blk_drewN ?_ _ | refine blk_drew ?_ | refine blk_alloc ?_ _)); refine blk_put (cs := #[.int .u8 ((rd_T62 l0_4 x6_2).f0.f0), .int .i64 ((rd_T62 l0_4 x6_2).f0.f1), .slice A205_2 ((rd_T62 l0_4 x6_2).f1).length c205_2, .int .u8 ((rd_T62 l0_4 x6_2).f2.f0), .int .i64 0]) ?_ 4 _ rfl; (with_reducible repeat (first | refine blk_drewN ?_ _ | refine blk_drew ?_ | refine blk_alloc ?_ _)); refine blk_put (cs := #[.int .u8 ((rd_T62 l0_4 x6_2).f0.f0), .int .i64 ((rd_T62 l0_4 x6_2).f0.f1), .slice A205_2 ((rd_T62 l0_4 x6_2).f1).length c205_2, .int .u8 0, .int .i64 0]) ?_ 3 _ rfl; (with_reducible repeat (first | refine blk_drewN ?_ _ | refine blk_drew ?_ | refine blk_alloc ?_ _)); refine blk_put (cs := #[.int .u8 ((rd_T62 l0_4 x6_2).f0.f0), .int .i64 ((rd_T62 l0_4 x6_2).f0.f1), .slice none 0 0, .int .u8 0, .int .i64 0]) ?_ 2 _ rfl; (with_reducible repeat (first | refine blk_drewN ?_ _ | refine blk_drew ?_ | refine blk_alloc ?_ _)); refine blk_put (cs := #[.int .u8 ((rd_T62 l0_4 x6_2).f0.f0), .int .i64 0, .slice none 0 0, .int .u8 0, .int .i64 0]) ?_ 1 _ rfl; (with_reducible repeat (first | refine blk_drewN ?_ _ | refine blk_drew ?_ | refine blk_alloc ?_ _)); refine blk_put (cs := #[.int .u8 0, .int .i64 0, .slice none 0 0, .int .u8 0, .int .i64 0]) ?_ 0 _ rfl; (with_reducible repeat (first | refine blk_drewN ?_ _ | refine blk_drew ?_ | refine blk_alloc ?_ _)); exact BK206.out) hg (by simp [Value.ownBlock])); have n6_ := Aside0.mk (hb); have n7_ := Aside0.mk (ho); clear HO_197003; clear HO_197004; clear BK194; clear BK195; clear BK196; clear BK206; clear HB; have HO_197003 := n0_; have HO_197004 := n1_; have BK194 := n2_; have BK195 := n3_; have BK196 := n4_; have BK206 := n5_; have HB := n6_; have HO209 := n7_; clear n0_ n1_ n2_ n3_ n4_ n5_ n6_ n7_; clear ho hb hg hat; obtain ⟨Ao39, co39, eo39⟩ := Kd.R_slice HO209.out; subst eo39; have hcz40_0 : w38.cell? ⟨gb206, 0, none⟩ = some (.int .u8 ((rd_T62 l0_4 x6_2).f0.f0)) := (blk_cell BK206.out 0).trans rfl; have hcz40_1 : w38.cell? ⟨gb206, 1, none⟩ = some (.int .i64 ((rd_T62 l0_4 x6_2).f0.f1)) := (blk_cell BK206.out 1).trans rfl; have hcz40_2 : w38.cell? ⟨gb206, 2, none⟩ = some (.slice A205_2 ((rd_T62 l0_4 x6_2).f1).length c205_2) := (blk_cell BK206.out 2).trans rfl; have hcz40_3 : w38.cell? ⟨gb206, 3, none⟩ = some (.int .u8 ((rd_T62 l0_4 x6_2).f2.f0)) := (blk_cell BK206.out 3).trans rfl; have hcz40_4 : w38.cell? ⟨gb206, 4, none⟩ = some (.int .i64 ((rd_T62 l0_4 x6_2).f2.f1)) := (blk_cell BK206.out 4).trans rfl; have hfz40_0 := blk_frozen BK206.out 0; have hfz40_1 := blk_frozen BK206.out 1; have hfz40_2 := blk_frozen BK206.out 2; have hfz40_3 := blk_frozen BK206.out 3; have hfz40_4 := blk_frozen BK206.out 4) | ((with_reducible refine gate_store (t := 60) (p := 59) rfl ?_); refine store_event (t := 60) (p := 59) (v := ?vo_w41) (w1 := (w38.setCell ⟨gb206, 2, none⟩ (.slice Ao39 y207.length co39))) ?hg ?ho ?hn ?hr ?_; (case ho => rfl); (case hg => rfl); (case hn => rfl); (case hr => first | (go_simp; done) | (go_simp; rfl)); intro w41 hw; have n0_ : Aside0 (Kd.S k65 65 w41 w.heap.size (fun _ => True) u197003 x197003_1) := ⟨(by rw [hw]; exact (by (with_reducible repeat (first | apply Kd.S_alloc | apply Kd.S_drewN | apply Kd.S_drew)); exact Kd.S_mono (Kd.S_far (p := ⟨gb206, 2, none⟩) (Kd.S_types HO_197003.out BK206.out (by decide)) (fun _ hk => hk.2) (.slice Ao39 y207.length co39)) (fun _ hk => trivial)))⟩; have n1_ : Aside0 (Kd.S k62 62 w41 w.heap.size (fun k_ => some k_ ≠ (.slice Ao39 y207.length co39 : Value).ownBlock ∧ k_ ≠ gb206) u197004 x197004_2) := ⟨(by rw [hw]; exact (by (with_reducible repeat (first | apply Kd.S_alloc | apply Kd.S_drewN | apply Kd.S_drew)); exact Kd.S_mono (Kd.S_far (p := ⟨gb206, 2, none⟩) (Kd.S_mono HO_197004.out (fun k_ hk => (⟨hk, hk.1.2⟩ : _ ∧ k_ ≠ gb206))) (fun _ hk => hk.2) (.slice Ao39 y207.length co39)) (fun _ hk => ⟨hk.1.2, hk.1.1.2⟩)))⟩; have n2_ : Aside0 (Kd.R k59 59 w41 w.heap.size (fun _ => True) (.slice Ao39 y207.length co39) y207) := ⟨(by rw [hw]; exact (by (with_reducible repeat (first | apply Kd.R_alloc | apply Kd.R_drewN | apply Kd.R_drew)); exact Kd.R_mono (Kd.R_far (p := ⟨gb206, 2, none⟩) (Kd.R_types HO209.out BK206.out (by decide)) (fun _ hk => hk.2) (.slice Ao39 y207.length co39)) (fun _ hk => trivial)))⟩; have n3_ : Aside0 (w41.heap[gb194]? = some (.cells #[.int .i64 a0_0, .int .u8 a0_1, .int .u8 a0_2, .slice A0_3 l0_3.length c0_3, .slice (some ad205) l0_4.length c0_4] 33 (0, 0))) := ⟨(by rw [hw]; exact (by (with_reducible repeat (first | refine blk_drewN ?_ _ | refine blk_drew ?_ | refine blk_alloc ?_ _)); refine blk_far ?_ NB194_206.out _; (with_reducible repeat (first | refine blk_drewN ?_ _ | refine blk_drew ?_ | refine blk_alloc ?_ _)); exact BK194.out))⟩; have n4_ : Aside0 (w41.heap[gb195]? = some (.cells #[.int .i64 0, .int .u8 0, .int .u8 0, .slice none 0 0, .slice none 0 0] 33 (0, 0))) := ⟨(by rw [hw]; exact (by (with_reducible repeat (first | refine blk_drewN ?_ _ | refine blk_drew ?_ | refine blk_alloc ?_ _)); refine blk_far ?_ NB195_206.out _; (with_reducible repeat (first | refine blk_drewN ?_ _ | refine blk_drew ?_ | refine blk_alloc ?_ _)); exact BK195.out))⟩; have n5_ : Aside0 (w41.heap[gb196]? = some (.cells #[.int .i64 a0_0, .int .u8 a0_1, .int .u8 a0_2, u197003, u197004] 33 (0, 0))) := ⟨(by rw [hw]; exact (by (with_reducible repeat (first | refine blk_drewN ?_ _ | refine blk_drew ?_ | refine blk_alloc ?_ _)); refine blk_far ?_ NB196_206.out _; (with_reducible repeat (first | refine blk_drewN ?_ _ | refine blk_drew ?_ | refine blk_alloc ?_ _)); exact BK196.out))⟩; have n6_ : Aside0 (w41.heap[gb206]? = some (.cells #[.int .u8 ((rd_T62 l0_4 x6_2).f0.f0), .int .i64 ((rd_T62 l0_4 x6_2).f0.f1), .slice Ao39 y207.length co39, .int .u8 ((rd_T62 l0_4 x6_2).f2.f0), .int .i64 ((rd_T62 l0_4 x6_2).f2.f1)] 62 (0, 0))) := ⟨(by rw [hw]; exact (by (with_reducible repeat (first | refine blk_drewN ?_ _ | refine blk_drew ?_ | refine blk_alloc ?_ _)); refine blk_put (cs := #[.int .u8 ((rd_T62 l0_4 x6_2).f0.f0), .int .i64 ((rd_T62 l0_4 x6_2).f0.f1), .slice A205_2 ((rd_T62 l0_4 x6_2).f1).length c205_2, .int .u8 ((rd_T62 l0_4 x6_2).f2.f0), .int .i64 ((rd_T62 l0_4 x6_2).f2.f1)]) ?_ 2 _ rfl; (with_reducible repeat (first | refine blk_drewN ?_ _ | refine blk_drew ?_ | refine blk_alloc ?_ _)); exact BK206.out))⟩; have n7_ : Aside0 (Below w.heap.size w w41) := ⟨(by rw [hw]; exact (by repeat (first | (with_reducible first | exact HB.out | apply below_alloc | apply pw_below_drewN | apply below_drew1 | refine below_set ?_ GE194.out | refine below_set ?_ GE195.out | refine below_set ?_ GE196.out | refine below_set ?_ GE206.out) | exact HB.out)))⟩; clear hw; clear HO_197003; clear HO_197004; clear HO209; clear BK194; clear BK195; clear BK196; clear BK206; clear HB; have HO_197003 := n0_; have HO_197004 := n1_; have HO209 := n2_; have BK194 := n3_; have BK195 := n4_; have BK196 := n5_; have BK206 := n6_; have HB := n7_; clear n0_ n1_ n2_ n3_ n4_ n5_ n6_ n7_; have hnb42 := NB196_195.out; have hnc42 := NB195_196.out; have hcz43_0 : w41.cell? ⟨gb196, 0, none⟩ = some (.int .i64 a0_0) := (blk_cell BK196.out 0).trans rfl; have hcz43_1 : w41.cell? ⟨gb196, 1, none⟩ = some (.int .u8 a0_1) := (blk_cell BK196.out 1).trans rfl; have hcz43_2 : w41.cell? ⟨gb196, 2, none⟩ = some (.int .u8 a0_2) := (blk_cell BK196.out 2).trans rfl; have hcz43_3 : w41.cell? ⟨gb196, 3, none⟩ = some (u197003) := (blk_cell BK196.out 3).trans rfl; have hcz43_4 : w41.cell? ⟨gb196, 4, none⟩ = some (u197004) := (blk_cell BK196.out 4).trans rfl; have hfz43_0 := blk_frozen BK196.out 0; have hfz43_1 := blk_frozen BK196.out 1; have hfz43_2 := blk_frozen BK196.out 2; have hfz43_3 := blk_frozen BK196.out 3; have hfz43_4 := blk_frozen BK196.out 4; have hcz44_0 : w41.cell? ⟨gb206, 0, none⟩ = some (.int .u8 ((rd_T62 l0_4 x6_2).f0.f0)) := (blk_cell BK206.out 0).trans rfl; have hcz44_1 : w41.cell? ⟨gb206, 1, none⟩ = some (.int .i64 ((rd_T62 l0_4 x6_2).f0.f1)) := (blk_cell BK206.out 1).trans rfl; have hcz44_2 : w41.cell? ⟨gb206, 2, none⟩ = some (.slice Ao39 y207.length co39) := (blk_cell BK206.out 2).trans rfl; have hcz44_3 : w41.cell? ⟨gb206, 3, none⟩ = some (.int .u8 ((rd_T62 l0_4 x6_2).f2.f0)) := (blk_cell BK206.out 3).trans rfl; have hcz44_4 : w41.cell? ⟨gb206, 4, none⟩ = some (.int .i64 ((rd_T62 l0_4 x6_2).f2.f1)) := (blk_cell BK206.out 4).trans rfl; have hfz44_0 := blk_frozen BK206.out 0; have hfz44_1 := blk_frozen BK206.out 1; have hfz44_2 := blk_frozen BK206.out 2; have hfz44_3 := blk_frozen BK206.out 3; have hfz44_4 := blk_frozen BK206.out 4) | ((with_reducible refine gate_builtin (b := .append) (xs := #[.tmp 61, .tmp 63]) rfl ?_); at_builtin; refine Kd.S_append k62 (w0 := w) w.heap.size rfl (.tmp 61) (.tmp 63) 31 62 (.agg #[(.int .u8 0), (.int .i64 0), (.slice none 0 0), (.int .u8 0), (.int .i64 0)]) 56 rfl Try.underlying31 info62 rfl (by decide) (by omega) u197004 x197004_2 (⟨(⟨(rd_T62 l0_4 x6_2).f0.f0, (rd_T62 l0_4 x6_2).f0.f1⟩ : S59), y207, (⟨(rd_T62 l0_4 x6_2).f2.f0, (rd_T62 l0_4 x6_2).f2.f1⟩ : S59)⟩ : S62) [.int .u8 ((rd_T62 l0_4 x6_2).f0.f0), .int .i64 ((rd_T62 l0_4 x6_2).f0.f1), .slice Ao39 y207.length co39, .int .u8 ((rd_T62 l0_4 x6_2).f2.f0), .int .i64 ((rd_T62 l0_4 x6_2).f2.f1)] (fun k_ => k_ ≠ gb206) (fun k_ => some k_ = (.slice Ao39 y207.length co39 : Value).ownBlock) rfl rfl ?aP (fun k_ hk_ => ((Kd.R_mono (ok' := fun k_ => ((fun k_ => k_ ≠ gb206)) k_ ∧ some k_ ≠ (u197004 : Value).ownBlock) (Kd.R_types (Kd.R_apart' (HO209.out) (Kd.S_typed HO_197004.out) (by decide)) BK206.out (by decide)) (fun k_ hk => ⟨hk.2, hk.1.2⟩))).1 k_ hk_.symm) ?aF ?aO ?aB ?aS ?aL ?_; (case aP => exact k62_mkM _ _ _ (⟨(⟨(rd_T62 l0_4 x6_2).f0.f0, (rd_T62 l0_4 x6_2).f0.f1⟩ : S59), y207, (⟨(rd_T62 l0_4 x6_2).f2.f0, (rd_T62 l0_4 x6_2).f2.f1⟩ : S59)⟩ : S62) (Kd.R_mono (Kd.R_tight rfl (Kd.R_mono (ok' := fun k_ => ((fun k_ => k_ ≠ gb206)) k_ ∧ some k_ ≠ (u197004 : Value).ownBlock) (Kd.R_types (Kd.R_apart' (HO209.out) (Kd.S_typed HO_197004.out) (by decide)) BK206.out (by decide)) (fun k_ hk => ⟨hk.2, hk.1.2⟩))) (fun _ h_ => h_))); (case aB => exact (by repeat (first | (with_reducible first | exact HB.out | apply below_alloc | apply pw_below_drewN | apply below_drew1 | refine below_set ?_ GE194.out | refine below_set ?_ GE195.out | refine below_set ?_ GE196.out | refine below_set ?_ GE206.out) | exact HB.out))); (case aF => exact (fun k_ hk => Kd.freshB (g := gb206) (o := .cells #[.int .u8 ((rd_T62 l0_4 x6_2).f0.f0), .int .i64 ((rd_T62 l0_4 x6_2).f0.f1), .slice Ao39 y207.length co39, .int .u8 ((rd_T62 l0_4 x6_2).f2.f0), .int .i64 ((rd_T62 l0_4 x6_2).f2.f1)] 62 (0, 0)) (by (with_reducible repeat (first | refine blk_drewN ?_ _ | refine blk_drew ?_ | refine blk_alloc ?_ _)); exact BK206.out) k_ hk)); (case aO => exact (by (with_reducible repeat (first | apply Kd.S_alloc | apply Kd.S_drewN | apply Kd.S_drew)); exact Kd.S_mono HO_197004.out (fun k_ hk => ⟨hk.2, fun e_ => hk.1 e_⟩))); (case aS => exact (below_size (by repeat (first | (with_reducible first | exact HB.out | apply below_alloc | apply pw_below_drewN | apply below_drew1 | refine below_set ?_ GE194.out | refine below_set ?_ GE195.out | refine below_set ?_ GE196.out | refine below_set ?_ GE206.out) | exact HB.out)))); (case aL => have := LMc29.out; omega); intro v211 w45 ho hb hg hat; rw [← Ny210.out] at ho; have n0_ := Aside0.mk (Kd.S_over' (by (with_reducible repeat (first | apply Kd.S_alloc | apply Kd.S_drewN | apply Kd.S_drew)); exact HO_197003.out) (Kd.S_typed (by (with_reducible repeat (first | apply Kd.S_alloc | apply Kd.S_drewN | apply Kd.S_drew)); exact HO_197004.out)) (by decide) hg); have n1_ := Aside0.mk (blk_grown (g := gb194) (o := .cells #[.int .i64 a0_0, .int .u8 a0_1, .int .u8 a0_2, .slice A0_3 l0_3.length c0_3, .slice (some ad205) l0_4.length c0_4] 33 (0, 0)) (by (with_reducible repeat (first | refine blk_drewN ?_ _ | refine blk_drew ?_ | refine blk_alloc ?_ _)); exact BK194.out) hg (Kd.S_ne HO_197004.out BK194.out (by decide))); have n2_ := Aside0.mk (blk_grown (g := gb195) (o := .cells #[.int .i64 0, .int .u8 0, .int .u8 0, .slice none 0 0, .slice none 0 0] 33 (0, 0)) (by (with_reducible repeat (first | refine blk_drewN ?_ _ | refine blk_drew ?_ | refine blk_alloc ?_ _)); exact BK195.out) hg (Kd.S_ne HO_197004.out BK195.out (by decide))); have n3_ := Aside0.mk (blk_grown (g := gb196) (o := .cells #[.int .i64 a0_0, .int .u8 a0_1, .int .u8 a0_2, u197003, u197004] 33 (0, 0)) (by (with_reducible repeat (first | refine blk_drewN ?_ _ | refine blk_drew ?_ | refine blk_alloc ?_ _)); exact BK196.out) hg (Kd.S_ne HO_197004.out BK196.out (by decide))); have n4_ := Aside0.mk (blk_grown (g := gb206) (o := .cells #[.int .u8 ((rd_T62 l0_4 x6_2).f0.f0), .int .i64 ((rd_T62 l0_4 x6_2).f0.f1), .slice Ao39 y207.length co39, .int .u8 ((rd_T62 l0_4 x6_2).f2.f0), .int .i64 ((rd_T62 l0_4 x6_2).f2.f1)] 62 (0, 0)) (by (with_reducible repeat (first | refine blk_drewN ?_ _ | refine blk_drew ?_ | refine blk_alloc ?_ _)); exact BK206.out) hg (Kd.S_away HO_197004.out (fun _ hk => hk.2))); have n5_ := Aside0.mk (hb); have n6_ := Aside0.mk (ho); clear HO_197003; clear BK194; clear BK195; clear BK196; clear BK206; clear HB; clear HO_197004; clear HO209; have HO_197003 := n0_; have BK194 := n1_; have BK195 := n2_; have BK196 := n3_; have BK206 := n4_; have HB := n5_; have HO212 := n6_; clear n0_ n1_ n2_ n3_ n4_ n5_ n6_; clear ho hb hg hat; obtain ⟨Ao46, co46, eo46⟩ := Kd.S_slice HO212.out; subst eo46; have hcz47_0 : w45.cell? ⟨gb196, 0, none⟩ = some (.int .i64 a0_0) := (blk_cell BK196.out 0).trans rfl; have hcz47_1 : w45.cell? ⟨gb196, 1, none⟩ = some (.int .u8 a0_1) := (blk_cell BK196.out 1).trans rfl; have hcz47_2 : w45.cell? ⟨gb196, 2, none⟩ = some (.int .u8 a0_2) := (blk_cell BK196.out 2).trans rfl; have hcz47_3 : w45.cell? ⟨gb196, 3, none⟩ = some (u197003) := (blk_cell BK196.out 3).trans rfl; have hcz47_4 : w45.cell? ⟨gb196, 4, none⟩ = some (u197004) := (blk_cell BK196.out 4).trans rfl; have hfz47_0 := blk_frozen BK196.out 0; have hfz47_1 := blk_frozen BK196.out 1; have hfz47_2 := blk_frozen BK196.out 2; have hfz47_3 := blk_frozen BK196.out 3; have hfz47_4 := blk_frozen BK196.out 4))
          go_roundg k2
          case measure => have := HK1.out; have := HK2.out; omega
          case rel => exact ⟨(wrap64 (x6_2 + 1)), (y210), (.slice Ao46 y210.length co46), (by first | rfl | (simp; done) | (simp [*]; done)), H', ⟨by have := HK1.out; have := HK2.out; omega⟩, ⟨by (with_reducible repeat (first | apply Kd.S_alloc | apply Kd.S_drewN | apply Kd.S_drew)); exact Kd.S_mono (Kd.S_far (p := ⟨gb196, 4, none⟩) (Kd.S_types HO_197003.out BK196.out (by decide)) (fun _ hk => hk.2) (.slice Ao46 y210.length co46)) (fun _ hk => trivial)⟩, ⟨by (with_reducible repeat (first | apply Kd.S_alloc | apply Kd.S_drewN | apply Kd.S_drew)); exact Kd.S_mono (Kd.S_far (p := ⟨gb196, 4, none⟩) (Kd.S_types HO212.out BK196.out (by decide)) (fun _ hk => hk.2) (.slice Ao46 y210.length co46)) (fun _ hk => trivial)⟩, ⟨by (with_reducible repeat (first | refine blk_drewN ?_ _ | refine blk_drew ?_ | refine blk_alloc ?_ _)); refine blk_far ?_ NB194_196.out _; (with_reducible repeat (first | refine blk_drewN ?_ _ | refine blk_drew ?_ | refine blk_alloc ?_ _)); exact BK194.out⟩, ⟨by (with_reducible repeat (first | refine blk_drewN ?_ _ | refine blk_drew ?_ | refine blk_alloc ?_ _)); refine blk_far ?_ NB195_196.out _; (with_reducible repeat (first | refine blk_drewN ?_ _ | refine blk_drew ?_ | refine blk_alloc ?_ _)); exact BK195.out⟩, ⟨by (with_reducible repeat (first | refine blk_drewN ?_ _ | refine blk_drew ?_ | refine blk_alloc ?_ _)); refine blk_put (cs := #[.int .i64 a0_0, .int .u8 a0_1, .int .u8 a0_2, u197003, u197004]) ?_ 4 _ rfl; (with_reducible repeat (first | refine blk_drewN ?_ _ | refine blk_drew ?_ | refine blk_alloc ?_ _)); exact BK196.out⟩, ⟨by repeat (first | (with_reducible first | exact HB.out | apply below_alloc | apply pw_below_drewN | apply below_drew1 | refine below_set ?_ GE194.out | refine below_set ?_ GE195.out | refine below_set ?_ GE196.out | refine below_set ?_ GE206.out) | exact HB.out)⟩⟩
         ·rw [if_neg c29] at H
          exact absurd H (by simp)
        ·rw [if_neg c28] at H
         exact absurd H (by simp)
       ·rw [if_neg c27] at H
        exact absurd H (by simp)
      ·rw [if_neg c26] at H
       have c26b0 : decide (x6_2 < (l0_4.length : Int)) = false := decide_eq_false c26
       clear c26
       simp only [Option.some.injEq, Prod.mk.injEq] at H
       obtain ⟨rfl, rfl, rfl, rfl, rfl⟩ := H
       have hnb48 := NB194_195.out
       have hnc48 := NB195_194.out
       have hnb49 := NB194_196.out
       have hnc49 := NB196_194.out
       have hcz50_0 : wr.cell? ⟨gb194, 0, none⟩ = some (.int .i64 a0_0) := (blk_cell BK194.out 0).trans rfl
       have hcz50_1 : wr.cell? ⟨gb194, 1, none⟩ = some (.int .u8 a0_1) := (blk_cell BK194.out 1).trans rfl
       have hcz50_2 : wr.cell? ⟨gb194, 2, none⟩ = some (.int .u8 a0_2) := (blk_cell BK194.out 2).trans rfl
       have hcz50_3 : wr.cell? ⟨gb194, 3, none⟩ = some (.slice A0_3 l0_3.length c0_3) := (blk_cell BK194.out 3).trans rfl
       have hcz50_4 : wr.cell? ⟨gb194, 4, none⟩ = some (.slice A0_4 l0_4.length c0_4) := (blk_cell BK194.out 4).trans rfl
       have hfz50_0 := blk_frozen BK194.out 0
       have hfz50_1 := blk_frozen BK194.out 1
       have hfz50_2 := blk_frozen BK194.out 2
       have hfz50_3 := blk_frozen BK194.out 3
       have hfz50_4 := blk_frozen BK194.out 4
       have hnb51 := NB196_195.out
       have hnc51 := NB195_196.out
       have hcz52_0 : wr.cell? ⟨gb196, 0, none⟩ = some (.int .i64 a0_0) := (blk_cell BK196.out 0).trans rfl
       have hcz52_1 : wr.cell? ⟨gb196, 1, none⟩ = some (.int .u8 a0_1) := (blk_cell BK196.out 1).trans rfl
       have hcz52_2 : wr.cell? ⟨gb196, 2, none⟩ = some (.int .u8 a0_2) := (blk_cell BK196.out 2).trans rfl
       have hcz52_3 : wr.cell? ⟨gb196, 3, none⟩ = some (u197003) := (blk_cell BK196.out 3).trans rfl
       have hcz52_4 : wr.cell? ⟨gb196, 4, none⟩ = some (u197004) := (blk_cell BK196.out 4).trans rfl
       have hfz52_0 := blk_frozen BK196.out 0
       have hfz52_1 := blk_frozen BK196.out 1
       have hfz52_2 := blk_frozen BK196.out 2
       have hfz52_3 := blk_frozen BK196.out 3
       have hfz52_4 := blk_frozen BK196.out 4
       have hcz53_0 : wr.cell? ⟨gb195, 0, none⟩ = some (.int .i64 0) := (blk_cell BK195.out 0).trans rfl
       have hcz53_1 : wr.cell? ⟨gb195, 1, none⟩ = some (.int .u8 0) := (blk_cell BK195.out 1).trans rfl
       have hcz53_2 : wr.cell? ⟨gb195, 2, none⟩ = some (.int .u8 0) := (blk_cell BK195.out 2).trans rfl
       have hcz53_3 : wr.cell? ⟨gb195, 3, none⟩ = some (.slice none 0 0) := (blk_cell BK195.out 3).trans rfl
       have hcz53_4 : wr.cell? ⟨gb195, 4, none⟩ = some (.slice none 0 0) := (blk_cell BK195.out 4).trans rfl
       have hfz53_0 := blk_frozen BK195.out 0
       have hfz53_1 := blk_frozen BK195.out 1
       have hfz53_2 := blk_frozen BK195.out 2
       have hfz53_3 := blk_frozen BK195.out 3
       have hfz53_4 := blk_frozen BK195.out 4
       obtain ⟨Ao54, co54, eo54⟩ := Kd.S_slice HO_197003.out
       subst eo54
       obtain ⟨Ao55, co55, eo55⟩ := Kd.S_slice HO_197004.out
       subst eo55
       go_wp2
       refine bodyPost_ret (results_cell_row rfl _ _ gb195 33 #[.int .i64 a0_0, .int .u8 a0_1, .int .u8 a0_2, .slice Ao54 x197003_1.length co54, .slice Ao55 x197004_2.length co55] (0, 0) _ rfl (by (with_reducible repeat (first | refine blk_drewN ?_ _ | refine blk_drew ?_ | refine blk_alloc ?_ _)); refine blk_put (cs := #[.int .i64 a0_0, .int .u8 a0_1, .int .u8 a0_2, .slice Ao54 x197003_1.length co54, .slice none 0 0]) ?_ 4 _ rfl; (with_reducible repeat (first | refine blk_drewN ?_ _ | refine blk_drew ?_ | refine blk_alloc ?_ _)); refine blk_put (cs := #[.int .i64 a0_0, .int .u8 a0_1, .int .u8 a0_2, .slice none 0 0, .slice none 0 0]) ?_ 3 _ rfl; (with_reducible repeat (first | refine blk_drewN ?_ _ | refine blk_drew ?_ | refine blk_alloc ?_ _)); refine blk_put (cs := #[.int .i64 a0_0, .int .u8 a0_1, .int .u8 0, .slice none 0 0, .slice none 0 0]) ?_ 2 _ rfl; (with_reducible repeat (first | refine blk_drewN ?_ _ | refine blk_drew ?_ | refine blk_alloc ?_ _)); refine blk_put (cs := #[.int .i64 a0_0, .int .u8 0, .int .u8 0, .slice none 0 0, .slice none 0 0]) ?_ 1 _ rfl; (with_reducible repeat (first | refine blk_drewN ?_ _ | refine blk_drew ?_ | refine blk_alloc ?_ _)); refine blk_put (cs := #[.int .i64 0, .int .u8 0, .int .u8 0, .slice none 0 0, .slice none 0 0]) ?_ 0 _ rfl; (with_reducible repeat (first | refine blk_drewN ?_ _ | refine blk_drew ?_ | refine blk_alloc ?_ _)); exact BK195.out) Try.underlying33 rfl (by kernel_rfl)) rfl ?_
       exact ⟨_, _, by first | rfl | (simp [errW_none, errW_some] <;> rfl) | (simp [*, errW_none, errW_some] <;> rfl), by (with_reducible repeat (first | apply Kd.S_alloc | apply Kd.S_drewN | apply Kd.S_drew)); exact Kd.S_mono (Kd.S_far (p := ⟨gb195, 4, none⟩) (Kd.S_far (p := ⟨gb195, 3, none⟩) (Kd.S_far (p := ⟨gb195, 2, none⟩) (Kd.S_far (p := ⟨gb195, 1, none⟩) (Kd.S_far (p := ⟨gb195, 0, none⟩) (Kd.S_types HO_197003.out BK195.out (by decide)) (fun _ hk => hk.2) (.int .i64 a0_0)) (fun _ hk => hk.2) (.int .u8 a0_1)) (fun _ hk => hk.2) (.int .u8 a0_2)) (fun _ hk => hk.2) (.slice Ao54 x197003_1.length co54)) (fun _ hk => hk.2) (.slice Ao55 x197004_2.length co55)) (fun _ hk => trivial), by (with_reducible repeat (first | apply Kd.S_alloc | apply Kd.S_drewN | apply Kd.S_drew)); exact Kd.S_mono (Kd.S_far (p := ⟨gb195, 4, none⟩) (Kd.S_far (p := ⟨gb195, 3, none⟩) (Kd.S_far (p := ⟨gb195, 2, none⟩) (Kd.S_far (p := ⟨gb195, 1, none⟩) (Kd.S_far (p := ⟨gb195, 0, none⟩) (Kd.S_types HO_197004.out BK195.out (by decide)) (fun _ hk => hk.2) (.int .i64 a0_0)) (fun _ hk => hk.2) (.int .u8 a0_1)) (fun _ hk => hk.2) (.int .u8 a0_2)) (fun _ hk => hk.2) (.slice Ao54 x197003_1.length co54)) (fun _ hk => hk.2) (.slice Ao55 x197004_2.length co55)) (fun _ hk => trivial), by repeat (first | (with_reducible first | exact HB.out | apply below_alloc | apply pw_below_drewN | apply below_drew1 | refine below_set ?_ GE194.out | refine below_set ?_ GE195.out | refine below_set ?_ GE196.out) | exact HB.out)⟩
end Go.Proofs.Ytajhfkcmfmhnaaa.P
end
section
set_option linter.unusedVariables false
namespace Go.Proofs.Ytajhfkcmfmhnaaa.L
open Go.RowKit Go.Proofs.Ytajhfkcmfmhnaaa.P Go.Proofs.YtajhfkcmfmhnaaaW.PrintWords Go.Proofs.YtajhfkcmfmhnaaaW.PrintLast Go.Proofs.YtajhfkcmfmhnaaaW.PrintMore
theorem twin1_go (st hd sy : Int) (vs : List Vr) (rs : List Rw) (hr : rs.length ≤ 2513169434843) (hR : ∀ r ∈ rs, r.f1.length ≤ 8796093021952) : ∀ (d i : Nat), i + d = rs.length → Evn (fun k => vivariumref10_Twin.l1 k (i : Int) st hd sy vs rs st hd sy vs (rs.take i)) (st, hd, sy, vs, rs)
 | 0, i, h => by
  obtain rfl : i = rs.length := by omega
  refine Evn.const.step (g' := fun _ => some _) (fun k => ?_)
  simp only [vivariumref10_Twin.l1]
  rw [if_neg (by omega), List.take_length]
 | d + 1, i, h => by
  have ih := twin1_go st hd sy vs rs hr hR d (i + 1) (by omega)
  have hi : i < rs.length := by omega
  have E := wstep hi (by unfold B47; omega)
  have hm := hR rs[i] (List.getElem_mem hi)
  refine ih.step (fun k => ?_)
  simp only [vivariumref10_Twin.l1]
  rw [if_pos (by omega), if_pos (by omega), rd_62 rs i hi, if_pos (by rw [List.length_nil]; omega), if_pos (by rw [List.length_take]; omega), E.out, List.take_succ_eq_append_getElem hi]
  rfl
theorem twin0_go (st hd sy : Int) (vs : List Vr) (rs : List Rw) (hv : vs.length ≤ 3518437208780) (hr : rs.length ≤ 2513169434843) (hV : ∀ v ∈ vs, v.f1.length ≤ 140737488351232) (hR : ∀ r ∈ rs, r.f1.length ≤ 8796093021952) : ∀ (d i : Nat), i + d = vs.length → Evn (fun k => vivariumref10_Twin.l0 k (i : Int) st hd sy vs rs st hd sy (vs.take i)) (st, hd, sy, vs, rs)
 | 0, i, h => by
  obtain rfl : i = vs.length := by omega
  have h1 := twin1_go st hd sy vs rs hr hR rs.length 0 (by omega)
  refine h1.step (fun k => ?_)
  simp only [vivariumref10_Twin.l0]
  rw [if_neg (by omega), List.take_length, List.take_zero]
  rfl
 | d + 1, i, h => by
  have ih := twin0_go st hd sy vs rs hv hr hV hR d (i + 1) (by omega)
  have hi : i < vs.length := by omega
  have E := wstep hi (by unfold B47; omega)
  have hm := hV vs[i] (List.getElem_mem hi)
  refine ih.step (fun k => ?_)
  simp only [vivariumref10_Twin.l0]
  rw [if_pos (by omega), if_pos (by omega), rd_65 vs i hi, if_pos (by rw [List.length_nil]; omega), if_pos (by rw [List.length_take]; omega), E.out, List.take_succ_eq_append_getElem hi]
  rfl
theorem twin_ev (st hd sy : Int) (vs : List Vr) (rs : List Rw) (hv : vs.length ≤ 3518437208780) (hr : rs.length ≤ 2513169434843) (hV : ∀ v ∈ vs, v.f1.length ≤ 140737488351232) (hR : ∀ r ∈ rs, r.f1.length ≤ 8796093021952) : Evn (fun k => vivariumref10_Twin.f k st hd sy vs rs) (st, hd, sy, vs, rs) :=
 twin0_go st hd sy vs rs hv hr hV hR vs.length 0 (by omega)
theorem same_is (st hd sy : Int) (vs : List Vr) (rs : List Rw) : vivariumref10_Same.f st hd sy vs rs st hd sy vs rs = some true := by
 unfold vivariumref10_Same.f
 rw [if_pos ⟨rfl, rfl, rfl, rfl, rfl⟩]
end Go.Proofs.Ytajhfkcmfmhnaaa.L
end
section
set_option linter.unusedVariables false
namespace Go.Proofs.Ytajhfkcmfmhnaaa.L
open Go.RowKit Go.Proofs.Ytajhfkcmfmhnaaa.P Go.Proofs.YtajhfkcmfmhnaaaW.PrintWords Go.Proofs.YtajhfkcmfmhnaaaW.PrintLast Go.Proofs.YtajhfkcmfmhnaaaW.PrintMore
set_option maxHeartbeats 8000000 in
set_option maxRecDepth 100000 in
theorem fits_law (k : Nat) (a0_0 a0_1 a0_2 : Int) (A0_3 : Option Addr) (c0_3 : Nat) (vs : List Vr) (A0_4 : Option Addr) (c0_4 : Nat) (rs : List Rw) (row ce : Int) (A3 : Option Addr) (c3 : Nat) (l : List Int) (q1 : Int) (q2 : Bool) (q3 n1 n2 : Int) (w : World)
  (hr0_3 : Kd.C k65 w A0_3 vs.length vs) (hc0_3 : vs.length ≤ c0_3) (hr0_4 : Kd.C k62 w A0_4 rs.length rs) (hc0_4 : rs.length ≤ c0_4) (hr3 : Kd.C (Kd.int .u8) w A3 l.length l) (hc3 : l.length ≤ c3)
  (hF : vivariumref10_Fits.f k a0_0 a0_1 a0_2 vs rs row ce l = some (q1, q2, q3)) (hG : table_Fits.f k a0_0 a0_1 a0_2 vs rs row ce l = some (q1, q2, q3))
  (hN : vivariumref10_Next.f k a0_0 a0_1 a0_2 vs rs ce l = some (n1, n2)) (hM : table_Next.f k a0_0 a0_1 a0_2 vs rs ce l = some (n1, n2))
  (hT : vivariumref10_Twin.f k a0_0 a0_1 a0_2 vs rs = some (a0_0, a0_1, a0_2, vs, rs)) (hL : vivariumlaw10_lent.f l = some l) :
  Calls Try.prog 4 #[.agg #[.int .i64 a0_0, .int .u8 a0_1, .int .u8 a0_2, .slice A0_3 vs.length c0_3, .slice A0_4 rs.length c0_4], .int .i64 row, .int .u8 ce, .slice A3 l.length c3] w fun e w' => e = .returned (.bool true) ∧ Below w.heap.size w w' := by
 have HV := Aside0.mk hr0_3
 have HVc := Aside0.mk hc0_3
 have HR := Aside0.mk hr0_4
 have HRc := Aside0.mk hc0_4
 have HA := Aside0.mk hr3
 have HAc := Aside0.mk hc3
 have HF := Aside0.mk hF
 have HG := Aside0.mk hG
 have HN := Aside0.mk hN
 have HM := Aside0.mk hM
 have HT := Aside0.mk hT
 have HL := Aside0.mk hL
 clear hr0_3 hc0_3 hr0_4 hc0_4 hr3 hc3 hF hG hN hM hT hL
 go_enter Try.func4, Try.ntmps4
 go_wp2_with fail
 obtain ⟨W0, hW0⟩ : ∃ W0, w.alloc (Obj.cells #[.int .i64 a0_0, .int .u8 a0_1, .int .u8 a0_2, .slice A0_3 vs.length c0_3, .slice A0_4 rs.length c0_4] 33) = W0 := ⟨_, rfl⟩
 have HB0 : Aside0 (Below w.heap.size w W0) := ⟨by rw [← hW0]; exact below_alloc (Below.refl _ _) _⟩
 have HT0 : Aside0 (W0.heap[w.heap.size]? = some (.cells #[.int .i64 a0_0, .int .u8 a0_1, .int .u8 a0_2, .slice A0_3 vs.length c0_3, .slice A0_4 rs.length c0_4] 33 (0, 0))) := ⟨by rw [← hW0]; exact blk_new _ _⟩
 rw [hW0]
 clear hW0
 go_at_call 9
 refine (vivariumref10_Fits.calls k a0_0 a0_1 a0_2 A0_3 c0_3 vs A0_4 c0_4 rs row ce A3 c3 l q1 q2 q3 W0 (Kd.C_below HV.out HB0.out) HVc.out (Kd.C_below HR.out HB0.out) HRc.out (Kd.C_below HA.out HB0.out) HAc.out HF.out).mono ?_
 rintro e w1 ⟨rfl, hb1⟩
 have HB1 := Aside0.mk (below_step HB0.out hb1)
 have HT1 := Aside0.mk (blk_below HT0.out hb1)
 have t0 : w1.cell? ⟨w.heap.size, 0, none⟩ = some (.int .i64 a0_0) := blk_cell HT1.out 0
 have t1 : w1.cell? ⟨w.heap.size, 1, none⟩ = some (.int .u8 a0_1) := blk_cell HT1.out 1
 have t2 : w1.cell? ⟨w.heap.size, 2, none⟩ = some (.int .u8 a0_2) := blk_cell HT1.out 2
 have t3 : w1.cell? ⟨w.heap.size, 3, none⟩ = some (.slice A0_3 vs.length c0_3) := blk_cell HT1.out 3
 have t4 : w1.cell? ⟨w.heap.size, 4, none⟩ = some (.slice A0_4 rs.length c0_4) := blk_cell HT1.out 4
 clear hb1 HT0 HB0
 go_wp2_with fail
 refine (vivariumref10_Next.calls k a0_0 a0_1 a0_2 A0_3 c0_3 vs A0_4 c0_4 rs ce A3 c3 l n1 n2 w1 (Kd.C_below HV.out HB1.out) HVc.out (Kd.C_below HR.out HB1.out) HRc.out (Kd.C_below HA.out HB1.out) HAc.out HN.out).mono ?_
 rintro e w2 ⟨rfl, hb2⟩
 have HB2 := Aside0.mk (below_step HB1.out hb2)
 have HT2 := Aside0.mk (blk_below HT1.out hb2)
 clear t0 t1 t2 t3 t4 hb2 HT1 HB1
 have t0 : w2.cell? ⟨w.heap.size, 0, none⟩ = some (.int .i64 a0_0) := blk_cell HT2.out 0
 have t1 : w2.cell? ⟨w.heap.size, 1, none⟩ = some (.int .u8 a0_1) := blk_cell HT2.out 1
 have t2 : w2.cell? ⟨w.heap.size, 2, none⟩ = some (.int .u8 a0_2) := blk_cell HT2.out 2
 have t3 : w2.cell? ⟨w.heap.size, 3, none⟩ = some (.slice A0_3 vs.length c0_3) := blk_cell HT2.out 3
 have t4 : w2.cell? ⟨w.heap.size, 4, none⟩ = some (.slice A0_4 rs.length c0_4) := blk_cell HT2.out 4
 go_wp2_with fail
 refine (vivariumref10_Twin.calls k a0_0 a0_1 a0_2 A0_3 c0_3 vs A0_4 c0_4 rs a0_0 a0_1 a0_2 vs rs w2 (Kd.C_below HV.out HB2.out) HVc.out (Kd.C_below HR.out HB2.out) HRc.out HT.out).mono ?_
 rintro e w3 ⟨v3, v4, rfl, hs3, hs4, hb3⟩
 obtain ⟨A1_3, c1_3, rfl⟩ := Kd.R_slice (Kd.S_R hs3)
 obtain ⟨A1_4, c1_4, rfl⟩ := Kd.R_slice (Kd.S_R hs4)
 have g3 := Kd.R_reads' (Kd.S_R hs3)
 have g4 := Kd.R_reads' (Kd.S_R hs4)
 have HB3 := Aside0.mk (below_step HB2.out hb3)
 have HT3 := Aside0.mk (blk_below HT2.out hb3)
 have HU3 := Aside0.mk g3.2.2
 have HU3c := Aside0.mk g3.2.1
 have HU4 := Aside0.mk g4.2.2
 have HU4c := Aside0.mk g4.2.1
 clear t0 t1 t2 t3 t4 hb3 HT2 HB2 hs3 hs4 g3 g4
 go_wp2_with fail
 obtain ⟨W4, hW4⟩ : ∃ W4, w3.alloc (Obj.cells #[.int .i64 a0_0, .int .u8 a0_1, .int .u8 a0_2, .slice A1_3 vs.length c1_3, .slice A1_4 rs.length c1_4] 33) = W4 := ⟨_, rfl⟩
 have HB4 : Aside0 (Below w.heap.size w W4) := ⟨by rw [← hW4]; exact below_alloc HB3.out _⟩
 have HB34 : Aside0 (Below w3.heap.size w3 W4) := ⟨by rw [← hW4]; exact below_alloc (Below.refl _ _) _⟩
 have HT4 := Aside0.mk (blk_below HT3.out HB34.out)
 have HX4 : Aside0 (W4.heap[w3.heap.size]? = some (.cells #[.int .i64 a0_0, .int .u8 a0_1, .int .u8 a0_2, .slice A1_3 vs.length c1_3, .slice A1_4 rs.length c1_4] 33 (0, 0))) := ⟨by rw [← hW4]; exact blk_new _ _⟩
 have HU34 := Aside0.mk (Kd.C_below HU3.out HB34.out)
 have HU44 := Aside0.mk (Kd.C_below HU4.out HB34.out)
 rw [hW4]
 clear hW4 HB34 HT3 HB3 HU3 HU4
 refine (vivariumlaw10_lent.calls A3 c3 l l W4 (Kd.C_below HA.out HB4.out) HAc.out HL.out).mono ?_
 rintro e w5 ⟨A5, c5, rfl, hR5, hb5⟩
 have hl3 : (l ++ [201, 77, 55]).length = l.length + 3 := by simp
 have hf5 := Kd.R_reads' hR5
 have ht5 := Kd.R_reads' (Kd.R_take (m := l.length) hR5 (by omega))
 rw [List.take_left' rfl] at ht5
 have HF5 := Aside0.mk hf5.2.2
 have HF5c := Aside0.mk hf5.2.1
 have HL5 := Aside0.mk ht5.2.2
 have HL5c : Aside0 (l.length ≤ c5) := ⟨ht5.2.1⟩
 have HB5 := Aside0.mk (below_step HB4.out hb5)
 have HT5 := Aside0.mk (blk_below HT4.out hb5)
 have HX5 := Aside0.mk (blk_below HX4.out hb5)
 have HU35 := Aside0.mk (Kd.C_below HU34.out hb5)
 have HU45 := Aside0.mk (Kd.C_below HU44.out hb5)
 clear hl3 hf5 ht5 hb5 hR5 HT4 HX4 HB4 HU34 HU44
 have x0 : w5.cell? ⟨w3.heap.size, 0, none⟩ = some (.int .i64 a0_0) := blk_cell HX5.out 0
 have x1 : w5.cell? ⟨w3.heap.size, 1, none⟩ = some (.int .u8 a0_1) := blk_cell HX5.out 1
 have x2 : w5.cell? ⟨w3.heap.size, 2, none⟩ = some (.int .u8 a0_2) := blk_cell HX5.out 2
 have x3 : w5.cell? ⟨w3.heap.size, 3, none⟩ = some (.slice A1_3 vs.length c1_3) := blk_cell HX5.out 3
 have x4 : w5.cell? ⟨w3.heap.size, 4, none⟩ = some (.slice A1_4 rs.length c1_4) := blk_cell HX5.out 4
 go_wp2_with fail
 refine (table_Fits.calls k a0_0 a0_1 a0_2 A1_3 c1_3 vs A1_4 c1_4 rs row ce A5 c5 l q1 q2 q3 w5 HU35.out HU3c.out HU45.out HU4c.out HL5.out HL5c.out HG.out).mono ?_
 rintro e w6 ⟨rfl, hb6⟩
 have HB6 := Aside0.mk (below_step HB5.out hb6)
 have HT6 := Aside0.mk (blk_below HT5.out hb6)
 have HX6 := Aside0.mk (blk_below HX5.out hb6)
 have HU36 := Aside0.mk (Kd.C_below HU35.out hb6)
 have HU46 := Aside0.mk (Kd.C_below HU45.out hb6)
 have HF6 := Aside0.mk (Kd.C_below HF5.out hb6)
 have HL6 := Aside0.mk (Kd.C_below HL5.out hb6)
 clear x0 x1 x2 x3 x4 hb6 HT5 HX5 HB5 HU35 HU45 HF5 HL5
 have x0 : w6.cell? ⟨w3.heap.size, 0, none⟩ = some (.int .i64 a0_0) := blk_cell HX6.out 0
 have x1 : w6.cell? ⟨w3.heap.size, 1, none⟩ = some (.int .u8 a0_1) := blk_cell HX6.out 1
 have x2 : w6.cell? ⟨w3.heap.size, 2, none⟩ = some (.int .u8 a0_2) := blk_cell HX6.out 2
 have x3 : w6.cell? ⟨w3.heap.size, 3, none⟩ = some (.slice A1_3 vs.length c1_3) := blk_cell HX6.out 3
 have x4 : w6.cell? ⟨w3.heap.size, 4, none⟩ = some (.slice A1_4 rs.length c1_4) := blk_cell HX6.out 4
 go_wp2_with fail
 refine (table_Next.calls k a0_0 a0_1 a0_2 A1_3 c1_3 vs A1_4 c1_4 rs ce A5 c5 l n1 n2 w6 HU36.out HU3c.out HU46.out HU4c.out HL6.out HL5c.out HM.out).mono ?_
 rintro e w7 ⟨rfl, hb7⟩
 have HB7 := Aside0.mk (below_step HB6.out hb7)
 have HT7 := Aside0.mk (blk_below HT6.out hb7)
 have HX7 := Aside0.mk (blk_below HX6.out hb7)
 have HU37 := Aside0.mk (Kd.C_below HU36.out hb7)
 have HU47 := Aside0.mk (Kd.C_below HU46.out hb7)
 have HF7 := Aside0.mk (Kd.C_below HF6.out hb7)
 have HL7 := Aside0.mk (Kd.C_below HL6.out hb7)
 clear x0 x1 x2 x3 x4 hb7 HT6 HX6 HB6 HU36 HU46 HF6 HL6
 go_wp2_with fail
 refine (vivariumlaw10_kept.calls A5 c5 l A3 c3 w7 HL7.out HF7.out HF5c.out (Kd.C_below HA.out HB7.out) HAc.out).mono ?_
 rintro e w8 ⟨rfl, hd8⟩
 have hb8 : Below w7.heap.size w7 w8 := hd8.below
 have HB8 := Aside0.mk (below_step HB7.out hb8)
 have HT8 := Aside0.mk (blk_below HT7.out hb8)
 have HX8 := Aside0.mk (blk_below HX7.out hb8)
 have HU38 := Aside0.mk (Kd.C_below HU37.out hb8)
 have HU48 := Aside0.mk (Kd.C_below HU47.out hb8)
 clear hb8 hd8 HT7 HX7 HB7 HU37 HU47 HF7 HL7
 have x0 : w8.cell? ⟨w3.heap.size, 0, none⟩ = some (.int .i64 a0_0) := blk_cell HX8.out 0
 have x1 : w8.cell? ⟨w3.heap.size, 1, none⟩ = some (.int .u8 a0_1) := blk_cell HX8.out 1
 have x2 : w8.cell? ⟨w3.heap.size, 2, none⟩ = some (.int .u8 a0_2) := blk_cell HX8.out 2
 have x3 : w8.cell? ⟨w3.heap.size, 3, none⟩ = some (.slice A1_3 vs.length c1_3) := blk_cell HX8.out 3
 have x4 : w8.cell? ⟨w3.heap.size, 4, none⟩ = some (.slice A1_4 rs.length c1_4) := blk_cell HX8.out 4
 have t0 : w8.cell? ⟨w.heap.size, 0, none⟩ = some (.int .i64 a0_0) := blk_cell HT8.out 0
 have t1 : w8.cell? ⟨w.heap.size, 1, none⟩ = some (.int .u8 a0_1) := blk_cell HT8.out 1
 have t2 : w8.cell? ⟨w.heap.size, 2, none⟩ = some (.int .u8 a0_2) := blk_cell HT8.out 2
 have t3 : w8.cell? ⟨w.heap.size, 3, none⟩ = some (.slice A0_3 vs.length c0_3) := blk_cell HT8.out 3
 have t4 : w8.cell? ⟨w.heap.size, 4, none⟩ = some (.slice A0_4 rs.length c0_4) := blk_cell HT8.out 4
 go_wp2_with fail
 refine (vivariumref10_Same.calls a0_0 a0_1 a0_2 A1_3 c1_3 vs A1_4 c1_4 rs a0_0 a0_1 a0_2 A0_3 c0_3 vs A0_4 c0_4 rs true w8 HU38.out HU3c.out HU48.out HU4c.out (Kd.C_below HV.out HB8.out) HVc.out (Kd.C_below HR.out HB8.out) HRc.out (same_is _ _ _ _ _)).mono ?_
 rintro e w9 ⟨rfl, hb9⟩
 have HB9 := Aside0.mk (below_step HB8.out hb9)
 clear hb9 x0 x1 x2 x3 x4 t0 t1 t2 t3 t4
 go_wp2
 go_ret
 exact ⟨rfl, HB9.out⟩
end Go.Proofs.Ytajhfkcmfmhnaaa.L
end

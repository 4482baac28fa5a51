-- Written by a program of this session (wip/tools/shake.py): texts of this claim, of each what the claim names.
import Derived.Test.YtajhfkcmfmhnaaaDoorC2
import Derived.Test.YtajhfkcmfmhnaaaDoorC3
import Derived.Test.YtajhfkcmfmhnaaaDoorC9
import Derived.Deep.DeepMust
import Derived.Laws.Rows
section
namespace Go.Proofs.YtajhfkcmfmhnaaaDoor.P
open Go.RowKit Go.Proofs.YtajhfkcmfmhnaaaDoorW.PrintWords Go.Proofs.YtajhfkcmfmhnaaaDoorW.PrintLast Go.Proofs.YtajhfkcmfmhnaaaDoorW.PrintMore
attribute [local go_sem] max2_int min2_int max_two min_two max_three min_three max_four min_four   -- for this text's walks alone
set_option linter.unusedVariables false
set_option linter.unusedSimpArgs false
mutual
def vivariumref10_Twin.l0 : Nat → Int → Int → Int → Int → List (S49) → List (S41) → Int → Int → Int → List (S49) → Option (Int × Int × Int × (List (S49)) × (List (S41)))
 | 0, _, _, _, _, _, _, _, _, _, _ => none
 | k + 1, x4, x181000, x181001, x181002, x181003, x181004, x183000, x183001, x183002, x183003 => if x4 < (x181003.length : Int) then (if 0 ≤ x4 then (if ([] : List Int).length + ((rd_T49 x181003 x4).f1).length < 140737488355328 then (if x183003.length < 3518437208883 then (vivariumref10_Twin.l0 k (wrap64 (x4 + 1)) x181000 x181001 x181002 x181003 x181004 x183000 x183001 x183002 (x183003 ++ [(⟨(rd_T49 x181003 x4).f0, (([] : List Int) ++ ((rd_T49 x181003 x4).f1))⟩ : S49)])) else (none)) else (none)) else (none)) else (vivariumref10_Twin.l1 k 0 x181000 x181001 x181002 x181003 x181004 x183000 x183001 x183002 x183003 ([] : List (S41)))
def vivariumref10_Twin.l1 : Nat → Int → Int → Int → Int → List (S49) → List (S41) → Int → Int → Int → List (S49) → List (S41) → Option (Int × Int × Int × (List (S49)) × (List (S41)))
 | 0, _, _, _, _, _, _, _, _, _, _, _ => none
 | k + 1, x6, x181000, x181001, x181002, x181003, x181004, x183000, x183001, x183002, x183003, x183004 => if x6 < (x181004.length : Int) then (if 0 ≤ x6 then (if ([] : List (S38)).length + ((rd_T41 x181004 x6).f1).length < 8796093022208 then (if x183004.length < 2513169434916 then (vivariumref10_Twin.l1 k (wrap64 (x6 + 1)) x181000 x181001 x181002 x181003 x181004 x183000 x183001 x183002 x183003 (x183004 ++ [(⟨(⟨(rd_T41 x181004 x6).f0.f0, (rd_T41 x181004 x6).f0.f1⟩ : S38), (([] : List (S38)) ++ ((rd_T41 x181004 x6).f1)), (⟨(rd_T41 x181004 x6).f2.f0, (rd_T41 x181004 x6).f2.f1⟩ : S38)⟩ : S41)])) else (none)) else (none)) else (none)) else (some (x183000, x183001, x183002, x183003, x183004))
end
def vivariumref10_Twin.f (k : Nat) (a0_0 : Int) (a0_1 : Int) (a0_2 : Int) (l0_3 : List (S49)) (l0_4 : List (S41)) : Option (Int × Int × Int × (List (S49)) × (List (S41))) := vivariumref10_Twin.l0 k 0 a0_0 a0_1 a0_2 l0_3 l0_4 a0_0 a0_1 a0_2 ([] : List (S49))
def vivariumref10_Twin.T6 : Bool × List (List Nat × List Nat) := (true, [([], []), ([0], [0]), ([], []), ([2], [2]), ([], []), ([3, 4], [3, 4]), ([5], [5]), ([6], [6]), ([], []), ([], []), ([9], [9]), ([], []), ([10, 11], [10, 11]), ([12], [12]), ([13], [13]), ([8, 14], [8, 14]), ([7, 15], [7, 15]), ([16], [16]), ([1, 17, 15], [1, 17]), ([0, 1, 2, 3, 4, 5, 6, 7, 8, 9, 10, 11, 12, 13, 14, 15, 16, 17, 18], []), ([19, 18, 18, 0, 1, 2, 3, 4, 5, 6, 7, 8, 9, 10, 11, 12, 13, 14, 15, 16, 17, 18], [18, 19])])
def vivariumref10_Twin.B6 : List Nat := [0, 1, 0, 4, 0, 28, 60, 124, 0, 0, 512, 0, 3584, 7680, 15872, 32512, 65532, 131068, 262143, 524287, 1048575]
theorem vivariumref10_Twin.tab6 : rtab .any (opsOf Tryd.f6 6) = vivariumref10_Twin.T6 := by kernel_rfl
theorem vivariumref10_Twin.bits6 : waitsOk vivariumref10_Twin.T6.2 vivariumref10_Twin.B6 = true := by kernel_rfl
set_option maxHeartbeats 8000000 in
set_option maxRecDepth 100000 in
theorem vivariumref10_Twin.calls (k : Nat) (a0_0 : Int) (a0_1 : Int) (a0_2 : Int) (A0_3 : Option Addr) (c0_3 : Nat) (l0_3 : List (S49)) (A0_4 : Option Addr) (c0_4 : Nat) (l0_4 : List (S41)) (r1 : Int) (r2 : Int) (r3 : Int) (r4 : List (S49)) (r5 : List (S41)) (w : World) (hr0_3 : Kd.C k49 w A0_3 l0_3.length l0_3) (hc0_3 : l0_3.length ≤ c0_3) (hr0_4 : Kd.C k41 w A0_4 l0_4.length l0_4) (hc0_4 : l0_4.length ≤ c0_4) (h : vivariumref10_Twin.f k a0_0 a0_1 a0_2 l0_3 l0_4 = some (r1, r2, r3, r4, r5)) :
  Calls Tryd.prog 6 #[.agg #[.int .i64 a0_0, .int .u8 a0_1, .int .u8 a0_2, .slice A0_3 l0_3.length c0_3, .slice A0_4 l0_4.length c0_4]] w fun e w' => ∃ v3_ v4_ : Value, e = .returned (.agg #[.int .i64 r1, .int .u8 r2, .int .u8 r3, v3_, v4_]) ∧ Kd.S k49 49 w' w.heap.size (fun _ => True) v3_ r4 ∧ Kd.S k41 41 w' w.heap.size (fun _ => True) v4_ r5 ∧ Below w.heap.size w w' := by
 have hu25 := Tryd.underlying25
 have hu49 := Tryd.underlying49
 have hu41 := Tryd.underlying41
 have HR0_3 := Aside0.mk hr0_3
 have HC0_3 := Aside0.mk hc0_3
 clear hr0_3 hc0_3
 have HR0_4 := Aside0.mk hr0_4
 have HC0_4 := Aside0.mk hc0_4
 clear hr0_4 hc0_4
 have HB := Aside0.mk (Below.refl w.heap.size w)
 have H : (vivariumref10_Twin.l0 k 0 a0_0 a0_1 a0_2 l0_3 l0_4 a0_0 a0_1 a0_2 ([] : List (S49))) = some (r1, r2, r3, r4, r5) := h
 clear h
 have H' := Aside0.mk H
 clear H
 go_enter Tryd.func6, Tryd.ntmps6
 go_wp2_with (first | ((with_reducible refine gate_dst (N := 1) rfl ?_); refine box_event ?hg (N := 1) ?hd (cs := #[.int .i64 a0_0, .int .u8 a0_1, .int .u8 a0_2, .slice A0_3 l0_3.length c0_3, .slice A0_4 l0_4.length c0_4]) (t := 25) ?hr ?_; (case hd => rfl); (case hg => rfl); (case hr => first | (go_simp; done) | (go_simp; rfl)); intro gb180 hg w2 hbox hb; have n0_ := Aside0.mk (below_step (by repeat (first | (with_reducible first | exact HB.out | apply below_alloc | apply pw_below_drewN | apply below_drew1) | exact HB.out)) hb); have n1_ := Aside0.mk (hbox); have n2_ := Aside0.mk ((by rw [hg]; exact (below_size (by repeat (first | (with_reducible first | exact HB.out | apply below_alloc | apply pw_below_drewN | apply below_drew1) | exact HB.out))) : w.heap.size ≤ gb180)); have n3_ := Aside0.mk ((by rw [hg]; exact (below_size (by repeat (first | (with_reducible first | exact HB.out | apply below_alloc | apply pw_below_drewN | apply below_drew1) | exact HB.out))) : w.heap.size ≤ gb180)); clear HB; have HB := n0_; have BK180 := n1_; have GW180 := n2_; have GE180 := n3_; clear n0_ n1_ n2_ n3_; clear hb hbox hg) | ((with_reducible refine gate_dst (N := 2) rfl ?_); refine box_event ?hg (N := 2) ?hd (cs := #[.int .i64 0, .int .u8 0, .int .u8 0, .slice none 0 0, .slice none 0 0]) (t := 25) ?hr ?_; (case hd => rfl); (case hg => rfl); (case hr => first | (go_simp; done) | (go_simp; rfl)); intro gb181 hg w3 hbox hb; have n0_ := Aside0.mk (blk_below (g := gb180) (o := .cells #[.int .i64 a0_0, .int .u8 a0_1, .int .u8 a0_2, .slice A0_3 l0_3.length c0_3, .slice A0_4 l0_4.length c0_4] 25 (0, 0)) (by (with_reducible repeat (first | refine blk_drewN ?_ _ | refine blk_drew ?_ | refine blk_alloc ?_ _)); exact BK180.out) hb); have n1_ := Aside0.mk (below_step (by repeat (first | (with_reducible first | exact HB.out | apply below_alloc | apply pw_below_drewN | apply below_drew1 | refine below_set ?_ GE180.out) | exact HB.out)) hb); have n2_ := Aside0.mk (hbox); have n3_ := Aside0.mk ((by rw [hg]; exact (below_size (by repeat (first | (with_reducible first | exact HB.out | apply below_alloc | apply pw_below_drewN | apply below_drew1 | refine below_set ?_ GE180.out) | exact HB.out))) : w.heap.size ≤ gb181)); have n4_ := Aside0.mk ((by rw [hg]; exact (below_size (by repeat (first | (with_reducible first | exact HB.out | apply below_alloc | apply pw_below_drewN | apply below_drew1 | refine below_set ?_ GE180.out) | exact HB.out))) : w.heap.size ≤ gb181)); have n5_ := Aside0.mk ((by rw [hg]; exact Nat.ne_of_lt (blk_lt (g := gb180) (o := .cells #[.int .i64 a0_0, .int .u8 a0_1, .int .u8 a0_2, .slice A0_3 l0_3.length c0_3, .slice A0_4 l0_4.length c0_4] 25 (0, 0)) (by (with_reducible repeat (first | refine blk_drewN ?_ _ | refine blk_drew ?_ | refine blk_alloc ?_ _)); exact BK180.out)) : gb180 ≠ gb181)); have n6_ := Aside0.mk ((by rw [hg]; exact Nat.ne_of_gt (blk_lt (g := gb180) (o := .cells #[.int .i64 a0_0, .int .u8 a0_1, .int .u8 a0_2, .slice A0_3 l0_3.length c0_3, .slice A0_4 l0_4.length c0_4] 25 (0, 0)) (by (with_reducible repeat (first | refine blk_drewN ?_ _ | refine blk_drew ?_ | refine blk_alloc ?_ _)); exact BK180.out)) : gb181 ≠ gb180)); clear BK180; clear HB; have BK180 := n0_; have HB := n1_; have BK181 := n2_; have GW181 := n3_; have GE181 := n4_; have NB180_181 := n5_; have NB181_180 := n6_; clear n0_ n1_ n2_ n3_ n4_ n5_ n6_; clear hb hbox hg; have hnb4 := NB180_181.out; have hnc4 := NB181_180.out; have hcz5_0 : w3.cell? ⟨gb180, 0, none⟩ = some (.int .i64 a0_0) := (blk_cell BK180.out 0).trans rfl; have hcz5_1 : w3.cell? ⟨gb180, 1, none⟩ = some (.int .u8 a0_1) := (blk_cell BK180.out 1).trans rfl; have hcz5_2 : w3.cell? ⟨gb180, 2, none⟩ = some (.int .u8 a0_2) := (blk_cell BK180.out 2).trans rfl; have hcz5_3 : w3.cell? ⟨gb180, 3, none⟩ = some (.slice A0_3 l0_3.length c0_3) := (blk_cell BK180.out 3).trans rfl; have hcz5_4 : w3.cell? ⟨gb180, 4, none⟩ = some (.slice A0_4 l0_4.length c0_4) := (blk_cell BK180.out 4).trans rfl; have hfz5_0 := blk_frozen BK180.out 0; have hfz5_1 := blk_frozen BK180.out 1; have hfz5_2 := blk_frozen BK180.out 2; have hfz5_3 := blk_frozen BK180.out 3; have hfz5_4 := blk_frozen BK180.out 4) | ((with_reducible refine gate_dst (N := 3) rfl ?_); refine box_event ?hg (N := 3) ?hd (cs := #[.int .i64 0, .int .u8 0, .int .u8 0, .slice none 0 0, .slice none 0 0]) (t := 25) ?hr ?_; (case hd => rfl); (case hg => rfl); (case hr => first | (go_simp; done) | (go_simp; rfl)); intro gb182 hg w6 hbox hb; have n0_ := Aside0.mk (blk_below (g := gb180) (o := .cells #[.int .i64 a0_0, .int .u8 a0_1, .int .u8 a0_2, .slice A0_3 l0_3.length c0_3, .slice A0_4 l0_4.length c0_4] 25 (0, 0)) (by (with_reducible repeat (first | refine blk_drewN ?_ _ | refine blk_drew ?_ | refine blk_alloc ?_ _)); exact BK180.out) hb); have n1_ := Aside0.mk (blk_below (g := gb181) (o := .cells #[.int .i64 0, .int .u8 0, .int .u8 0, .slice none 0 0, .slice none 0 0] 25 (0, 0)) (by (with_reducible repeat (first | refine blk_drewN ?_ _ | refine blk_drew ?_ | refine blk_alloc ?_ _)); exact BK181.out) hb); have n2_ := Aside0.mk (below_step (by repeat (first | (with_reducible first | exact HB.out | apply below_alloc | apply pw_below_drewN | apply below_drew1 | refine below_set ?_ GE180.out | refine below_set ?_ GE181.out) | exact HB.out)) hb); have n3_ := Aside0.mk (hbox); have n4_ := Aside0.mk ((by rw [hg]; exact (below_size (by repeat (first | (with_reducible first | exact HB.out | apply below_alloc | apply pw_below_drewN | apply below_drew1 | refine below_set ?_ GE180.out | refine below_set ?_ GE181.out) | exact HB.out))) : w.heap.size ≤ gb182)); have n5_ := Aside0.mk ((by rw [hg]; exact (below_size (by repeat (first | (with_reducible first | exact HB.out | apply below_alloc | apply pw_below_drewN | apply below_drew1 | refine below_set ?_ GE180.out | refine below_set ?_ GE181.out) | exact HB.out))) : w.heap.size ≤ gb182)); have n6_ := Aside0.mk ((by rw [hg]; exact Nat.ne_of_lt (blk_lt (g := gb180) (o := .cells #[.int .i64 a0_0, .int .u8 a0_1, .int .u8 a0_2, .slice A0_3 l0_3.length c0_3, .slice A0_4 l0_4.length c0_4] 25 (0, 0)) (by (with_reducible repeat (first | refine blk_drewN ?_ _ | refine blk_drew ?_ | refine blk_alloc ?_ _)); exact BK180.out)) : gb180 ≠ gb182)); have n7_ := Aside0.mk ((by rw [hg]; exact Nat.ne_of_gt (blk_lt (g := gb180) (o := .cells #[.int .i64 a0_0, .int .u8 a0_1, .int .u8 a0_2, .slice A0_3 l0_3.length c0_3, .slice A0_4 l0_4.length c0_4] 25 (0, 0)) (by (with_reducible repeat (first | refine blk_drewN ?_ _ | refine blk_drew ?_ | refine blk_alloc ?_ _)); exact BK180.out)) : gb182 ≠ gb180)); have n8_ := Aside0.mk ((by rw [hg]; exact Nat.ne_of_lt (blk_lt (g := gb181) (o := .cells #[.int .i64 0, .int .u8 0, .int .u8 0, .slice none 0 0, .slice none 0 0] 25 (0, 0)) (by (with_reducible repeat (first | refine blk_drewN ?_ _ | refine blk_drew ?_ | refine blk_alloc ?_ _)); exact BK181.out)) : gb181 ≠ gb182)); have n9_ := Aside0.mk ((by rw [hg]; exact Nat.ne_of_gt (blk_lt (g := gb181) (o := .cells #[.int .i64 0, .int .u8 0, .int .u8 0, .slice none 0 0, .slice none 0 0] 25 (0, 0)) (by (with_reducible repeat (first | refine blk_drewN ?_ _ | refine blk_drew ?_ | refine blk_alloc ?_ _)); exact BK181.out)) : gb182 ≠ gb181)); clear BK180; clear BK181; clear HB; have BK180 := n0_; have BK181 := n1_; have HB := n2_; have BK182 := n3_; have GW182 := n4_; have GE182 := n5_; have NB180_182 := n6_; have NB182_180 := n7_; have NB181_182 := n8_; have NB182_181 := n9_; clear n0_ n1_ n2_ n3_ n4_ n5_ n6_ n7_ n8_ n9_; clear hb hbox hg; have hnb7 := NB182_180.out; have hnc7 := NB180_182.out; have hnb8 := NB182_181.out; have hnc8 := NB181_182.out; have hcz9_0 : w6.cell? ⟨gb182, 0, none⟩ = some (.int .i64 0) := (blk_cell BK182.out 0).trans rfl; have hcz9_1 : w6.cell? ⟨gb182, 1, none⟩ = some (.int .u8 0) := (blk_cell BK182.out 1).trans rfl; have hcz9_2 : w6.cell? ⟨gb182, 2, none⟩ = some (.int .u8 0) := (blk_cell BK182.out 2).trans rfl; have hcz9_3 : w6.cell? ⟨gb182, 3, none⟩ = some (.slice none 0 0) := (blk_cell BK182.out 3).trans rfl; have hcz9_4 : w6.cell? ⟨gb182, 4, none⟩ = some (.slice none 0 0) := (blk_cell BK182.out 4).trans rfl; have hfz9_0 := blk_frozen BK182.out 0; have hfz9_1 := blk_frozen BK182.out 1; have hfz9_2 := blk_frozen BK182.out 2; have hfz9_3 := blk_frozen BK182.out 3; have hfz9_4 := blk_frozen BK182.out 4))
 go_loopg [4] k (fun kq v4 w' => ∃ (x4_1 : Int) (x183003_1 : List (S49)) (u183003 : Value), v4 = .int .i64 x4_1 ∧ Aside0 (vivariumref10_Twin.l0 kq x4_1 a0_0 a0_1 a0_2 l0_3 l0_4 a0_0 a0_1 a0_2 x183003_1 = some (r1, r2, r3, r4, r5)) ∧ Aside0 (kq ≤ k) ∧ Aside0 (Kd.S k49 49 w' w.heap.size (fun _ => True) u183003 x183003_1) ∧ Aside0 (w'.heap[gb180]? = some (.cells #[.int .i64 a0_0, .int .u8 a0_1, .int .u8 a0_2, (.slice A0_3 l0_3.length c0_3), (.slice A0_4 l0_4.length c0_4)] 25 (0, 0))) ∧ Aside0 (w'.heap[gb181]? = some (.cells #[.int .i64 0, .int .u8 0, .int .u8 0, (.slice none 0 0), (.slice none 0 0)] 25 (0, 0))) ∧ Aside0 (w'.heap[gb182]? = some (.cells #[.int .i64 a0_0, .int .u8 a0_1, .int .u8 a0_2, u183003, (.slice none 0 0)] 25 (0, 0))) ∧ Aside0 (Below w.heap.size w w'))
 case atStart => exact ⟨(0), (([] : List (S49))), (.slice none 0 0), (by first | rfl | (simp; done) | (simp [*]; done)), H', ⟨Nat.le_refl _⟩, ⟨by first | exact Kd.S_nil _ _ _ _ _ | exact Kd.N_nil _ _ _ _ _ | exact Kd.V_nil _ _ _ _ _ | exact Kd.Q_nil _ _ _ _ _ | exact Kd.R_nil _ _ _ _ _⟩, ⟨by (with_reducible repeat (first | refine blk_drewN ?_ _ | refine blk_drew ?_ | refine blk_alloc ?_ _)); refine blk_far ?_ NB180_182.out _; (with_reducible repeat (first | refine blk_drewN ?_ _ | refine blk_drew ?_ | refine blk_alloc ?_ _)); refine blk_far ?_ NB180_182.out _; (with_reducible repeat (first | refine blk_drewN ?_ _ | refine blk_drew ?_ | refine blk_alloc ?_ _)); refine blk_far ?_ NB180_182.out _; (with_reducible repeat (first | refine blk_drewN ?_ _ | refine blk_drew ?_ | refine blk_alloc ?_ _)); refine blk_far ?_ NB180_182.out _; (with_reducible repeat (first | refine blk_drewN ?_ _ | refine blk_drew ?_ | refine blk_alloc ?_ _)); refine blk_far ?_ NB180_182.out _; (with_reducible repeat (first | refine blk_drewN ?_ _ | refine blk_drew ?_ | refine blk_alloc ?_ _)); exact BK180.out⟩, ⟨by (with_reducible repeat (first | refine blk_drewN ?_ _ | refine blk_drew ?_ | refine blk_alloc ?_ _)); refine blk_far ?_ NB181_182.out _; (with_reducible repeat (first | refine blk_drewN ?_ _ | refine blk_drew ?_ | refine blk_alloc ?_ _)); refine blk_far ?_ NB181_182.out _; (with_reducible repeat (first | refine blk_drewN ?_ _ | refine blk_drew ?_ | refine blk_alloc ?_ _)); refine blk_far ?_ NB181_182.out _; (with_reducible repeat (first | refine blk_drewN ?_ _ | refine blk_drew ?_ | refine blk_alloc ?_ _)); refine blk_far ?_ NB181_182.out _; (with_reducible repeat (first | refine blk_drewN ?_ _ | refine blk_drew ?_ | refine blk_alloc ?_ _)); refine blk_far ?_ NB181_182.out _; (with_reducible repeat (first | refine blk_drewN ?_ _ | refine blk_drew ?_ | refine blk_alloc ?_ _)); exact BK181.out⟩, ⟨by (with_reducible repeat (first | refine blk_drewN ?_ _ | refine blk_drew ?_ | refine blk_alloc ?_ _)); refine blk_put (cs := #[.int .i64 a0_0, .int .u8 a0_1, .int .u8 a0_2, .slice none 0 0, .slice none 0 0]) ?_ 4 _ rfl; (with_reducible repeat (first | refine blk_drewN ?_ _ | refine blk_drew ?_ | refine blk_alloc ?_ _)); refine blk_put (cs := #[.int .i64 a0_0, .int .u8 a0_1, .int .u8 a0_2, .slice none 0 0, .slice none 0 0]) ?_ 3 _ rfl; (with_reducible repeat (first | refine blk_drewN ?_ _ | refine blk_drew ?_ | refine blk_alloc ?_ _)); refine blk_put (cs := #[.int .i64 a0_0, .int .u8 a0_1, .int .u8 0, .slice none 0 0, .slice none 0 0]) ?_ 2 _ rfl; (with_reducible repeat (first | refine blk_drewN ?_ _ | refine blk_drew ?_ | refine blk_alloc ?_ _)); refine blk_put (cs := #[.int .i64 a0_0, .int .u8 0, .int .u8 0, .slice none 0 0, .slice none 0 0]) ?_ 1 _ rfl; (with_reducible repeat (first | refine blk_drewN ?_ _ | refine blk_drew ?_ | refine blk_alloc ?_ _)); refine blk_put (cs := #[.int .i64 0, .int .u8 0, .int .u8 0, .slice none 0 0, .slice none 0 0]) ?_ 0 _ rfl; (with_reducible repeat (first | refine blk_drewN ?_ _ | refine blk_drew ?_ | refine blk_alloc ?_ _)); exact BK182.out⟩, ⟨by repeat (first | (with_reducible first | exact HB.out | apply below_alloc | apply pw_below_drewN | apply below_drew1 | refine below_set ?_ GE180.out | refine below_set ?_ GE181.out | refine below_set ?_ GE182.out) | exact HB.out)⟩⟩
 case round =>
  clear H'
  try clear p2
  try clear c4
  try clear c6
  try clear c7
  try clear c8
  try clear hcz5_0
  try clear hcz5_1
  try clear hcz5_2
  try clear hcz5_3
  try clear hcz5_4
  try clear hcz9_0
  try clear hcz9_1
  try clear hcz9_2
  try clear hcz9_3
  try clear hcz9_4
  try clear hfz5_0
  try clear hfz5_1
  try clear hfz5_2
  try clear hfz5_3
  try clear hfz5_4
  try clear hfz9_0
  try clear hfz9_1
  try clear hfz9_2
  try clear hfz9_3
  try clear hfz9_4
  obtain ⟨x4_1, x183003_1, u183003, rfl, HA, HK1, HO_183003, BK180, BK181, BK182, HB⟩ := hrel
  cases gk with
  | zero => exact absurd HA.out (by simp [vivariumref10_Twin.l0])
  | succ k1 =>
   have H := HA.out
   clear HA
   simp only [vivariumref10_Twin.l0] at H
   by_cases c10 : x4_1 < (l0_3.length : Int)
   ·rw [if_pos c10] at H
    have c10b0 : decide (x4_1 < (l0_3.length : Int)) = true := decide_eq_true c10
    clear c10
    by_cases c11 : 0 ≤ x4_1
    ·rw [if_pos c11] at H
     have c11b0 : decide (0 ≤ x4_1) = true := decide_eq_true c11
     clear c11
     by_cases c12 : ([] : List Int).length + ((rd_T49 l0_3 x4_1).f1).length < 140737488355328
     ·rw [if_pos c12] at H
      have LMc12 := Aside0.mk c12
      clear c12
      obtain ⟨y185, hy185⟩ : ∃ y_ : List Int, y_ = (([] : List Int) ++ ((rd_T49 l0_3 x4_1).f1)) := ⟨_, rfl⟩
      replace H : (if x183003_1.length < 3518437208883 then (vivariumref10_Twin.l0 k1 (wrap64 (x4_1 + 1)) a0_0 a0_1 a0_2 l0_3 l0_4 a0_0 a0_1 a0_2 (x183003_1 ++ [(⟨(rd_T49 l0_3 x4_1).f0, y185⟩ : S49)])) else (none)) = some (r1, r2, r3, r4, r5) := by first | (rw [hy185]; with_reducible exact H) | (have H2_ := (Option.bind_some _ _).symm.trans H; rw [hy185]; with_reducible exact H2_) | (have H2_ := (Option.bind_some _ _).symm.trans H; with_reducible exact H2_) | with_reducible exact H | (rw [hy185]; exact H) | exact H
      have Ny185 := Aside0.mk hy185
      clear hy185
      by_cases c13 : x183003_1.length < 3518437208883
      ·rw [if_pos c13] at H
       have LMc13 := Aside0.mk c13
       clear c13
       obtain ⟨y188, hy188⟩ : ∃ y_ : List (S49), y_ = (x183003_1 ++ [(⟨(rd_T49 l0_3 x4_1).f0, y185⟩ : S49)]) := ⟨_, rfl⟩
       replace H : (vivariumref10_Twin.l0 k1 (wrap64 (x4_1 + 1)) a0_0 a0_1 a0_2 l0_3 l0_4 a0_0 a0_1 a0_2 y188) = some (r1, r2, r3, r4, r5) := by first | (rw [hy188]; with_reducible exact H) | (have H2_ := (Option.bind_some _ _).symm.trans H; rw [hy188]; with_reducible exact H2_) | (have H2_ := (Option.bind_some _ _).symm.trans H; with_reducible exact H2_) | with_reducible exact H | (rw [hy188]; exact H) | exact H
       have Ny188 := Aside0.mk hy188
       clear hy188
       have H' := Aside0.mk H
       clear H
       have hnb14 := NB180_181.out
       have hnc14 := NB181_180.out
       have hnb15 := NB180_182.out
       have hnc15 := NB182_180.out
       have hcz16_0 : wr.cell? ⟨gb180, 0, none⟩ = some (.int .i64 a0_0) := (blk_cell BK180.out 0).trans rfl
       have hcz16_1 : wr.cell? ⟨gb180, 1, none⟩ = some (.int .u8 a0_1) := (blk_cell BK180.out 1).trans rfl
       have hcz16_2 : wr.cell? ⟨gb180, 2, none⟩ = some (.int .u8 a0_2) := (blk_cell BK180.out 2).trans rfl
       have hcz16_3 : wr.cell? ⟨gb180, 3, none⟩ = some (.slice A0_3 l0_3.length c0_3) := (blk_cell BK180.out 3).trans rfl
       have hcz16_4 : wr.cell? ⟨gb180, 4, none⟩ = some (.slice A0_4 l0_4.length c0_4) := (blk_cell BK180.out 4).trans rfl
       have hfz16_0 := blk_frozen BK180.out 0
       have hfz16_1 := blk_frozen BK180.out 1
       have hfz16_2 := blk_frozen BK180.out 2
       have hfz16_3 := blk_frozen BK180.out 3
       have hfz16_4 := blk_frozen BK180.out 4
       try go_wp2
       have n0_ := Aside0.mk (Kd.S_drew HO_183003.out)
       have n1_ := Aside0.mk (blk_drew BK180.out)
       have n2_ := Aside0.mk (blk_drew BK181.out)
       have n3_ := Aside0.mk (blk_drew BK182.out)
       have n4_ := Aside0.mk (below_drew1 HB.out)
       clear HO_183003
       clear BK180
       clear BK181
       clear BK182
       clear HB
       have HO_183003 := n0_
       have BK180 := n1_
       have BK181 := n2_
       have BK182 := n3_
       have HB := n4_
       clear n0_ n1_ n2_ n3_ n4_
       have p183 : 0 ≤ (x4_1 : Int) := of_decide_eq_true (by first | (with_reducible assumption) | assumption)
       have q183 : x4_1 < (l0_3.length : Int) := of_decide_eq_true (by first | (with_reducible assumption) | assumption)
       obtain ⟨ad183, A183_1, c183_1, e183, hx183_0, hx183_1, hl183_1, hi183_1⟩ := at_T49 HR0_3.out x4_1 p183 q183
       have hw183_1 := hx183_1
       have hw183_0 := hx183_0
       cases e183
       replace hx183_0 := (HB.out.cell (World.block_lt_of_cell? w _ hx183_0)).trans hx183_0
       replace hx183_1 := (HB.out.cell (World.block_lt_of_cell? w _ hx183_1)).trans hx183_1
       have HR183_1 := Aside0.mk hi183_1
       have HC183_1 := Aside0.mk hl183_1
       clear hi183_1 hl183_1
       replace p183 := eq_true p183
       replace q183 := eq_true q183
       have p184 : 0 ≤ (x4_1 : Int) := of_decide_eq_true (by first | (with_reducible assumption) | assumption)
       have q184 : x4_1 < (l0_3.length : Int) := of_decide_eq_true (by first | (with_reducible assumption) | assumption)
       obtain ⟨ad184, A184_1, c184_1, e184, hx184_0, hx184_1, hl184_1, hi184_1⟩ := at_T49 HR0_3.out x4_1 p184 q184
       have hw184_1 := hx184_1
       have hw184_0 := hx184_0
       obtain rfl : ad183 = ad184 := (by injection e184)
       replace hx184_0 := (HB.out.cell (World.block_lt_of_cell? w _ hx184_0)).trans hx184_0
       replace hx184_1 := (HB.out.cell (World.block_lt_of_cell? w _ hx184_1)).trans hx184_1
       have HR184_1 := Aside0.mk hi184_1
       have HC184_1 := Aside0.mk hl184_1
       clear hi184_1 hl184_1
       replace p184 := eq_true p184
       replace q184 := eq_true q184
       have ea_ := Option.some.inj (hx183_1.symm.trans hx184_1)
       injection ea_ with ea_ en_ ec_
       subst ea_
       subst ec_
       clear en_
       refine start_ (n := 21) (S := fun w' => w'.cell? ⟨gb182, 0, none⟩ = some (.int .i64 a0_0) ∧ w'.cell? ⟨gb182, 1, none⟩ = some (.int .u8 a0_1) ∧ w'.cell? ⟨gb182, 2, none⟩ = some (.int .u8 a0_2) ∧ w'.cell? ⟨gb182, 3, none⟩ = some (u183003) ∧ w'.cell? ⟨gb182, 4, none⟩ = some (.slice none 0 0) ∧ w'.cell? ⟨gb180, 0, none⟩ = some (.int .i64 a0_0) ∧ w'.cell? ⟨gb180, 1, none⟩ = some (.int .u8 a0_1) ∧ w'.cell? ⟨gb180, 2, none⟩ = some (.int .u8 a0_2) ∧ w'.cell? ⟨gb180, 3, none⟩ = some (.slice (some ad183) l0_3.length c0_3) ∧ w'.cell? ⟨gb180, 4, none⟩ = some (.slice A0_4 l0_4.length c0_4) ∧ w'.cell? (ad183.add ((x4_1).toNat * 2)) = some (.string ((rd_T49 l0_3 x4_1).f0)) ∧ w'.cell? ⟨(ad183.add ((x4_1).toNat * 2)).block, (ad183.add ((x4_1).toNat * 2)).off + 1, none⟩ = some (.slice A183_1 ((rd_T49 l0_3 x4_1).f1).length c183_1) ∧ w'.cell? (ad183.add ((x4_1).toNat * 2)) = some (.string ((rd_T49 l0_3 x4_1).f0)) ∧ w'.cell? ⟨(ad183.add ((x4_1).toNat * 2)).block, (ad183.add ((x4_1).toNat * 2)).off + 1, none⟩ = some (.slice A183_1 ((rd_T49 l0_3 x4_1).f1).length c183_1)) (ds := [20]) #[false, false, false, false, false, false, false, false, false, false, false, false, false, false, false, false, false, false, false, false, false] (by kernel_rfl) rfl rfl ⟨(blk_cell BK182.out 0).trans rfl, (blk_cell BK182.out 1).trans rfl, (blk_cell BK182.out 2).trans rfl, (blk_cell BK182.out 3).trans rfl, (blk_cell BK182.out 4).trans rfl, (blk_cell BK180.out 0).trans rfl, (blk_cell BK180.out 1).trans rfl, (blk_cell BK180.out 2).trans rfl, (blk_cell BK180.out 3).trans rfl, (blk_cell BK180.out 4).trans rfl, ((HB.out.cell (World.block_lt_of_cell? w _ hw183_0)).trans hw183_0), ((HB.out.cell (World.block_lt_of_cell? w _ hw183_1)).trans hw183_1), ((HB.out.cell (World.block_lt_of_cell? w _ hw184_0)).trans hw184_0), ((HB.out.cell (World.block_lt_of_cell? w _ hw184_1)).trans hw184_1)⟩ (fun hHeld => ?_); refine with_tabW vivariumref10_Twin.tab6 vivariumref10_Twin.bits6 (fun HT_ HW_ => ?_)
       generalize wr.drew = w17 at HO_183003 BK180 BK181 BK182 HB HR183_1 HR184_1 hx183_0 hx183_1 hx184_0 hx184_1 hHeld ⊢
       refine pure_ (i := 0) (N := some 23) (v := ?_) (a' := ?_) #[true, false, false, false, false, false, false, false, false, false, false, false, false, false, false, false, false, false, false, false, false] rfl rfl (any_of HT_.out (by kernel_rfl)) (fun _ _ _ h => h) (Or.inl ⟨by rfl, ?_⟩) ?_ ?_
       rotate_left
       ·intro w'
        go_simp
        with_reducible rfl
       rotate_left
       ·simp only [Act.put, List.setIfInBounds_toArray, List.set_cons_zero, List.set_cons_succ, i64_w, i32_w]
        rfl
       refine pure_ (i := 2) (N := some 25) (v := ?_) (a' := ?_) #[true, false, true, false, false, false, false, false, false, false, false, false, false, false, false, false, false, false, false, false, false] rfl rfl (any_of HT_.out (by kernel_rfl)) (fun _ _ _ h => h) (Or.inl ⟨by rfl, ?_⟩) ?_ ?_
       rotate_left
       ·intro w'
        go_simp
        with_reducible rfl
       rotate_left
       ·simp only [Act.put, List.setIfInBounds_toArray, List.set_cons_zero, List.set_cons_succ, i64_w, i32_w]
        rfl
       refine pure_ (i := 4) (N := some 27) (v := ?_) (a' := ?_) #[true, false, true, false, true, false, false, false, false, false, false, false, false, false, false, false, false, false, false, false, false] rfl rfl (any_of HT_.out (by kernel_rfl)) (fun _ _ _ h => h) (Or.inl ⟨by rfl, ?_⟩) ?_ ?_
       rotate_left
       ·intro w'
        go_simp
        with_reducible rfl
       rotate_left
       ·simp only [Act.put, List.setIfInBounds_toArray, List.set_cons_zero, List.set_cons_succ, i64_w, i32_w]
        rfl
       refine pure_ (i := 8) (N := some 31) (v := ?_) (a' := ?_) #[true, false, true, false, true, false, false, false, true, false, false, false, false, false, false, false, false, false, false, false, false] rfl rfl (any_of HT_.out (by kernel_rfl)) (fun _ _ _ h => h) (Or.inl ⟨by rfl, ?_⟩) ?_ ?_
       rotate_left
       ·intro w'
        go_simp
        with_reducible rfl
       rotate_left
       ·simp only [Act.put, List.setIfInBounds_toArray, List.set_cons_zero, List.set_cons_succ, i64_w, i32_w]
        rfl
       refine pure_ (i := 9) (N := some 32) (v := ?_) (a' := ?_) #[true, false, true, false, true, false, false, false, true, true, false, false, false, false, false, false, false, false, false, false, false] rfl rfl (any_of HT_.out (by kernel_rfl)) (fun _ _ _ h => h) (Or.inl ⟨by rfl, ?_⟩) ?_ ?_
       rotate_left
       ·intro w'
        go_simp
        with_reducible rfl
       rotate_left
       ·simp only [Act.put, List.setIfInBounds_toArray, List.set_cons_zero, List.set_cons_succ, i64_w, i32_w]
        rfl
       refine pure_ (i := 11) (N := some 34) (v := ?_) (a' := ?_) #[true, false, true, false, true, false, false, false, true, true, false, true, false, false, false, false, false, false, false, false, false] rfl rfl (any_of HT_.out (by kernel_rfl)) (fun _ _ _ h => h) (Or.inl ⟨by rfl, ?_⟩) ?_ ?_
       rotate_left
       ·intro w'
        go_simp
        with_reducible rfl
       rotate_left
       ·simp only [Act.put, List.setIfInBounds_toArray, List.set_cons_zero, List.set_cons_succ, i64_w, i32_w]
        rfl
       refine take_ (i := 1) (N := some 24) (v := ?_) (a' := ?_) #[true, true, true, false, true, false, false, false, true, true, false, true, false, false, false, false, false, false, false, false, false] rfl rfl (take_ofW HT_.out HW_.out (by kernel_rfl)) (fun _ _ _ h => h) (Or.inl ⟨by rfl, ?_⟩) hHeld ?_ ?_
       rotate_left
       ·rintro w' ⟨s0, s1, s2, s3, s4, s5, s6, s7, s8, s9, s10, s11, s12, s13⟩
        go_simp
        with_reducible rfl
       rotate_left
       ·simp only [Act.put, List.setIfInBounds_toArray, List.set_cons_zero, List.set_cons_succ, i64_w, i32_w]
        rfl
       refine take_ (i := 3) (N := some 26) (v := ?_) (a' := ?_) #[true, true, true, true, true, false, false, false, true, true, false, true, false, false, false, false, false, false, false, false, false] rfl rfl (take_ofW HT_.out HW_.out (by kernel_rfl)) (fun _ _ _ h => h) (Or.inl ⟨by rfl, ?_⟩) hHeld ?_ ?_
       rotate_left
       ·rintro w' ⟨s0, s1, s2, s3, s4, s5, s6, s7, s8, s9, s10, s11, s12, s13⟩
        go_simp
        with_reducible rfl
       rotate_left
       ·simp only [Act.put, List.setIfInBounds_toArray, List.set_cons_zero, List.set_cons_succ, i64_w, i32_w]
        rfl
       refine pure_ (i := 5) (N := some 28) (v := ?_) (a' := ?_) #[true, true, true, true, true, true, false, false, true, true, false, true, false, false, false, false, false, false, false, false, false] rfl rfl (any_of HT_.out (by kernel_rfl)) (fun _ _ _ h => h) (Or.inl ⟨by rfl, ?_⟩) ?_ ?_
       rotate_left
       ·intro w'
        go_simp
        with_reducible rfl
       rotate_left
       ·simp only [Act.put, List.setIfInBounds_toArray, List.set_cons_zero, List.set_cons_succ, i64_w, i32_w]
        rfl
       refine pure_ (i := 6) (N := some 29) (v := ?_) (a' := ?_) #[true, true, true, true, true, true, true, false, true, true, false, true, false, false, false, false, false, false, false, false, false] rfl rfl (any_of HT_.out (by kernel_rfl)) (fun _ _ _ h => h) (Or.inl ⟨by rfl, ?_⟩) ?_ ?_
       rotate_left
       ·intro w'
        go_simp
        with_reducible rfl
       rotate_left
       ·simp only [Act.put, List.setIfInBounds_toArray, List.set_cons_zero, List.set_cons_succ, i64_w, i32_w]
        rfl
       refine take_ (i := 7) (N := some 30) (v := ?_) (a' := ?_) #[true, true, true, true, true, true, true, true, true, true, false, true, false, false, false, false, false, false, false, false, false] rfl rfl (take_ofW HT_.out HW_.out (by kernel_rfl)) (fun _ _ _ h => h) (Or.inl ⟨by rfl, ?_⟩) hHeld ?_ ?_
       rotate_left
       ·rintro w' ⟨s0, s1, s2, s3, s4, s5, s6, s7, s8, s9, s10, s11, s12, s13⟩
        go_simp
        with_reducible rfl
       rotate_left
       ·simp only [Act.put, List.setIfInBounds_toArray, List.set_cons_zero, List.set_cons_succ, i64_w, i32_w]
        rfl
       refine take_ (i := 10) (N := some 33) (v := ?_) (a' := ?_) #[true, true, true, true, true, true, true, true, true, true, true, true, false, false, false, false, false, false, false, false, false] rfl rfl (take_ofW HT_.out HW_.out (by kernel_rfl)) (fun _ _ _ h => h) (Or.inl ⟨by rfl, ?_⟩) hHeld ?_ ?_
       rotate_left
       ·rintro w' ⟨s0, s1, s2, s3, s4, s5, s6, s7, s8, s9, s10, s11, s12, s13⟩
        go_simp
        with_reducible rfl
       rotate_left
       ·simp only [Act.put, List.setIfInBounds_toArray, List.set_cons_zero, List.set_cons_succ, i64_w, i32_w]
        rfl
       refine pure_ (i := 12) (N := some 35) (v := ?_) (a' := ?_) #[true, true, true, true, true, true, true, true, true, true, true, true, true, false, false, false, false, false, false, false, false] rfl rfl (any_of HT_.out (by kernel_rfl)) (fun _ _ _ h => h) (Or.inl ⟨by rfl, ?_⟩) ?_ ?_
       rotate_left
       ·intro w'
        go_simp
        with_reducible rfl
       rotate_left
       ·simp only [Act.put, List.setIfInBounds_toArray, List.set_cons_zero, List.set_cons_succ, i64_w, i32_w]
        rfl
       refine pure_ (i := 13) (N := some 36) (v := ?_) (a' := ?_) #[true, true, true, true, true, true, true, true, true, true, true, true, true, true, false, false, false, false, false, false, false] rfl rfl (any_of HT_.out (by kernel_rfl)) (fun _ _ _ h => h) (Or.inl ⟨by rfl, ?_⟩) ?_ ?_
       rotate_left
       ·intro w'
        go_simp
        with_reducible rfl
       rotate_left
       ·simp only [Act.put, List.setIfInBounds_toArray, List.set_cons_zero, List.set_cons_succ, i64_w, i32_w]
        rfl
       refine take_ (i := 14) (N := some 37) (v := ?_) (a' := ?_) #[true, true, true, true, true, true, true, true, true, true, true, true, true, true, true, false, false, false, false, false, false] rfl rfl (take_ofW HT_.out HW_.out (by kernel_rfl)) (fun _ _ _ h => h) (Or.inl ⟨by rfl, ?_⟩) hHeld ?_ ?_
       rotate_left
       ·rintro w' ⟨s0, s1, s2, s3, s4, s5, s6, s7, s8, s9, s10, s11, s12, s13⟩
        go_simp
        with_reducible rfl
       rotate_left
       ·simp only [Act.put, List.setIfInBounds_toArray, List.set_cons_zero, List.set_cons_succ, i64_w, i32_w]
        rfl
       refine one_ (i := 15) (N := some 38) #[true, true, true, true, true, true, true, true, true, true, true, true, true, true, true, true, false, false, false, false, false] rfl rfl (one_of HT_.out (by kernel_rfl)) (by decide) (fun K hK => ?_)
       refine Kd.R_append_rows_step (Kd.int .u8) (w0 := w) w.heap.size (by rfl) (.tmp 31) (.tmp 37) 46 5 (.int .u8 0) 1 rfl Tryd.underlying46 info5 rfl (by decide) (by omega) (.slice none 0 0) ([] : List Int) ((rd_T49 l0_3 x4_1).f1) _ _ _ (fun _ => True) (fun _ => False) rfl rfl ?aO ?aR (fun _ _ h => h) (fun _ h => h.elim) ?aF ?aB ?aS ?aL ?_
       (case aR => repeat (first | exact (Kd.C_below HR184_1.out HB.out) | (with_reducible refine Kd.C_alloc ?_ _) | (with_reducible refine Kd.C_drewN ?_ _) | (with_reducible refine Kd.C_drew ?_)))
       (case aB => exact (by repeat (first | (with_reducible first | exact HB.out | apply below_alloc | apply pw_below_drewN | apply below_drew1 | refine below_set ?_ GE180.out | refine below_set ?_ GE181.out | refine below_set ?_ GE182.out) | exact HB.out)))
       (case aF => exact (fun _ _ => trivial))
       (case aO => exact ((Kd.R_nil _ _ _ _ (fun _ => True))))
       (case aS => exact (below_size (by repeat (first | (with_reducible first | exact HB.out | apply below_alloc | apply pw_below_drewN | apply below_drew1 | refine below_set ?_ GE180.out | refine below_set ?_ GE181.out | refine below_set ?_ GE182.out) | exact HB.out))))
       (case aL => have := LMc12.out; omega)
       intro v186 w18 ho hb hg hat
       rw [← Ny185.out] at ho
       have n0_ := Aside0.mk (Kd.S_after (Kd.S_apart_nil (by (with_reducible repeat (first | apply Kd.S_alloc | apply Kd.S_drewN | apply Kd.S_drew)); exact HO_183003.out)) hg hat)
       have n1_ := Aside0.mk (blk_grown (g := gb180) (o := .cells #[.int .i64 a0_0, .int .u8 a0_1, .int .u8 a0_2, .slice (some ad183) l0_3.length c0_3, .slice A0_4 l0_4.length c0_4] 25 (0, 0)) (by (with_reducible repeat (first | refine blk_drewN ?_ _ | refine blk_drew ?_ | refine blk_alloc ?_ _)); exact BK180.out) hg (by simp [Value.ownBlock]))
       have n2_ := Aside0.mk (blk_grown (g := gb181) (o := .cells #[.int .i64 0, .int .u8 0, .int .u8 0, .slice none 0 0, .slice none 0 0] 25 (0, 0)) (by (with_reducible repeat (first | refine blk_drewN ?_ _ | refine blk_drew ?_ | refine blk_alloc ?_ _)); exact BK181.out) hg (by simp [Value.ownBlock]))
       have n3_ := Aside0.mk (blk_grown (g := gb182) (o := .cells #[.int .i64 a0_0, .int .u8 a0_1, .int .u8 a0_2, u183003, .slice none 0 0] 25 (0, 0)) (by (with_reducible repeat (first | refine blk_drewN ?_ _ | refine blk_drew ?_ | refine blk_alloc ?_ _)); exact BK182.out) hg (by simp [Value.ownBlock]))
       have n4_ := Aside0.mk (hb)
       have n5_ := Aside0.mk (ho)
       clear HO_183003
       clear BK180
       clear BK181
       clear BK182
       clear HB
       have HO_183003 := n0_
       have BK180 := n1_
       have BK181 := n2_
       have BK182 := n3_
       have HB := n4_
       have HO187 := n5_
       clear n0_ n1_ n2_ n3_ n4_ n5_
       clear ho hb hg hat
       obtain ⟨Ao19, co19, eo19⟩ := Kd.R_slice HO187.out
       (first | subst eo19 | (injection eo19 with f1_ f2_ f3_; have f4_ := f1_.symm; have f5_ := f3_.symm; clear f1_ f2_ f3_; subst f4_; subst f5_))
       refine hK.out _ _ ⟨(blk_cell BK182.out 0).trans rfl, (blk_cell BK182.out 1).trans rfl, (blk_cell BK182.out 2).trans rfl, (blk_cell BK182.out 3).trans rfl, (blk_cell BK182.out 4).trans rfl, (blk_cell BK180.out 0).trans rfl, (blk_cell BK180.out 1).trans rfl, (blk_cell BK180.out 2).trans rfl, (blk_cell BK180.out 3).trans rfl, (blk_cell BK180.out 4).trans rfl, ((HB.out.cell (World.block_lt_of_cell? w _ hw183_0)).trans hw183_0), ((HB.out.cell (World.block_lt_of_cell? w _ hw183_1)).trans hw183_1), ((HB.out.cell (World.block_lt_of_cell? w _ hw184_0)).trans hw184_0), ((HB.out.cell (World.block_lt_of_cell? w _ hw184_1)).trans hw184_1)⟩ (fun hHeld => ?_)
       clear hK K
       refine norm_ (a' := ?_) ?_ ?_
       rotate_left
       ·show Act.put _ (some 38) _ = _
        simp only [Act.put, List.setIfInBounds_toArray, List.set_cons_zero, List.set_cons_succ, i64_w, i32_w]
        rfl
       refine pure_ (i := 16) (N := some 39) (v := ?_) (a' := ?_) #[true, true, true, true, true, true, true, true, true, true, true, true, true, true, true, true, true, false, false, false, false] rfl rfl (any_of HT_.out (by kernel_rfl)) (fun _ _ _ h => h) (Or.inl ⟨by rfl, ?_⟩) ?_ ?_
       rotate_left
       ·intro w'
        go_simp
        with_reducible rfl
       rotate_left
       ·simp only [Act.put, List.setIfInBounds_toArray, List.set_cons_zero, List.set_cons_succ, i64_w, i32_w]
        rfl
       refine one_ (i := 17) (N := some 40) #[true, true, true, true, true, true, true, true, true, true, true, true, true, true, true, true, true, true, false, false, false] rfl rfl (one_of HT_.out (by kernel_rfl)) (by decide) (fun K hK => ?_)
       refine value_ (w1 := ?_) (v := ?_) (by rfl) rfl ?_ ?_
       rotate_left 2
       ·go_simp
        constructor
        ·rfl
        ·rfl
       refine hK.out _ _ ⟨(blk_cell (blk_alloc BK182.out _) 0).trans rfl, (blk_cell (blk_alloc BK182.out _) 1).trans rfl, (blk_cell (blk_alloc BK182.out _) 2).trans rfl, (blk_cell (blk_alloc BK182.out _) 3).trans rfl, (blk_cell (blk_alloc BK182.out _) 4).trans rfl, (blk_cell (blk_alloc BK180.out _) 0).trans rfl, (blk_cell (blk_alloc BK180.out _) 1).trans rfl, (blk_cell (blk_alloc BK180.out _) 2).trans rfl, (blk_cell (blk_alloc BK180.out _) 3).trans rfl, (blk_cell (blk_alloc BK180.out _) 4).trans rfl, (World.cell?_alloc_lt _ _ _ (World.block_lt_of_cell? _ _ (((HB.out.cell (World.block_lt_of_cell? w _ hw183_0)).trans hw183_0)))).trans (((HB.out.cell (World.block_lt_of_cell? w _ hw183_0)).trans hw183_0)), (World.cell?_alloc_lt _ _ _ (World.block_lt_of_cell? _ _ (((HB.out.cell (World.block_lt_of_cell? w _ hw183_1)).trans hw183_1)))).trans (((HB.out.cell (World.block_lt_of_cell? w _ hw183_1)).trans hw183_1)), (World.cell?_alloc_lt _ _ _ (World.block_lt_of_cell? _ _ (((HB.out.cell (World.block_lt_of_cell? w _ hw184_0)).trans hw184_0)))).trans (((HB.out.cell (World.block_lt_of_cell? w _ hw184_0)).trans hw184_0)), (World.cell?_alloc_lt _ _ _ (World.block_lt_of_cell? _ _ (((HB.out.cell (World.block_lt_of_cell? w _ hw184_1)).trans hw184_1)))).trans (((HB.out.cell (World.block_lt_of_cell? w _ hw184_1)).trans hw184_1))⟩ (fun hHeld => ?_)
       clear hK K
       refine norm_ (a' := ?_) ?_ ?_
       rotate_left
       ·show Act.put _ (some 40) _ = _
        simp only [Act.put, List.setIfInBounds_toArray, List.set_cons_zero, List.set_cons_succ, i64_w, i32_w]
        rfl
       refine one_ (i := 18) (N := some 41) #[true, true, true, true, true, true, true, true, true, true, true, true, true, true, true, true, true, true, true, false, false] rfl rfl (one_of HT_.out (by kernel_rfl)) (by decide) (fun K hK => ?_)
       refine Kd.S_append_step k49 (w0 := w) w.heap.size (by rfl) (.tmp 24) (.tmp 40) 22 49 (.agg #[(.string ⟨#[]⟩), (.slice none 0 0)]) 40 rfl Tryd.underlying22 info49 rfl (by decide) (by omega) u183003 x183003_1 (⟨(rd_T49 l0_3 x4_1).f0, y185⟩ : S49) [.string ((rd_T49 l0_3 x4_1).f0), .slice Ao19 y185.length co19] (fun _ => True) (fun k_ => some k_ = (.slice Ao19 y185.length co19 : Value).ownBlock) rfl rfl ?aP (fun k_ hk_ => ((Kd.R_mono (ok' := fun k_ => ((fun _ => True)) k_ ∧ some k_ ≠ (u183003 : Value).ownBlock) (Kd.R_apart' (HO187.out) (Kd.S_typed HO_183003.out) (by decide)) (fun k_ hk => ⟨trivial, hk.2⟩))).1 k_ hk_.symm) ?aF ?aO ?aB ?aS ?aL ?_
       (case aP => exact k49_mkM _ _ _ (⟨(rd_T49 l0_3 x4_1).f0, y185⟩ : S49) (Kd.R_mono (Kd.R_tight rfl (Kd.R_mono (ok' := fun k_ => ((fun _ => True)) k_ ∧ some k_ ≠ (u183003 : Value).ownBlock) (Kd.R_apart' (HO187.out) (Kd.S_typed HO_183003.out) (by decide)) (fun k_ hk => ⟨trivial, hk.2⟩))) (fun _ h_ => h_)))
       (case aB => exact (by repeat (first | (with_reducible first | exact HB.out | apply below_alloc | apply pw_below_drewN | apply below_drew1 | refine below_set ?_ GE180.out | refine below_set ?_ GE181.out | refine below_set ?_ GE182.out) | exact HB.out)))
       (case aF => exact (fun _ _ => trivial))
       (case aO => exact (by (with_reducible repeat (first | apply Kd.S_alloc | apply Kd.S_drewN | apply Kd.S_drew)); exact Kd.S_mono HO_183003.out (fun k_ hk => ⟨trivial, fun e_ => hk.2 e_⟩)))
       (case aS => exact (below_size (by repeat (first | (with_reducible first | exact HB.out | apply below_alloc | apply pw_below_drewN | apply below_drew1 | refine below_set ?_ GE180.out | refine below_set ?_ GE181.out | refine below_set ?_ GE182.out) | exact HB.out))))
       (case aL => have := LMc13.out; omega)
       intro v189 w20 ho hb hg hat
       rw [← Ny188.out] at ho
       have n0_ := Aside0.mk (blk_grown (g := gb180) (o := .cells #[.int .i64 a0_0, .int .u8 a0_1, .int .u8 a0_2, .slice (some ad183) l0_3.length c0_3, .slice A0_4 l0_4.length c0_4] 25 (0, 0)) (by (with_reducible repeat (first | refine blk_drewN ?_ _ | refine blk_drew ?_ | refine blk_alloc ?_ _)); exact BK180.out) hg (Kd.S_ne HO_183003.out BK180.out (by decide)))
       have n1_ := Aside0.mk (blk_grown (g := gb181) (o := .cells #[.int .i64 0, .int .u8 0, .int .u8 0, .slice none 0 0, .slice none 0 0] 25 (0, 0)) (by (with_reducible repeat (first | refine blk_drewN ?_ _ | refine blk_drew ?_ | refine blk_alloc ?_ _)); exact BK181.out) hg (Kd.S_ne HO_183003.out BK181.out (by decide)))
       have n2_ := Aside0.mk (blk_grown (g := gb182) (o := .cells #[.int .i64 a0_0, .int .u8 a0_1, .int .u8 a0_2, u183003, .slice none 0 0] 25 (0, 0)) (by (with_reducible repeat (first | refine blk_drewN ?_ _ | refine blk_drew ?_ | refine blk_alloc ?_ _)); exact BK182.out) hg (Kd.S_ne HO_183003.out BK182.out (by decide)))
       have n3_ := Aside0.mk (hb)
       have n4_ := Aside0.mk (ho)
       clear BK180
       clear BK181
       clear BK182
       clear HB
       clear HO_183003
       clear HO187
       have BK180 := n0_
       have BK181 := n1_
       have BK182 := n2_
       have HB := n3_
       have HO190 := n4_
       clear n0_ n1_ n2_ n3_ n4_
       clear ho hb hg hat
       obtain ⟨Ao21, co21, eo21⟩ := Kd.S_slice HO190.out
       (first | subst eo21 | (injection eo21 with f1_ f2_ f3_; have f4_ := f1_.symm; have f5_ := f3_.symm; clear f1_ f2_ f3_; subst f4_; subst f5_))
       refine hK.out _ _ ⟨(blk_cell BK182.out 0).trans rfl, (blk_cell BK182.out 1).trans rfl, (blk_cell BK182.out 2).trans rfl, (blk_cell BK182.out 3).trans rfl, (blk_cell BK182.out 4).trans rfl, (blk_cell BK180.out 0).trans rfl, (blk_cell BK180.out 1).trans rfl, (blk_cell BK180.out 2).trans rfl, (blk_cell BK180.out 3).trans rfl, (blk_cell BK180.out 4).trans rfl, ((HB.out.cell (World.block_lt_of_cell? w _ hw183_0)).trans hw183_0), ((HB.out.cell (World.block_lt_of_cell? w _ hw183_1)).trans hw183_1), ((HB.out.cell (World.block_lt_of_cell? w _ hw184_0)).trans hw184_0), ((HB.out.cell (World.block_lt_of_cell? w _ hw184_1)).trans hw184_1)⟩ (fun hHeld => ?_)
       clear hK K
       refine norm_ (a' := ?_) ?_ ?_
       rotate_left
       ·show Act.put _ (some 41) _ = _
        simp only [Act.put, List.setIfInBounds_toArray, List.set_cons_zero, List.set_cons_succ, i64_w, i32_w]
        rfl
       refine pure_ (i := 19) (N := some 42) (v := ?_) (a' := ?_) #[true, true, true, true, true, true, true, true, true, true, true, true, true, true, true, true, true, true, true, true, false] rfl rfl (any_of HT_.out (by kernel_rfl)) (fun _ _ _ h => h) (Or.inl ⟨by rfl, ?_⟩) ?_ ?_
       rotate_left
       ·intro w'
        go_simp
        with_reducible rfl
       rotate_left
       ·simp only [Act.put, List.setIfInBounds_toArray, List.set_cons_zero, List.set_cons_succ, i64_w, i32_w]
        rfl
       refine last_ (i := 20) (N := none) #[true, true, true, true, true, true, true, true, true, true, true, true, true, true, true, true, true, true, true, true, true] rfl rfl (one_of HT_.out (by kernel_rfl)) (by decide) (fun K hK => ?_)
       have hs22 : w20.cell? ⟨gb182, 3, none⟩ = some (u183003) := (blk_cell BK182.out 3).trans rfl
       have hfs22 := blk_frozen BK182.out 3
       have hns22_0 := NB180_182.out
       have hns22_1 := NB181_182.out
       have hms22_0 := NB182_180.out
       have hms22_1 := NB182_181.out
       refine skip_ (w1 := ?_) (by rfl) rfl ?_ ?_
       rotate_left
       ·go_simp
        rfl
       refine hK.out _ _ ?_
       clear hK K
       refine done_ (done_of HT_.out (by kernel_rfl)) ?_
       try go_wp2
       go_roundg k1
       case measure => have := HK1.out; omega
       case rel => exact ⟨(wrap64 (x4_1 + 1)), (y188), (.slice Ao21 y188.length co21), (by first | rfl | (simp; done) | (simp [*]; done)), H', ⟨by have := HK1.out; omega⟩, ⟨by (with_reducible repeat (first | apply Kd.S_alloc | apply Kd.S_drewN | apply Kd.S_drew)); exact Kd.S_mono (Kd.S_far (p := ⟨gb182, 3, none⟩) (Kd.S_types HO190.out BK182.out (by decide)) (fun _ hk => hk.2) (.slice Ao21 y188.length co21)) (fun _ hk => trivial)⟩, ⟨by (with_reducible repeat (first | refine blk_drewN ?_ _ | refine blk_drew ?_ | refine blk_alloc ?_ _)); refine blk_far ?_ NB180_182.out _; (with_reducible repeat (first | refine blk_drewN ?_ _ | refine blk_drew ?_ | refine blk_alloc ?_ _)); exact BK180.out⟩, ⟨by (with_reducible repeat (first | refine blk_drewN ?_ _ | refine blk_drew ?_ | refine blk_alloc ?_ _)); refine blk_far ?_ NB181_182.out _; (with_reducible repeat (first | refine blk_drewN ?_ _ | refine blk_drew ?_ | refine blk_alloc ?_ _)); exact BK181.out⟩, ⟨by (with_reducible repeat (first | refine blk_drewN ?_ _ | refine blk_drew ?_ | refine blk_alloc ?_ _)); refine blk_put (cs := #[.int .i64 a0_0, .int .u8 a0_1, .int .u8 a0_2, u183003, .slice none 0 0]) ?_ 3 _ rfl; (with_reducible repeat (first | refine blk_drewN ?_ _ | refine blk_drew ?_ | refine blk_alloc ?_ _)); exact BK182.out⟩, ⟨by repeat (first | (with_reducible first | exact HB.out | apply below_alloc | apply pw_below_drewN | apply below_drew1 | refine below_set ?_ GE180.out | refine below_set ?_ GE181.out | refine below_set ?_ GE182.out) | exact HB.out)⟩⟩
      ·rw [if_neg c13] at H
       exact absurd H (by simp)
     ·rw [if_neg c12] at H
      exact absurd H (by simp)
    ·rw [if_neg c11] at H
     exact absurd H (by simp)
   ·rw [if_neg c10] at H
    have c10b0 : decide (x4_1 < (l0_3.length : Int)) = false := decide_eq_false c10
    clear c10
    have H' := Aside0.mk H
    clear H
    have hnb23 := NB180_181.out
    have hnc23 := NB181_180.out
    have hnb24 := NB180_182.out
    have hnc24 := NB182_180.out
    have hcz25_0 : wr.cell? ⟨gb180, 0, none⟩ = some (.int .i64 a0_0) := (blk_cell BK180.out 0).trans rfl
    have hcz25_1 : wr.cell? ⟨gb180, 1, none⟩ = some (.int .u8 a0_1) := (blk_cell BK180.out 1).trans rfl
    have hcz25_2 : wr.cell? ⟨gb180, 2, none⟩ = some (.int .u8 a0_2) := (blk_cell BK180.out 2).trans rfl
    have hcz25_3 : wr.cell? ⟨gb180, 3, none⟩ = some (.slice A0_3 l0_3.length c0_3) := (blk_cell BK180.out 3).trans rfl
    have hcz25_4 : wr.cell? ⟨gb180, 4, none⟩ = some (.slice A0_4 l0_4.length c0_4) := (blk_cell BK180.out 4).trans rfl
    have hfz25_0 := blk_frozen BK180.out 0
    have hfz25_1 := blk_frozen BK180.out 1
    have hfz25_2 := blk_frozen BK180.out 2
    have hfz25_3 := blk_frozen BK180.out 3
    have hfz25_4 := blk_frozen BK180.out 4
    go_wp2
    go_loopg [6] k1 (fun kq v6 w' => ∃ (x6_2 : Int) (x183004_2 : List (S41)) (u183004 : Value), v6 = .int .i64 x6_2 ∧ Aside0 (vivariumref10_Twin.l1 kq x6_2 a0_0 a0_1 a0_2 l0_3 l0_4 a0_0 a0_1 a0_2 x183003_1 x183004_2 = some (r1, r2, r3, r4, r5)) ∧ Aside0 (kq ≤ k1) ∧ Aside0 (Kd.S k49 49 w' w.heap.size (fun _ => True) u183003 x183003_1) ∧ Aside0 (Kd.S k41 41 w' w.heap.size (fun _ => True) u183004 x183004_2) ∧ Aside0 (w'.heap[gb180]? = some (.cells #[.int .i64 a0_0, .int .u8 a0_1, .int .u8 a0_2, (.slice A0_3 l0_3.length c0_3), (.slice A0_4 l0_4.length c0_4)] 25 (0, 0))) ∧ Aside0 (w'.heap[gb181]? = some (.cells #[.int .i64 0, .int .u8 0, .int .u8 0, (.slice none 0 0), (.slice none 0 0)] 25 (0, 0))) ∧ Aside0 (w'.heap[gb182]? = some (.cells #[.int .i64 a0_0, .int .u8 a0_1, .int .u8 a0_2, u183003, u183004] 25 (0, 0))) ∧ Aside0 (Below w.heap.size w w'))
    case atStart => exact ⟨(0), (([] : List (S41))), (.slice none 0 0), (by first | rfl | (simp; done) | (simp [*]; done)), H', ⟨Nat.le_refl _⟩, ⟨by (with_reducible repeat (first | apply Kd.S_alloc | apply Kd.S_drewN | apply Kd.S_drew)); exact HO_183003.out⟩, ⟨by first | exact Kd.S_nil _ _ _ _ _ | exact Kd.N_nil _ _ _ _ _ | exact Kd.V_nil _ _ _ _ _ | exact Kd.Q_nil _ _ _ _ _ | exact Kd.R_nil _ _ _ _ _⟩, ⟨by (with_reducible repeat (first | refine blk_drewN ?_ _ | refine blk_drew ?_ | refine blk_alloc ?_ _)); exact BK180.out⟩, ⟨by (with_reducible repeat (first | refine blk_drewN ?_ _ | refine blk_drew ?_ | refine blk_alloc ?_ _)); exact BK181.out⟩, ⟨by (with_reducible repeat (first | refine blk_drewN ?_ _ | refine blk_drew ?_ | refine blk_alloc ?_ _)); exact BK182.out⟩, ⟨by repeat (first | (with_reducible first | exact HB.out | apply below_alloc | apply pw_below_drewN | apply below_drew1 | refine below_set ?_ GE180.out | refine below_set ?_ GE181.out | refine below_set ?_ GE182.out) | exact HB.out)⟩⟩
    case round =>
     clear H'
     try clear c1
     try clear p1
     try clear q1
     try clear hx1
     try clear c2
     try clear p2
     try clear c4
     try clear c6
     try clear p6
     try clear c7
     try clear c8
     try clear c10
     try clear c10b0
     try clear c11
     try clear c11b0
     try clear c12
     try clear c13
     try clear c14
     try clear c15
     try clear c18
     try clear p18
     try clear q18
     try clear hx18
     try clear c23
     try clear c24
     try clear hcz16_0
     try clear hcz16_1
     try clear hcz16_2
     try clear hcz16_3
     try clear hcz16_4
     try clear hcz25_0
     try clear hcz25_1
     try clear hcz25_2
     try clear hcz25_3
     try clear hcz25_4
     try clear hcz5_0
     try clear hcz5_1
     try clear hcz5_2
     try clear hcz5_3
     try clear hcz5_4
     try clear hcz9_0
     try clear hcz9_1
     try clear hcz9_2
     try clear hcz9_3
     try clear hcz9_4
     try clear hfz16_0
     try clear hfz16_1
     try clear hfz16_2
     try clear hfz16_3
     try clear hfz16_4
     try clear hfz25_0
     try clear hfz25_1
     try clear hfz25_2
     try clear hfz25_3
     try clear hfz25_4
     try clear hfz5_0
     try clear hfz5_1
     try clear hfz5_2
     try clear hfz5_3
     try clear hfz5_4
     try clear hfz9_0
     try clear hfz9_1
     try clear hfz9_2
     try clear hfz9_3
     try clear hfz9_4
     try clear hx183_0
     try clear hx183_1
     try clear hx184_0
     try clear hx184_1
     try clear p183
     try clear p184
     try clear p2
     try clear q183
     try clear q184
     obtain ⟨x6_2, x183004_2, u183004, rfl, HA, HK2, HO_183003, HO_183004, BK180, BK181, BK182, HB⟩ := hrel
     cases gk with
     | zero => exact absurd HA.out (by simp [vivariumref10_Twin.l1])
     | succ k2 =>
      have H := HA.out
      clear HA
      simp only [vivariumref10_Twin.l1] at H
      by_cases c26 : x6_2 < (l0_4.length : Int)
      ·rw [if_pos c26] at H
       have c26b0 : decide (x6_2 < (l0_4.length : Int)) = true := decide_eq_true c26
       clear c26
       by_cases c27 : 0 ≤ x6_2
       ·rw [if_pos c27] at H
        have c27b0 : decide (0 ≤ x6_2) = true := decide_eq_true c27
        clear c27
        by_cases c28 : ([] : List (S38)).length + ((rd_T41 l0_4 x6_2).f1).length < 8796093022208
        ·rw [if_pos c28] at H
         have LMc28 := Aside0.mk c28
         clear c28
         obtain ⟨y193, hy193⟩ : ∃ y_ : List (S38), y_ = (([] : List (S38)) ++ ((rd_T41 l0_4 x6_2).f1)) := ⟨_, rfl⟩
         replace H : (if x183004_2.length < 2513169434916 then (vivariumref10_Twin.l1 k2 (wrap64 (x6_2 + 1)) a0_0 a0_1 a0_2 l0_3 l0_4 a0_0 a0_1 a0_2 x183003_1 (x183004_2 ++ [(⟨(⟨(rd_T41 l0_4 x6_2).f0.f0, (rd_T41 l0_4 x6_2).f0.f1⟩ : S38), y193, (⟨(rd_T41 l0_4 x6_2).f2.f0, (rd_T41 l0_4 x6_2).f2.f1⟩ : S38)⟩ : S41)])) else (none)) = some (r1, r2, r3, r4, r5) := by first | (rw [hy193]; with_reducible exact H) | (have H2_ := (Option.bind_some _ _).symm.trans H; rw [hy193]; with_reducible exact H2_) | (have H2_ := (Option.bind_some _ _).symm.trans H; with_reducible exact H2_) | with_reducible exact H | (rw [hy193]; exact H) | exact H
         have Ny193 := Aside0.mk hy193
         clear hy193
         by_cases c29 : x183004_2.length < 2513169434916
         ·rw [if_pos c29] at H
          have LMc29 := Aside0.mk c29
          clear c29
          obtain ⟨y196, hy196⟩ : ∃ y_ : List (S41), y_ = (x183004_2 ++ [(⟨(⟨(rd_T41 l0_4 x6_2).f0.f0, (rd_T41 l0_4 x6_2).f0.f1⟩ : S38), y193, (⟨(rd_T41 l0_4 x6_2).f2.f0, (rd_T41 l0_4 x6_2).f2.f1⟩ : S38)⟩ : S41)]) := ⟨_, rfl⟩
          replace H : (vivariumref10_Twin.l1 k2 (wrap64 (x6_2 + 1)) a0_0 a0_1 a0_2 l0_3 l0_4 a0_0 a0_1 a0_2 x183003_1 y196) = some (r1, r2, r3, r4, r5) := by first | (rw [hy196]; with_reducible exact H) | (have H2_ := (Option.bind_some _ _).symm.trans H; rw [hy196]; with_reducible exact H2_) | (have H2_ := (Option.bind_some _ _).symm.trans H; with_reducible exact H2_) | with_reducible exact H | (rw [hy196]; exact H) | exact H
          have Ny196 := Aside0.mk hy196
          clear hy196
          have H' := Aside0.mk H
          clear H
          have hnb30 := NB180_181.out
          have hnc30 := NB181_180.out
          have hnb31 := NB180_182.out
          have hnc31 := NB182_180.out
          have hcz32_0 : wr.cell? ⟨gb180, 0, none⟩ = some (.int .i64 a0_0) := (blk_cell BK180.out 0).trans rfl
          have hcz32_1 : wr.cell? ⟨gb180, 1, none⟩ = some (.int .u8 a0_1) := (blk_cell BK180.out 1).trans rfl
          have hcz32_2 : wr.cell? ⟨gb180, 2, none⟩ = some (.int .u8 a0_2) := (blk_cell BK180.out 2).trans rfl
          have hcz32_3 : wr.cell? ⟨gb180, 3, none⟩ = some (.slice A0_3 l0_3.length c0_3) := (blk_cell BK180.out 3).trans rfl
          have hcz32_4 : wr.cell? ⟨gb180, 4, none⟩ = some (.slice A0_4 l0_4.length c0_4) := (blk_cell BK180.out 4).trans rfl
          have hfz32_0 := blk_frozen BK180.out 0
          have hfz32_1 := blk_frozen BK180.out 1
          have hfz32_2 := blk_frozen BK180.out 2
          have hfz32_3 := blk_frozen BK180.out 3
          have hfz32_4 := blk_frozen BK180.out 4
          have p191 : 0 ≤ (x6_2 : Int) := of_decide_eq_true (by first | (with_reducible assumption) | assumption)
          have q191 : x6_2 < (l0_4.length : Int) := of_decide_eq_true (by first | (with_reducible assumption) | assumption)
          obtain ⟨ad191, A191_2, c191_2, e191, hx191_0, hx191_1, hx191_2, hx191_3, hx191_4, hl191_2, hi191_2⟩ := at_T41 HR0_4.out x6_2 p191 q191
          cases e191
          replace hx191_0 := (HB.out.cell (World.block_lt_of_cell? w _ hx191_0)).trans hx191_0
          replace hx191_1 := (HB.out.cell (World.block_lt_of_cell? w _ hx191_1)).trans hx191_1
          replace hx191_2 := (HB.out.cell (World.block_lt_of_cell? w _ hx191_2)).trans hx191_2
          replace hx191_3 := (HB.out.cell (World.block_lt_of_cell? w _ hx191_3)).trans hx191_3
          replace hx191_4 := (HB.out.cell (World.block_lt_of_cell? w _ hx191_4)).trans hx191_4
          have HR191_2 := Aside0.mk hi191_2
          have HC191_2 := Aside0.mk hl191_2
          clear hi191_2 hl191_2
          replace p191 := eq_true p191
          replace q191 := eq_true q191
          go_wp2_with (first | ((with_reducible refine gate_dst (N := 7) rfl ?_); refine box_event ?hg (N := 7) ?hd (cs := #[.int .u8 0, .int .i64 0, .slice none 0 0, .int .u8 0, .int .i64 0]) (t := 41) ?hr ?_; (case hd => rfl); (case hg => rfl); (case hr => first | (go_simp; done) | (go_simp; rfl)); intro gb192 hg w33 hbox hb; have n0_ := Aside0.mk (Kd.S_below (by (with_reducible repeat (first | apply Kd.S_alloc | apply Kd.S_drewN | apply Kd.S_drew)); exact HO_183003.out) hb); have n1_ := Aside0.mk (Kd.S_below (Kd.S_elderB (by (with_reducible repeat (first | apply Kd.S_alloc | apply Kd.S_drewN | apply Kd.S_drew)); exact HO_183004.out) gb192 (Nat.le_of_eq hg.symm)) hb); have n2_ := Aside0.mk (blk_below (g := gb180) (o := .cells #[.int .i64 a0_0, .int .u8 a0_1, .int .u8 a0_2, .slice A0_3 l0_3.length c0_3, .slice (some ad191) l0_4.length c0_4] 25 (0, 0)) (by (with_reducible repeat (first | refine blk_drewN ?_ _ | refine blk_drew ?_ | refine blk_alloc ?_ _)); exact BK180.out) hb); have n3_ := Aside0.mk (blk_below (g := gb181) (o := .cells #[.int .i64 0, .int .u8 0, .int .u8 0, .slice none 0 0, .slice none 0 0] 25 (0, 0)) (by (with_reducible repeat (first | refine blk_drewN ?_ _ | refine blk_drew ?_ | refine blk_alloc ?_ _)); exact BK181.out) hb); have n4_ := Aside0.mk (blk_below (g := gb182) (o := .cells #[.int .i64 a0_0, .int .u8 a0_1, .int .u8 a0_2, u183003, u183004] 25 (0, 0)) (by (with_reducible repeat (first | refine blk_drewN ?_ _ | refine blk_drew ?_ | refine blk_alloc ?_ _)); exact BK182.out) hb); have n5_ := Aside0.mk (below_step (by repeat (first | (with_reducible first | exact HB.out | apply below_alloc | apply pw_below_drewN | apply below_drew1 | refine below_set ?_ GE180.out | refine below_set ?_ GE181.out | refine below_set ?_ GE182.out) | exact HB.out)) hb); have n6_ := Aside0.mk (hbox); have n7_ := Aside0.mk ((by rw [hg]; exact (below_size (by repeat (first | (with_reducible first | exact HB.out | apply below_alloc | apply pw_below_drewN | apply below_drew1 | refine below_set ?_ GE180.out | refine below_set ?_ GE181.out | refine below_set ?_ GE182.out) | exact HB.out))) : w.heap.size ≤ gb192)); have n8_ := Aside0.mk ((by rw [hg]; exact (below_size (by repeat (first | (with_reducible first | exact HB.out | apply below_alloc | apply pw_below_drewN | apply below_drew1 | refine below_set ?_ GE180.out | refine below_set ?_ GE181.out | refine below_set ?_ GE182.out) | exact HB.out))) : w.heap.size ≤ gb192)); have n9_ := Aside0.mk ((by rw [hg]; exact Nat.ne_of_lt (blk_lt (g := gb180) (o := .cells #[.int .i64 a0_0, .int .u8 a0_1, .int .u8 a0_2, .slice A0_3 l0_3.length c0_3, .slice (some ad191) l0_4.length c0_4] 25 (0, 0)) (by (with_reducible repeat (first | refine blk_drewN ?_ _ | refine blk_drew ?_ | refine blk_alloc ?_ _)); exact BK180.out)) : gb180 ≠ gb192)); have n10_ := Aside0.mk ((by rw [hg]; exact Nat.ne_of_gt (blk_lt (g := gb180) (o := .cells #[.int .i64 a0_0, .int .u8 a0_1, .int .u8 a0_2, .slice A0_3 l0_3.length c0_3, .slice (some ad191) l0_4.length c0_4] 25 (0, 0)) (by (with_reducible repeat (first | refine blk_drewN ?_ _ | refine blk_drew ?_ | refine blk_alloc ?_ _)); exact BK180.out)) : gb192 ≠ gb180)); have n11_ := Aside0.mk ((by rw [hg]; exact Nat.ne_of_lt (blk_lt (g := gb181) (o := .cells #[.int .i64 0, .int .u8 0, .int .u8 0, .slice none 0 0, .slice none 0 0] 25 (0, 0)) (by (with_reducible repeat (first | refine blk_drewN ?_ _ | refine blk_drew ?_ | refine blk_alloc ?_ _)); exact BK181.out)) : gb181 ≠ gb192)); have n12_ := Aside0.mk ((by rw [hg]; exact Nat.ne_of_gt (blk_lt (g := gb181) (o := .cells #[.int .i64 0, .int .u8 0, .int .u8 0, .slice none 0 0, .slice none 0 0] 25 (0, 0)) (by (with_reducible repeat (first | refine blk_drewN ?_ _ | refine blk_drew ?_ | refine blk_alloc ?_ _)); exact BK181.out)) : gb192 ≠ gb181)); have n13_ := Aside0.mk ((by rw [hg]; exact Nat.ne_of_lt (blk_lt (g := gb182) (o := .cells #[.int .i64 a0_0, .int .u8 a0_1, .int .u8 a0_2, u183003, u183004] 25 (0, 0)) (by (with_reducible repeat (first | refine blk_drewN ?_ _ | refine blk_drew ?_ | refine blk_alloc ?_ _)); exact BK182.out)) : gb182 ≠ gb192)); have n14_ := Aside0.mk ((by rw [hg]; exact Nat.ne_of_gt (blk_lt (g := gb182) (o := .cells #[.int .i64 a0_0, .int .u8 a0_1, .int .u8 a0_2, u183003, u183004] 25 (0, 0)) (by (with_reducible repeat (first | refine blk_drewN ?_ _ | refine blk_drew ?_ | refine blk_alloc ?_ _)); exact BK182.out)) : gb192 ≠ gb182)); clear HO_183003; clear HO_183004; clear BK180; clear BK181; clear BK182; clear HB; have HO_183003 := n0_; have HO_183004 := n1_; have BK180 := n2_; have BK181 := n3_; have BK182 := n4_; have HB := n5_; have BK192 := n6_; have GW192 := n7_; have GE192 := n8_; have NB180_192 := n9_; have NB192_180 := n10_; have NB181_192 := n11_; have NB192_181 := n12_; have NB182_192 := n13_; have NB192_182 := n14_; clear n0_ n1_ n2_ n3_ n4_ n5_ n6_ n7_ n8_ n9_ n10_ n11_ n12_ n13_ n14_; clear hb hbox hg; have hnb34 := NB192_180.out; have hnc34 := NB180_192.out; have hnb35 := NB192_181.out; have hnc35 := NB181_192.out; have hnb36 := NB192_182.out; have hnc36 := NB182_192.out; have hcz37_0 : w33.cell? ⟨gb192, 0, none⟩ = some (.int .u8 0) := (blk_cell BK192.out 0).trans rfl; have hcz37_1 : w33.cell? ⟨gb192, 1, none⟩ = some (.int .i64 0) := (blk_cell BK192.out 1).trans rfl; have hcz37_2 : w33.cell? ⟨gb192, 2, none⟩ = some (.slice none 0 0) := (blk_cell BK192.out 2).trans rfl; have hcz37_3 : w33.cell? ⟨gb192, 3, none⟩ = some (.int .u8 0) := (blk_cell BK192.out 3).trans rfl; have hcz37_4 : w33.cell? ⟨gb192, 4, none⟩ = some (.int .i64 0) := (blk_cell BK192.out 4).trans rfl; have hfz37_0 := blk_frozen BK192.out 0; have hfz37_1 := blk_frozen BK192.out 1; have hfz37_2 := blk_frozen BK192.out 2; have hfz37_3 := blk_frozen BK192.out 3; have hfz37_4 := blk_frozen BK192.out 4) | ((with_reducible refine gate_builtin (b := .append) (xs := #[.tmp 55, .tmp 57]) rfl ?_); at_builtin; refine Kd.R_append_rows k38 (w0 := w) w.heap.size rfl (.tmp 55) (.tmp 57) 39 38 (.agg #[(.int .u8 0), (.int .i64 0)]) 16 rfl Tryd.underlying39 info38 rfl (by decide) (by omega) (.slice none 0 0) ([] : List (S38)) ((rd_T41 l0_4 x6_2).f1) _ _ _ (fun _ => True) (fun _ => False) rfl rfl ?aO ?aR (fun _ _ h => h) (fun _ h => h.elim) ?aF ?aB ?aS ?aL ?_; (case aR => exact Kd.C_below HR191_2.out (by repeat (first | (with_reducible first | exact HB.out | apply below_alloc | apply pw_below_drewN | apply below_drew1 | refine below_set ?_ GE180.out | refine below_set ?_ GE181.out | refine below_set ?_ GE182.out | refine below_set ?_ GE192.out) | exact HB.out))); (case aB => exact (by repeat (first | (with_reducible first | exact HB.out | apply below_alloc | apply pw_below_drewN | apply below_drew1 | refine below_set ?_ GE180.out | refine below_set ?_ GE181.out | refine below_set ?_ GE182.out | refine below_set ?_ GE192.out) | exact HB.out))); (case aF => exact (fun _ _ => trivial)); (case aO => exact ((Kd.R_nil _ _ _ _ (fun _ => True)))); (case aS => exact (below_size (by repeat (first | (with_reducible first | exact HB.out | apply below_alloc | apply pw_below_drewN | apply below_drew1 | refine below_set ?_ GE180.out | refine below_set ?_ GE181.out | refine below_set ?_ GE182.out | refine below_set ?_ GE192.out) | exact HB.out)))); (case aL => have := LMc28.out; omega); intro v194 w38 ho hb hg hat; rw [← Ny193.out] at ho; have n0_ := Aside0.mk (Kd.S_grown (by (with_reducible repeat (first | apply Kd.S_alloc | apply Kd.S_drewN | apply Kd.S_drew)); exact (Kd.S_mono (Kd.S_far (p := ⟨gb192, 4, none⟩) (Kd.S_far (p := ⟨gb192, 3, none⟩) (Kd.S_far (p := ⟨gb192, 2, none⟩) (Kd.S_far (p := ⟨gb192, 1, none⟩) (Kd.S_far (p := ⟨gb192, 0, none⟩) (Kd.S_types HO_183003.out BK192.out (by decide)) (fun _ hk => hk.2) (.int .u8 ((rd_T41 l0_4 x6_2).f0.f0))) (fun _ hk => hk.2) (.int .i64 ((rd_T41 l0_4 x6_2).f0.f1))) (fun _ hk => hk.2) (.slice A191_2 ((rd_T41 l0_4 x6_2).f1).length c191_2)) (fun _ hk => hk.2) (.int .u8 ((rd_T41 l0_4 x6_2).f2.f0))) (fun _ hk => hk.2) (.int .i64 ((rd_T41 l0_4 x6_2).f2.f1))) (fun _ h_ => h_.1))) hg (fun _ _ => by simp [Value.ownBlock])); have n1_ := Aside0.mk (Kd.S_after (Kd.S_apart_nil (by (with_reducible repeat (first | apply Kd.S_alloc | apply Kd.S_drewN | apply Kd.S_drew)); exact (Kd.S_mono (Kd.S_far (p := ⟨gb192, 4, none⟩) (Kd.S_far (p := ⟨gb192, 3, none⟩) (Kd.S_far (p := ⟨gb192, 2, none⟩) (Kd.S_far (p := ⟨gb192, 1, none⟩) (Kd.S_far (p := ⟨gb192, 0, none⟩) (Kd.S_mono HO_183004.out (fun k_ hk => (⟨hk, hk.2⟩ : _ ∧ k_ ≠ gb192))) (fun _ hk => hk.2) (.int .u8 ((rd_T41 l0_4 x6_2).f0.f0))) (fun _ hk => hk.2) (.int .i64 ((rd_T41 l0_4 x6_2).f0.f1))) (fun _ hk => hk.2) (.slice A191_2 ((rd_T41 l0_4 x6_2).f1).length c191_2)) (fun _ hk => hk.2) (.int .u8 ((rd_T41 l0_4 x6_2).f2.f0))) (fun _ hk => hk.2) (.int .i64 ((rd_T41 l0_4 x6_2).f2.f1))) (fun _ h_ => h_.1)))) hg hat); have n2_ := Aside0.mk (blk_grown (g := gb180) (o := .cells #[.int .i64 a0_0, .int .u8 a0_1, .int .u8 a0_2, .slice A0_3 l0_3.length c0_3, .slice (some ad191) l0_4.length c0_4] 25 (0, 0)) (by (with_reducible repeat (first | refine blk_drewN ?_ _ | refine blk_drew ?_ | refine blk_alloc ?_ _)); refine blk_far ?_ NB180_192.out _; (with_reducible repeat (first | refine blk_drewN ?_ _ | refine blk_drew ?_ | refine blk_alloc ?_ _)); refine blk_far ?_ NB180_192.out _; (with_reducible repeat (first | refine blk_drewN ?_ _ | refine blk_drew ?_ | refine blk_alloc ?_ _)); refine blk_far ?_ NB180_192.out _; (with_reducible repeat (first | refine blk_drewN ?_ _ | refine blk_drew ?_ | refine blk_alloc ?_ _)); refine blk_far ?_ NB180_192.out _; (with_reducible repeat (first | refine blk_drewN ?_ _ | refine blk_drew ?_ | refine blk_alloc ?_ _)); refine blk_far ?_ NB180_192.out _; (with_reducible repeat (first | refine blk_drewN ?_ _ | refine blk_drew ?_ | refine blk_alloc ?_ _)); exact BK180.out) hg (by simp [Value.ownBlock])); have n3_ := Aside0.mk (blk_grown (g := gb181) (o := .cells #[.int .i64 0, .int .u8 0, .int .u8 0, .slice none 0 0, .slice none 0 0] 25 (0, 0)) (by (with_reducible repeat (first | refine blk_drewN ?_ _ | refine blk_drew ?_ | refine blk_alloc ?_ _)); refine blk_far ?_ NB181_192.out _; (with_reducible repeat (first | refine blk_drewN ?_ _ | refine blk_drew ?_ | refine blk_alloc ?_ _)); refine blk_far ?_ NB181_192.out _; (with_reducible repeat (first | refine blk_drewN ?_ _ | refine blk_drew ?_ | refine blk_alloc ?_ _)); refine blk_far ?_ NB181_192.out _; (with_reducible repeat (first | refine blk_drewN ?_ _ | refine blk_drew ?_ | refine blk_alloc ?_ _)); refine blk_far ?_ NB181_192.out _; (with_reducible repeat (first | refine blk_drewN ?_ _ | refine blk_drew ?_ | refine blk_alloc ?_ _)); refine blk_far ?_ NB181_192.out _; (with_reducible repeat (first | refine blk_drewN ?_ _ | refine blk_drew ?_ | refine blk_alloc ?_ _)); exact BK181.out) hg (by simp [Value.ownBlock])); have n4_ := Aside0.mk (blk_grown (g := gb182) (o := .cells #[.int .i64 a0_0, .int .u8 a0_1, .int .u8 a0_2, u183003, u183004] 25 (0, 0)) (by (with_reducible repeat (first | refine blk_drewN ?_ _ | refine blk_drew ?_ | refine blk_alloc ?_ _)); refine blk_far ?_ NB182_192.out _; (with_reducible repeat (first | refine blk_drewN ?_ _ | refine blk_drew ?_ | refine blk_alloc ?_ _)); refine blk_far ?_ NB182_192.out _; (with_reducible repeat (first | refine blk_drewN ?_ _ | refine blk_drew ?_ | refine blk_alloc ?_ _)); refine blk_far ?_ NB182_192.out _; (with_reducible repeat (first | refine blk_drewN ?_ _ | refine blk_drew ?_ | refine blk_alloc ?_ _)); refine blk_far ?_ NB182_192.out _; (with_reducible repeat (first | refine blk_drewN ?_ _ | refine blk_drew ?_ | refine blk_alloc ?_ _)); refine blk_far ?_ NB182_192.out _; (with_reducible repeat (first | refine blk_drewN ?_ _ | refine blk_drew ?_ | refine blk_alloc ?_ _)); exact BK182.out) hg (by simp [Value.ownBlock])); have n5_ := Aside0.mk (blk_grown (g := gb192) (o := .cells #[.int .u8 ((rd_T41 l0_4 x6_2).f0.f0), .int .i64 ((rd_T41 l0_4 x6_2).f0.f1), .slice A191_2 ((rd_T41 l0_4 x6_2).f1).length c191_2, .int .u8 ((rd_T41 l0_4 x6_2).f2.f0), .int .i64 ((rd_T41 l0_4 x6_2).f2.f1)] 41 (0, 0)) (by (with_reducible repeat (first | refine blk_drewN ?_ _ | refine blk_drew ?_ | refine blk_alloc ?_ _)); refine blk_put (cs := #[.int .u8 ((rd_T41 l0_4 x6_2).f0.f0), .int .i64 ((rd_T41 l0_4 x6_2).f0.f1), .slice A191_2 ((rd_T41 l0_4 x6_2).f1).length c191_2, .int .u8 ((rd_T41 l0_4 x6_2).f2.f0), .int .i64 0]) ?_ 4 _ rfl; (with_reducible repeat (first | refine blk_drewN ?_ _ | refine blk_drew ?_ | refine blk_alloc ?_ _)); refine blk_put (cs := #[.int .u8 ((rd_T41 l0_4 x6_2).f0.f0), .int .i64 ((rd_T41 l0_4 x6_2).f0.f1), .slice A191_2 ((rd_T41 l0_4 x6_2).f1).length c191_2, .int .u8 0, .int .i64 0]) ?_ 3 _ rfl; (with_reducible repeat (first | refine blk_drewN ?_ _ | refine blk_drew ?_ | refine blk_alloc ?_ _)); refine blk_put (cs := #[.int .u8 ((rd_T41 l0_4 x6_2).f0.f0), .int .i64 ((rd_T41 l0_4 x6_2).f0.f1), .slice none 0 0, .int .u8 0, .int .i64 0]) ?_ 2 _ rfl; (with_reducible repeat (first | refine blk_drewN ?_ _ | refine blk_drew ?_ | refine blk_alloc ?_ _)); refine blk_put (cs := #[.int .u8 ((rd_T41 l0_4 x6_2).f0.f0), .int .i64 0, .slice none 0 0, .int .u8 0, .int .i64 0]) ?_ 1 _ rfl; (with_reducible repeat (first | refine blk_drewN ?_ _ | refine blk_drew ?_ | refine blk_alloc ?_ _)); refine blk_put (cs := #[.int .u8 0, .int .i64 0, .slice none 0 0, .int .u8 0, .int .i64 0]) ?_ 0 _ rfl; (with_reducible repeat (first | refine blk_drewN ?_ _ | refine blk_drew ?_ | refine blk_alloc ?_ _)); exact BK192.out) hg (by simp [Value.ownBlock])); have n6_ := Aside0.mk (hb); have n7_ := Aside0.mk (ho); clear HO_183003; clear HO_183004; clear BK180; clear BK181; clear BK182; clear BK192; clear HB; have HO_183003 := n0_; have HO_183004 := n1_; have BK180 := n2_; have BK181 := n3_; have BK182 := n4_; have BK192 := n5_; have HB := n6_; have HO195 := n7_; clear n0_ n1_ n2_ n3_ n4_ n5_ n6_ n7_; clear ho hb hg hat; obtain ⟨Ao39, co39, eo39⟩ := Kd.R_slice HO195.out; subst eo39; have hcz40_0 : w38.cell? ⟨gb192, 0, none⟩ = some (.int .u8 ((rd_T41 l0_4 x6_2).f0.f0)) := (blk_cell BK192.out 0).trans rfl; have hcz40_1 : w38.cell? ⟨gb192, 1, none⟩ = some (.int .i64 ((rd_T41 l0_4 x6_2).f0.f1)) := (blk_cell BK192.out 1).trans rfl; have hcz40_2 : w38.cell? ⟨gb192, 2, none⟩ = some (.slice A191_2 ((rd_T41 l0_4 x6_2).f1).length c191_2) := (blk_cell BK192.out 2).trans rfl; have hcz40_3 : w38.cell? ⟨gb192, 3, none⟩ = some (.int .u8 ((rd_T41 l0_4 x6_2).f2.f0)) := (blk_cell BK192.out 3).trans rfl; have hcz40_4 : w38.cell? ⟨gb192, 4, none⟩ = some (.int .i64 ((rd_T41 l0_4 x6_2).f2.f1)) := (blk_cell BK192.out 4).trans rfl; have hfz40_0 := blk_frozen BK192.out 0; have hfz40_1 := blk_frozen BK192.out 1; have hfz40_2 := blk_frozen BK192.out 2; have hfz40_3 := blk_frozen BK192.out 3; have hfz40_4 := blk_frozen BK192.out 4) | ((with_reducible refine gate_store (t := 39) (p := 59) rfl ?_); refine store_event (t := 39) (p := 59) (v := ?vo_w41) (w1 := (w38.setCell ⟨gb192, 2, none⟩ (.slice Ao39 y193.length co39))) ?hg ?ho ?hn ?hr ?_; (case ho => rfl); (case hg => rfl); (case hn => rfl); (case hr => first | (go_simp; done) | (go_simp; rfl)); intro w41 hw; have n0_ : Aside0 (Kd.S k49 49 w41 w.heap.size (fun _ => True) u183003 x183003_1) := ⟨(by rw [hw]; exact (by (with_reducible repeat (first | apply Kd.S_alloc | apply Kd.S_drewN | apply Kd.S_drew)); exact Kd.S_mono (Kd.S_far (p := ⟨gb192, 2, none⟩) (Kd.S_types HO_183003.out BK192.out (by decide)) (fun _ hk => hk.2) (.slice Ao39 y193.length co39)) (fun _ hk => trivial)))⟩; have n1_ : Aside0 (Kd.S k41 41 w41 w.heap.size (fun k_ => some k_ ≠ (.slice Ao39 y193.length co39 : Value).ownBlock ∧ k_ ≠ gb192) u183004 x183004_2) := ⟨(by rw [hw]; exact (by (with_reducible repeat (first | apply Kd.S_alloc | apply Kd.S_drewN | apply Kd.S_drew)); exact Kd.S_mono (Kd.S_far (p := ⟨gb192, 2, none⟩) (Kd.S_mono HO_183004.out (fun k_ hk => (⟨hk, hk.1.2⟩ : _ ∧ k_ ≠ gb192))) (fun _ hk => hk.2) (.slice Ao39 y193.length co39)) (fun _ hk => ⟨hk.1.2, hk.1.1.2⟩)))⟩; have n2_ : Aside0 (Kd.R k38 38 w41 w.heap.size (fun _ => True) (.slice Ao39 y193.length co39) y193) := ⟨(by rw [hw]; exact (by (with_reducible repeat (first | apply Kd.R_alloc | apply Kd.R_drewN | apply Kd.R_drew)); exact Kd.R_mono (Kd.R_far (p := ⟨gb192, 2, none⟩) (Kd.R_types HO195.out BK192.out (by decide)) (fun _ hk => hk.2) (.slice Ao39 y193.length co39)) (fun _ hk => trivial)))⟩; have n3_ : Aside0 (w41.heap[gb180]? = some (.cells #[.int .i64 a0_0, .int .u8 a0_1, .int .u8 a0_2, .slice A0_3 l0_3.length c0_3, .slice (some ad191) l0_4.length c0_4] 25 (0, 0))) := ⟨(by rw [hw]; exact (by (with_reducible repeat (first | refine blk_drewN ?_ _ | refine blk_drew ?_ | refine blk_alloc ?_ _)); refine blk_far ?_ NB180_192.out _; (with_reducible repeat (first | refine blk_drewN ?_ _ | refine blk_drew ?_ | refine blk_alloc ?_ _)); exact BK180.out))⟩; have n4_ : Aside0 (w41.heap[gb181]? = some (.cells #[.int .i64 0, .int .u8 0, .int .u8 0, .slice none 0 0, .slice none 0 0] 25 (0, 0))) := ⟨(by rw [hw]; exact (by (with_reducible repeat (first | refine blk_drewN ?_ _ | refine blk_drew ?_ | refine blk_alloc ?_ _)); refine blk_far ?_ NB181_192.out _; (with_reducible repeat (first | refine blk_drewN ?_ _ | refine blk_drew ?_ | refine blk_alloc ?_ _)); exact BK181.out))⟩; have n5_ : Aside0 (w41.heap[gb182]? = some (.cells #[.int .i64 a0_0, .int .u8 a0_1, .int .u8 a0_2, u183003, u183004] 25 (0, 0))) := ⟨(by rw [hw]; exact (by (with_reducible repeat (first | refine blk_drewN ?_ _ | refine blk_drew ?_ | refine blk_alloc ?_ _)); refine blk_far ?_ NB182_192.out _; (with_reducible repeat (first | refine blk_drewN ?_ _ | refine blk_drew ?_ | refine blk_alloc ?_ _)); exact BK182.out))⟩; have n6_ : Aside0 (w41.heap[gb192]? = some (.cells #[.int .u8 ((rd_T41 l0_4 x6_2).f0.f0), .int .i64 ((rd_T41 l0_4 x6_2).f0.f1), .slice Ao39 y193.length co39, .int .u8 ((rd_T41 l0_4 x6_2).f2.f0), .int .i64 ((rd_T41 l0_4 x6_2).f2.f1)] 41 (0, 0))) := ⟨(by rw [hw]; exact (by (with_reducible repeat (first | refine blk_drewN ?_ _ | refine blk_drew ?_ | refine blk_alloc ?_ _)); refine blk_put (cs := #[.int .u8 ((rd_T41 l0_4 x6_2).f0.f0), .int .i64 ((rd_T41 l0_4 x6_2).f0.f1), .slice A191_2 ((rd_T41 l0_4 x6_2).f1).length c191_2, .int .u8 ((rd_T41 l0_4 x6_2).f2.f0), .int .i64 ((rd_T41 l0_4 x6_2).f2.f1)]) ?_ 2 _ rfl; (with_reducible repeat (first | refine blk_drewN ?_ _ | refine blk_drew ?_ | refine blk_alloc ?_ _)); exact BK192.out))⟩; have n7_ : Aside0 (Below w.heap.size w w41) := ⟨(by rw [hw]; exact (by repeat (first | (with_reducible first | exact HB.out | apply below_alloc | apply pw_below_drewN | apply below_drew1 | refine below_set ?_ GE180.out | refine below_set ?_ GE181.out | refine below_set ?_ GE182.out | refine below_set ?_ GE192.out) | exact HB.out)))⟩; clear hw; clear HO_183003; clear HO_183004; clear HO195; clear BK180; clear BK181; clear BK182; clear BK192; clear HB; have HO_183003 := n0_; have HO_183004 := n1_; have HO195 := n2_; have BK180 := n3_; have BK181 := n4_; have BK182 := n5_; have BK192 := n6_; have HB := n7_; clear n0_ n1_ n2_ n3_ n4_ n5_ n6_ n7_; have hnb42 := NB182_181.out; have hnc42 := NB181_182.out; have hcz43_0 : w41.cell? ⟨gb182, 0, none⟩ = some (.int .i64 a0_0) := (blk_cell BK182.out 0).trans rfl; have hcz43_1 : w41.cell? ⟨gb182, 1, none⟩ = some (.int .u8 a0_1) := (blk_cell BK182.out 1).trans rfl; have hcz43_2 : w41.cell? ⟨gb182, 2, none⟩ = some (.int .u8 a0_2) := (blk_cell BK182.out 2).trans rfl; have hcz43_3 : w41.cell? ⟨gb182, 3, none⟩ = some (u183003) := (blk_cell BK182.out 3).trans rfl; have hcz43_4 : w41.cell? ⟨gb182, 4, none⟩ = some (u183004) := (blk_cell BK182.out 4).trans rfl; have hfz43_0 := blk_frozen BK182.out 0; have hfz43_1 := blk_frozen BK182.out 1; have hfz43_2 := blk_frozen BK182.out 2; have hfz43_3 := blk_frozen BK182.out 3; have hfz43_4 := blk_frozen BK182.out 4; have hcz44_0 : w41.cell? ⟨gb192, 0, none⟩ = some (.int .u8 ((rd_T41 l0_4 x6_2).f0.f0)) := (blk_cell BK192.out 0).trans rfl; have hcz44_1 : w41.cell? ⟨gb192, 1, none⟩ = some (.int .i64 ((rd_T41 l0_4 x6_2).f0.f1)) := (blk_cell BK192.out 1).trans rfl; have hcz44_2 : w41.cell? ⟨gb192, 2, none⟩ = some (.slice Ao39 y193.length co39) := (blk_cell BK192.out 2).trans rfl; have hcz44_3 : w41.cell? ⟨gb192, 3, none⟩ = some (.int .u8 ((rd_T41 l0_4 x6_2).f2.f0)) := (blk_cell BK192.out 3).trans rfl; have hcz44_4 : w41.cell? ⟨gb192, 4, none⟩ = some (.int .i64 ((rd_T41 l0_4 x6_2).f2.f1)) := (blk_cell BK192.out 4).trans rfl; have hfz44_0 := blk_frozen BK192.out 0; have hfz44_1 := blk_frozen BK192.out 1; have hfz44_2 := blk_frozen BK192.out 2; have hfz44_3 := blk_frozen BK192.out 3; have hfz44_4 := blk_frozen BK192.out 4) | ((with_reducible refine gate_builtin (b := .append) (xs := #[.tmp 61, .tmp 63]) rfl ?_); at_builtin; refine Kd.S_append k41 (w0 := w) w.heap.size rfl (.tmp 61) (.tmp 63) 23 41 (.agg #[(.int .u8 0), (.int .i64 0), (.slice none 0 0), (.int .u8 0), (.int .i64 0)]) 56 rfl Tryd.underlying23 info41 rfl (by decide) (by omega) u183004 x183004_2 (⟨(⟨(rd_T41 l0_4 x6_2).f0.f0, (rd_T41 l0_4 x6_2).f0.f1⟩ : S38), y193, (⟨(rd_T41 l0_4 x6_2).f2.f0, (rd_T41 l0_4 x6_2).f2.f1⟩ : S38)⟩ : S41) [.int .u8 ((rd_T41 l0_4 x6_2).f0.f0), .int .i64 ((rd_T41 l0_4 x6_2).f0.f1), .slice Ao39 y193.length co39, .int .u8 ((rd_T41 l0_4 x6_2).f2.f0), .int .i64 ((rd_T41 l0_4 x6_2).f2.f1)] (fun k_ => k_ ≠ gb192) (fun k_ => some k_ = (.slice Ao39 y193.length co39 : Value).ownBlock) rfl rfl ?aP (fun k_ hk_ => ((Kd.R_mono (ok' := fun k_ => ((fun k_ => k_ ≠ gb192)) k_ ∧ some k_ ≠ (u183004 : Value).ownBlock) (Kd.R_types (Kd.R_apart' (HO195.out) (Kd.S_typed HO_183004.out) (by decide)) BK192.out (by decide)) (fun k_ hk => ⟨hk.2, hk.1.2⟩))).1 k_ hk_.symm) ?aF ?aO ?aB ?aS ?aL ?_; (case aP => exact k41_mkM _ _ _ (⟨(⟨(rd_T41 l0_4 x6_2).f0.f0, (rd_T41 l0_4 x6_2).f0.f1⟩ : S38), y193, (⟨(rd_T41 l0_4 x6_2).f2.f0, (rd_T41 l0_4 x6_2).f2.f1⟩ : S38)⟩ : S41) (Kd.R_mono (Kd.R_tight rfl (Kd.R_mono (ok' := fun k_ => ((fun k_ => k_ ≠ gb192)) k_ ∧ some k_ ≠ (u183004 : Value).ownBlock) (Kd.R_types (Kd.R_apart' (HO195.out) (Kd.S_typed HO_183004.out) (by decide)) BK192.out (by decide)) (fun k_ hk => ⟨hk.2, hk.1.2⟩))) (fun _ h_ => h_))); (case aB => exact (by repeat (first | (with_reducible first | exact HB.out | apply below_alloc | apply pw_below_drewN | apply below_drew1 | refine below_set ?_ GE180.out | refine below_set ?_ GE181.out | refine below_set ?_ GE182.out | refine below_set ?_ GE192.out) | exact HB.out))); (case aF => exact (fun k_ hk => Kd.freshB (g := gb192) (o := .cells #[.int .u8 ((rd_T41 l0_4 x6_2).f0.f0), .int .i64 ((rd_T41 l0_4 x6_2).f0.f1), .slice Ao39 y193.length co39, .int .u8 ((rd_T41 l0_4 x6_2).f2.f0), .int .i64 ((rd_T41 l0_4 x6_2).f2.f1)] 41 (0, 0)) (by (with_reducible repeat (first | refine blk_drewN ?_ _ | refine blk_drew ?_ | refine blk_alloc ?_ _)); exact BK192.out) k_ hk)); (case aO => exact (by (with_reducible repeat (first | apply Kd.S_alloc | apply Kd.S_drewN | apply Kd.S_drew)); exact Kd.S_mono HO_183004.out (fun k_ hk => ⟨hk.2, fun e_ => hk.1 e_⟩))); (case aS => exact (below_size (by repeat (first | (with_reducible first | exact HB.out | apply below_alloc | apply pw_below_drewN | apply below_drew1 | refine below_set ?_ GE180.out | refine below_set ?_ GE181.out | refine below_set ?_ GE182.out | refine below_set ?_ GE192.out) | exact HB.out)))); (case aL => have := LMc29.out; omega); intro v197 w45 ho hb hg hat; rw [← Ny196.out] at ho; have n0_ := Aside0.mk (Kd.S_over' (by (with_reducible repeat (first | apply Kd.S_alloc | apply Kd.S_drewN | apply Kd.S_drew)); exact HO_183003.out) (Kd.S_typed (by (with_reducible repeat (first | apply Kd.S_alloc | apply Kd.S_drewN | apply Kd.S_drew)); exact HO_183004.out)) (by decide) hg); have n1_ := Aside0.mk (blk_grown (g := gb180) (o := .cells #[.int .i64 a0_0, .int .u8 a0_1, .int .u8 a0_2, .slice A0_3 l0_3.length c0_3, .slice (some ad191) l0_4.length c0_4] 25 (0, 0)) (by (with_reducible repeat (first | refine blk_drewN ?_ _ | refine blk_drew ?_ | refine blk_alloc ?_ _)); exact BK180.out) hg (Kd.S_ne HO_183004.out BK180.out (by decide))); have n2_ := Aside0.mk (blk_grown (g := gb181) (o := .cells #[.int .i64 0, .int .u8 0, .int .u8 0, .slice none 0 0, .slice none 0 0] 25 (0, 0)) (by (with_reducible repeat (first | refine blk_drewN ?_ _ | refine blk_drew ?_ | refine blk_alloc ?_ _)); exact BK181.out) hg (Kd.S_ne HO_183004.out BK181.out (by decide))); have n3_ := Aside0.mk (blk_grown (g := gb182) (o := .cells #[.int .i64 a0_0, .int .u8 a0_1, .int .u8 a0_2, u183003, u183004] 25 (0, 0)) (by (with_reducible repeat (first | refine blk_drewN ?_ _ | refine blk_drew ?_ | refine blk_alloc ?_ _)); exact BK182.out) hg (Kd.S_ne HO_183004.out BK182.out (by decide))); have n4_ := Aside0.mk (blk_grown (g := gb192) (o := .cells #[.int .u8 ((rd_T41 l0_4 x6_2).f0.f0), .int .i64 ((rd_T41 l0_4 x6_2).f0.f1), .slice Ao39 y193.length co39, .int .u8 ((rd_T41 l0_4 x6_2).f2.f0), .int .i64 ((rd_T41 l0_4 x6_2).f2.f1)] 41 (0, 0)) (by (with_reducible repeat (first | refine blk_drewN ?_ _ | refine blk_drew ?_ | refine blk_alloc ?_ _)); exact BK192.out) hg (Kd.S_away HO_183004.out (fun _ hk => hk.2))); have n5_ := Aside0.mk (hb); have n6_ := Aside0.mk (ho); clear HO_183003; clear BK180; clear BK181; clear BK182; clear BK192; clear HB; clear HO_183004; clear HO195; have HO_183003 := n0_; have BK180 := n1_; have BK181 := n2_; have BK182 := n3_; have BK192 := n4_; have HB := n5_; have HO198 := n6_; clear n0_ n1_ n2_ n3_ n4_ n5_ n6_; clear ho hb hg hat; obtain ⟨Ao46, co46, eo46⟩ := Kd.S_slice HO198.out; subst eo46; have hcz47_0 : w45.cell? ⟨gb182, 0, none⟩ = some (.int .i64 a0_0) := (blk_cell BK182.out 0).trans rfl; have hcz47_1 : w45.cell? ⟨gb182, 1, none⟩ = some (.int .u8 a0_1) := (blk_cell BK182.out 1).trans rfl; have hcz47_2 : w45.cell? ⟨gb182, 2, none⟩ = some (.int .u8 a0_2) := (blk_cell BK182.out 2).trans rfl; have hcz47_3 : w45.cell? ⟨gb182, 3, none⟩ = some (u183003) := (blk_cell BK182.out 3).trans rfl; have hcz47_4 : w45.cell? ⟨gb182, 4, none⟩ = some (u183004) := (blk_cell BK182.out 4).trans rfl; have hfz47_0 := blk_frozen BK182.out 0; have hfz47_1 := blk_frozen BK182.out 1; have hfz47_2 := blk_frozen BK182.out 2; have hfz47_3 := blk_frozen BK182.out 3; have hfz47_4 := blk_frozen BK182.out 4))
          go_roundg k2
          case measure => have := HK1.out; have := HK2.out; omega
          case rel => exact ⟨(wrap64 (x6_2 + 1)), (y196), (.slice Ao46 y196.length co46), (by first | rfl | (simp; done) | (simp [*]; done)), H', ⟨by have := HK1.out; have := HK2.out; omega⟩, ⟨by (with_reducible repeat (first | apply Kd.S_alloc | apply Kd.S_drewN | apply Kd.S_drew)); exact Kd.S_mono (Kd.S_far (p := ⟨gb182, 4, none⟩) (Kd.S_types HO_183003.out BK182.out (by decide)) (fun _ hk => hk.2) (.slice Ao46 y196.length co46)) (fun _ hk => trivial)⟩, ⟨by (with_reducible repeat (first | apply Kd.S_alloc | apply Kd.S_drewN | apply Kd.S_drew)); exact Kd.S_mono (Kd.S_far (p := ⟨gb182, 4, none⟩) (Kd.S_types HO198.out BK182.out (by decide)) (fun _ hk => hk.2) (.slice Ao46 y196.length co46)) (fun _ hk => trivial)⟩, ⟨by (with_reducible repeat (first | refine blk_drewN ?_ _ | refine blk_drew ?_ | refine blk_alloc ?_ _)); refine blk_far ?_ NB180_182.out _; (with_reducible repeat (first | refine blk_drewN ?_ _ | refine blk_drew ?_ | refine blk_alloc ?_ _)); exact BK180.out⟩, ⟨by (with_reducible repeat (first | refine blk_drewN ?_ _ | refine blk_drew ?_ | refine blk_alloc ?_ _)); refine blk_far ?_ NB181_182.out _; (with_reducible repeat (first | refine blk_drewN ?_ _ | refine blk_drew ?_ | refine blk_alloc ?_ _)); exact BK181.out⟩, ⟨by (with_reducible repeat (first | refine blk_drewN ?_ _ | refine blk_drew ?_ | refine blk_alloc ?_ _)); refine blk_put (cs := #[.int .i64 a0_0, .int .u8 a0_1, .int .u8 a0_2, u183003, u183004]) ?_ 4 _ rfl; (with_reducible repeat (first | refine blk_drewN ?_ _ | refine blk_drew ?_ | refine blk_alloc ?_ _)); exact BK182.out⟩, ⟨by repeat (first | (with_reducible first | exact HB.out | apply below_alloc | apply pw_below_drewN | apply below_drew1 | refine below_set ?_ GE180.out | refine below_set ?_ GE181.out | refine below_set ?_ GE182.out | refine below_set ?_ GE192.out) | exact HB.out)⟩⟩
         ·rw [if_neg c29] at H
          exact absurd H (by simp)
        ·rw [if_neg c28] at H
         exact absurd H (by simp)
       ·rw [if_neg c27] at H
        exact absurd H (by simp)
      ·rw [if_neg c26] at H
       have c26b0 : decide (x6_2 < (l0_4.length : Int)) = false := decide_eq_false c26
       clear c26
       simp only [Option.some.injEq, Prod.mk.injEq] at H
       obtain ⟨rfl, rfl, rfl, rfl, rfl⟩ := H
       have hnb48 := NB180_181.out
       have hnc48 := NB181_180.out
       have hnb49 := NB180_182.out
       have hnc49 := NB182_180.out
       have hcz50_0 : wr.cell? ⟨gb180, 0, none⟩ = some (.int .i64 a0_0) := (blk_cell BK180.out 0).trans rfl
       have hcz50_1 : wr.cell? ⟨gb180, 1, none⟩ = some (.int .u8 a0_1) := (blk_cell BK180.out 1).trans rfl
       have hcz50_2 : wr.cell? ⟨gb180, 2, none⟩ = some (.int .u8 a0_2) := (blk_cell BK180.out 2).trans rfl
       have hcz50_3 : wr.cell? ⟨gb180, 3, none⟩ = some (.slice A0_3 l0_3.length c0_3) := (blk_cell BK180.out 3).trans rfl
       have hcz50_4 : wr.cell? ⟨gb180, 4, none⟩ = some (.slice A0_4 l0_4.length c0_4) := (blk_cell BK180.out 4).trans rfl
       have hfz50_0 := blk_frozen BK180.out 0
       have hfz50_1 := blk_frozen BK180.out 1
       have hfz50_2 := blk_frozen BK180.out 2
       have hfz50_3 := blk_frozen BK180.out 3
       have hfz50_4 := blk_frozen BK180.out 4
       have hnb51 := NB182_181.out
       have hnc51 := NB181_182.out
       have hcz52_0 : wr.cell? ⟨gb182, 0, none⟩ = some (.int .i64 a0_0) := (blk_cell BK182.out 0).trans rfl
       have hcz52_1 : wr.cell? ⟨gb182, 1, none⟩ = some (.int .u8 a0_1) := (blk_cell BK182.out 1).trans rfl
       have hcz52_2 : wr.cell? ⟨gb182, 2, none⟩ = some (.int .u8 a0_2) := (blk_cell BK182.out 2).trans rfl
       have hcz52_3 : wr.cell? ⟨gb182, 3, none⟩ = some (u183003) := (blk_cell BK182.out 3).trans rfl
       have hcz52_4 : wr.cell? ⟨gb182, 4, none⟩ = some (u183004) := (blk_cell BK182.out 4).trans rfl
       have hfz52_0 := blk_frozen BK182.out 0
       have hfz52_1 := blk_frozen BK182.out 1
       have hfz52_2 := blk_frozen BK182.out 2
       have hfz52_3 := blk_frozen BK182.out 3
       have hfz52_4 := blk_frozen BK182.out 4
       have hcz53_0 : wr.cell? ⟨gb181, 0, none⟩ = some (.int .i64 0) := (blk_cell BK181.out 0).trans rfl
       have hcz53_1 : wr.cell? ⟨gb181, 1, none⟩ = some (.int .u8 0) := (blk_cell BK181.out 1).trans rfl
       have hcz53_2 : wr.cell? ⟨gb181, 2, none⟩ = some (.int .u8 0) := (blk_cell BK181.out 2).trans rfl
       have hcz53_3 : wr.cell? ⟨gb181, 3, none⟩ = some (.slice none 0 0) := (blk_cell BK181.out 3).trans rfl
       have hcz53_4 : wr.cell? ⟨gb181, 4, none⟩ = some (.slice none 0 0) := (blk_cell BK181.out 4).trans rfl
       have hfz53_0 := blk_frozen BK181.out 0
       have hfz53_1 := blk_frozen BK181.out 1
       have hfz53_2 := blk_frozen BK181.out 2
       have hfz53_3 := blk_frozen BK181.out 3
       have hfz53_4 := blk_frozen BK181.out 4
       obtain ⟨Ao54, co54, eo54⟩ := Kd.S_slice HO_183003.out
       subst eo54
       obtain ⟨Ao55, co55, eo55⟩ := Kd.S_slice HO_183004.out
       subst eo55
       go_wp2
       refine bodyPost_ret (results_cell_row rfl _ _ gb181 25 #[.int .i64 a0_0, .int .u8 a0_1, .int .u8 a0_2, .slice Ao54 x183003_1.length co54, .slice Ao55 x183004_2.length co55] (0, 0) _ rfl (by (with_reducible repeat (first | refine blk_drewN ?_ _ | refine blk_drew ?_ | refine blk_alloc ?_ _)); refine blk_put (cs := #[.int .i64 a0_0, .int .u8 a0_1, .int .u8 a0_2, .slice Ao54 x183003_1.length co54, .slice none 0 0]) ?_ 4 _ rfl; (with_reducible repeat (first | refine blk_drewN ?_ _ | refine blk_drew ?_ | refine blk_alloc ?_ _)); refine blk_put (cs := #[.int .i64 a0_0, .int .u8 a0_1, .int .u8 a0_2, .slice none 0 0, .slice none 0 0]) ?_ 3 _ rfl; (with_reducible repeat (first | refine blk_drewN ?_ _ | refine blk_drew ?_ | refine blk_alloc ?_ _)); refine blk_put (cs := #[.int .i64 a0_0, .int .u8 a0_1, .int .u8 0, .slice none 0 0, .slice none 0 0]) ?_ 2 _ rfl; (with_reducible repeat (first | refine blk_drewN ?_ _ | refine blk_drew ?_ | refine blk_alloc ?_ _)); refine blk_put (cs := #[.int .i64 a0_0, .int .u8 0, .int .u8 0, .slice none 0 0, .slice none 0 0]) ?_ 1 _ rfl; (with_reducible repeat (first | refine blk_drewN ?_ _ | refine blk_drew ?_ | refine blk_alloc ?_ _)); refine blk_put (cs := #[.int .i64 0, .int .u8 0, .int .u8 0, .slice none 0 0, .slice none 0 0]) ?_ 0 _ rfl; (with_reducible repeat (first | refine blk_drewN ?_ _ | refine blk_drew ?_ | refine blk_alloc ?_ _)); exact BK181.out) Tryd.underlying25 rfl (by kernel_rfl)) rfl ?_
       exact ⟨_, _, by first | rfl | (simp [errW_none, errW_some] <;> rfl) | (simp [*, errW_none, errW_some] <;> rfl), by (with_reducible repeat (first | apply Kd.S_alloc | apply Kd.S_drewN | apply Kd.S_drew)); exact Kd.S_mono (Kd.S_far (p := ⟨gb181, 4, none⟩) (Kd.S_far (p := ⟨gb181, 3, none⟩) (Kd.S_far (p := ⟨gb181, 2, none⟩) (Kd.S_far (p := ⟨gb181, 1, none⟩) (Kd.S_far (p := ⟨gb181, 0, none⟩) (Kd.S_types HO_183003.out BK181.out (by decide)) (fun _ hk => hk.2) (.int .i64 a0_0)) (fun _ hk => hk.2) (.int .u8 a0_1)) (fun _ hk => hk.2) (.int .u8 a0_2)) (fun _ hk => hk.2) (.slice Ao54 x183003_1.length co54)) (fun _ hk => hk.2) (.slice Ao55 x183004_2.length co55)) (fun _ hk => trivial), by (with_reducible repeat (first | apply Kd.S_alloc | apply Kd.S_drewN | apply Kd.S_drew)); exact Kd.S_mono (Kd.S_far (p := ⟨gb181, 4, none⟩) (Kd.S_far (p := ⟨gb181, 3, none⟩) (Kd.S_far (p := ⟨gb181, 2, none⟩) (Kd.S_far (p := ⟨gb181, 1, none⟩) (Kd.S_far (p := ⟨gb181, 0, none⟩) (Kd.S_types HO_183004.out BK181.out (by decide)) (fun _ hk => hk.2) (.int .i64 a0_0)) (fun _ hk => hk.2) (.int .u8 a0_1)) (fun _ hk => hk.2) (.int .u8 a0_2)) (fun _ hk => hk.2) (.slice Ao54 x183003_1.length co54)) (fun _ hk => hk.2) (.slice Ao55 x183004_2.length co55)) (fun _ hk => trivial), by repeat (first | (with_reducible first | exact HB.out | apply below_alloc | apply pw_below_drewN | apply below_drew1 | refine below_set ?_ GE180.out | refine below_set ?_ GE181.out | refine below_set ?_ GE182.out) | exact HB.out)⟩
end Go.Proofs.YtajhfkcmfmhnaaaDoor.P
end
section
namespace Go.Proofs.YtajhfkcmfmhnaaaDoor.P
open Go.RowKit Go.Proofs.YtajhfkcmfmhnaaaDoorW.PrintWords Go.Proofs.YtajhfkcmfmhnaaaDoorW.PrintLast Go.Proofs.YtajhfkcmfmhnaaaDoorW.PrintMore
attribute [local go_sem] max2_int min2_int max_two min_two max_three min_three max_four min_four   -- for this text's walks alone
set_option linter.unusedVariables false
set_option linter.unusedSimpArgs false
open Go.Proofs.YtajhfkcmfmhnaaaDoor.L
instance : DecidableEq S38 := fun a b => decidable_of_iff (a.f0 = b.f0 ∧ a.f1 = b.f1) ⟨fun h => by cases a; cases b; simp_all, fun h => by subst h; exact ⟨rfl, rfl⟩⟩
instance : DecidableEq S49 := fun a b => decidable_of_iff (a.f0.data.toList = b.f0.data.toList ∧ a.f1 = b.f1) ⟨fun h => by
 obtain ⟨⟨⟨a⟩⟩, c⟩ := a
 obtain ⟨⟨⟨b⟩⟩, d⟩ := b
 obtain ⟨h1, h2⟩ := h
 simp only at h1 h2
 subst h1 h2
 rfl, fun h => by subst h; exact ⟨rfl, rfl⟩⟩
instance : DecidableEq S41 := fun a b => decidable_of_iff (a.f0 = b.f0 ∧ a.f1 = b.f1 ∧ a.f2 = b.f2) ⟨fun h => by cases a; cases b; simp_all, fun h => by subst h; exact ⟨rfl, rfl, rfl⟩⟩
/-- Told for tables that are the same alone. -/
def vivariumref10_Same.f (a0_0 a0_1 a0_2 : Int) (l0_3 : List S49) (l0_4 : List S41) (a1_0 a1_1 a1_2 : Int) (l1_3 : List S49) (l1_4 : List S41) : Option Bool :=
 if a0_0 = a1_0 ∧ a0_1 = a1_1 ∧ a0_2 = a1_2 ∧ l0_3 = l1_3 ∧ l0_4 = l1_4 then some true else none
theorem eqS59 (d : Nat) (w : World) (x0 y0 : Int) (x1 y1 : Int) :
  (Op.equalIn (d + 2) 38 (.agg #[.int .u8 x0, .int .i64 x1]) (.agg #[.int .u8 y0, .int .i64 y1])).run Tryd.prog w = .ok (x0 == y0 && (x1 == y1)) w := by
 refine eqA_of Tryd.underlying38 (by kernel_rfl) ?_
 refine eqf_cons (by rfl) (by go_simp; rfl) (by go_simp; rfl) (by go_simp) ?_
 exact eqf_last (by rfl) (by go_simp; rfl) (by go_simp; rfl) (by go_simp)
attribute [local go_sem high] eqS59
set_option maxHeartbeats 8000000 in
set_option maxRecDepth 100000 in
theorem same_walk (a0_0 a0_1 a0_2 : Int) (vs : List S49) (rs : List S41) (A0_3 : Option Addr) (c0_3 : Nat) (A0_4 : Option Addr) (c0_4 : Nat) (A1_3 : Option Addr) (c1_3 : Nat) (A1_4 : Option Addr) (c1_4 : Nat) (w : World)
  (hr0_3 : Kd.C k49 w A0_3 vs.length vs) (hr0_4 : Kd.C k41 w A0_4 rs.length rs) (hr1_3 : Kd.C k49 w A1_3 vs.length vs) (hr1_4 : Kd.C k41 w A1_4 rs.length rs) :
  Calls Tryd.prog 9 #[.agg #[.int .i64 a0_0, .int .u8 a0_1, .int .u8 a0_2, .slice A0_3 vs.length c0_3, .slice A0_4 rs.length c0_4], .agg #[.int .i64 a0_0, .int .u8 a0_1, .int .u8 a0_2, .slice A1_3 vs.length c1_3, .slice A1_4 rs.length c1_4]] w fun e w' => e = .returned (.bool true) ∧ Below w.heap.size w w' := by
 have HV0 := Aside0.mk hr0_3
 have HR0 := Aside0.mk hr0_4
 have HV1 := Aside0.mk hr1_3
 have HR1 := Aside0.mk hr1_4
 clear hr0_3 hr0_4 hr1_3 hr1_4
 go_enter Tryd.func9, Tryd.ntmps9
 go_wp2
 obtain ⟨W0, hW0⟩ : ∃ W0, (w.alloc (Obj.cells #[.int .i64 a0_0, .int .u8 a0_1, .int .u8 a0_2, .slice A0_3 vs.length c0_3, .slice A0_4 rs.length c0_4] 25)).alloc (Obj.cells #[.int .i64 a0_0, .int .u8 a0_1, .int .u8 a0_2, .slice A1_3 vs.length c1_3, .slice A1_4 rs.length c1_4] 25) = W0 := ⟨_, rfl⟩
 have HB0 : Aside0 (Below w.heap.size w W0) := ⟨by rw [← hW0]; exact below_alloc (below_alloc (Below.refl _ _) _) _⟩
 have HT0 : Aside0 (W0.heap[w.heap.size]? = some (.cells #[.int .i64 a0_0, .int .u8 a0_1, .int .u8 a0_2, .slice A0_3 vs.length c0_3, .slice A0_4 rs.length c0_4] 25 (0, 0))) := ⟨by rw [← hW0]; exact blk_alloc (blk_new _ _) _⟩
 have HU0 : Aside0 (W0.heap[w.heap.size + 1]? = some (.cells #[.int .i64 a0_0, .int .u8 a0_1, .int .u8 a0_2, .slice A1_3 vs.length c1_3, .slice A1_4 rs.length c1_4] 25 (0, 0))) := ⟨by rw [← hW0]; have h := blk_new (w.alloc (Obj.cells #[.int .i64 a0_0, .int .u8 a0_1, .int .u8 a0_2, .slice A0_3 vs.length c0_3, .slice A0_4 rs.length c0_4] 25)) (Obj.cells #[.int .i64 a0_0, .int .u8 a0_1, .int .u8 a0_2, .slice A1_3 vs.length c1_3, .slice A1_4 rs.length c1_4] 25); rwa [show (w.alloc (Obj.cells #[.int .i64 a0_0, .int .u8 a0_1, .int .u8 a0_2, .slice A0_3 vs.length c0_3, .slice A0_4 rs.length c0_4] 25)).heap.size = w.heap.size + 1 from by simp] at h⟩
 rw [hW0]
 clear hW0
 go_loopw [5] (fun v wr => ∃ i : Nat, i ≤ vs.length ∧ v = .int .i64 i ∧ Aside0 (Below w.heap.size w wr) ∧ Aside0 (wr.heap[w.heap.size]? = some (.cells #[.int .i64 a0_0, .int .u8 a0_1, .int .u8 a0_2, .slice A0_3 vs.length c0_3, .slice A0_4 rs.length c0_4] 25 (0, 0))) ∧ Aside0 (wr.heap[w.heap.size + 1]? = some (.cells #[.int .i64 a0_0, .int .u8 a0_1, .int .u8 a0_2, .slice A1_3 vs.length c1_3, .slice A1_4 rs.length c1_4] 25 (0, 0)))) (fun v wr => vs.length - (intOf v).toNat)
 case atStart => exact ⟨0, Nat.zero_le _, rfl, HB0, HT0, HU0⟩
 case round =>
  rename World => wo
  clear HB0 HT0 HU0
  obtain ⟨i, hi, rfl, HB, HT, HU⟩ := hrel
  by_cases hlt : i < vs.length
  ·have q0 : (0 : Int) ≤ (i : Int) := by omega
   have q1 : (i : Int) < vs.length := by omega
   have q2 : (i : Int) < 9223372036854775807 := by have := HV0.out.2.1; omega
   have t3 : wo.cell? ⟨w.heap.size, 3, none⟩ = some (.slice A0_3 vs.length c0_3) := blk_cell HT.out 3
   have u3 : wo.cell? ⟨w.heap.size + 1, 3, none⟩ = some (.slice A1_3 vs.length c1_3) := blk_cell HU.out 3
   obtain ⟨ad, A1, c1, rfl, x0, x1, xl, xc⟩ := at_T49 (Kd.C_below HV0.out HB.out) (i : Int) q0 q1
   obtain ⟨bd, B1, d1, rfl, y0, y1, yl, yc⟩ := at_T49 (Kd.C_below HV1.out HB.out) (i : Int) q0 q1
   rw [Int.toNat_natCast] at x0 x1 y0 y1
   obtain ⟨v, hv⟩ : ∃ v, rd_T49 vs (i : Int) = v := ⟨_, rfl⟩
   rw [hv] at x0 x1 y0 y1 xl yl xc yc
   have hcx := fun n_ => Kd.C_string (P := Tryd.prog) (c := c1) Tryd.underlying46 Tryd.underlying5 Tryd.underlying9 (Kd.C_drewN xc n_)
   have hcy := fun n_ => Kd.C_string (P := Tryd.prog) (c := d1) Tryd.underlying46 Tryd.underlying5 Tryd.underlying9 (Kd.C_drewN yc n_)
   clear hv xc yc xl yl
   go_wp2
   go_quiet (fail)
   go_wp2
   go_roundw
   case rel => exact ⟨i + 1, by omega, by go_num, ⟨pw_below_drewN HB.out _⟩, ⟨HT.out⟩, ⟨HU.out⟩⟩
   case measure => simp [intOf]; omega
  ·have t3 : wo.cell? ⟨w.heap.size, 3, none⟩ = some (.slice A0_3 vs.length c0_3) := blk_cell HT.out 3
   obtain rfl : i = vs.length := by omega
   clear hlt hi
   go_wp2
   go_loopw [6] (fun v wr => ∃ i : Nat, i ≤ rs.length ∧ v = .int .i64 i ∧ Aside0 (Below w.heap.size w wr) ∧ Aside0 (wr.heap[w.heap.size]? = some (.cells #[.int .i64 a0_0, .int .u8 a0_1, .int .u8 a0_2, .slice A0_3 vs.length c0_3, .slice A0_4 rs.length c0_4] 25 (0, 0))) ∧ Aside0 (wr.heap[w.heap.size + 1]? = some (.cells #[.int .i64 a0_0, .int .u8 a0_1, .int .u8 a0_2, .slice A1_3 vs.length c1_3, .slice A1_4 rs.length c1_4] 25 (0, 0)))) (fun v wr => rs.length - (intOf v).toNat)
   case atStart => exact ⟨0, Nat.zero_le _, rfl, HB, HT, HU⟩
   case round =>
    rename World => wp
    clear HB HT HU t3
    obtain ⟨i, hi, rfl, HB, HT, HU⟩ := hrel
    by_cases hlt : i < rs.length
    ·have q0 : (0 : Int) ≤ (i : Int) := by omega
     have q1 : (i : Int) < rs.length := by omega
     have q2 : (i : Int) ≤ 9223372036854775806 := by have := HR0.out.2.1; omega
     have t4 : wp.cell? ⟨w.heap.size, 4, none⟩ = some (.slice A0_4 rs.length c0_4) := blk_cell HT.out 4
     have u4 : wp.cell? ⟨w.heap.size + 1, 4, none⟩ = some (.slice A1_4 rs.length c1_4) := blk_cell HU.out 4
     obtain ⟨ad, AT, cT, rfl, x0, x1, x2, x3, x4, hcT, hCT⟩ := at_T41 (Kd.C_below HR0.out HB.out) (i : Int) q0 q1
     obtain ⟨bd, BT, dT, rfl, y0, y1, y2, y3, y4, hdT, hDT⟩ := at_T41 (Kd.C_below HR1.out HB.out) (i : Int) q0 q1
     rw [Int.toNat_natCast] at x0 x1 x2 x3 x4 y0 y1 y2 y3 y4
     obtain ⟨x, hx⟩ : ∃ x, rd_T41 rs (i : Int) = x := ⟨_, rfl⟩
     rw [hx] at x0 x1 x2 x3 x4 y0 y1 y2 y3 y4 hCT hDT
     have s1 : w.heap.size + 1 < wp.heap.size := World.block_lt_of_cell? wp _ u4
     have s2 : (bd.add (i * 5)).block < wp.heap.size := World.block_lt_of_cell? wp (bd.add (i * 5)) y0
     have HCT := Aside0.mk hCT
     have HDT := Aside0.mk hDT
     clear hx hCT hDT hcT hdT
     go_wp2
     obtain ⟨W2, hW2⟩ : ∃ W2, (wp.alloc (Obj.cells #[.int .u8 x.f0.f0, .int .i64 x.f0.f1, .slice AT x.f1.length cT, .int .u8 x.f2.f0, .int .i64 x.f2.f1] 41)).alloc (Obj.cells #[.int .u8 x.f0.f0, .int .i64 x.f0.f1, .slice BT x.f1.length dT, .int .u8 x.f2.f0, .int .i64 x.f2.f1] 41) = W2 := ⟨_, rfl⟩
     have HB2 : Aside0 (Below w.heap.size w W2) := ⟨by rw [← hW2]; exact below_alloc (below_alloc HB.out _) _⟩
     have HBP : Aside0 (Below wp.heap.size wp W2) := ⟨by rw [← hW2]; exact below_alloc (below_alloc (Below.refl _ _) _) _⟩
     have HT2 : Aside0 (W2.heap[w.heap.size]? = some (.cells #[.int .i64 a0_0, .int .u8 a0_1, .int .u8 a0_2, .slice A0_3 vs.length c0_3, .slice (some ad) rs.length c0_4] 25 (0, 0))) := ⟨by rw [← hW2]; exact blk_alloc (blk_alloc HT.out _) _⟩
     have HU2 : Aside0 (W2.heap[w.heap.size + 1]? = some (.cells #[.int .i64 a0_0, .int .u8 a0_1, .int .u8 a0_2, .slice A1_3 vs.length c1_3, .slice (some bd) rs.length c1_4] 25 (0, 0))) := ⟨by rw [← hW2]; exact blk_alloc (blk_alloc HU.out _) _⟩
     have HX2 : Aside0 (W2.heap[wp.heap.size]? = some (.cells #[.int .u8 x.f0.f0, .int .i64 x.f0.f1, .slice AT x.f1.length cT, .int .u8 x.f2.f0, .int .i64 x.f2.f1] 41 (0, 0))) := ⟨by rw [← hW2]; exact blk_alloc (blk_new _ _) _⟩
     have HY2 : Aside0 (W2.heap[wp.heap.size + 1]? = some (.cells #[.int .u8 x.f0.f0, .int .i64 x.f0.f1, .slice BT x.f1.length dT, .int .u8 x.f2.f0, .int .i64 x.f2.f1] 41 (0, 0))) := ⟨by rw [← hW2]; have h := blk_new (wp.alloc (Obj.cells #[.int .u8 x.f0.f0, .int .i64 x.f0.f1, .slice AT x.f1.length cT, .int .u8 x.f2.f0, .int .i64 x.f2.f1] 41)) (Obj.cells #[.int .u8 x.f0.f0, .int .i64 x.f0.f1, .slice BT x.f1.length dT, .int .u8 x.f2.f0, .int .i64 x.f2.f1] 41); rwa [show (wp.alloc (Obj.cells #[.int .u8 x.f0.f0, .int .i64 x.f0.f1, .slice AT x.f1.length cT, .int .u8 x.f2.f0, .int .i64 x.f2.f1] 41)).heap.size = wp.heap.size + 1 from by simp] at h⟩
     have HCT2 := Aside0.mk (Kd.C_below HCT.out HBP.out)
     have HDT2 := Aside0.mk (Kd.C_below HDT.out HBP.out)
     rw [hW2]
     clear hW2 HBP HCT HDT HB HT HU t4 u4 x0 x1 x2 x3 x4 y0 y1 y2 y3 y4 s1 s2
     go_loopw [9] (fun v wr => ∃ j : Nat, j ≤ x.f1.length ∧ v = .int .i64 j ∧ Aside0 (Below w.heap.size w wr) ∧ Aside0 (wr.heap[w.heap.size]? = some (.cells #[.int .i64 a0_0, .int .u8 a0_1, .int .u8 a0_2, .slice A0_3 vs.length c0_3, .slice (some ad) rs.length c0_4] 25 (0, 0))) ∧ Aside0 (wr.heap[w.heap.size + 1]? = some (.cells #[.int .i64 a0_0, .int .u8 a0_1, .int .u8 a0_2, .slice A1_3 vs.length c1_3, .slice (some bd) rs.length c1_4] 25 (0, 0))) ∧ Aside0 (wr.heap[wp.heap.size]? = some (.cells #[.int .u8 x.f0.f0, .int .i64 x.f0.f1, .slice AT x.f1.length cT, .int .u8 x.f2.f0, .int .i64 x.f2.f1] 41 (0, 0))) ∧ Aside0 (wr.heap[wp.heap.size + 1]? = some (.cells #[.int .u8 x.f0.f0, .int .i64 x.f0.f1, .slice BT x.f1.length dT, .int .u8 x.f2.f0, .int .i64 x.f2.f1] 41 (0, 0))) ∧ Aside0 (k38.C wr AT x.f1.length x.f1) ∧ Aside0 (k38.C wr BT x.f1.length x.f1)) (fun v wr => x.f1.length - (intOf v).toNat)
     case atStart => exact ⟨0, Nat.zero_le _, rfl, HB2, HT2, HU2, HX2, HY2, HCT2, HDT2⟩
     case round =>
      rename World => wq
      clear HB2 HT2 HU2 HX2 HY2 HCT2 HDT2
      obtain ⟨j, hj, rfl, HB, HT, HU, HX, HY, HCT, HDT⟩ := hrel
      have z1 : wq.cell? ⟨wp.heap.size, 2, none⟩ = some (.slice AT x.f1.length cT) := blk_cell HX.out 2
      have z2 : wq.cell? ⟨wp.heap.size + 1, 2, none⟩ = some (.slice BT x.f1.length dT) := blk_cell HY.out 2
      by_cases hjl : j < x.f1.length
      ·have r0 : (0 : Int) ≤ (j : Int) := by omega
       have r1 : (j : Int) < x.f1.length := by omega
       have r2 : (j : Int) ≤ 9223372036854775806 := by have := HCT.out.2.1; omega
       obtain ⟨aT, rfl, m0, m1⟩ := at_T38 HCT.out (j : Int) r0 r1
       obtain ⟨bT, rfl, n0, n1⟩ := at_T38 HDT.out (j : Int) r0 r1
       rw [Int.toNat_natCast] at m0 m1 n0 n1
       obtain ⟨y, hy⟩ : ∃ y, rd_T38 x.f1 (j : Int) = y := ⟨_, rfl⟩
       rw [hy] at m0 m1 n0 n1
       clear hy
       go_wp2
       go_quiet (fail)
       go_wp2
       go_roundw
       case rel => exact ⟨j + 1, by omega, by go_num, ⟨pw_below_drewN HB.out _⟩, ⟨HT.out⟩, ⟨HU.out⟩, ⟨HX.out⟩, ⟨HY.out⟩, ⟨Kd.C_drewN HCT.out _⟩, ⟨Kd.C_drewN HDT.out _⟩⟩
       case measure => simp [intOf]; omega
      ·obtain rfl : j = x.f1.length := by omega
       clear hjl hj
       go_wp2
       go_roundw
       case rel => exact ⟨i + 1, by omega, by go_num, HB, HT, HU⟩
       case measure => simp [intOf]; omega
    ·have t4 : wp.cell? ⟨w.heap.size, 4, none⟩ = some (.slice A0_4 rs.length c0_4) := blk_cell HT.out 4
     obtain rfl : i = rs.length := by omega
     clear hlt hi
     go_wp2
     go_ret
     exact ⟨rfl, HB.out⟩
theorem vivariumref10_Same.calls (a0_0 a0_1 a0_2 : Int) (A0_3 : Option Addr) (c0_3 : Nat) (l0_3 : List S49) (A0_4 : Option Addr) (c0_4 : Nat) (l0_4 : List S41) (a1_0 a1_1 a1_2 : Int) (A1_3 : Option Addr) (c1_3 : Nat) (l1_3 : List S49) (A1_4 : Option Addr) (c1_4 : Nat) (l1_4 : List S41) (r : Bool) (w : World)
  (hr0_3 : Kd.C k49 w A0_3 l0_3.length l0_3) (hc0_3 : l0_3.length ≤ c0_3) (hr0_4 : Kd.C k41 w A0_4 l0_4.length l0_4) (hc0_4 : l0_4.length ≤ c0_4) (hr1_3 : Kd.C k49 w A1_3 l1_3.length l1_3) (hc1_3 : l1_3.length ≤ c1_3) (hr1_4 : Kd.C k41 w A1_4 l1_4.length l1_4) (hc1_4 : l1_4.length ≤ c1_4) (h : vivariumref10_Same.f a0_0 a0_1 a0_2 l0_3 l0_4 a1_0 a1_1 a1_2 l1_3 l1_4 = some r) :
  Calls Tryd.prog 9 #[.agg #[.int .i64 a0_0, .int .u8 a0_1, .int .u8 a0_2, .slice A0_3 l0_3.length c0_3, .slice A0_4 l0_4.length c0_4], .agg #[.int .i64 a1_0, .int .u8 a1_1, .int .u8 a1_2, .slice A1_3 l1_3.length c1_3, .slice A1_4 l1_4.length c1_4]] w fun e w' => e = .returned (.bool r) ∧ Below w.heap.size w w' := by
 unfold vivariumref10_Same.f at h
 by_cases c : a0_0 = a1_0 ∧ a0_1 = a1_1 ∧ a0_2 = a1_2 ∧ l0_3 = l1_3 ∧ l0_4 = l1_4
 ·rw [if_pos c] at h
  obtain rfl := Option.some.inj h
  obtain ⟨rfl, rfl, rfl, rfl, rfl⟩ := c
  exact same_walk a0_0 a0_1 a0_2 l0_3 l0_4 A0_3 c0_3 A0_4 c0_4 A1_3 c1_3 A1_4 c1_4 w hr0_3 hr0_4 hr1_3 hr1_4
 ·rw [if_neg c] at h; cases h
end Go.Proofs.YtajhfkcmfmhnaaaDoor.P
end
section
set_option linter.unusedVariables false
namespace Go.Proofs.YtajhfkcmfmhnaaaDoor.L
open Go.RowKit Go.Proofs.YtajhfkcmfmhnaaaDoor.P Go.Proofs.YtajhfkcmfmhnaaaDoorW.PrintWords Go.Proofs.YtajhfkcmfmhnaaaDoorW.PrintLast Go.Proofs.YtajhfkcmfmhnaaaDoorW.PrintMore
theorem twin1_go (st hd sy : Int) (vs : List Vr) (rs : List Rw) (hr : rs.length ≤ 2513169434843) (hR : ∀ r ∈ rs, r.f1.length ≤ 8796093021952) : ∀ (d i : Nat), i + d = rs.length → Evn (fun k => vivariumref10_Twin.l1 k (i : Int) st hd sy vs rs st hd sy vs (rs.take i)) (st, hd, sy, vs, rs)
 | 0, i, h => by
  obtain rfl : i = rs.length := by omega
  refine Evn.const.step (g' := fun _ => some _) (fun k => ?_)
  simp only [vivariumref10_Twin.l1]
  rw [if_neg (by omega), List.take_length]
 | d + 1, i, h => by
  have ih := twin1_go st hd sy vs rs hr hR d (i + 1) (by omega)
  have hi : i < rs.length := by omega
  have E := wstep hi (by unfold B47; omega)
  have hm := hR rs[i] (List.getElem_mem hi)
  refine ih.step (fun k => ?_)
  simp only [vivariumref10_Twin.l1]
  rw [if_pos (by omega), if_pos (by omega), rd_62 rs i hi, if_pos (by rw [List.length_nil]; omega), if_pos (by rw [List.length_take]; omega), E.out, List.take_succ_eq_append_getElem hi]
  rfl
theorem twin0_go (st hd sy : Int) (vs : List Vr) (rs : List Rw) (hv : vs.length ≤ 3518437208780) (hr : rs.length ≤ 2513169434843) (hV : ∀ v ∈ vs, v.f1.length ≤ 140737488351232) (hR : ∀ r ∈ rs, r.f1.length ≤ 8796093021952) : ∀ (d i : Nat), i + d = vs.length → Evn (fun k => vivariumref10_Twin.l0 k (i : Int) st hd sy vs rs st hd sy (vs.take i)) (st, hd, sy, vs, rs)
 | 0, i, h => by
  obtain rfl : i = vs.length := by omega
  have h1 := twin1_go st hd sy vs rs hr hR rs.length 0 (by omega)
  refine h1.step (fun k => ?_)
  simp only [vivariumref10_Twin.l0]
  rw [if_neg (by omega), List.take_length, List.take_zero]
  rfl
 | d + 1, i, h => by
  have ih := twin0_go st hd sy vs rs hv hr hV hR d (i + 1) (by omega)
  have hi : i < vs.length := by omega
  have E := wstep hi (by unfold B47; omega)
  have hm := hV vs[i] (List.getElem_mem hi)
  refine ih.step (fun k => ?_)
  simp only [vivariumref10_Twin.l0]
  rw [if_pos (by omega), if_pos (by omega), rd_65 vs i hi, if_pos (by rw [List.length_nil]; omega), if_pos (by rw [List.length_take]; omega), E.out, List.take_succ_eq_append_getElem hi]
  rfl
theorem twin_ev (st hd sy : Int) (vs : List Vr) (rs : List Rw) (hv : vs.length ≤ 3518437208780) (hr : rs.length ≤ 2513169434843) (hV : ∀ v ∈ vs, v.f1.length ≤ 140737488351232) (hR : ∀ r ∈ rs, r.f1.length ≤ 8796093021952) : Evn (fun k => vivariumref10_Twin.f k st hd sy vs rs) (st, hd, sy, vs, rs) :=
 twin0_go st hd sy vs rs hv hr hV hR vs.length 0 (by omega)
theorem same_is (st hd sy : Int) (vs : List Vr) (rs : List Rw) : vivariumref10_Same.f st hd sy vs rs st hd sy vs rs = some true := by
 unfold vivariumref10_Same.f
 rw [if_pos ⟨rfl, rfl, rfl, rfl, rfl⟩]
end Go.Proofs.YtajhfkcmfmhnaaaDoor.L
end

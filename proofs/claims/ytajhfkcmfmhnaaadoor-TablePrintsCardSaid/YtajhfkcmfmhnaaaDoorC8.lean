-- Written by a program of this session (wip/tools/shake.py): texts of this claim, of each what the claim names.
import Derived.Test.YtajhfkcmfmhnaaaDoorC2
import Derived.Test.YtajhfkcmfmhnaaaDoorC5
import Derived.Test.YtajhfkcmfmhnaaaDoorC6
import Derived.Test.YtajhfkcmfmhnaaaDoorC7
section
namespace Go.Proofs.YtajhfkcmfmhnaaaDoor.P
open Go.RowKit Go.Proofs.YtajhfkcmfmhnaaaDoorW.PrintWords Go.Proofs.YtajhfkcmfmhnaaaDoorW.PrintLast Go.Proofs.YtajhfkcmfmhnaaaDoorW.PrintMore
attribute [local go_sem] max2_int min2_int max_two min_two max_three min_three max_four min_four   -- for this text's walks alone
set_option linter.unusedVariables false
set_option linter.unusedSimpArgs false
mutual
def vivariumref10_Check.j0 : Nat → Bool → Int → Int → Int → List (S49) → List (S41) → Option (Int)
 | 0, _, _, _, _, _, _ => none
 | k + 1, x15, x151000, x151001, x151002, x151003, x151004 => if x15 = true then (some 101) else ((vivariumref07_Size.f x151001).bind fun bt151 => (if bt151.2 = 0 then ((vivariumref10_may.f k x151002 x151001).bind fun t153 => (if t153 = 0 then (if (x151003.length : Int) > 64 then (vivariumref10_Check.j1 k bt151.1 true x151000 x151001 x151002 x151003 x151004) else (vivariumref10_Check.j1 k bt151.1 (decide ((x151004.length : Int) > 4096)) x151000 x151001 x151002 x151003 x151004)) else (some t153))) else (some bt151.2)))
def vivariumref10_Check.j1 : Nat → Int → Bool → Int → Int → Int → List (S49) → List (S41) → Option (Int)
 | 0, _, _, _, _, _, _, _ => none
 | k + 1, x3, x42, x151000, x151001, x151002, x151003, x151004 => if x42 = true then (some 6) else (vivariumref10_Check.l0 k x3 0 x151000 x151001 x151002 x151003 x151004)
def vivariumref10_Check.l0 : Nat → Int → Int → Int → Int → Int → List (S49) → List (S41) → Option (Int)
 | 0, _, _, _, _, _, _, _ => none
 | k + 1, x3, x5, x151000, x151001, x151002, x151003, x151004 => if x5 < (x151003.length : Int) then ((vivariumref10_variable.f k x151000 x151001 x151002 x151003 x151004 x5).bind fun t154 => (if t154 = true then (vivariumref10_Check.l0 k x3 (wrap64 (x5 + 1)) x151000 x151001 x151002 x151003 x151004) else (some 104))) else (vivariumref10_Check.l1 k x3 0 x151000 x151001 x151002 x151003 x151004)
def vivariumref10_Check.l1 : Nat → Int → Int → Int → Int → Int → List (S49) → List (S41) → Option (Int)
 | 0, _, _, _, _, _, _, _ => none
 | k + 1, x3, x6, x151000, x151001, x151002, x151003, x151004 => if x6 < (x151004.length : Int) then (if 0 ≤ x6 then (if (((rd_T41 x151004 x6).f1).length : Int) = x3 then ((vivariumref10_terms.f k x151000 x151001 x151002 x151003 x151004 (([(⟨(rd_T41 x151004 x6).f0.f0, (rd_T41 x151004 x6).f0.f1⟩ : S38), (⟨(rd_T41 x151004 x6).f2.f0, (rd_T41 x151004 x6).f2.f1⟩ : S38)] : List (S38)))).bind fun t160 => (if t160 = true then ((vivariumref10_terms.f k x151000 x151001 x151002 x151003 x151004 ((rd_T41 x151004 x6).f1)).bind fun t161 => (if t161 = true then ((vivariumref10_bound.f k ((rd_T41 x151004 x6).f0.f0) ((rd_T41 x151004 x6).f0.f1) ((rd_T41 x151004 x6).f1) ((rd_T41 x151004 x6).f2.f0) ((rd_T41 x151004 x6).f2.f1)).bind fun t162 => (if t162 = true then (vivariumref10_Check.l1 k x3 (wrap64 (x6 + 1)) x151000 x151001 x151002 x151003 x151004) else (some 105))) else (some 105))) else (some 105))) else (some 105)) else (none)) else (some 0)
end
def vivariumref10_Check.f (k : Nat) (a0_0 : Int) (a0_1 : Int) (a0_2 : Int) (l0_3 : List (S49)) (l0_4 : List (S41)) : Option (Int) := if a0_0 < 2 then (vivariumref10_Check.j0 k true a0_0 a0_1 a0_2 l0_3 l0_4) else (vivariumref10_Check.j0 k (decide (a0_0 > 256)) a0_0 a0_1 a0_2 l0_3 l0_4)
set_option maxHeartbeats 8000000 in
set_option maxRecDepth 100000 in
theorem vivariumref10_Check.calls (k : Nat) (a0_0 : Int) (a0_1 : Int) (a0_2 : Int) (A0_3 : Option Addr) (c0_3 : Nat) (l0_3 : List (S49)) (A0_4 : Option Addr) (c0_4 : Nat) (l0_4 : List (S41)) (r : Int) (w : World) (hr0_3 : Kd.C k49 w A0_3 l0_3.length l0_3) (hc0_3 : l0_3.length ≤ c0_3) (hr0_4 : Kd.C k41 w A0_4 l0_4.length l0_4) (hc0_4 : l0_4.length ≤ c0_4) (h : vivariumref10_Check.f k a0_0 a0_1 a0_2 l0_3 l0_4 = some r) :
  Calls Tryd.prog 4 #[.agg #[.int .i64 a0_0, .int .u8 a0_1, .int .u8 a0_2, .slice A0_3 l0_3.length c0_3, .slice A0_4 l0_4.length c0_4]] w fun e w' => e = .returned (.int .i64 r) ∧ Below w.heap.size w w' := by
 have hu25 := Tryd.underlying25
 have hu41 := Tryd.underlying41
 have hu38 := Tryd.underlying38
 have HR0_3 := Aside0.mk hr0_3
 have HC0_3 := Aside0.mk hc0_3
 clear hr0_3 hc0_3
 have HR0_4 := Aside0.mk hr0_4
 have HC0_4 := Aside0.mk hc0_4
 clear hr0_4 hc0_4
 have HB := Aside0.mk (Below.refl w.heap.size w)
 have H : (if a0_0 < 2 then (vivariumref10_Check.j0 k true a0_0 a0_1 a0_2 l0_3 l0_4) else (vivariumref10_Check.j0 k (decide (a0_0 > 256)) a0_0 a0_1 a0_2 l0_3 l0_4)) = some r := h
 clear h
 have HC2 := Aside0.mk H
 clear H
 go_enter Tryd.func4, Tryd.ntmps4
 go_upto_region 1 with (first | ((with_reducible refine gate_dst (N := 1) rfl ?_); (try (refine gate_guard (by rfl) ?_; dsimp only)); refine box_event ?hg (N := 1) ?hd (cs := #[.int .i64 a0_0, .int .u8 a0_1, .int .u8 a0_2, .slice A0_3 l0_3.length c0_3, .slice A0_4 l0_4.length c0_4]) (t := 25) ?hr ?_; (case hd => rfl); (case hg => rfl); (case hr => first | (go_simp; done) | (go_simp; rfl)); intro gb150 hg w3 hbox hb; have n0_ := Aside0.mk (below_step (by repeat (first | (with_reducible first | exact HB.out | apply below_alloc | apply pw_below_drewN | apply below_drew1) | exact HB.out)) hb); have n1_ := Aside0.mk (hbox); have n2_ := Aside0.mk ((by rw [hg]; exact (below_size (by repeat (first | (with_reducible first | exact HB.out | apply below_alloc | apply pw_below_drewN | apply below_drew1) | exact HB.out))) : w.heap.size ≤ gb150)); have n3_ := Aside0.mk ((by rw [hg]; exact (below_size (by repeat (first | (with_reducible first | exact HB.out | apply below_alloc | apply pw_below_drewN | apply below_drew1) | exact HB.out))) : w.heap.size ≤ gb150)); clear HB; have HB := n0_; have BK150 := n1_; have GW150 := n2_; have GE150 := n3_; clear n0_ n1_ n2_ n3_; clear hb hbox hg))
 (try simp only [Act.put, List.setIfInBounds_toArray, List.set_cons_zero, List.set_cons_succ])
 go_cut [15] (fun v15 wc => ∃ (kq : Nat) (x15_1 : Bool), v15 = .bool x15_1 ∧ Aside0 (vivariumref10_Check.j0 kq x15_1 a0_0 a0_1 a0_2 l0_3 l0_4 = some r) ∧ Aside0 (kq ≤ k) ∧ Aside0 (wc.heap[gb150]? = some (.cells #[.int .i64 a0_0, .int .u8 a0_1, .int .u8 a0_2, (.slice A0_3 l0_3.length c0_3), (.slice A0_4 l0_4.length c0_4)] 25 (0, 0))) ∧ Aside0 (Below w.heap.size w wc))
 case first =>
  have H := HC2.out
  clear HC2
  by_cases c4 : a0_0 < 2
  ·rw [if_pos c4] at H
   have c4b0 : decide (a0_0 < 2) = true := decide_eq_true c4
   clear c4
   (first | rw [c4b0] | (simp only [i64_w, i32_w]; rw [c4b0]) | skip)
   have H' := Aside0.mk H
   clear H
   have hcz5_0 : w3.cell? ⟨gb150, 0, none⟩ = some (.int .i64 a0_0) := (blk_cell BK150.out 0).trans rfl
   have hcz5_1 : w3.cell? ⟨gb150, 1, none⟩ = some (.int .u8 a0_1) := (blk_cell BK150.out 1).trans rfl
   have hcz5_2 : w3.cell? ⟨gb150, 2, none⟩ = some (.int .u8 a0_2) := (blk_cell BK150.out 2).trans rfl
   have hcz5_3 : w3.cell? ⟨gb150, 3, none⟩ = some (.slice A0_3 l0_3.length c0_3) := (blk_cell BK150.out 3).trans rfl
   have hcz5_4 : w3.cell? ⟨gb150, 4, none⟩ = some (.slice A0_4 l0_4.length c0_4) := (blk_cell BK150.out 4).trans rfl
   have hfz5_0 := blk_frozen BK150.out 0
   have hfz5_1 := blk_frozen BK150.out 1
   have hfz5_2 := blk_frozen BK150.out 2
   have hfz5_3 := blk_frozen BK150.out 3
   have hfz5_4 := blk_frozen BK150.out 4
   go_wp2
   go_meet
   case rel => exact ⟨_, (true), (by first | rfl | (simp; done) | (simp [*]; done)), H', ⟨by first | omega | exact Nat.le_refl _⟩, ⟨by (with_reducible repeat (first | refine blk_drewN ?_ _ | refine blk_drew ?_ | refine blk_alloc ?_ _)); exact BK150.out⟩, ⟨by repeat (first | (with_reducible first | exact HB.out | apply below_alloc | apply pw_below_drewN | apply below_drew1 | refine below_set ?_ GE150.out) | exact HB.out)⟩⟩
  ·rw [if_neg c4] at H
   have c4b0 : decide (a0_0 < 2) = false := decide_eq_false c4
   clear c4
   (first | rw [c4b0] | (simp only [i64_w, i32_w]; rw [c4b0]) | skip)
   have H' := Aside0.mk H
   clear H
   have hcz6_0 : w3.cell? ⟨gb150, 0, none⟩ = some (.int .i64 a0_0) := (blk_cell BK150.out 0).trans rfl
   have hcz6_1 : w3.cell? ⟨gb150, 1, none⟩ = some (.int .u8 a0_1) := (blk_cell BK150.out 1).trans rfl
   have hcz6_2 : w3.cell? ⟨gb150, 2, none⟩ = some (.int .u8 a0_2) := (blk_cell BK150.out 2).trans rfl
   have hcz6_3 : w3.cell? ⟨gb150, 3, none⟩ = some (.slice A0_3 l0_3.length c0_3) := (blk_cell BK150.out 3).trans rfl
   have hcz6_4 : w3.cell? ⟨gb150, 4, none⟩ = some (.slice A0_4 l0_4.length c0_4) := (blk_cell BK150.out 4).trans rfl
   have hfz6_0 := blk_frozen BK150.out 0
   have hfz6_1 := blk_frozen BK150.out 1
   have hfz6_2 := blk_frozen BK150.out 2
   have hfz6_3 := blk_frozen BK150.out 3
   have hfz6_4 := blk_frozen BK150.out 4
   go_wp2
   go_meet
   case rel => exact ⟨_, (decide (a0_0 > 256)), (by first | rfl | (simp; done) | (simp [*]; done)), H', ⟨by first | omega | exact Nat.le_refl _⟩, ⟨by (with_reducible repeat (first | refine blk_drewN ?_ _ | refine blk_drew ?_ | refine blk_alloc ?_ _)); exact BK150.out⟩, ⟨by repeat (first | (with_reducible first | exact HB.out | apply below_alloc | apply pw_below_drewN | apply below_drew1 | refine below_set ?_ GE150.out) | exact HB.out)⟩⟩
 case rest =>
  clear HC2
  try clear p2
  try clear c4
  try clear c4b0
  try clear hcz5_0
  try clear hcz5_1
  try clear hcz5_2
  try clear hcz5_3
  try clear hcz5_4
  try clear hcz6_0
  try clear hcz6_1
  try clear hcz6_2
  try clear hcz6_3
  try clear hcz6_4
  try clear hfz5_0
  try clear hfz5_1
  try clear hfz5_2
  try clear hfz5_3
  try clear hfz5_4
  try clear hfz6_0
  try clear hfz6_1
  try clear hfz6_2
  try clear hfz6_3
  try clear hfz6_4
  obtain ⟨kq, x15_1, rfl, HA, HJ1, BK150, HB⟩ := hcut
  cases kq with
  | zero => exact absurd HA.out (by simp [vivariumref10_Check.j0])
  | succ kj1 =>
   have H := HA.out
   clear HA
   simp only [vivariumref10_Check.j0] at H
   by_cases c7 : x15_1 = true
   ·subst c7
    have H1 : (some 101) = some r := by rw [if_pos rfl] at H; exact H
    clear H
    have H := H1
    clear H1
    obtain rfl := Option.some.inj H
    go_wp2
    go_ret
    exact ⟨by first | rfl | (simp [errW_none, errW_some] <;> rfl) | (simp [*, errW_none, errW_some] <;> rfl), by repeat (first | (with_reducible first | exact HB.out | apply below_alloc | apply pw_below_drewN | apply below_drew1 | refine below_set ?_ GE150.out) | exact HB.out)⟩
   ·replace c7 := Bool.eq_false_iff.mpr c7
    subst c7
    have H1 : ((vivariumref07_Size.f a0_1).bind fun bt151 => (if bt151.2 = 0 then ((vivariumref10_may.f kj1 a0_2 a0_1).bind fun t153 => (if t153 = 0 then (if (l0_3.length : Int) > 64 then (vivariumref10_Check.j1 kj1 bt151.1 true a0_0 a0_1 a0_2 l0_3 l0_4) else (vivariumref10_Check.j1 kj1 bt151.1 (decide ((l0_4.length : Int) > 4096)) a0_0 a0_1 a0_2 l0_3 l0_4)) else (some t153))) else (some bt151.2))) = some r := by rw [if_neg (show ¬ (false = true) by decide)] at H; exact H
    clear H
    have H := H1
    clear H1
    replace H := Option.bind_eq_some_iff.mp H
    obtain ⟨⟨t151, t152⟩, A80, H⟩ := H
    replace H : (if t152 = 0 then ((vivariumref10_may.f kj1 a0_2 a0_1).bind fun t153 => (if t153 = 0 then (if (l0_3.length : Int) > 64 then (vivariumref10_Check.j1 kj1 t151 true a0_0 a0_1 a0_2 l0_3 l0_4) else (vivariumref10_Check.j1 kj1 t151 (decide ((l0_4.length : Int) > 4096)) a0_0 a0_1 a0_2 l0_3 l0_4)) else (some t153))) else (some t152)) = some r := H
    have A8 := Aside0.mk A80
    clear A80
    by_cases c9 : t152 = 0
    ·rw [if_pos c9] at H
     have c9b0 : (t152 == 0) = true := beq_iff_eq.mpr c9
     have c9b1 : (t152 != 0) = false := bne_eq_false_iff_eq.mpr c9
     clear c9
     replace H := Option.bind_eq_some_iff.mp H
     obtain ⟨t153, A100, H⟩ := H
     replace H : (if t153 = 0 then (if (l0_3.length : Int) > 64 then (vivariumref10_Check.j1 kj1 t151 true a0_0 a0_1 a0_2 l0_3 l0_4) else (vivariumref10_Check.j1 kj1 t151 (decide ((l0_4.length : Int) > 4096)) a0_0 a0_1 a0_2 l0_3 l0_4)) else (some t153)) = some r := H
     have A10 := Aside0.mk A100
     clear A100
     by_cases c11 : t153 = 0
     ·rw [if_pos c11] at H
      have c11b0 : (t153 == 0) = true := beq_iff_eq.mpr c11
      have c11b1 : (t153 != 0) = false := bne_eq_false_iff_eq.mpr c11
      clear c11
      have HC12 := Aside0.mk H
      clear H
      have hcz13_0 : wc.cell? ⟨gb150, 0, none⟩ = some (.int .i64 a0_0) := (blk_cell BK150.out 0).trans rfl
      have hcz13_1 : wc.cell? ⟨gb150, 1, none⟩ = some (.int .u8 a0_1) := (blk_cell BK150.out 1).trans rfl
      have hcz13_2 : wc.cell? ⟨gb150, 2, none⟩ = some (.int .u8 a0_2) := (blk_cell BK150.out 2).trans rfl
      have hcz13_3 : wc.cell? ⟨gb150, 3, none⟩ = some (.slice A0_3 l0_3.length c0_3) := (blk_cell BK150.out 3).trans rfl
      have hcz13_4 : wc.cell? ⟨gb150, 4, none⟩ = some (.slice A0_4 l0_4.length c0_4) := (blk_cell BK150.out 4).trans rfl
      have hfz13_0 := blk_frozen BK150.out 0
      have hfz13_1 := blk_frozen BK150.out 1
      have hfz13_2 := blk_frozen BK150.out 2
      have hfz13_3 := blk_frozen BK150.out 3
      have hfz13_4 := blk_frozen BK150.out 4
      go_upto_region 9 with (first | ((with_reducible refine gate_callee (f := 10) rfl ?_); refine goesL_ (some 19) rfl rfl Tryd.func10 (by kernel_rfl) rfl #[.int .u8 a0_1] rfl (by (try simp only [List.map_toArray, List.map_cons, List.map_nil]); first | done | rfl | (simp only [List.length_drop, List.length_take]; rfl)) ?_; (with_reducible refine (vivariumref07_Size.calls a0_1 t151 t152 _ A8.out).mono ?_); rintro e w14 ⟨rfl, hb⟩; refine ⟨_, rfl, ?_⟩; have n0_ := Aside0.mk (blk_below (g := gb150) (o := .cells #[.int .i64 a0_0, .int .u8 a0_1, .int .u8 a0_2, .slice A0_3 l0_3.length c0_3, .slice A0_4 l0_4.length c0_4] 25 (0, 0)) (by (with_reducible repeat (first | refine blk_drewN ?_ _ | refine blk_drew ?_ | refine blk_alloc ?_ _)); exact BK150.out) hb); have n1_ := Aside0.mk (below_step (by repeat (first | (with_reducible first | exact HB.out | apply below_alloc | apply pw_below_drewN | apply below_drew1 | refine below_set ?_ GE150.out) | exact HB.out)) hb); clear BK150; clear HB; have BK150 := n0_; have HB := n1_; clear n0_ n1_; (try clear hb); (try clear hb2); (try clear hk); (try clear hi); have hcz15_0 : w14.cell? ⟨gb150, 0, none⟩ = some (.int .i64 a0_0) := (blk_cell BK150.out 0).trans rfl; have hcz15_1 : w14.cell? ⟨gb150, 1, none⟩ = some (.int .u8 a0_1) := (blk_cell BK150.out 1).trans rfl; have hcz15_2 : w14.cell? ⟨gb150, 2, none⟩ = some (.int .u8 a0_2) := (blk_cell BK150.out 2).trans rfl; have hcz15_3 : w14.cell? ⟨gb150, 3, none⟩ = some (.slice A0_3 l0_3.length c0_3) := (blk_cell BK150.out 3).trans rfl; have hcz15_4 : w14.cell? ⟨gb150, 4, none⟩ = some (.slice A0_4 l0_4.length c0_4) := (blk_cell BK150.out 4).trans rfl; have hfz15_0 := blk_frozen BK150.out 0; have hfz15_1 := blk_frozen BK150.out 1; have hfz15_2 := blk_frozen BK150.out 2; have hfz15_3 := blk_frozen BK150.out 3; have hfz15_4 := blk_frozen BK150.out 4) | ((with_reducible refine gate_callee (f := 11) rfl ?_); refine goesL_ (some 29) rfl rfl Tryd.func11 (by kernel_rfl) rfl #[.int .u8 a0_2, .int .u8 a0_1] rfl (by (try simp only [List.map_toArray, List.map_cons, List.map_nil]); first | done | rfl | (simp only [List.length_drop, List.length_take]; rfl)) ?_; (with_reducible refine (vivariumref10_may.calls kj1 a0_2 a0_1 t153 _ A10.out).mono ?_); rintro e w16 ⟨rfl, hb⟩; refine ⟨_, rfl, ?_⟩; have n0_ := Aside0.mk (blk_below (g := gb150) (o := .cells #[.int .i64 a0_0, .int .u8 a0_1, .int .u8 a0_2, .slice A0_3 l0_3.length c0_3, .slice A0_4 l0_4.length c0_4] 25 (0, 0)) (by (with_reducible repeat (first | refine blk_drewN ?_ _ | refine blk_drew ?_ | refine blk_alloc ?_ _)); exact BK150.out) hb); have n1_ := Aside0.mk (below_step (by repeat (first | (with_reducible first | exact HB.out | apply below_alloc | apply pw_below_drewN | apply below_drew1 | refine below_set ?_ GE150.out) | exact HB.out)) hb); clear BK150; clear HB; have BK150 := n0_; have HB := n1_; clear n0_ n1_; (try clear hb); (try clear hb2); (try clear hk); (try clear hi)))
      (try simp only [Act.put, List.setIfInBounds_toArray, List.set_cons_zero, List.set_cons_succ])
      go_cut [42] (fun v42 wc => ∃ (kq : Nat) (x42_11 : Bool), v42 = .bool x42_11 ∧ Aside0 (vivariumref10_Check.j1 kq t151 x42_11 a0_0 a0_1 a0_2 l0_3 l0_4 = some r) ∧ Aside0 (kq ≤ kj1) ∧ Aside0 (wc.heap[gb150]? = some (.cells #[.int .i64 a0_0, .int .u8 a0_1, .int .u8 a0_2, (.slice A0_3 l0_3.length c0_3), (.slice A0_4 l0_4.length c0_4)] 25 (0, 0))) ∧ Aside0 (Below w.heap.size w wc))
      case first =>
       have H := HC12.out
       clear HC12
       by_cases c17 : (l0_3.length : Int) > 64
       ·rw [if_pos c17] at H
        have c17b0 : decide (64 < (l0_3.length : Int)) = true := decide_eq_true c17
        have c17b1 : decide (64 < l0_3.length) = true := decide_eq_true (by omega)
        clear c17
        (first | rw [c17b0] | (simp only [i64_w, i32_w]; rw [c17b0]) | skip)
        have H' := Aside0.mk H
        clear H
        have hcz18_0 : w16.cell? ⟨gb150, 0, none⟩ = some (.int .i64 a0_0) := (blk_cell BK150.out 0).trans rfl
        have hcz18_1 : w16.cell? ⟨gb150, 1, none⟩ = some (.int .u8 a0_1) := (blk_cell BK150.out 1).trans rfl
        have hcz18_2 : w16.cell? ⟨gb150, 2, none⟩ = some (.int .u8 a0_2) := (blk_cell BK150.out 2).trans rfl
        have hcz18_3 : w16.cell? ⟨gb150, 3, none⟩ = some (.slice A0_3 l0_3.length c0_3) := (blk_cell BK150.out 3).trans rfl
        have hcz18_4 : w16.cell? ⟨gb150, 4, none⟩ = some (.slice A0_4 l0_4.length c0_4) := (blk_cell BK150.out 4).trans rfl
        have hfz18_0 := blk_frozen BK150.out 0
        have hfz18_1 := blk_frozen BK150.out 1
        have hfz18_2 := blk_frozen BK150.out 2
        have hfz18_3 := blk_frozen BK150.out 3
        have hfz18_4 := blk_frozen BK150.out 4
        go_wp2
        go_meet
        case rel => exact ⟨_, (true), (by first | rfl | (simp; done) | (simp [*]; done)), H', ⟨by have := HJ1.out; first | omega | exact Nat.le_refl _⟩, ⟨by (with_reducible repeat (first | refine blk_drewN ?_ _ | refine blk_drew ?_ | refine blk_alloc ?_ _)); exact BK150.out⟩, ⟨by repeat (first | (with_reducible first | exact HB.out | apply below_alloc | apply pw_below_drewN | apply below_drew1 | refine below_set ?_ GE150.out) | exact HB.out)⟩⟩
       ·rw [if_neg c17] at H
        have c17b0 : decide (64 < (l0_3.length : Int)) = false := decide_eq_false c17
        have c17b1 : decide (64 < l0_3.length) = false := decide_eq_false (by omega)
        clear c17
        (first | rw [c17b0] | (simp only [i64_w, i32_w]; rw [c17b0]) | skip)
        have H' := Aside0.mk H
        clear H
        have hcz19_0 : w16.cell? ⟨gb150, 0, none⟩ = some (.int .i64 a0_0) := (blk_cell BK150.out 0).trans rfl
        have hcz19_1 : w16.cell? ⟨gb150, 1, none⟩ = some (.int .u8 a0_1) := (blk_cell BK150.out 1).trans rfl
        have hcz19_2 : w16.cell? ⟨gb150, 2, none⟩ = some (.int .u8 a0_2) := (blk_cell BK150.out 2).trans rfl
        have hcz19_3 : w16.cell? ⟨gb150, 3, none⟩ = some (.slice A0_3 l0_3.length c0_3) := (blk_cell BK150.out 3).trans rfl
        have hcz19_4 : w16.cell? ⟨gb150, 4, none⟩ = some (.slice A0_4 l0_4.length c0_4) := (blk_cell BK150.out 4).trans rfl
        have hfz19_0 := blk_frozen BK150.out 0
        have hfz19_1 := blk_frozen BK150.out 1
        have hfz19_2 := blk_frozen BK150.out 2
        have hfz19_3 := blk_frozen BK150.out 3
        have hfz19_4 := blk_frozen BK150.out 4
        go_wp2
        go_meet
        case rel => exact ⟨_, (decide ((l0_4.length : Int) > 4096)), (by first | rfl | (simp; done) | (simp [*]; done)), H', ⟨by have := HJ1.out; first | omega | exact Nat.le_refl _⟩, ⟨by (with_reducible repeat (first | refine blk_drewN ?_ _ | refine blk_drew ?_ | refine blk_alloc ?_ _)); exact BK150.out⟩, ⟨by repeat (first | (with_reducible first | exact HB.out | apply below_alloc | apply pw_below_drewN | apply below_drew1 | refine below_set ?_ GE150.out) | exact HB.out)⟩⟩
      case rest =>
       clear HC12
       try clear c1
       try clear p2
       try clear c4
       try clear c4b0
       try clear c7
       try clear c9
       try clear c9b0
       try clear c9b1
       try clear c10
       try clear c11
       try clear c11b0
       try clear c11b1
       try clear c17
       try clear c17b0
       try clear c17b1
       try clear hcz13_0
       try clear hcz13_1
       try clear hcz13_2
       try clear hcz13_3
       try clear hcz13_4
       try clear hcz15_0
       try clear hcz15_1
       try clear hcz15_2
       try clear hcz15_3
       try clear hcz15_4
       try clear hcz18_0
       try clear hcz18_1
       try clear hcz18_2
       try clear hcz18_3
       try clear hcz18_4
       try clear hcz19_0
       try clear hcz19_1
       try clear hcz19_2
       try clear hcz19_3
       try clear hcz19_4
       try clear hcz5_0
       try clear hcz5_1
       try clear hcz5_2
       try clear hcz5_3
       try clear hcz5_4
       try clear hcz6_0
       try clear hcz6_1
       try clear hcz6_2
       try clear hcz6_3
       try clear hcz6_4
       try clear hfz13_0
       try clear hfz13_1
       try clear hfz13_2
       try clear hfz13_3
       try clear hfz13_4
       try clear hfz15_0
       try clear hfz15_1
       try clear hfz15_2
       try clear hfz15_3
       try clear hfz15_4
       try clear hfz18_0
       try clear hfz18_1
       try clear hfz18_2
       try clear hfz18_3
       try clear hfz18_4
       try clear hfz19_0
       try clear hfz19_1
       try clear hfz19_2
       try clear hfz19_3
       try clear hfz19_4
       try clear hfz5_0
       try clear hfz5_1
       try clear hfz5_2
       try clear hfz5_3
       try clear hfz5_4
       try clear hfz6_0
       try clear hfz6_1
       try clear hfz6_2
       try clear hfz6_3
       try clear hfz6_4
       try clear p2
       obtain ⟨kq, x42_11, rfl, HA, HJ11, BK150, HB⟩ := hcut
       cases kq with
       | zero => exact absurd HA.out (by simp [vivariumref10_Check.j1])
       | succ kj11 =>
        have H := HA.out
        clear HA
        simp only [vivariumref10_Check.j1] at H
        by_cases c20 : x42_11 = true
        ·subst c20
         have H1 : (some 6) = some r := by rw [if_pos rfl] at H; exact H
         clear H
         have H := H1
         clear H1
         obtain rfl := Option.some.inj H
         go_wp2
         go_ret
         exact ⟨by first | rfl | (simp [errW_none, errW_some] <;> rfl) | (simp [*, errW_none, errW_some] <;> rfl), by repeat (first | (with_reducible first | exact HB.out | apply below_alloc | apply pw_below_drewN | apply below_drew1 | refine below_set ?_ GE150.out) | exact HB.out)⟩
        ·replace c20 := Bool.eq_false_iff.mpr c20
         subst c20
         have H1 : (vivariumref10_Check.l0 kj11 t151 0 a0_0 a0_1 a0_2 l0_3 l0_4) = some r := by rw [if_neg (show ¬ (false = true) by decide)] at H; exact H
         clear H
         have H := H1
         clear H1
         have H' := Aside0.mk H
         clear H
         go_wp2
         go_loopg [5] kj11 (fun kq v5 w' => ∃ (x5_3 : Int), v5 = .int .i64 x5_3 ∧ Aside0 (vivariumref10_Check.l0 kq t151 x5_3 a0_0 a0_1 a0_2 l0_3 l0_4 = some r) ∧ Aside0 (kq ≤ kj11) ∧ Aside0 (w'.heap[gb150]? = some (.cells #[.int .i64 a0_0, .int .u8 a0_1, .int .u8 a0_2, (.slice A0_3 l0_3.length c0_3), (.slice A0_4 l0_4.length c0_4)] 25 (0, 0))) ∧ Aside0 (Below w.heap.size w w'))
         case atStart => exact ⟨(0), (by first | rfl | (simp; done) | (simp [*]; done)), H', ⟨Nat.le_refl _⟩, ⟨by (with_reducible repeat (first | refine blk_drewN ?_ _ | refine blk_drew ?_ | refine blk_alloc ?_ _)); exact BK150.out⟩, ⟨by repeat (first | (with_reducible first | exact HB.out | apply below_alloc | apply pw_below_drewN | apply below_drew1 | refine below_set ?_ GE150.out) | exact HB.out)⟩⟩
         case round =>
          clear H'
          try clear c1
          try clear c2
          try clear p2
          try clear c4
          try clear c4b0
          try clear c7
          try clear c9
          try clear c9b0
          try clear c9b1
          try clear c10
          try clear c11
          try clear c11b0
          try clear c11b1
          try clear c17
          try clear c17b0
          try clear c17b1
          try clear c20
          try clear hcz13_0
          try clear hcz13_1
          try clear hcz13_2
          try clear hcz13_3
          try clear hcz13_4
          try clear hcz15_0
          try clear hcz15_1
          try clear hcz15_2
          try clear hcz15_3
          try clear hcz15_4
          try clear hcz18_0
          try clear hcz18_1
          try clear hcz18_2
          try clear hcz18_3
          try clear hcz18_4
          try clear hcz19_0
          try clear hcz19_1
          try clear hcz19_2
          try clear hcz19_3
          try clear hcz19_4
          try clear hcz5_0
          try clear hcz5_1
          try clear hcz5_2
          try clear hcz5_3
          try clear hcz5_4
          try clear hcz6_0
          try clear hcz6_1
          try clear hcz6_2
          try clear hcz6_3
          try clear hcz6_4
          try clear hfz13_0
          try clear hfz13_1
          try clear hfz13_2
          try clear hfz13_3
          try clear hfz13_4
          try clear hfz15_0
          try clear hfz15_1
          try clear hfz15_2
          try clear hfz15_3
          try clear hfz15_4
          try clear hfz18_0
          try clear hfz18_1
          try clear hfz18_2
          try clear hfz18_3
          try clear hfz18_4
          try clear hfz19_0
          try clear hfz19_1
          try clear hfz19_2
          try clear hfz19_3
          try clear hfz19_4
          try clear hfz5_0
          try clear hfz5_1
          try clear hfz5_2
          try clear hfz5_3
          try clear hfz5_4
          try clear hfz6_0
          try clear hfz6_1
          try clear hfz6_2
          try clear hfz6_3
          try clear hfz6_4
          try clear p2
          obtain ⟨x5_3, rfl, HA, HK3, BK150, HB⟩ := hrel
          cases gk with
          | zero => exact absurd HA.out (by simp [vivariumref10_Check.l0])
          | succ k3 =>
           have H := HA.out
           clear HA
           simp only [vivariumref10_Check.l0] at H
           by_cases c21 : x5_3 < (l0_3.length : Int)
           ·rw [if_pos c21] at H
            have c21b0 : decide (x5_3 < (l0_3.length : Int)) = true := decide_eq_true c21
            clear c21
            replace H := Option.bind_eq_some_iff.mp H
            obtain ⟨t154, A220, H⟩ := H
            replace H : (if t154 = true then (vivariumref10_Check.l0 k3 t151 (wrap64 (x5_3 + 1)) a0_0 a0_1 a0_2 l0_3 l0_4) else (some 104)) = some r := H
            have A22 := Aside0.mk A220
            clear A220
            by_cases c23 : t154 = true
            ·subst c23
             have H1 : (vivariumref10_Check.l0 k3 t151 (wrap64 (x5_3 + 1)) a0_0 a0_1 a0_2 l0_3 l0_4) = some r := by rw [if_pos rfl] at H; exact H
             clear H
             have H := H1
             clear H1
             have H' := Aside0.mk H
             clear H
             have hcz24_0 : wr.cell? ⟨gb150, 0, none⟩ = some (.int .i64 a0_0) := (blk_cell BK150.out 0).trans rfl
             have hcz24_1 : wr.cell? ⟨gb150, 1, none⟩ = some (.int .u8 a0_1) := (blk_cell BK150.out 1).trans rfl
             have hcz24_2 : wr.cell? ⟨gb150, 2, none⟩ = some (.int .u8 a0_2) := (blk_cell BK150.out 2).trans rfl
             have hcz24_3 : wr.cell? ⟨gb150, 3, none⟩ = some (.slice A0_3 l0_3.length c0_3) := (blk_cell BK150.out 3).trans rfl
             have hcz24_4 : wr.cell? ⟨gb150, 4, none⟩ = some (.slice A0_4 l0_4.length c0_4) := (blk_cell BK150.out 4).trans rfl
             have hfz24_0 := blk_frozen BK150.out 0
             have hfz24_1 := blk_frozen BK150.out 1
             have hfz24_2 := blk_frozen BK150.out 2
             have hfz24_3 := blk_frozen BK150.out 3
             have hfz24_4 := blk_frozen BK150.out 4
             go_wp2_with (first | ((with_reducible refine gate_callee (f := 12) rfl ?_); refine goesL_ (some 52) rfl rfl Tryd.func12 (by kernel_rfl) rfl #[.agg #[.int .i64 a0_0, .int .u8 a0_1, .int .u8 a0_2, .slice A0_3 l0_3.length c0_3, .slice A0_4 l0_4.length c0_4], .int .i64 x5_3] rfl (by (try simp only [List.map_toArray, List.map_cons, List.map_nil]); first | done | rfl | (simp only [List.length_drop, List.length_take]; rfl)) ?_; (with_reducible refine (vivariumref10_variable.calls k3 a0_0 a0_1 a0_2 _ _ l0_3 _ _ l0_4 x5_3 true _ ?side1 ?side2 ?side3 ?side4 A22.out).mono ?_); (case side1 => repeat (first | exact (Kd.C_below HR0_3.out HB.out) | (with_reducible refine Kd.C_alloc ?_ _) | (with_reducible refine Kd.C_drewN ?_ _) | (with_reducible refine Kd.C_drew ?_))); (case side2 => exact HC0_3.out); (case side3 => repeat (first | exact (Kd.C_below HR0_4.out HB.out) | (with_reducible refine Kd.C_alloc ?_ _) | (with_reducible refine Kd.C_drewN ?_ _) | (with_reducible refine Kd.C_drew ?_))); (case side4 => exact HC0_4.out); rintro e w25 ⟨rfl, hb⟩; refine ⟨_, rfl, ?_⟩; have n0_ := Aside0.mk (blk_below (g := gb150) (o := .cells #[.int .i64 a0_0, .int .u8 a0_1, .int .u8 a0_2, .slice A0_3 l0_3.length c0_3, .slice A0_4 l0_4.length c0_4] 25 (0, 0)) (by (with_reducible repeat (first | refine blk_drewN ?_ _ | refine blk_drew ?_ | refine blk_alloc ?_ _)); exact BK150.out) hb); have n1_ := Aside0.mk (below_step (by repeat (first | (with_reducible first | exact HB.out | apply below_alloc | apply pw_below_drewN | apply below_drew1 | refine below_set ?_ GE150.out) | exact HB.out)) hb); clear BK150; clear HB; have BK150 := n0_; have HB := n1_; clear n0_ n1_; (try clear hb); (try clear hb2); (try clear hk); (try clear hi)))
             go_roundg k3
             case measure => have := HJ1.out; have := HJ11.out; have := HK3.out; omega
             case rel => exact ⟨(wrap64 (x5_3 + 1)), (by first | rfl | (simp; done) | (simp [*]; done)), H', ⟨by have := HJ1.out; have := HJ11.out; have := HK3.out; omega⟩, ⟨by (with_reducible repeat (first | refine blk_drewN ?_ _ | refine blk_drew ?_ | refine blk_alloc ?_ _)); exact BK150.out⟩, ⟨by repeat (first | (with_reducible first | exact HB.out | apply below_alloc | apply pw_below_drewN | apply below_drew1 | refine below_set ?_ GE150.out) | exact HB.out)⟩⟩
            ·replace c23 := Bool.eq_false_iff.mpr c23
             subst c23
             have H1 : (some 104) = some r := by rw [if_neg (show ¬ (false = true) by decide)] at H; exact H
             clear H
             have H := H1
             clear H1
             obtain rfl := Option.some.inj H
             have hcz26_0 : wr.cell? ⟨gb150, 0, none⟩ = some (.int .i64 a0_0) := (blk_cell BK150.out 0).trans rfl
             have hcz26_1 : wr.cell? ⟨gb150, 1, none⟩ = some (.int .u8 a0_1) := (blk_cell BK150.out 1).trans rfl
             have hcz26_2 : wr.cell? ⟨gb150, 2, none⟩ = some (.int .u8 a0_2) := (blk_cell BK150.out 2).trans rfl
             have hcz26_3 : wr.cell? ⟨gb150, 3, none⟩ = some (.slice A0_3 l0_3.length c0_3) := (blk_cell BK150.out 3).trans rfl
             have hcz26_4 : wr.cell? ⟨gb150, 4, none⟩ = some (.slice A0_4 l0_4.length c0_4) := (blk_cell BK150.out 4).trans rfl
             have hfz26_0 := blk_frozen BK150.out 0
             have hfz26_1 := blk_frozen BK150.out 1
             have hfz26_2 := blk_frozen BK150.out 2
             have hfz26_3 := blk_frozen BK150.out 3
             have hfz26_4 := blk_frozen BK150.out 4
             go_wp2_with (first | ((with_reducible refine gate_callee (f := 12) rfl ?_); refine goesL_ (some 52) rfl rfl Tryd.func12 (by kernel_rfl) rfl #[.agg #[.int .i64 a0_0, .int .u8 a0_1, .int .u8 a0_2, .slice A0_3 l0_3.length c0_3, .slice A0_4 l0_4.length c0_4], .int .i64 x5_3] rfl (by (try simp only [List.map_toArray, List.map_cons, List.map_nil]); first | done | rfl | (simp only [List.length_drop, List.length_take]; rfl)) ?_; (with_reducible refine (vivariumref10_variable.calls k3 a0_0 a0_1 a0_2 _ _ l0_3 _ _ l0_4 x5_3 false _ ?side1 ?side2 ?side3 ?side4 A22.out).mono ?_); (case side1 => repeat (first | exact (Kd.C_below HR0_3.out HB.out) | (with_reducible refine Kd.C_alloc ?_ _) | (with_reducible refine Kd.C_drewN ?_ _) | (with_reducible refine Kd.C_drew ?_))); (case side2 => exact HC0_3.out); (case side3 => repeat (first | exact (Kd.C_below HR0_4.out HB.out) | (with_reducible refine Kd.C_alloc ?_ _) | (with_reducible refine Kd.C_drewN ?_ _) | (with_reducible refine Kd.C_drew ?_))); (case side4 => exact HC0_4.out); rintro e w27 ⟨rfl, hb⟩; refine ⟨_, rfl, ?_⟩; have n0_ := Aside0.mk (blk_below (g := gb150) (o := .cells #[.int .i64 a0_0, .int .u8 a0_1, .int .u8 a0_2, .slice A0_3 l0_3.length c0_3, .slice A0_4 l0_4.length c0_4] 25 (0, 0)) (by (with_reducible repeat (first | refine blk_drewN ?_ _ | refine blk_drew ?_ | refine blk_alloc ?_ _)); exact BK150.out) hb); have n1_ := Aside0.mk (below_step (by repeat (first | (with_reducible first | exact HB.out | apply below_alloc | apply pw_below_drewN | apply below_drew1 | refine below_set ?_ GE150.out) | exact HB.out)) hb); clear BK150; clear HB; have BK150 := n0_; have HB := n1_; clear n0_ n1_; (try clear hb); (try clear hb2); (try clear hk); (try clear hi)))
             go_ret
             exact ⟨by first | rfl | (simp [errW_none, errW_some] <;> rfl) | (simp [*, errW_none, errW_some] <;> rfl), by repeat (first | (with_reducible first | exact HB.out | apply below_alloc | apply pw_below_drewN | apply below_drew1 | refine below_set ?_ GE150.out) | exact HB.out)⟩
           ·rw [if_neg c21] at H
            have c21b0 : decide (x5_3 < (l0_3.length : Int)) = false := decide_eq_false c21
            clear c21
            have H' := Aside0.mk H
            clear H
            have hcz28_0 : wr.cell? ⟨gb150, 0, none⟩ = some (.int .i64 a0_0) := (blk_cell BK150.out 0).trans rfl
            have hcz28_1 : wr.cell? ⟨gb150, 1, none⟩ = some (.int .u8 a0_1) := (blk_cell BK150.out 1).trans rfl
            have hcz28_2 : wr.cell? ⟨gb150, 2, none⟩ = some (.int .u8 a0_2) := (blk_cell BK150.out 2).trans rfl
            have hcz28_3 : wr.cell? ⟨gb150, 3, none⟩ = some (.slice A0_3 l0_3.length c0_3) := (blk_cell BK150.out 3).trans rfl
            have hcz28_4 : wr.cell? ⟨gb150, 4, none⟩ = some (.slice A0_4 l0_4.length c0_4) := (blk_cell BK150.out 4).trans rfl
            have hfz28_0 := blk_frozen BK150.out 0
            have hfz28_1 := blk_frozen BK150.out 1
            have hfz28_2 := blk_frozen BK150.out 2
            have hfz28_3 := blk_frozen BK150.out 3
            have hfz28_4 := blk_frozen BK150.out 4
            go_wp2
            go_loopg [6] k3 (fun kq v6 w' => ∃ (x6_4 : Int), v6 = .int .i64 x6_4 ∧ Aside0 (vivariumref10_Check.l1 kq t151 x6_4 a0_0 a0_1 a0_2 l0_3 l0_4 = some r) ∧ Aside0 (kq ≤ k3) ∧ Aside0 (w'.heap[gb150]? = some (.cells #[.int .i64 a0_0, .int .u8 a0_1, .int .u8 a0_2, (.slice A0_3 l0_3.length c0_3), (.slice A0_4 l0_4.length c0_4)] 25 (0, 0))) ∧ Aside0 (Below w.heap.size w w'))
            case atStart => exact ⟨(0), (by first | rfl | (simp; done) | (simp [*]; done)), H', ⟨Nat.le_refl _⟩, ⟨by (with_reducible repeat (first | refine blk_drewN ?_ _ | refine blk_drew ?_ | refine blk_alloc ?_ _)); exact BK150.out⟩, ⟨by repeat (first | (with_reducible first | exact HB.out | apply below_alloc | apply pw_below_drewN | apply below_drew1 | refine below_set ?_ GE150.out) | exact HB.out)⟩⟩
            case round =>
             clear H'
             try clear c1
             try clear c2
             try clear p2
             try clear c4
             try clear c4b0
             try clear p6
             try clear c7
             try clear c9
             try clear c9b0
             try clear c9b1
             try clear c10
             try clear c11
             try clear c11b0
             try clear c11b1
             try clear c12
             try clear c17
             try clear c17b0
             try clear c17b1
             try clear c20
             try clear c21
             try clear c21b0
             try clear c23
             try clear hcz13_0
             try clear hcz13_1
             try clear hcz13_2
             try clear hcz13_3
             try clear hcz13_4
             try clear hcz15_0
             try clear hcz15_1
             try clear hcz15_2
             try clear hcz15_3
             try clear hcz15_4
             try clear hcz18_0
             try clear hcz18_1
             try clear hcz18_2
             try clear hcz18_3
             try clear hcz18_4
             try clear hcz19_0
             try clear hcz19_1
             try clear hcz19_2
             try clear hcz19_3
             try clear hcz19_4
             try clear hcz24_0
             try clear hcz24_1
             try clear hcz24_2
             try clear hcz24_3
             try clear hcz24_4
             try clear hcz26_0
             try clear hcz26_1
             try clear hcz26_2
             try clear hcz26_3
             try clear hcz26_4
             try clear hcz28_0
             try clear hcz28_1
             try clear hcz28_2
             try clear hcz28_3
             try clear hcz28_4
             try clear hcz5_0
             try clear hcz5_1
             try clear hcz5_2
             try clear hcz5_3
             try clear hcz5_4
             try clear hcz6_0
             try clear hcz6_1
             try clear hcz6_2
             try clear hcz6_3
             try clear hcz6_4
             try clear hfz13_0
             try clear hfz13_1
             try clear hfz13_2
             try clear hfz13_3
             try clear hfz13_4
             try clear hfz15_0
             try clear hfz15_1
             try clear hfz15_2
             try clear hfz15_3
             try clear hfz15_4
             try clear hfz18_0
             try clear hfz18_1
             try clear hfz18_2
             try clear hfz18_3
             try clear hfz18_4
             try clear hfz19_0
             try clear hfz19_1
             try clear hfz19_2
             try clear hfz19_3
             try clear hfz19_4
             try clear hfz24_0
             try clear hfz24_1
             try clear hfz24_2
             try clear hfz24_3
             try clear hfz24_4
             try clear hfz26_0
             try clear hfz26_1
             try clear hfz26_2
             try clear hfz26_3
             try clear hfz26_4
             try clear hfz28_0
             try clear hfz28_1
             try clear hfz28_2
             try clear hfz28_3
             try clear hfz28_4
             try clear hfz5_0
             try clear hfz5_1
             try clear hfz5_2
             try clear hfz5_3
             try clear hfz5_4
             try clear hfz6_0
             try clear hfz6_1
             try clear hfz6_2
             try clear hfz6_3
             try clear hfz6_4
             try clear p2
             obtain ⟨x6_4, rfl, HA, HK4, BK150, HB⟩ := hrel
             cases gk with
             | zero => exact absurd HA.out (by simp [vivariumref10_Check.l1])
             | succ k4 =>
              have H := HA.out
              clear HA
              simp only [vivariumref10_Check.l1] at H
              by_cases c29 : x6_4 < (l0_4.length : Int)
              ·rw [if_pos c29] at H
               have c29b0 : decide (x6_4 < (l0_4.length : Int)) = true := decide_eq_true c29
               clear c29
               by_cases c30 : 0 ≤ x6_4
               ·rw [if_pos c30] at H
                have c30b0 : decide (0 ≤ x6_4) = true := decide_eq_true c30
                clear c30
                by_cases c31 : (((rd_T41 l0_4 x6_4).f1).length : Int) = t151
                ·rw [if_pos c31] at H
                 have c31b0 : ((((rd_T41 l0_4 x6_4).f1).length : Int) == t151) = true := beq_iff_eq.mpr c31
                 have c31b1 : ((((rd_T41 l0_4 x6_4).f1).length : Int) != t151) = false := bne_eq_false_iff_eq.mpr c31
                 clear c31
                 obtain ⟨y157, hy157⟩ : ∃ y_ : List (S38), y_ = (([(⟨(rd_T41 l0_4 x6_4).f0.f0, (rd_T41 l0_4 x6_4).f0.f1⟩ : S38), (⟨(rd_T41 l0_4 x6_4).f2.f0, (rd_T41 l0_4 x6_4).f2.f1⟩ : S38)] : List (S38))) := ⟨_, rfl⟩
                 replace H : ((vivariumref10_terms.f k4 a0_0 a0_1 a0_2 l0_3 l0_4 y157).bind fun t160 => (if t160 = true then ((vivariumref10_terms.f k4 a0_0 a0_1 a0_2 l0_3 l0_4 ((rd_T41 l0_4 x6_4).f1)).bind fun t161 => (if t161 = true then ((vivariumref10_bound.f k4 ((rd_T41 l0_4 x6_4).f0.f0) ((rd_T41 l0_4 x6_4).f0.f1) ((rd_T41 l0_4 x6_4).f1) ((rd_T41 l0_4 x6_4).f2.f0) ((rd_T41 l0_4 x6_4).f2.f1)).bind fun t162 => (if t162 = true then (vivariumref10_Check.l1 k4 t151 (wrap64 (x6_4 + 1)) a0_0 a0_1 a0_2 l0_3 l0_4) else (some 105))) else (some 105))) else (some 105))) = some r := by first | (rw [hy157]; with_reducible exact H) | (have H2_ := (Option.bind_some _ _).symm.trans H; rw [hy157]; with_reducible exact H2_) | (have H2_ := (Option.bind_some _ _).symm.trans H; with_reducible exact H2_) | with_reducible exact H | (rw [hy157]; exact H) | exact H
                 have Ny157 := Aside0.mk hy157
                 clear hy157
                 replace H := Option.bind_eq_some_iff.mp H
                 obtain ⟨t160, A320, H⟩ := H
                 replace H : (if t160 = true then ((vivariumref10_terms.f k4 a0_0 a0_1 a0_2 l0_3 l0_4 ((rd_T41 l0_4 x6_4).f1)).bind fun t161 => (if t161 = true then ((vivariumref10_bound.f k4 ((rd_T41 l0_4 x6_4).f0.f0) ((rd_T41 l0_4 x6_4).f0.f1) ((rd_T41 l0_4 x6_4).f1) ((rd_T41 l0_4 x6_4).f2.f0) ((rd_T41 l0_4 x6_4).f2.f1)).bind fun t162 => (if t162 = true then (vivariumref10_Check.l1 k4 t151 (wrap64 (x6_4 + 1)) a0_0 a0_1 a0_2 l0_3 l0_4) else (some 105))) else (some 105))) else (some 105)) = some r := H
                 have A32 := Aside0.mk A320
                 clear A320
                 by_cases c33 : t160 = true
                 ·subst c33
                  have H1 : ((vivariumref10_terms.f k4 a0_0 a0_1 a0_2 l0_3 l0_4 ((rd_T41 l0_4 x6_4).f1)).bind fun t161 => (if t161 = true then ((vivariumref10_bound.f k4 ((rd_T41 l0_4 x6_4).f0.f0) ((rd_T41 l0_4 x6_4).f0.f1) ((rd_T41 l0_4 x6_4).f1) ((rd_T41 l0_4 x6_4).f2.f0) ((rd_T41 l0_4 x6_4).f2.f1)).bind fun t162 => (if t162 = true then (vivariumref10_Check.l1 k4 t151 (wrap64 (x6_4 + 1)) a0_0 a0_1 a0_2 l0_3 l0_4) else (some 105))) else (some 105))) = some r := by rw [if_pos rfl] at H; exact H
                  clear H
                  have H := H1
                  clear H1
                  replace H := Option.bind_eq_some_iff.mp H
                  obtain ⟨t161, A340, H⟩ := H
                  replace H : (if t161 = true then ((vivariumref10_bound.f k4 ((rd_T41 l0_4 x6_4).f0.f0) ((rd_T41 l0_4 x6_4).f0.f1) ((rd_T41 l0_4 x6_4).f1) ((rd_T41 l0_4 x6_4).f2.f0) ((rd_T41 l0_4 x6_4).f2.f1)).bind fun t162 => (if t162 = true then (vivariumref10_Check.l1 k4 t151 (wrap64 (x6_4 + 1)) a0_0 a0_1 a0_2 l0_3 l0_4) else (some 105))) else (some 105)) = some r := H
                  have A34 := Aside0.mk A340
                  clear A340
                  by_cases c35 : t161 = true
                  ·subst c35
                   have H1 : ((vivariumref10_bound.f k4 ((rd_T41 l0_4 x6_4).f0.f0) ((rd_T41 l0_4 x6_4).f0.f1) ((rd_T41 l0_4 x6_4).f1) ((rd_T41 l0_4 x6_4).f2.f0) ((rd_T41 l0_4 x6_4).f2.f1)).bind fun t162 => (if t162 = true then (vivariumref10_Check.l1 k4 t151 (wrap64 (x6_4 + 1)) a0_0 a0_1 a0_2 l0_3 l0_4) else (some 105))) = some r := by rw [if_pos rfl] at H; exact H
                   clear H
                   have H := H1
                   clear H1
                   replace H := Option.bind_eq_some_iff.mp H
                   obtain ⟨t162, A360, H⟩ := H
                   replace H : (if t162 = true then (vivariumref10_Check.l1 k4 t151 (wrap64 (x6_4 + 1)) a0_0 a0_1 a0_2 l0_3 l0_4) else (some 105)) = some r := H
                   have A36 := Aside0.mk A360
                   clear A360
                   by_cases c37 : t162 = true
                   ·subst c37
                    have H1 : (vivariumref10_Check.l1 k4 t151 (wrap64 (x6_4 + 1)) a0_0 a0_1 a0_2 l0_3 l0_4) = some r := by rw [if_pos rfl] at H; exact H
                    clear H
                    have H := H1
                    clear H1
                    have H' := Aside0.mk H
                    clear H
                    have hcz38_0 : wr.cell? ⟨gb150, 0, none⟩ = some (.int .i64 a0_0) := (blk_cell BK150.out 0).trans rfl
                    have hcz38_1 : wr.cell? ⟨gb150, 1, none⟩ = some (.int .u8 a0_1) := (blk_cell BK150.out 1).trans rfl
                    have hcz38_2 : wr.cell? ⟨gb150, 2, none⟩ = some (.int .u8 a0_2) := (blk_cell BK150.out 2).trans rfl
                    have hcz38_3 : wr.cell? ⟨gb150, 3, none⟩ = some (.slice A0_3 l0_3.length c0_3) := (blk_cell BK150.out 3).trans rfl
                    have hcz38_4 : wr.cell? ⟨gb150, 4, none⟩ = some (.slice A0_4 l0_4.length c0_4) := (blk_cell BK150.out 4).trans rfl
                    have hfz38_0 := blk_frozen BK150.out 0
                    have hfz38_1 := blk_frozen BK150.out 1
                    have hfz38_2 := blk_frozen BK150.out 2
                    have hfz38_3 := blk_frozen BK150.out 3
                    have hfz38_4 := blk_frozen BK150.out 4
                    have p155 : 0 ≤ (x6_4 : Int) := of_decide_eq_true (by first | (with_reducible assumption) | assumption)
                    have q155 : x6_4 < (l0_4.length : Int) := of_decide_eq_true (by first | (with_reducible assumption) | assumption)
                    obtain ⟨ad155, A155_2, c155_2, e155, hx155_0, hx155_1, hx155_2, hx155_3, hx155_4, hl155_2, hi155_2⟩ := at_T41 HR0_4.out x6_4 p155 q155
                    cases e155
                    replace hx155_0 := (HB.out.cell (World.block_lt_of_cell? w _ hx155_0)).trans hx155_0
                    replace hx155_1 := (HB.out.cell (World.block_lt_of_cell? w _ hx155_1)).trans hx155_1
                    replace hx155_2 := (HB.out.cell (World.block_lt_of_cell? w _ hx155_2)).trans hx155_2
                    replace hx155_3 := (HB.out.cell (World.block_lt_of_cell? w _ hx155_3)).trans hx155_3
                    replace hx155_4 := (HB.out.cell (World.block_lt_of_cell? w _ hx155_4)).trans hx155_4
                    have HR155_2 := Aside0.mk hi155_2
                    have HC155_2 := Aside0.mk hl155_2
                    clear hi155_2 hl155_2
                    replace p155 := eq_true p155
                    replace q155 := eq_true q155
                    go_wp2_with (first | ((with_reducible refine gate_dst (N := 7) rfl ?_); (try (refine gate_guard (by rfl) ?_; dsimp only)); refine box_event ?hg (N := 7) ?hd (cs := #[.int .u8 0, .int .i64 0, .slice none 0 0, .int .u8 0, .int .i64 0]) (t := 41) ?hr ?_; (case hd => rfl); (case hg => rfl); (case hr => first | (go_simp; done) | (go_simp; rfl)); intro gb156 hg w39 hbox hb; have n0_ := Aside0.mk (blk_below (g := gb150) (o := .cells #[.int .i64 a0_0, .int .u8 a0_1, .int .u8 a0_2, .slice A0_3 l0_3.length c0_3, .slice (some ad155) l0_4.length c0_4] 25 (0, 0)) (by (with_reducible repeat (first | refine blk_drewN ?_ _ | refine blk_drew ?_ | refine blk_alloc ?_ _)); exact BK150.out) hb); have n1_ := Aside0.mk (below_step (by repeat (first | (with_reducible first | exact HB.out | apply below_alloc | apply pw_below_drewN | apply below_drew1 | refine below_set ?_ GE150.out) | exact HB.out)) hb); have n2_ := Aside0.mk (hbox); have n3_ := Aside0.mk ((by rw [hg]; exact (below_size (by repeat (first | (with_reducible first | exact HB.out | apply below_alloc | apply pw_below_drewN | apply below_drew1 | refine below_set ?_ GE150.out) | exact HB.out))) : w.heap.size ≤ gb156)); have n4_ := Aside0.mk ((by rw [hg]; exact (below_size (by repeat (first | (with_reducible first | exact HB.out | apply below_alloc | apply pw_below_drewN | apply below_drew1 | refine below_set ?_ GE150.out) | exact HB.out))) : w.heap.size ≤ gb156)); have n5_ := Aside0.mk ((by rw [hg]; exact Nat.ne_of_lt (blk_lt (g := gb150) (o := .cells #[.int .i64 a0_0, .int .u8 a0_1, .int .u8 a0_2, .slice A0_3 l0_3.length c0_3, .slice (some ad155) l0_4.length c0_4] 25 (0, 0)) (by (with_reducible repeat (first | refine blk_drewN ?_ _ | refine blk_drew ?_ | refine blk_alloc ?_ _)); exact BK150.out)) : gb150 ≠ gb156)); have n6_ := Aside0.mk ((by rw [hg]; exact Nat.ne_of_gt (blk_lt (g := gb150) (o := .cells #[.int .i64 a0_0, .int .u8 a0_1, .int .u8 a0_2, .slice A0_3 l0_3.length c0_3, .slice (some ad155) l0_4.length c0_4] 25 (0, 0)) (by (with_reducible repeat (first | refine blk_drewN ?_ _ | refine blk_drew ?_ | refine blk_alloc ?_ _)); exact BK150.out)) : gb156 ≠ gb150)); clear BK150; clear HB; have BK150 := n0_; have HB := n1_; have BK156 := n2_; have GW156 := n3_; have GE156 := n4_; have NB150_156 := n5_; have NB156_150 := n6_; clear n0_ n1_ n2_ n3_ n4_ n5_ n6_; clear hb hbox hg; have hnb40 := NB156_150.out; have hnc40 := NB150_156.out; have hcz41_0 : w39.cell? ⟨gb156, 0, none⟩ = some (.int .u8 0) := (blk_cell BK156.out 0).trans rfl; have hcz41_1 : w39.cell? ⟨gb156, 1, none⟩ = some (.int .i64 0) := (blk_cell BK156.out 1).trans rfl; have hcz41_2 : w39.cell? ⟨gb156, 2, none⟩ = some (.slice none 0 0) := (blk_cell BK156.out 2).trans rfl; have hcz41_3 : w39.cell? ⟨gb156, 3, none⟩ = some (.int .u8 0) := (blk_cell BK156.out 3).trans rfl; have hcz41_4 : w39.cell? ⟨gb156, 4, none⟩ = some (.int .i64 0) := (blk_cell BK156.out 4).trans rfl; have hfz41_0 := blk_frozen BK156.out 0; have hfz41_1 := blk_frozen BK156.out 1; have hfz41_2 := blk_frozen BK156.out 2; have hfz41_3 := blk_frozen BK156.out 3; have hfz41_4 := blk_frozen BK156.out 4; have hcz42_0 : w39.cell? ⟨gb150, 0, none⟩ = some (.int .i64 a0_0) := (blk_cell BK150.out 0).trans rfl; have hcz42_1 : w39.cell? ⟨gb150, 1, none⟩ = some (.int .u8 a0_1) := (blk_cell BK150.out 1).trans rfl; have hcz42_2 : w39.cell? ⟨gb150, 2, none⟩ = some (.int .u8 a0_2) := (blk_cell BK150.out 2).trans rfl; have hcz42_3 : w39.cell? ⟨gb150, 3, none⟩ = some (.slice A0_3 l0_3.length c0_3) := (blk_cell BK150.out 3).trans rfl; have hcz42_4 : w39.cell? ⟨gb150, 4, none⟩ = some (.slice (some ad155) l0_4.length c0_4) := (blk_cell BK150.out 4).trans rfl; have hfz42_0 := blk_frozen BK150.out 0; have hfz42_1 := blk_frozen BK150.out 1; have hfz42_2 := blk_frozen BK150.out 2; have hfz42_3 := blk_frozen BK150.out 3; have hfz42_4 := blk_frozen BK150.out 4) | ((with_reducible refine gate_dst (N := 77) rfl ?_); (try (refine gate_guard (by rfl) ?_; dsimp only)); refine Kd.R_lit k38 _ 38 ?hg (N := 77) ?hd (xs := ([(⟨(rd_T41 l0_4 x6_4).f0.f0, (rd_T41 l0_4 x6_4).f0.f1⟩ : S38), (⟨(rd_T41 l0_4 x6_4).f2.f0, (rd_T41 l0_4 x6_4).f2.f1⟩ : S38)] : List (S38))) (inner := [.int .u8 ((rd_T41 l0_4 x6_4).f0.f0), .int .i64 ((rd_T41 l0_4 x6_4).f0.f1), .int .u8 ((rd_T41 l0_4 x6_4).f2.f0), .int .i64 ((rd_T41 l0_4 x6_4).f2.f1)]) (ok := fun _ => True) (okp := fun _ => True) ?hr ?hp (fun _ hk => hk) trivial (Below.refl _ _) (Nat.le_refl _) (by simp) ?_; (case hd => rfl); (case hg => rfl); (case hr => first | (go_simp; done) | (go_simp; rfl)); (case hp => exact (Reps.c2 (show Kd.M k38 _ _ _ (⟨(rd_T41 l0_4 x6_4).f0.f0, (rd_T41 l0_4 x6_4).f0.f1⟩ : S38) [.int .u8 ((rd_T41 l0_4 x6_4).f0.f0), .int .i64 ((rd_T41 l0_4 x6_4).f0.f1)] from (k38_mkM _ _ _ (⟨(rd_T41 l0_4 x6_4).f0.f0, (rd_T41 l0_4 x6_4).f0.f1⟩ : S38) )) (Reps.c2 (show Kd.M k38 _ _ _ (⟨(rd_T41 l0_4 x6_4).f2.f0, (rd_T41 l0_4 x6_4).f2.f1⟩ : S38) [.int .u8 ((rd_T41 l0_4 x6_4).f2.f0), .int .i64 ((rd_T41 l0_4 x6_4).f2.f1)] from (k38_mkM _ _ _ (⟨(rd_T41 l0_4 x6_4).f2.f0, (rd_T41 l0_4 x6_4).f2.f1⟩ : S38) )) (Reps.none _ _)))); intro v158 w43 ho44 hb hg_ hnew_; clear hg_ hnew_; (first | rw [← Ny157.out] at ho44 | (simp only [Int.reduceToNat] at ho44; rw [← Ny157.out] at ho44)); have n0_ := Aside0.mk (Kd.R_lower ho44 (below_size (by repeat (first | (with_reducible first | exact HB.out | apply below_alloc | apply pw_below_drewN | apply below_drew1 | refine below_set ?_ GE150.out | refine below_set ?_ GE156.out) | exact HB.out)))); have n1_ := Aside0.mk (blk_below (g := gb150) (o := .cells #[.int .i64 a0_0, .int .u8 a0_1, .int .u8 a0_2, .slice A0_3 l0_3.length c0_3, .slice (some ad155) l0_4.length c0_4] 25 (0, 0)) (by (with_reducible repeat (first | refine blk_drewN ?_ _ | refine blk_drew ?_ | refine blk_alloc ?_ _)); refine blk_far ?_ NB150_156.out _; (with_reducible repeat (first | refine blk_drewN ?_ _ | refine blk_drew ?_ | refine blk_alloc ?_ _)); refine blk_far ?_ NB150_156.out _; (with_reducible repeat (first | refine blk_drewN ?_ _ | refine blk_drew ?_ | refine blk_alloc ?_ _)); refine blk_far ?_ NB150_156.out _; (with_reducible repeat (first | refine blk_drewN ?_ _ | refine blk_drew ?_ | refine blk_alloc ?_ _)); refine blk_far ?_ NB150_156.out _; (with_reducible repeat (first | refine blk_drewN ?_ _ | refine blk_drew ?_ | refine blk_alloc ?_ _)); refine blk_far ?_ NB150_156.out _; (with_reducible repeat (first | refine blk_drewN ?_ _ | refine blk_drew ?_ | refine blk_alloc ?_ _)); exact BK150.out) hb); have n2_ := Aside0.mk (blk_below (g := gb156) (o := .cells #[.int .u8 ((rd_T41 l0_4 x6_4).f0.f0), .int .i64 ((rd_T41 l0_4 x6_4).f0.f1), .slice A155_2 ((rd_T41 l0_4 x6_4).f1).length c155_2, .int .u8 ((rd_T41 l0_4 x6_4).f2.f0), .int .i64 ((rd_T41 l0_4 x6_4).f2.f1)] 41 (0, 0)) (by (with_reducible repeat (first | refine blk_drewN ?_ _ | refine blk_drew ?_ | refine blk_alloc ?_ _)); refine blk_put (cs := #[.int .u8 ((rd_T41 l0_4 x6_4).f0.f0), .int .i64 ((rd_T41 l0_4 x6_4).f0.f1), .slice A155_2 ((rd_T41 l0_4 x6_4).f1).length c155_2, .int .u8 ((rd_T41 l0_4 x6_4).f2.f0), .int .i64 0]) ?_ 4 _ rfl; (with_reducible repeat (first | refine blk_drewN ?_ _ | refine blk_drew ?_ | refine blk_alloc ?_ _)); refine blk_put (cs := #[.int .u8 ((rd_T41 l0_4 x6_4).f0.f0), .int .i64 ((rd_T41 l0_4 x6_4).f0.f1), .slice A155_2 ((rd_T41 l0_4 x6_4).f1).length c155_2, .int .u8 0, .int .i64 0]) ?_ 3 _ rfl; (with_reducible repeat (first | refine blk_drewN ?_ _ | refine blk_drew ?_ | refine blk_alloc ?_ _)); refine blk_put (cs := #[.int .u8 ((rd_T41 l0_4 x6_4).f0.f0), .int .i64 ((rd_T41 l0_4 x6_4).f0.f1), .slice none 0 0, .int .u8 0, .int .i64 0]) ?_ 2 _ rfl; (with_reducible repeat (first | refine blk_drewN ?_ _ | refine blk_drew ?_ | refine blk_alloc ?_ _)); refine blk_put (cs := #[.int .u8 ((rd_T41 l0_4 x6_4).f0.f0), .int .i64 0, .slice none 0 0, .int .u8 0, .int .i64 0]) ?_ 1 _ rfl; (with_reducible repeat (first | refine blk_drewN ?_ _ | refine blk_drew ?_ | refine blk_alloc ?_ _)); refine blk_put (cs := #[.int .u8 0, .int .i64 0, .slice none 0 0, .int .u8 0, .int .i64 0]) ?_ 0 _ rfl; (with_reducible repeat (first | refine blk_drewN ?_ _ | refine blk_drew ?_ | refine blk_alloc ?_ _)); exact BK156.out) hb); have n3_ := Aside0.mk (below_step (by repeat (first | (with_reducible first | exact HB.out | apply below_alloc | apply pw_below_drewN | apply below_drew1 | refine below_set ?_ GE150.out | refine below_set ?_ GE156.out) | exact HB.out)) hb); clear BK150; clear BK156; clear HB; have HO159 := n0_; have BK150 := n1_; have BK156 := n2_; have HB := n3_; clear n0_ n1_ n2_ n3_; clear hb ho44; obtain ⟨Ao45, co45, eo45⟩ := Kd.R_slice HO159.out; subst eo45) | (go_at_call 13; (with_reducible refine (vivariumref10_terms.calls k4 a0_0 a0_1 a0_2 _ _ l0_3 _ _ l0_4 _ _ y157 true _ ?side1 ?side2 ?side3 ?side4 ?side5 ?side6 A32.out).mono ?_); (case side1 => repeat (first | exact (Kd.C_below HR0_3.out HB.out) | (with_reducible refine Kd.C_alloc ?_ _) | (with_reducible refine Kd.C_drewN ?_ _) | (with_reducible refine Kd.C_drew ?_))); (case side2 => exact HC0_3.out); (case side3 => repeat (first | exact (Kd.C_below HR0_4.out HB.out) | (with_reducible refine Kd.C_alloc ?_ _) | (with_reducible refine Kd.C_drewN ?_ _) | (with_reducible refine Kd.C_drew ?_))); (case side4 => exact HC0_4.out); (case side5 => repeat (first | exact (Kd.R_reads' HO159.out).2.2 | (with_reducible refine Kd.C_alloc ?_ _) | (with_reducible refine Kd.C_drewN ?_ _) | (with_reducible refine Kd.C_drew ?_))); (case side6 => exact (Kd.R_reads' HO159.out).2.1); rintro e w46 ⟨rfl, hb⟩; have n0_ := Aside0.mk (Kd.R_below (by (with_reducible repeat (first | apply Kd.R_alloc | apply Kd.R_drewN | apply Kd.R_drew)); exact HO159.out) hb); have n1_ := Aside0.mk (blk_below (g := gb150) (o := .cells #[.int .i64 a0_0, .int .u8 a0_1, .int .u8 a0_2, .slice A0_3 l0_3.length c0_3, .slice (some ad155) l0_4.length c0_4] 25 (0, 0)) (by (with_reducible repeat (first | refine blk_drewN ?_ _ | refine blk_drew ?_ | refine blk_alloc ?_ _)); exact BK150.out) hb); have n2_ := Aside0.mk (blk_below (g := gb156) (o := .cells #[.int .u8 ((rd_T41 l0_4 x6_4).f0.f0), .int .i64 ((rd_T41 l0_4 x6_4).f0.f1), .slice A155_2 ((rd_T41 l0_4 x6_4).f1).length c155_2, .int .u8 ((rd_T41 l0_4 x6_4).f2.f0), .int .i64 ((rd_T41 l0_4 x6_4).f2.f1)] 41 (0, 0)) (by (with_reducible repeat (first | refine blk_drewN ?_ _ | refine blk_drew ?_ | refine blk_alloc ?_ _)); exact BK156.out) hb); have n3_ := Aside0.mk (below_step (by repeat (first | (with_reducible first | exact HB.out | apply below_alloc | apply pw_below_drewN | apply below_drew1 | refine below_set ?_ GE150.out | refine below_set ?_ GE156.out) | exact HB.out)) hb); clear HO159; clear BK150; clear BK156; clear HB; have HO159 := n0_; have BK150 := n1_; have BK156 := n2_; have HB := n3_; clear n0_ n1_ n2_ n3_; (try clear hb); (try clear hb2); (try clear hk); (try clear hi); have hcz47_0 : w46.cell? ⟨gb150, 0, none⟩ = some (.int .i64 a0_0) := (blk_cell BK150.out 0).trans rfl; have hcz47_1 : w46.cell? ⟨gb150, 1, none⟩ = some (.int .u8 a0_1) := (blk_cell BK150.out 1).trans rfl; have hcz47_2 : w46.cell? ⟨gb150, 2, none⟩ = some (.int .u8 a0_2) := (blk_cell BK150.out 2).trans rfl; have hcz47_3 : w46.cell? ⟨gb150, 3, none⟩ = some (.slice A0_3 l0_3.length c0_3) := (blk_cell BK150.out 3).trans rfl; have hcz47_4 : w46.cell? ⟨gb150, 4, none⟩ = some (.slice (some ad155) l0_4.length c0_4) := (blk_cell BK150.out 4).trans rfl; have hfz47_0 := blk_frozen BK150.out 0; have hfz47_1 := blk_frozen BK150.out 1; have hfz47_2 := blk_frozen BK150.out 2; have hfz47_3 := blk_frozen BK150.out 3; have hfz47_4 := blk_frozen BK150.out 4; have hcz48_0 : w46.cell? ⟨gb156, 0, none⟩ = some (.int .u8 ((rd_T41 l0_4 x6_4).f0.f0)) := (blk_cell BK156.out 0).trans rfl; have hcz48_1 : w46.cell? ⟨gb156, 1, none⟩ = some (.int .i64 ((rd_T41 l0_4 x6_4).f0.f1)) := (blk_cell BK156.out 1).trans rfl; have hcz48_2 : w46.cell? ⟨gb156, 2, none⟩ = some (.slice A155_2 ((rd_T41 l0_4 x6_4).f1).length c155_2) := (blk_cell BK156.out 2).trans rfl; have hcz48_3 : w46.cell? ⟨gb156, 3, none⟩ = some (.int .u8 ((rd_T41 l0_4 x6_4).f2.f0)) := (blk_cell BK156.out 3).trans rfl; have hcz48_4 : w46.cell? ⟨gb156, 4, none⟩ = some (.int .i64 ((rd_T41 l0_4 x6_4).f2.f1)) := (blk_cell BK156.out 4).trans rfl; have hfz48_0 := blk_frozen BK156.out 0; have hfz48_1 := blk_frozen BK156.out 1; have hfz48_2 := blk_frozen BK156.out 2; have hfz48_3 := blk_frozen BK156.out 3; have hfz48_4 := blk_frozen BK156.out 4) | (go_at_call 13; (with_reducible refine (vivariumref10_terms.calls k4 a0_0 a0_1 a0_2 _ _ l0_3 _ _ l0_4 _ _ ((rd_T41 l0_4 x6_4).f1) true _ ?side1 ?side2 ?side3 ?side4 ?side5 ?side6 A34.out).mono ?_); (case side1 => repeat (first | exact (Kd.C_below HR0_3.out HB.out) | (with_reducible refine Kd.C_alloc ?_ _) | (with_reducible refine Kd.C_drewN ?_ _) | (with_reducible refine Kd.C_drew ?_))); (case side2 => exact HC0_3.out); (case side3 => repeat (first | exact (Kd.C_below HR0_4.out HB.out) | (with_reducible refine Kd.C_alloc ?_ _) | (with_reducible refine Kd.C_drewN ?_ _) | (with_reducible refine Kd.C_drew ?_))); (case side4 => exact HC0_4.out); (case side5 => repeat (first | exact (Kd.C_below HR155_2.out HB.out) | (with_reducible refine Kd.C_alloc ?_ _) | (with_reducible refine Kd.C_drewN ?_ _) | (with_reducible refine Kd.C_drew ?_))); (case side6 => exact HC155_2.out); rintro e w49 ⟨rfl, hb⟩; have n0_ := Aside0.mk (Kd.R_below (by (with_reducible repeat (first | apply Kd.R_alloc | apply Kd.R_drewN | apply Kd.R_drew)); exact HO159.out) hb); have n1_ := Aside0.mk (blk_below (g := gb150) (o := .cells #[.int .i64 a0_0, .int .u8 a0_1, .int .u8 a0_2, .slice A0_3 l0_3.length c0_3, .slice (some ad155) l0_4.length c0_4] 25 (0, 0)) (by (with_reducible repeat (first | refine blk_drewN ?_ _ | refine blk_drew ?_ | refine blk_alloc ?_ _)); exact BK150.out) hb); have n2_ := Aside0.mk (blk_below (g := gb156) (o := .cells #[.int .u8 ((rd_T41 l0_4 x6_4).f0.f0), .int .i64 ((rd_T41 l0_4 x6_4).f0.f1), .slice A155_2 ((rd_T41 l0_4 x6_4).f1).length c155_2, .int .u8 ((rd_T41 l0_4 x6_4).f2.f0), .int .i64 ((rd_T41 l0_4 x6_4).f2.f1)] 41 (0, 0)) (by (with_reducible repeat (first | refine blk_drewN ?_ _ | refine blk_drew ?_ | refine blk_alloc ?_ _)); exact BK156.out) hb); have n3_ := Aside0.mk (below_step (by repeat (first | (with_reducible first | exact HB.out | apply below_alloc | apply pw_below_drewN | apply below_drew1 | refine below_set ?_ GE150.out | refine below_set ?_ GE156.out) | exact HB.out)) hb); clear HO159; clear BK150; clear BK156; clear HB; have HO159 := n0_; have BK150 := n1_; have BK156 := n2_; have HB := n3_; clear n0_ n1_ n2_ n3_; (try clear hb); (try clear hb2); (try clear hk); (try clear hi); have hcz50_0 : w49.cell? ⟨gb156, 0, none⟩ = some (.int .u8 ((rd_T41 l0_4 x6_4).f0.f0)) := (blk_cell BK156.out 0).trans rfl; have hcz50_1 : w49.cell? ⟨gb156, 1, none⟩ = some (.int .i64 ((rd_T41 l0_4 x6_4).f0.f1)) := (blk_cell BK156.out 1).trans rfl; have hcz50_2 : w49.cell? ⟨gb156, 2, none⟩ = some (.slice A155_2 ((rd_T41 l0_4 x6_4).f1).length c155_2) := (blk_cell BK156.out 2).trans rfl; have hcz50_3 : w49.cell? ⟨gb156, 3, none⟩ = some (.int .u8 ((rd_T41 l0_4 x6_4).f2.f0)) := (blk_cell BK156.out 3).trans rfl; have hcz50_4 : w49.cell? ⟨gb156, 4, none⟩ = some (.int .i64 ((rd_T41 l0_4 x6_4).f2.f1)) := (blk_cell BK156.out 4).trans rfl; have hfz50_0 := blk_frozen BK156.out 0; have hfz50_1 := blk_frozen BK156.out 1; have hfz50_2 := blk_frozen BK156.out 2; have hfz50_3 := blk_frozen BK156.out 3; have hfz50_4 := blk_frozen BK156.out 4) | (go_at_call 14; (with_reducible refine (vivariumref10_bound.calls k4 ((rd_T41 l0_4 x6_4).f0.f0) ((rd_T41 l0_4 x6_4).f0.f1) _ _ ((rd_T41 l0_4 x6_4).f1) ((rd_T41 l0_4 x6_4).f2.f0) ((rd_T41 l0_4 x6_4).f2.f1) true _ ?side1 ?side2 A36.out).mono ?_); (case side1 => repeat (first | exact (Kd.C_below HR155_2.out HB.out) | (with_reducible refine Kd.C_alloc ?_ _) | (with_reducible refine Kd.C_drewN ?_ _) | (with_reducible refine Kd.C_drew ?_))); (case side2 => exact HC155_2.out); rintro e w51 ⟨rfl, hb⟩; have n0_ := Aside0.mk (Kd.R_below (by (with_reducible repeat (first | apply Kd.R_alloc | apply Kd.R_drewN | apply Kd.R_drew)); exact HO159.out) hb); have n1_ := Aside0.mk (blk_below (g := gb150) (o := .cells #[.int .i64 a0_0, .int .u8 a0_1, .int .u8 a0_2, .slice A0_3 l0_3.length c0_3, .slice (some ad155) l0_4.length c0_4] 25 (0, 0)) (by (with_reducible repeat (first | refine blk_drewN ?_ _ | refine blk_drew ?_ | refine blk_alloc ?_ _)); exact BK150.out) hb); have n2_ := Aside0.mk (blk_below (g := gb156) (o := .cells #[.int .u8 ((rd_T41 l0_4 x6_4).f0.f0), .int .i64 ((rd_T41 l0_4 x6_4).f0.f1), .slice A155_2 ((rd_T41 l0_4 x6_4).f1).length c155_2, .int .u8 ((rd_T41 l0_4 x6_4).f2.f0), .int .i64 ((rd_T41 l0_4 x6_4).f2.f1)] 41 (0, 0)) (by (with_reducible repeat (first | refine blk_drewN ?_ _ | refine blk_drew ?_ | refine blk_alloc ?_ _)); exact BK156.out) hb); have n3_ := Aside0.mk (below_step (by repeat (first | (with_reducible first | exact HB.out | apply below_alloc | apply pw_below_drewN | apply below_drew1 | refine below_set ?_ GE150.out | refine below_set ?_ GE156.out) | exact HB.out)) hb); clear HO159; clear BK150; clear BK156; clear HB; have HO159 := n0_; have BK150 := n1_; have BK156 := n2_; have HB := n3_; clear n0_ n1_ n2_ n3_; (try clear hb); (try clear hb2); (try clear hk); (try clear hi)))
                    go_roundg k4
                    case measure => have := HJ1.out; have := HJ11.out; have := HK3.out; have := HK4.out; omega
                    case rel => exact ⟨(wrap64 (x6_4 + 1)), (by first | rfl | (simp; done) | (simp [*]; done)), H', ⟨by have := HJ1.out; have := HJ11.out; have := HK3.out; have := HK4.out; omega⟩, ⟨by (with_reducible repeat (first | refine blk_drewN ?_ _ | refine blk_drew ?_ | refine blk_alloc ?_ _)); exact BK150.out⟩, ⟨by repeat (first | (with_reducible first | exact HB.out | apply below_alloc | apply pw_below_drewN | apply below_drew1 | refine below_set ?_ GE150.out | refine below_set ?_ GE156.out) | exact HB.out)⟩⟩
                   ·replace c37 := Bool.eq_false_iff.mpr c37
                    subst c37
                    have H1 : (some 105) = some r := by rw [if_neg (show ¬ (false = true) by decide)] at H; exact H
                    clear H
                    have H := H1
                    clear H1
                    obtain rfl := Option.some.inj H
                    have hcz52_0 : wr.cell? ⟨gb150, 0, none⟩ = some (.int .i64 a0_0) := (blk_cell BK150.out 0).trans rfl
                    have hcz52_1 : wr.cell? ⟨gb150, 1, none⟩ = some (.int .u8 a0_1) := (blk_cell BK150.out 1).trans rfl
                    have hcz52_2 : wr.cell? ⟨gb150, 2, none⟩ = some (.int .u8 a0_2) := (blk_cell BK150.out 2).trans rfl
                    have hcz52_3 : wr.cell? ⟨gb150, 3, none⟩ = some (.slice A0_3 l0_3.length c0_3) := (blk_cell BK150.out 3).trans rfl
                    have hcz52_4 : wr.cell? ⟨gb150, 4, none⟩ = some (.slice A0_4 l0_4.length c0_4) := (blk_cell BK150.out 4).trans rfl
                    have hfz52_0 := blk_frozen BK150.out 0
                    have hfz52_1 := blk_frozen BK150.out 1
                    have hfz52_2 := blk_frozen BK150.out 2
                    have hfz52_3 := blk_frozen BK150.out 3
                    have hfz52_4 := blk_frozen BK150.out 4
                    have p155 : 0 ≤ (x6_4 : Int) := of_decide_eq_true (by first | (with_reducible assumption) | assumption)
                    have q155 : x6_4 < (l0_4.length : Int) := of_decide_eq_true (by first | (with_reducible assumption) | assumption)
                    obtain ⟨ad155, A155_2, c155_2, e155, hx155_0, hx155_1, hx155_2, hx155_3, hx155_4, hl155_2, hi155_2⟩ := at_T41 HR0_4.out x6_4 p155 q155
                    cases e155
                    replace hx155_0 := (HB.out.cell (World.block_lt_of_cell? w _ hx155_0)).trans hx155_0
                    replace hx155_1 := (HB.out.cell (World.block_lt_of_cell? w _ hx155_1)).trans hx155_1
                    replace hx155_2 := (HB.out.cell (World.block_lt_of_cell? w _ hx155_2)).trans hx155_2
                    replace hx155_3 := (HB.out.cell (World.block_lt_of_cell? w _ hx155_3)).trans hx155_3
                    replace hx155_4 := (HB.out.cell (World.block_lt_of_cell? w _ hx155_4)).trans hx155_4
                    have HR155_2 := Aside0.mk hi155_2
                    have HC155_2 := Aside0.mk hl155_2
                    clear hi155_2 hl155_2
                    replace p155 := eq_true p155
                    replace q155 := eq_true q155
                    go_wp2_with (first | ((with_reducible refine gate_dst (N := 7) rfl ?_); (try (refine gate_guard (by rfl) ?_; dsimp only)); refine box_event ?hg (N := 7) ?hd (cs := #[.int .u8 0, .int .i64 0, .slice none 0 0, .int .u8 0, .int .i64 0]) (t := 41) ?hr ?_; (case hd => rfl); (case hg => rfl); (case hr => first | (go_simp; done) | (go_simp; rfl)); intro gb156 hg w53 hbox hb; have n0_ := Aside0.mk (blk_below (g := gb150) (o := .cells #[.int .i64 a0_0, .int .u8 a0_1, .int .u8 a0_2, .slice A0_3 l0_3.length c0_3, .slice (some ad155) l0_4.length c0_4] 25 (0, 0)) (by (with_reducible repeat (first | refine blk_drewN ?_ _ | refine blk_drew ?_ | refine blk_alloc ?_ _)); exact BK150.out) hb); have n1_ := Aside0.mk (below_step (by repeat (first | (with_reducible first | exact HB.out | apply below_alloc | apply pw_below_drewN | apply below_drew1 | refine below_set ?_ GE150.out) | exact HB.out)) hb); have n2_ := Aside0.mk (hbox); have n3_ := Aside0.mk ((by rw [hg]; exact (below_size (by repeat (first | (with_reducible first | exact HB.out | apply below_alloc | apply pw_below_drewN | apply below_drew1 | refine below_set ?_ GE150.out) | exact HB.out))) : w.heap.size ≤ gb156)); have n4_ := Aside0.mk ((by rw [hg]; exact (below_size (by repeat (first | (with_reducible first | exact HB.out | apply below_alloc | apply pw_below_drewN | apply below_drew1 | refine below_set ?_ GE150.out) | exact HB.out))) : w.heap.size ≤ gb156)); have n5_ := Aside0.mk ((by rw [hg]; exact Nat.ne_of_lt (blk_lt (g := gb150) (o := .cells #[.int .i64 a0_0, .int .u8 a0_1, .int .u8 a0_2, .slice A0_3 l0_3.length c0_3, .slice (some ad155) l0_4.length c0_4] 25 (0, 0)) (by (with_reducible repeat (first | refine blk_drewN ?_ _ | refine blk_drew ?_ | refine blk_alloc ?_ _)); exact BK150.out)) : gb150 ≠ gb156)); have n6_ := Aside0.mk ((by rw [hg]; exact Nat.ne_of_gt (blk_lt (g := gb150) (o := .cells #[.int .i64 a0_0, .int .u8 a0_1, .int .u8 a0_2, .slice A0_3 l0_3.length c0_3, .slice (some ad155) l0_4.length c0_4] 25 (0, 0)) (by (with_reducible repeat (first | refine blk_drewN ?_ _ | refine blk_drew ?_ | refine blk_alloc ?_ _)); exact BK150.out)) : gb156 ≠ gb150)); clear BK150; clear HB; have BK150 := n0_; have HB := n1_; have BK156 := n2_; have GW156 := n3_; have GE156 := n4_; have NB150_156 := n5_; have NB156_150 := n6_; clear n0_ n1_ n2_ n3_ n4_ n5_ n6_; clear hb hbox hg; have hnb54 := NB156_150.out; have hnc54 := NB150_156.out; have hcz55_0 : w53.cell? ⟨gb156, 0, none⟩ = some (.int .u8 0) := (blk_cell BK156.out 0).trans rfl; have hcz55_1 : w53.cell? ⟨gb156, 1, none⟩ = some (.int .i64 0) := (blk_cell BK156.out 1).trans rfl; have hcz55_2 : w53.cell? ⟨gb156, 2, none⟩ = some (.slice none 0 0) := (blk_cell BK156.out 2).trans rfl; have hcz55_3 : w53.cell? ⟨gb156, 3, none⟩ = some (.int .u8 0) := (blk_cell BK156.out 3).trans rfl; have hcz55_4 : w53.cell? ⟨gb156, 4, none⟩ = some (.int .i64 0) := (blk_cell BK156.out 4).trans rfl; have hfz55_0 := blk_frozen BK156.out 0; have hfz55_1 := blk_frozen BK156.out 1; have hfz55_2 := blk_frozen BK156.out 2; have hfz55_3 := blk_frozen BK156.out 3; have hfz55_4 := blk_frozen BK156.out 4; have hcz56_0 : w53.cell? ⟨gb150, 0, none⟩ = some (.int .i64 a0_0) := (blk_cell BK150.out 0).trans rfl; have hcz56_1 : w53.cell? ⟨gb150, 1, none⟩ = some (.int .u8 a0_1) := (blk_cell BK150.out 1).trans rfl; have hcz56_2 : w53.cell? ⟨gb150, 2, none⟩ = some (.int .u8 a0_2) := (blk_cell BK150.out 2).trans rfl; have hcz56_3 : w53.cell? ⟨gb150, 3, none⟩ = some (.slice A0_3 l0_3.length c0_3) := (blk_cell BK150.out 3).trans rfl; have hcz56_4 : w53.cell? ⟨gb150, 4, none⟩ = some (.slice (some ad155) l0_4.length c0_4) := (blk_cell BK150.out 4).trans rfl; have hfz56_0 := blk_frozen BK150.out 0; have hfz56_1 := blk_frozen BK150.out 1; have hfz56_2 := blk_frozen BK150.out 2; have hfz56_3 := blk_frozen BK150.out 3; have hfz56_4 := blk_frozen BK150.out 4) | ((with_reducible refine gate_dst (N := 77) rfl ?_); (try (refine gate_guard (by rfl) ?_; dsimp only)); refine Kd.R_lit k38 _ 38 ?hg (N := 77) ?hd (xs := ([(⟨(rd_T41 l0_4 x6_4).f0.f0, (rd_T41 l0_4 x6_4).f0.f1⟩ : S38), (⟨(rd_T41 l0_4 x6_4).f2.f0, (rd_T41 l0_4 x6_4).f2.f1⟩ : S38)] : List (S38))) (inner := [.int .u8 ((rd_T41 l0_4 x6_4).f0.f0), .int .i64 ((rd_T41 l0_4 x6_4).f0.f1), .int .u8 ((rd_T41 l0_4 x6_4).f2.f0), .int .i64 ((rd_T41 l0_4 x6_4).f2.f1)]) (ok := fun _ => True) (okp := fun _ => True) ?hr ?hp (fun _ hk => hk) trivial (Below.refl _ _) (Nat.le_refl _) (by simp) ?_; (case hd => rfl); (case hg => rfl); (case hr => first | (go_simp; done) | (go_simp; rfl)); (case hp => exact (Reps.c2 (show Kd.M k38 _ _ _ (⟨(rd_T41 l0_4 x6_4).f0.f0, (rd_T41 l0_4 x6_4).f0.f1⟩ : S38) [.int .u8 ((rd_T41 l0_4 x6_4).f0.f0), .int .i64 ((rd_T41 l0_4 x6_4).f0.f1)] from (k38_mkM _ _ _ (⟨(rd_T41 l0_4 x6_4).f0.f0, (rd_T41 l0_4 x6_4).f0.f1⟩ : S38) )) (Reps.c2 (show Kd.M k38 _ _ _ (⟨(rd_T41 l0_4 x6_4).f2.f0, (rd_T41 l0_4 x6_4).f2.f1⟩ : S38) [.int .u8 ((rd_T41 l0_4 x6_4).f2.f0), .int .i64 ((rd_T41 l0_4 x6_4).f2.f1)] from (k38_mkM _ _ _ (⟨(rd_T41 l0_4 x6_4).f2.f0, (rd_T41 l0_4 x6_4).f2.f1⟩ : S38) )) (Reps.none _ _)))); intro v158 w57 ho58 hb hg_ hnew_; clear hg_ hnew_; (first | rw [← Ny157.out] at ho58 | (simp only [Int.reduceToNat] at ho58; rw [← Ny157.out] at ho58)); have n0_ := Aside0.mk (Kd.R_lower ho58 (below_size (by repeat (first | (with_reducible first | exact HB.out | apply below_alloc | apply pw_below_drewN | apply below_drew1 | refine below_set ?_ GE150.out | refine below_set ?_ GE156.out) | exact HB.out)))); have n1_ := Aside0.mk (blk_below (g := gb150) (o := .cells #[.int .i64 a0_0, .int .u8 a0_1, .int .u8 a0_2, .slice A0_3 l0_3.length c0_3, .slice (some ad155) l0_4.length c0_4] 25 (0, 0)) (by (with_reducible repeat (first | refine blk_drewN ?_ _ | refine blk_drew ?_ | refine blk_alloc ?_ _)); refine blk_far ?_ NB150_156.out _; (with_reducible repeat (first | refine blk_drewN ?_ _ | refine blk_drew ?_ | refine blk_alloc ?_ _)); refine blk_far ?_ NB150_156.out _; (with_reducible repeat (first | refine blk_drewN ?_ _ | refine blk_drew ?_ | refine blk_alloc ?_ _)); refine blk_far ?_ NB150_156.out _; (with_reducible repeat (first | refine blk_drewN ?_ _ | refine blk_drew ?_ | refine blk_alloc ?_ _)); refine blk_far ?_ NB150_156.out _; (with_reducible repeat (first | refine blk_drewN ?_ _ | refine blk_drew ?_ | refine blk_alloc ?_ _)); refine blk_far ?_ NB150_156.out _; (with_reducible repeat (first | refine blk_drewN ?_ _ | refine blk_drew ?_ | refine blk_alloc ?_ _)); exact BK150.out) hb); have n2_ := Aside0.mk (blk_below (g := gb156) (o := .cells #[.int .u8 ((rd_T41 l0_4 x6_4).f0.f0), .int .i64 ((rd_T41 l0_4 x6_4).f0.f1), .slice A155_2 ((rd_T41 l0_4 x6_4).f1).length c155_2, .int .u8 ((rd_T41 l0_4 x6_4).f2.f0), .int .i64 ((rd_T41 l0_4 x6_4).f2.f1)] 41 (0, 0)) (by (with_reducible repeat (first | refine blk_drewN ?_ _ | refine blk_drew ?_ | refine blk_alloc ?_ _)); refine blk_put (cs := #[.int .u8 ((rd_T41 l0_4 x6_4).f0.f0), .int .i64 ((rd_T41 l0_4 x6_4).f0.f1), .slice A155_2 ((rd_T41 l0_4 x6_4).f1).length c155_2, .int .u8 ((rd_T41 l0_4 x6_4).f2.f0), .int .i64 0]) ?_ 4 _ rfl; (with_reducible repeat (first | refine blk_drewN ?_ _ | refine blk_drew ?_ | refine blk_alloc ?_ _)); refine blk_put (cs := #[.int .u8 ((rd_T41 l0_4 x6_4).f0.f0), .int .i64 ((rd_T41 l0_4 x6_4).f0.f1), .slice A155_2 ((rd_T41 l0_4 x6_4).f1).length c155_2, .int .u8 0, .int .i64 0]) ?_ 3 _ rfl; (with_reducible repeat (first | refine blk_drewN ?_ _ | refine blk_drew ?_ | refine blk_alloc ?_ _)); refine blk_put (cs := #[.int .u8 ((rd_T41 l0_4 x6_4).f0.f0), .int .i64 ((rd_T41 l0_4 x6_4).f0.f1), .slice none 0 0, .int .u8 0, .int .i64 0]) ?_ 2 _ rfl; (with_reducible repeat (first | refine blk_drewN ?_ _ | refine blk_drew ?_ | refine blk_alloc ?_ _)); refine blk_put (cs := #[.int .u8 ((rd_T41 l0_4 x6_4).f0.f0), .int .i64 0, .slice none 0 0, .int .u8 0, .int .i64 0]) ?_ 1 _ rfl; (with_reducible repeat (first | refine blk_drewN ?_ _ | refine blk_drew ?_ | refine blk_alloc ?_ _)); refine blk_put (cs := #[.int .u8 0, .int .i64 0, .slice none 0 0, .int .u8 0, .int .i64 0]) ?_ 0 _ rfl; (with_reducible repeat (first | refine blk_drewN ?_ _ | refine blk_drew ?_ | refine blk_alloc ?_ _)); exact BK156.out) hb); have n3_ := Aside0.mk (below_step (by repeat (first | (with_reducible first | exact HB.out | apply below_alloc | apply pw_below_drewN | apply below_drew1 | refine below_set ?_ GE150.out | refine below_set ?_ GE156.out) | exact HB.out)) hb); clear BK150; clear BK156; clear HB; have HO159 := n0_; have BK150 := n1_; have BK156 := n2_; have HB := n3_; clear n0_ n1_ n2_ n3_; clear hb ho58; obtain ⟨Ao59, co59, eo59⟩ := Kd.R_slice HO159.out; subst eo59) | (go_at_call 13; (with_reducible refine (vivariumref10_terms.calls k4 a0_0 a0_1 a0_2 _ _ l0_3 _ _ l0_4 _ _ y157 true _ ?side1 ?side2 ?side3 ?side4 ?side5 ?side6 A32.out).mono ?_); (case side1 => repeat (first | exact (Kd.C_below HR0_3.out HB.out) | (with_reducible refine Kd.C_alloc ?_ _) | (with_reducible refine Kd.C_drewN ?_ _) | (with_reducible refine Kd.C_drew ?_))); (case side2 => exact HC0_3.out); (case side3 => repeat (first | exact (Kd.C_below HR0_4.out HB.out) | (with_reducible refine Kd.C_alloc ?_ _) | (with_reducible refine Kd.C_drewN ?_ _) | (with_reducible refine Kd.C_drew ?_))); (case side4 => exact HC0_4.out); (case side5 => repeat (first | exact (Kd.R_reads' HO159.out).2.2 | (with_reducible refine Kd.C_alloc ?_ _) | (with_reducible refine Kd.C_drewN ?_ _) | (with_reducible refine Kd.C_drew ?_))); (case side6 => exact (Kd.R_reads' HO159.out).2.1); rintro e w60 ⟨rfl, hb⟩; have n0_ := Aside0.mk (Kd.R_below (by (with_reducible repeat (first | apply Kd.R_alloc | apply Kd.R_drewN | apply Kd.R_drew)); exact HO159.out) hb); have n1_ := Aside0.mk (blk_below (g := gb150) (o := .cells #[.int .i64 a0_0, .int .u8 a0_1, .int .u8 a0_2, .slice A0_3 l0_3.length c0_3, .slice (some ad155) l0_4.length c0_4] 25 (0, 0)) (by (with_reducible repeat (first | refine blk_drewN ?_ _ | refine blk_drew ?_ | refine blk_alloc ?_ _)); exact BK150.out) hb); have n2_ := Aside0.mk (blk_below (g := gb156) (o := .cells #[.int .u8 ((rd_T41 l0_4 x6_4).f0.f0), .int .i64 ((rd_T41 l0_4 x6_4).f0.f1), .slice A155_2 ((rd_T41 l0_4 x6_4).f1).length c155_2, .int .u8 ((rd_T41 l0_4 x6_4).f2.f0), .int .i64 ((rd_T41 l0_4 x6_4).f2.f1)] 41 (0, 0)) (by (with_reducible repeat (first | refine blk_drewN ?_ _ | refine blk_drew ?_ | refine blk_alloc ?_ _)); exact BK156.out) hb); have n3_ := Aside0.mk (below_step (by repeat (first | (with_reducible first | exact HB.out | apply below_alloc | apply pw_below_drewN | apply below_drew1 | refine below_set ?_ GE150.out | refine below_set ?_ GE156.out) | exact HB.out)) hb); clear HO159; clear BK150; clear BK156; clear HB; have HO159 := n0_; have BK150 := n1_; have BK156 := n2_; have HB := n3_; clear n0_ n1_ n2_ n3_; (try clear hb); (try clear hb2); (try clear hk); (try clear hi); have hcz61_0 : w60.cell? ⟨gb150, 0, none⟩ = some (.int .i64 a0_0) := (blk_cell BK150.out 0).trans rfl; have hcz61_1 : w60.cell? ⟨gb150, 1, none⟩ = some (.int .u8 a0_1) := (blk_cell BK150.out 1).trans rfl; have hcz61_2 : w60.cell? ⟨gb150, 2, none⟩ = some (.int .u8 a0_2) := (blk_cell BK150.out 2).trans rfl; have hcz61_3 : w60.cell? ⟨gb150, 3, none⟩ = some (.slice A0_3 l0_3.length c0_3) := (blk_cell BK150.out 3).trans rfl; have hcz61_4 : w60.cell? ⟨gb150, 4, none⟩ = some (.slice (some ad155) l0_4.length c0_4) := (blk_cell BK150.out 4).trans rfl; have hfz61_0 := blk_frozen BK150.out 0; have hfz61_1 := blk_frozen BK150.out 1; have hfz61_2 := blk_frozen BK150.out 2; have hfz61_3 := blk_frozen BK150.out 3; have hfz61_4 := blk_frozen BK150.out 4; have hcz62_0 : w60.cell? ⟨gb156, 0, none⟩ = some (.int .u8 ((rd_T41 l0_4 x6_4).f0.f0)) := (blk_cell BK156.out 0).trans rfl; have hcz62_1 : w60.cell? ⟨gb156, 1, none⟩ = some (.int .i64 ((rd_T41 l0_4 x6_4).f0.f1)) := (blk_cell BK156.out 1).trans rfl; have hcz62_2 : w60.cell? ⟨gb156, 2, none⟩ = some (.slice A155_2 ((rd_T41 l0_4 x6_4).f1).length c155_2) := (blk_cell BK156.out 2).trans rfl; have hcz62_3 : w60.cell? ⟨gb156, 3, none⟩ = some (.int .u8 ((rd_T41 l0_4 x6_4).f2.f0)) := (blk_cell BK156.out 3).trans rfl; have hcz62_4 : w60.cell? ⟨gb156, 4, none⟩ = some (.int .i64 ((rd_T41 l0_4 x6_4).f2.f1)) := (blk_cell BK156.out 4).trans rfl; have hfz62_0 := blk_frozen BK156.out 0; have hfz62_1 := blk_frozen BK156.out 1; have hfz62_2 := blk_frozen BK156.out 2; have hfz62_3 := blk_frozen BK156.out 3; have hfz62_4 := blk_frozen BK156.out 4) | (go_at_call 13; (with_reducible refine (vivariumref10_terms.calls k4 a0_0 a0_1 a0_2 _ _ l0_3 _ _ l0_4 _ _ ((rd_T41 l0_4 x6_4).f1) true _ ?side1 ?side2 ?side3 ?side4 ?side5 ?side6 A34.out).mono ?_); (case side1 => repeat (first | exact (Kd.C_below HR0_3.out HB.out) | (with_reducible refine Kd.C_alloc ?_ _) | (with_reducible refine Kd.C_drewN ?_ _) | (with_reducible refine Kd.C_drew ?_))); (case side2 => exact HC0_3.out); (case side3 => repeat (first | exact (Kd.C_below HR0_4.out HB.out) | (with_reducible refine Kd.C_alloc ?_ _) | (with_reducible refine Kd.C_drewN ?_ _) | (with_reducible refine Kd.C_drew ?_))); (case side4 => exact HC0_4.out); (case side5 => repeat (first | exact (Kd.C_below HR155_2.out HB.out) | (with_reducible refine Kd.C_alloc ?_ _) | (with_reducible refine Kd.C_drewN ?_ _) | (with_reducible refine Kd.C_drew ?_))); (case side6 => exact HC155_2.out); rintro e w63 ⟨rfl, hb⟩; have n0_ := Aside0.mk (Kd.R_below (by (with_reducible repeat (first | apply Kd.R_alloc | apply Kd.R_drewN | apply Kd.R_drew)); exact HO159.out) hb); have n1_ := Aside0.mk (blk_below (g := gb150) (o := .cells #[.int .i64 a0_0, .int .u8 a0_1, .int .u8 a0_2, .slice A0_3 l0_3.length c0_3, .slice (some ad155) l0_4.length c0_4] 25 (0, 0)) (by (with_reducible repeat (first | refine blk_drewN ?_ _ | refine blk_drew ?_ | refine blk_alloc ?_ _)); exact BK150.out) hb); have n2_ := Aside0.mk (blk_below (g := gb156) (o := .cells #[.int .u8 ((rd_T41 l0_4 x6_4).f0.f0), .int .i64 ((rd_T41 l0_4 x6_4).f0.f1), .slice A155_2 ((rd_T41 l0_4 x6_4).f1).length c155_2, .int .u8 ((rd_T41 l0_4 x6_4).f2.f0), .int .i64 ((rd_T41 l0_4 x6_4).f2.f1)] 41 (0, 0)) (by (with_reducible repeat (first | refine blk_drewN ?_ _ | refine blk_drew ?_ | refine blk_alloc ?_ _)); exact BK156.out) hb); have n3_ := Aside0.mk (below_step (by repeat (first | (with_reducible first | exact HB.out | apply below_alloc | apply pw_below_drewN | apply below_drew1 | refine below_set ?_ GE150.out | refine below_set ?_ GE156.out) | exact HB.out)) hb); clear HO159; clear BK150; clear BK156; clear HB; have HO159 := n0_; have BK150 := n1_; have BK156 := n2_; have HB := n3_; clear n0_ n1_ n2_ n3_; (try clear hb); (try clear hb2); (try clear hk); (try clear hi); have hcz64_0 : w63.cell? ⟨gb156, 0, none⟩ = some (.int .u8 ((rd_T41 l0_4 x6_4).f0.f0)) := (blk_cell BK156.out 0).trans rfl; have hcz64_1 : w63.cell? ⟨gb156, 1, none⟩ = some (.int .i64 ((rd_T41 l0_4 x6_4).f0.f1)) := (blk_cell BK156.out 1).trans rfl; have hcz64_2 : w63.cell? ⟨gb156, 2, none⟩ = some (.slice A155_2 ((rd_T41 l0_4 x6_4).f1).length c155_2) := (blk_cell BK156.out 2).trans rfl; have hcz64_3 : w63.cell? ⟨gb156, 3, none⟩ = some (.int .u8 ((rd_T41 l0_4 x6_4).f2.f0)) := (blk_cell BK156.out 3).trans rfl; have hcz64_4 : w63.cell? ⟨gb156, 4, none⟩ = some (.int .i64 ((rd_T41 l0_4 x6_4).f2.f1)) := (blk_cell BK156.out 4).trans rfl; have hfz64_0 := blk_frozen BK156.out 0; have hfz64_1 := blk_frozen BK156.out 1; have hfz64_2 := blk_frozen BK156.out 2; have hfz64_3 := blk_frozen BK156.out 3; have hfz64_4 := blk_frozen BK156.out 4) | (go_at_call 14; (with_reducible refine (vivariumref10_bound.calls k4 ((rd_T41 l0_4 x6_4).f0.f0) ((rd_T41 l0_4 x6_4).f0.f1) _ _ ((rd_T41 l0_4 x6_4).f1) ((rd_T41 l0_4 x6_4).f2.f0) ((rd_T41 l0_4 x6_4).f2.f1) false _ ?side1 ?side2 A36.out).mono ?_); (case side1 => repeat (first | exact (Kd.C_below HR155_2.out HB.out) | (with_reducible refine Kd.C_alloc ?_ _) | (with_reducible refine Kd.C_drewN ?_ _) | (with_reducible refine Kd.C_drew ?_))); (case side2 => exact HC155_2.out); rintro e w65 ⟨rfl, hb⟩; have n0_ := Aside0.mk (Kd.R_below (by (with_reducible repeat (first | apply Kd.R_alloc | apply Kd.R_drewN | apply Kd.R_drew)); exact HO159.out) hb); have n1_ := Aside0.mk (blk_below (g := gb150) (o := .cells #[.int .i64 a0_0, .int .u8 a0_1, .int .u8 a0_2, .slice A0_3 l0_3.length c0_3, .slice (some ad155) l0_4.length c0_4] 25 (0, 0)) (by (with_reducible repeat (first | refine blk_drewN ?_ _ | refine blk_drew ?_ | refine blk_alloc ?_ _)); exact BK150.out) hb); have n2_ := Aside0.mk (blk_below (g := gb156) (o := .cells #[.int .u8 ((rd_T41 l0_4 x6_4).f0.f0), .int .i64 ((rd_T41 l0_4 x6_4).f0.f1), .slice A155_2 ((rd_T41 l0_4 x6_4).f1).length c155_2, .int .u8 ((rd_T41 l0_4 x6_4).f2.f0), .int .i64 ((rd_T41 l0_4 x6_4).f2.f1)] 41 (0, 0)) (by (with_reducible repeat (first | refine blk_drewN ?_ _ | refine blk_drew ?_ | refine blk_alloc ?_ _)); exact BK156.out) hb); have n3_ := Aside0.mk (below_step (by repeat (first | (with_reducible first | exact HB.out | apply below_alloc | apply pw_below_drewN | apply below_drew1 | refine below_set ?_ GE150.out | refine below_set ?_ GE156.out) | exact HB.out)) hb); clear HO159; clear BK150; clear BK156; clear HB; have HO159 := n0_; have BK150 := n1_; have BK156 := n2_; have HB := n3_; clear n0_ n1_ n2_ n3_; (try clear hb); (try clear hb2); (try clear hk); (try clear hi)))
                    go_ret
                    exact ⟨by first | rfl | (simp [errW_none, errW_some] <;> rfl) | (simp [*, errW_none, errW_some] <;> rfl), by repeat (first | (with_reducible first | exact HB.out | apply below_alloc | apply pw_below_drewN | apply below_drew1 | refine below_set ?_ GE150.out | refine below_set ?_ GE156.out) | exact HB.out)⟩
                  ·replace c35 := Bool.eq_false_iff.mpr c35
                   subst c35
                   have H1 : (some 105) = some r := by rw [if_neg (show ¬ (false = true) by decide)] at H; exact H
                   clear H
                   have H := H1
                   clear H1
                   obtain rfl := Option.some.inj H
                   have hcz66_0 : wr.cell? ⟨gb150, 0, none⟩ = some (.int .i64 a0_0) := (blk_cell BK150.out 0).trans rfl
                   have hcz66_1 : wr.cell? ⟨gb150, 1, none⟩ = some (.int .u8 a0_1) := (blk_cell BK150.out 1).trans rfl
                   have hcz66_2 : wr.cell? ⟨gb150, 2, none⟩ = some (.int .u8 a0_2) := (blk_cell BK150.out 2).trans rfl
                   have hcz66_3 : wr.cell? ⟨gb150, 3, none⟩ = some (.slice A0_3 l0_3.length c0_3) := (blk_cell BK150.out 3).trans rfl
                   have hcz66_4 : wr.cell? ⟨gb150, 4, none⟩ = some (.slice A0_4 l0_4.length c0_4) := (blk_cell BK150.out 4).trans rfl
                   have hfz66_0 := blk_frozen BK150.out 0
                   have hfz66_1 := blk_frozen BK150.out 1
                   have hfz66_2 := blk_frozen BK150.out 2
                   have hfz66_3 := blk_frozen BK150.out 3
                   have hfz66_4 := blk_frozen BK150.out 4
                   have p155 : 0 ≤ (x6_4 : Int) := of_decide_eq_true (by first | (with_reducible assumption) | assumption)
                   have q155 : x6_4 < (l0_4.length : Int) := of_decide_eq_true (by first | (with_reducible assumption) | assumption)
                   obtain ⟨ad155, A155_2, c155_2, e155, hx155_0, hx155_1, hx155_2, hx155_3, hx155_4, hl155_2, hi155_2⟩ := at_T41 HR0_4.out x6_4 p155 q155
                   cases e155
                   replace hx155_0 := (HB.out.cell (World.block_lt_of_cell? w _ hx155_0)).trans hx155_0
                   replace hx155_1 := (HB.out.cell (World.block_lt_of_cell? w _ hx155_1)).trans hx155_1
                   replace hx155_2 := (HB.out.cell (World.block_lt_of_cell? w _ hx155_2)).trans hx155_2
                   replace hx155_3 := (HB.out.cell (World.block_lt_of_cell? w _ hx155_3)).trans hx155_3
                   replace hx155_4 := (HB.out.cell (World.block_lt_of_cell? w _ hx155_4)).trans hx155_4
                   have HR155_2 := Aside0.mk hi155_2
                   have HC155_2 := Aside0.mk hl155_2
                   clear hi155_2 hl155_2
                   replace p155 := eq_true p155
                   replace q155 := eq_true q155
                   go_wp2_with (first | ((with_reducible refine gate_dst (N := 7) rfl ?_); (try (refine gate_guard (by rfl) ?_; dsimp only)); refine box_event ?hg (N := 7) ?hd (cs := #[.int .u8 0, .int .i64 0, .slice none 0 0, .int .u8 0, .int .i64 0]) (t := 41) ?hr ?_; (case hd => rfl); (case hg => rfl); (case hr => first | (go_simp; done) | (go_simp; rfl)); intro gb156 hg w67 hbox hb; have n0_ := Aside0.mk (blk_below (g := gb150) (o := .cells #[.int .i64 a0_0, .int .u8 a0_1, .int .u8 a0_2, .slice A0_3 l0_3.length c0_3, .slice (some ad155) l0_4.length c0_4] 25 (0, 0)) (by (with_reducible repeat (first | refine blk_drewN ?_ _ | refine blk_drew ?_ | refine blk_alloc ?_ _)); exact BK150.out) hb); have n1_ := Aside0.mk (below_step (by repeat (first | (with_reducible first | exact HB.out | apply below_alloc | apply pw_below_drewN | apply below_drew1 | refine below_set ?_ GE150.out) | exact HB.out)) hb); have n2_ := Aside0.mk (hbox); have n3_ := Aside0.mk ((by rw [hg]; exact (below_size (by repeat (first | (with_reducible first | exact HB.out | apply below_alloc | apply pw_below_drewN | apply below_drew1 | refine below_set ?_ GE150.out) | exact HB.out))) : w.heap.size ≤ gb156)); have n4_ := Aside0.mk ((by rw [hg]; exact (below_size (by repeat (first | (with_reducible first | exact HB.out | apply below_alloc | apply pw_below_drewN | apply below_drew1 | refine below_set ?_ GE150.out) | exact HB.out))) : w.heap.size ≤ gb156)); have n5_ := Aside0.mk ((by rw [hg]; exact Nat.ne_of_lt (blk_lt (g := gb150) (o := .cells #[.int .i64 a0_0, .int .u8 a0_1, .int .u8 a0_2, .slice A0_3 l0_3.length c0_3, .slice (some ad155) l0_4.length c0_4] 25 (0, 0)) (by (with_reducible repeat (first | refine blk_drewN ?_ _ | refine blk_drew ?_ | refine blk_alloc ?_ _)); exact BK150.out)) : gb150 ≠ gb156)); have n6_ := Aside0.mk ((by rw [hg]; exact Nat.ne_of_gt (blk_lt (g := gb150) (o := .cells #[.int .i64 a0_0, .int .u8 a0_1, .int .u8 a0_2, .slice A0_3 l0_3.length c0_3, .slice (some ad155) l0_4.length c0_4] 25 (0, 0)) (by (with_reducible repeat (first | refine blk_drewN ?_ _ | refine blk_drew ?_ | refine blk_alloc ?_ _)); exact BK150.out)) : gb156 ≠ gb150)); clear BK150; clear HB; have BK150 := n0_; have HB := n1_; have BK156 := n2_; have GW156 := n3_; have GE156 := n4_; have NB150_156 := n5_; have NB156_150 := n6_; clear n0_ n1_ n2_ n3_ n4_ n5_ n6_; clear hb hbox hg; have hnb68 := NB156_150.out; have hnc68 := NB150_156.out; have hcz69_0 : w67.cell? ⟨gb156, 0, none⟩ = some (.int .u8 0) := (blk_cell BK156.out 0).trans rfl; have hcz69_1 : w67.cell? ⟨gb156, 1, none⟩ = some (.int .i64 0) := (blk_cell BK156.out 1).trans rfl; have hcz69_2 : w67.cell? ⟨gb156, 2, none⟩ = some (.slice none 0 0) := (blk_cell BK156.out 2).trans rfl; have hcz69_3 : w67.cell? ⟨gb156, 3, none⟩ = some (.int .u8 0) := (blk_cell BK156.out 3).trans rfl; have hcz69_4 : w67.cell? ⟨gb156, 4, none⟩ = some (.int .i64 0) := (blk_cell BK156.out 4).trans rfl; have hfz69_0 := blk_frozen BK156.out 0; have hfz69_1 := blk_frozen BK156.out 1; have hfz69_2 := blk_frozen BK156.out 2; have hfz69_3 := blk_frozen BK156.out 3; have hfz69_4 := blk_frozen BK156.out 4; have hcz70_0 : w67.cell? ⟨gb150, 0, none⟩ = some (.int .i64 a0_0) := (blk_cell BK150.out 0).trans rfl; have hcz70_1 : w67.cell? ⟨gb150, 1, none⟩ = some (.int .u8 a0_1) := (blk_cell BK150.out 1).trans rfl; have hcz70_2 : w67.cell? ⟨gb150, 2, none⟩ = some (.int .u8 a0_2) := (blk_cell BK150.out 2).trans rfl; have hcz70_3 : w67.cell? ⟨gb150, 3, none⟩ = some (.slice A0_3 l0_3.length c0_3) := (blk_cell BK150.out 3).trans rfl; have hcz70_4 : w67.cell? ⟨gb150, 4, none⟩ = some (.slice (some ad155) l0_4.length c0_4) := (blk_cell BK150.out 4).trans rfl; have hfz70_0 := blk_frozen BK150.out 0; have hfz70_1 := blk_frozen BK150.out 1; have hfz70_2 := blk_frozen BK150.out 2; have hfz70_3 := blk_frozen BK150.out 3; have hfz70_4 := blk_frozen BK150.out 4) | ((with_reducible refine gate_dst (N := 77) rfl ?_); (try (refine gate_guard (by rfl) ?_; dsimp only)); refine Kd.R_lit k38 _ 38 ?hg (N := 77) ?hd (xs := ([(⟨(rd_T41 l0_4 x6_4).f0.f0, (rd_T41 l0_4 x6_4).f0.f1⟩ : S38), (⟨(rd_T41 l0_4 x6_4).f2.f0, (rd_T41 l0_4 x6_4).f2.f1⟩ : S38)] : List (S38))) (inner := [.int .u8 ((rd_T41 l0_4 x6_4).f0.f0), .int .i64 ((rd_T41 l0_4 x6_4).f0.f1), .int .u8 ((rd_T41 l0_4 x6_4).f2.f0), .int .i64 ((rd_T41 l0_4 x6_4).f2.f1)]) (ok := fun _ => True) (okp := fun _ => True) ?hr ?hp (fun _ hk => hk) trivial (Below.refl _ _) (Nat.le_refl _) (by simp) ?_; (case hd => rfl); (case hg => rfl); (case hr => first | (go_simp; done) | (go_simp; rfl)); (case hp => exact (Reps.c2 (show Kd.M k38 _ _ _ (⟨(rd_T41 l0_4 x6_4).f0.f0, (rd_T41 l0_4 x6_4).f0.f1⟩ : S38) [.int .u8 ((rd_T41 l0_4 x6_4).f0.f0), .int .i64 ((rd_T41 l0_4 x6_4).f0.f1)] from (k38_mkM _ _ _ (⟨(rd_T41 l0_4 x6_4).f0.f0, (rd_T41 l0_4 x6_4).f0.f1⟩ : S38) )) (Reps.c2 (show Kd.M k38 _ _ _ (⟨(rd_T41 l0_4 x6_4).f2.f0, (rd_T41 l0_4 x6_4).f2.f1⟩ : S38) [.int .u8 ((rd_T41 l0_4 x6_4).f2.f0), .int .i64 ((rd_T41 l0_4 x6_4).f2.f1)] from (k38_mkM _ _ _ (⟨(rd_T41 l0_4 x6_4).f2.f0, (rd_T41 l0_4 x6_4).f2.f1⟩ : S38) )) (Reps.none _ _)))); intro v158 w71 ho72 hb hg_ hnew_; clear hg_ hnew_; (first | rw [← Ny157.out] at ho72 | (simp only [Int.reduceToNat] at ho72; rw [← Ny157.out] at ho72)); have n0_ := Aside0.mk (Kd.R_lower ho72 (below_size (by repeat (first | (with_reducible first | exact HB.out | apply below_alloc | apply pw_below_drewN | apply below_drew1 | refine below_set ?_ GE150.out | refine below_set ?_ GE156.out) | exact HB.out)))); have n1_ := Aside0.mk (blk_below (g := gb150) (o := .cells #[.int .i64 a0_0, .int .u8 a0_1, .int .u8 a0_2, .slice A0_3 l0_3.length c0_3, .slice (some ad155) l0_4.length c0_4] 25 (0, 0)) (by (with_reducible repeat (first | refine blk_drewN ?_ _ | refine blk_drew ?_ | refine blk_alloc ?_ _)); refine blk_far ?_ NB150_156.out _; (with_reducible repeat (first | refine blk_drewN ?_ _ | refine blk_drew ?_ | refine blk_alloc ?_ _)); refine blk_far ?_ NB150_156.out _; (with_reducible repeat (first | refine blk_drewN ?_ _ | refine blk_drew ?_ | refine blk_alloc ?_ _)); refine blk_far ?_ NB150_156.out _; (with_reducible repeat (first | refine blk_drewN ?_ _ | refine blk_drew ?_ | refine blk_alloc ?_ _)); refine blk_far ?_ NB150_156.out _; (with_reducible repeat (first | refine blk_drewN ?_ _ | refine blk_drew ?_ | refine blk_alloc ?_ _)); refine blk_far ?_ NB150_156.out _; (with_reducible repeat (first | refine blk_drewN ?_ _ | refine blk_drew ?_ | refine blk_alloc ?_ _)); exact BK150.out) hb); have n2_ := Aside0.mk (blk_below (g := gb156) (o := .cells #[.int .u8 ((rd_T41 l0_4 x6_4).f0.f0), .int .i64 ((rd_T41 l0_4 x6_4).f0.f1), .slice A155_2 ((rd_T41 l0_4 x6_4).f1).length c155_2, .int .u8 ((rd_T41 l0_4 x6_4).f2.f0), .int .i64 ((rd_T41 l0_4 x6_4).f2.f1)] 41 (0, 0)) (by (with_reducible repeat (first | refine blk_drewN ?_ _ | refine blk_drew ?_ | refine blk_alloc ?_ _)); refine blk_put (cs := #[.int .u8 ((rd_T41 l0_4 x6_4).f0.f0), .int .i64 ((rd_T41 l0_4 x6_4).f0.f1), .slice A155_2 ((rd_T41 l0_4 x6_4).f1).length c155_2, .int .u8 ((rd_T41 l0_4 x6_4).f2.f0), .int .i64 0]) ?_ 4 _ rfl; (with_reducible repeat (first | refine blk_drewN ?_ _ | refine blk_drew ?_ | refine blk_alloc ?_ _)); refine blk_put (cs := #[.int .u8 ((rd_T41 l0_4 x6_4).f0.f0), .int .i64 ((rd_T41 l0_4 x6_4).f0.f1), .slice A155_2 ((rd_T41 l0_4 x6_4).f1).length c155_2, .int .u8 0, .int .i64 0]) ?_ 3 _ rfl; (with_reducible repeat (first | refine blk_drewN ?_ _ | refine blk_drew ?_ | refine blk_alloc ?_ _)); refine blk_put (cs := #[.int .u8 ((rd_T41 l0_4 x6_4).f0.f0), .int .i64 ((rd_T41 l0_4 x6_4).f0.f1), .slice none 0 0, .int .u8 0, .int .i64 0]) ?_ 2 _ rfl; (with_reducible repeat (first | refine blk_drewN ?_ _ | refine blk_drew ?_ | refine blk_alloc ?_ _)); refine blk_put (cs := #[.int .u8 ((rd_T41 l0_4 x6_4).f0.f0), .int .i64 0, .slice none 0 0, .int .u8 0, .int .i64 0]) ?_ 1 _ rfl; (with_reducible repeat (first | refine blk_drewN ?_ _ | refine blk_drew ?_ | refine blk_alloc ?_ _)); refine blk_put (cs := #[.int .u8 0, .int .i64 0, .slice none 0 0, .int .u8 0, .int .i64 0]) ?_ 0 _ rfl; (with_reducible repeat (first | refine blk_drewN ?_ _ | refine blk_drew ?_ | refine blk_alloc ?_ _)); exact BK156.out) hb); have n3_ := Aside0.mk (below_step (by repeat (first | (with_reducible first | exact HB.out | apply below_alloc | apply pw_below_drewN | apply below_drew1 | refine below_set ?_ GE150.out | refine below_set ?_ GE156.out) | exact HB.out)) hb); clear BK150; clear BK156; clear HB; have HO159 := n0_; have BK150 := n1_; have BK156 := n2_; have HB := n3_; clear n0_ n1_ n2_ n3_; clear hb ho72; obtain ⟨Ao73, co73, eo73⟩ := Kd.R_slice HO159.out; subst eo73) | (go_at_call 13; (with_reducible refine (vivariumref10_terms.calls k4 a0_0 a0_1 a0_2 _ _ l0_3 _ _ l0_4 _ _ y157 true _ ?side1 ?side2 ?side3 ?side4 ?side5 ?side6 A32.out).mono ?_); (case side1 => repeat (first | exact (Kd.C_below HR0_3.out HB.out) | (with_reducible refine Kd.C_alloc ?_ _) | (with_reducible refine Kd.C_drewN ?_ _) | (with_reducible refine Kd.C_drew ?_))); (case side2 => exact HC0_3.out); (case side3 => repeat (first | exact (Kd.C_below HR0_4.out HB.out) | (with_reducible refine Kd.C_alloc ?_ _) | (with_reducible refine Kd.C_drewN ?_ _) | (with_reducible refine Kd.C_drew ?_))); (case side4 => exact HC0_4.out); (case side5 => repeat (first | exact (Kd.R_reads' HO159.out).2.2 | (with_reducible refine Kd.C_alloc ?_ _) | (with_reducible refine Kd.C_drewN ?_ _) | (with_reducible refine Kd.C_drew ?_))); (case side6 => exact (Kd.R_reads' HO159.out).2.1); rintro e w74 ⟨rfl, hb⟩; have n0_ := Aside0.mk (Kd.R_below (by (with_reducible repeat (first | apply Kd.R_alloc | apply Kd.R_drewN | apply Kd.R_drew)); exact HO159.out) hb); have n1_ := Aside0.mk (blk_below (g := gb150) (o := .cells #[.int .i64 a0_0, .int .u8 a0_1, .int .u8 a0_2, .slice A0_3 l0_3.length c0_3, .slice (some ad155) l0_4.length c0_4] 25 (0, 0)) (by (with_reducible repeat (first | refine blk_drewN ?_ _ | refine blk_drew ?_ | refine blk_alloc ?_ _)); exact BK150.out) hb); have n2_ := Aside0.mk (blk_below (g := gb156) (o := .cells #[.int .u8 ((rd_T41 l0_4 x6_4).f0.f0), .int .i64 ((rd_T41 l0_4 x6_4).f0.f1), .slice A155_2 ((rd_T41 l0_4 x6_4).f1).length c155_2, .int .u8 ((rd_T41 l0_4 x6_4).f2.f0), .int .i64 ((rd_T41 l0_4 x6_4).f2.f1)] 41 (0, 0)) (by (with_reducible repeat (first | refine blk_drewN ?_ _ | refine blk_drew ?_ | refine blk_alloc ?_ _)); exact BK156.out) hb); have n3_ := Aside0.mk (below_step (by repeat (first | (with_reducible first | exact HB.out | apply below_alloc | apply pw_below_drewN | apply below_drew1 | refine below_set ?_ GE150.out | refine below_set ?_ GE156.out) | exact HB.out)) hb); clear HO159; clear BK150; clear BK156; clear HB; have HO159 := n0_; have BK150 := n1_; have BK156 := n2_; have HB := n3_; clear n0_ n1_ n2_ n3_; (try clear hb); (try clear hb2); (try clear hk); (try clear hi); have hcz75_0 : w74.cell? ⟨gb150, 0, none⟩ = some (.int .i64 a0_0) := (blk_cell BK150.out 0).trans rfl; have hcz75_1 : w74.cell? ⟨gb150, 1, none⟩ = some (.int .u8 a0_1) := (blk_cell BK150.out 1).trans rfl; have hcz75_2 : w74.cell? ⟨gb150, 2, none⟩ = some (.int .u8 a0_2) := (blk_cell BK150.out 2).trans rfl; have hcz75_3 : w74.cell? ⟨gb150, 3, none⟩ = some (.slice A0_3 l0_3.length c0_3) := (blk_cell BK150.out 3).trans rfl; have hcz75_4 : w74.cell? ⟨gb150, 4, none⟩ = some (.slice (some ad155) l0_4.length c0_4) := (blk_cell BK150.out 4).trans rfl; have hfz75_0 := blk_frozen BK150.out 0; have hfz75_1 := blk_frozen BK150.out 1; have hfz75_2 := blk_frozen BK150.out 2; have hfz75_3 := blk_frozen BK150.out 3; have hfz75_4 := blk_frozen BK150.out 4; have hcz76_0 : w74.cell? ⟨gb156, 0, none⟩ = some (.int .u8 ((rd_T41 l0_4 x6_4).f0.f0)) := (blk_cell BK156.out 0).trans rfl; have hcz76_1 : w74.cell? ⟨gb156, 1, none⟩ = some (.int .i64 ((rd_T41 l0_4 x6_4).f0.f1)) := (blk_cell BK156.out 1).trans rfl; have hcz76_2 : w74.cell? ⟨gb156, 2, none⟩ = some (.slice A155_2 ((rd_T41 l0_4 x6_4).f1).length c155_2) := (blk_cell BK156.out 2).trans rfl; have hcz76_3 : w74.cell? ⟨gb156, 3, none⟩ = some (.int .u8 ((rd_T41 l0_4 x6_4).f2.f0)) := (blk_cell BK156.out 3).trans rfl; have hcz76_4 : w74.cell? ⟨gb156, 4, none⟩ = some (.int .i64 ((rd_T41 l0_4 x6_4).f2.f1)) := (blk_cell BK156.out 4).trans rfl; have hfz76_0 := blk_frozen BK156.out 0; have hfz76_1 := blk_frozen BK156.out 1; have hfz76_2 := blk_frozen BK156.out 2; have hfz76_3 := blk_frozen BK156.out 3; have hfz76_4 := blk_frozen BK156.out 4) | (go_at_call 13; (with_reducible refine (vivariumref10_terms.calls k4 a0_0 a0_1 a0_2 _ _ l0_3 _ _ l0_4 _ _ ((rd_T41 l0_4 x6_4).f1) false _ ?side1 ?side2 ?side3 ?side4 ?side5 ?side6 A34.out).mono ?_); (case side1 => repeat (first | exact (Kd.C_below HR0_3.out HB.out) | (with_reducible refine Kd.C_alloc ?_ _) | (with_reducible refine Kd.C_drewN ?_ _) | (with_reducible refine Kd.C_drew ?_))); (case side2 => exact HC0_3.out); (case side3 => repeat (first | exact (Kd.C_below HR0_4.out HB.out) | (with_reducible refine Kd.C_alloc ?_ _) | (with_reducible refine Kd.C_drewN ?_ _) | (with_reducible refine Kd.C_drew ?_))); (case side4 => exact HC0_4.out); (case side5 => repeat (first | exact (Kd.C_below HR155_2.out HB.out) | (with_reducible refine Kd.C_alloc ?_ _) | (with_reducible refine Kd.C_drewN ?_ _) | (with_reducible refine Kd.C_drew ?_))); (case side6 => exact HC155_2.out); rintro e w77 ⟨rfl, hb⟩; have n0_ := Aside0.mk (Kd.R_below (by (with_reducible repeat (first | apply Kd.R_alloc | apply Kd.R_drewN | apply Kd.R_drew)); exact HO159.out) hb); have n1_ := Aside0.mk (blk_below (g := gb150) (o := .cells #[.int .i64 a0_0, .int .u8 a0_1, .int .u8 a0_2, .slice A0_3 l0_3.length c0_3, .slice (some ad155) l0_4.length c0_4] 25 (0, 0)) (by (with_reducible repeat (first | refine blk_drewN ?_ _ | refine blk_drew ?_ | refine blk_alloc ?_ _)); exact BK150.out) hb); have n2_ := Aside0.mk (blk_below (g := gb156) (o := .cells #[.int .u8 ((rd_T41 l0_4 x6_4).f0.f0), .int .i64 ((rd_T41 l0_4 x6_4).f0.f1), .slice A155_2 ((rd_T41 l0_4 x6_4).f1).length c155_2, .int .u8 ((rd_T41 l0_4 x6_4).f2.f0), .int .i64 ((rd_T41 l0_4 x6_4).f2.f1)] 41 (0, 0)) (by (with_reducible repeat (first | refine blk_drewN ?_ _ | refine blk_drew ?_ | refine blk_alloc ?_ _)); exact BK156.out) hb); have n3_ := Aside0.mk (below_step (by repeat (first | (with_reducible first | exact HB.out | apply below_alloc | apply pw_below_drewN | apply below_drew1 | refine below_set ?_ GE150.out | refine below_set ?_ GE156.out) | exact HB.out)) hb); clear HO159; clear BK150; clear BK156; clear HB; have HO159 := n0_; have BK150 := n1_; have BK156 := n2_; have HB := n3_; clear n0_ n1_ n2_ n3_; (try clear hb); (try clear hb2); (try clear hk); (try clear hi)))
                   go_ret
                   exact ⟨by first | rfl | (simp [errW_none, errW_some] <;> rfl) | (simp [*, errW_none, errW_some] <;> rfl), by repeat (first | (with_reducible first | exact HB.out | apply below_alloc | apply pw_below_drewN | apply below_drew1 | refine below_set ?_ GE150.out | refine below_set ?_ GE156.out) | exact HB.out)⟩
                 ·replace c33 := Bool.eq_false_iff.mpr c33
                  subst c33
                  have H1 : (some 105) = some r := by rw [if_neg (show ¬ (false = true) by decide)] at H; exact H
                  clear H
                  have H := H1
                  clear H1
                  obtain rfl := Option.some.inj H
                  have hcz78_0 : wr.cell? ⟨gb150, 0, none⟩ = some (.int .i64 a0_0) := (blk_cell BK150.out 0).trans rfl
                  have hcz78_1 : wr.cell? ⟨gb150, 1, none⟩ = some (.int .u8 a0_1) := (blk_cell BK150.out 1).trans rfl
                  have hcz78_2 : wr.cell? ⟨gb150, 2, none⟩ = some (.int .u8 a0_2) := (blk_cell BK150.out 2).trans rfl
                  have hcz78_3 : wr.cell? ⟨gb150, 3, none⟩ = some (.slice A0_3 l0_3.length c0_3) := (blk_cell BK150.out 3).trans rfl
                  have hcz78_4 : wr.cell? ⟨gb150, 4, none⟩ = some (.slice A0_4 l0_4.length c0_4) := (blk_cell BK150.out 4).trans rfl
                  have hfz78_0 := blk_frozen BK150.out 0
                  have hfz78_1 := blk_frozen BK150.out 1
                  have hfz78_2 := blk_frozen BK150.out 2
                  have hfz78_3 := blk_frozen BK150.out 3
                  have hfz78_4 := blk_frozen BK150.out 4
                  have p155 : 0 ≤ (x6_4 : Int) := of_decide_eq_true (by first | (with_reducible assumption) | assumption)
                  have q155 : x6_4 < (l0_4.length : Int) := of_decide_eq_true (by first | (with_reducible assumption) | assumption)
                  obtain ⟨ad155, A155_2, c155_2, e155, hx155_0, hx155_1, hx155_2, hx155_3, hx155_4, hl155_2, hi155_2⟩ := at_T41 HR0_4.out x6_4 p155 q155
                  cases e155
                  replace hx155_0 := (HB.out.cell (World.block_lt_of_cell? w _ hx155_0)).trans hx155_0
                  replace hx155_1 := (HB.out.cell (World.block_lt_of_cell? w _ hx155_1)).trans hx155_1
                  replace hx155_2 := (HB.out.cell (World.block_lt_of_cell? w _ hx155_2)).trans hx155_2
                  replace hx155_3 := (HB.out.cell (World.block_lt_of_cell? w _ hx155_3)).trans hx155_3
                  replace hx155_4 := (HB.out.cell (World.block_lt_of_cell? w _ hx155_4)).trans hx155_4
                  have HR155_2 := Aside0.mk hi155_2
                  have HC155_2 := Aside0.mk hl155_2
                  clear hi155_2 hl155_2
                  replace p155 := eq_true p155
                  replace q155 := eq_true q155
                  go_wp2_with (first | ((with_reducible refine gate_dst (N := 7) rfl ?_); (try (refine gate_guard (by rfl) ?_; dsimp only)); refine box_event ?hg (N := 7) ?hd (cs := #[.int .u8 0, .int .i64 0, .slice none 0 0, .int .u8 0, .int .i64 0]) (t := 41) ?hr ?_; (case hd => rfl); (case hg => rfl); (case hr => first | (go_simp; done) | (go_simp; rfl)); intro gb156 hg w79 hbox hb; have n0_ := Aside0.mk (blk_below (g := gb150) (o := .cells #[.int .i64 a0_0, .int .u8 a0_1, .int .u8 a0_2, .slice A0_3 l0_3.length c0_3, .slice (some ad155) l0_4.length c0_4] 25 (0, 0)) (by (with_reducible repeat (first | refine blk_drewN ?_ _ | refine blk_drew ?_ | refine blk_alloc ?_ _)); exact BK150.out) hb); have n1_ := Aside0.mk (below_step (by repeat (first | (with_reducible first | exact HB.out | apply below_alloc | apply pw_below_drewN | apply below_drew1 | refine below_set ?_ GE150.out) | exact HB.out)) hb); have n2_ := Aside0.mk (hbox); have n3_ := Aside0.mk ((by rw [hg]; exact (below_size (by repeat (first | (with_reducible first | exact HB.out | apply below_alloc | apply pw_below_drewN | apply below_drew1 | refine below_set ?_ GE150.out) | exact HB.out))) : w.heap.size ≤ gb156)); have n4_ := Aside0.mk ((by rw [hg]; exact (below_size (by repeat (first | (with_reducible first | exact HB.out | apply below_alloc | apply pw_below_drewN | apply below_drew1 | refine below_set ?_ GE150.out) | exact HB.out))) : w.heap.size ≤ gb156)); have n5_ := Aside0.mk ((by rw [hg]; exact Nat.ne_of_lt (blk_lt (g := gb150) (o := .cells #[.int .i64 a0_0, .int .u8 a0_1, .int .u8 a0_2, .slice A0_3 l0_3.length c0_3, .slice (some ad155) l0_4.length c0_4] 25 (0, 0)) (by (with_reducible repeat (first | refine blk_drewN ?_ _ | refine blk_drew ?_ | refine blk_alloc ?_ _)); exact BK150.out)) : gb150 ≠ gb156)); have n6_ := Aside0.mk ((by rw [hg]; exact Nat.ne_of_gt (blk_lt (g := gb150) (o := .cells #[.int .i64 a0_0, .int .u8 a0_1, .int .u8 a0_2, .slice A0_3 l0_3.length c0_3, .slice (some ad155) l0_4.length c0_4] 25 (0, 0)) (by (with_reducible repeat (first | refine blk_drewN ?_ _ | refine blk_drew ?_ | refine blk_alloc ?_ _)); exact BK150.out)) : gb156 ≠ gb150)); clear BK150; clear HB; have BK150 := n0_; have HB := n1_; have BK156 := n2_; have GW156 := n3_; have GE156 := n4_; have NB150_156 := n5_; have NB156_150 := n6_; clear n0_ n1_ n2_ n3_ n4_ n5_ n6_; clear hb hbox hg; have hnb80 := NB156_150.out; have hnc80 := NB150_156.out; have hcz81_0 : w79.cell? ⟨gb156, 0, none⟩ = some (.int .u8 0) := (blk_cell BK156.out 0).trans rfl; have hcz81_1 : w79.cell? ⟨gb156, 1, none⟩ = some (.int .i64 0) := (blk_cell BK156.out 1).trans rfl; have hcz81_2 : w79.cell? ⟨gb156, 2, none⟩ = some (.slice none 0 0) := (blk_cell BK156.out 2).trans rfl; have hcz81_3 : w79.cell? ⟨gb156, 3, none⟩ = some (.int .u8 0) := (blk_cell BK156.out 3).trans rfl; have hcz81_4 : w79.cell? ⟨gb156, 4, none⟩ = some (.int .i64 0) := (blk_cell BK156.out 4).trans rfl; have hfz81_0 := blk_frozen BK156.out 0; have hfz81_1 := blk_frozen BK156.out 1; have hfz81_2 := blk_frozen BK156.out 2; have hfz81_3 := blk_frozen BK156.out 3; have hfz81_4 := blk_frozen BK156.out 4; have hcz82_0 : w79.cell? ⟨gb150, 0, none⟩ = some (.int .i64 a0_0) := (blk_cell BK150.out 0).trans rfl; have hcz82_1 : w79.cell? ⟨gb150, 1, none⟩ = some (.int .u8 a0_1) := (blk_cell BK150.out 1).trans rfl; have hcz82_2 : w79.cell? ⟨gb150, 2, none⟩ = some (.int .u8 a0_2) := (blk_cell BK150.out 2).trans rfl; have hcz82_3 : w79.cell? ⟨gb150, 3, none⟩ = some (.slice A0_3 l0_3.length c0_3) := (blk_cell BK150.out 3).trans rfl; have hcz82_4 : w79.cell? ⟨gb150, 4, none⟩ = some (.slice (some ad155) l0_4.length c0_4) := (blk_cell BK150.out 4).trans rfl; have hfz82_0 := blk_frozen BK150.out 0; have hfz82_1 := blk_frozen BK150.out 1; have hfz82_2 := blk_frozen BK150.out 2; have hfz82_3 := blk_frozen BK150.out 3; have hfz82_4 := blk_frozen BK150.out 4) | ((with_reducible refine gate_dst (N := 77) rfl ?_); (try (refine gate_guard (by rfl) ?_; dsimp only)); refine Kd.R_lit k38 _ 38 ?hg (N := 77) ?hd (xs := ([(⟨(rd_T41 l0_4 x6_4).f0.f0, (rd_T41 l0_4 x6_4).f0.f1⟩ : S38), (⟨(rd_T41 l0_4 x6_4).f2.f0, (rd_T41 l0_4 x6_4).f2.f1⟩ : S38)] : List (S38))) (inner := [.int .u8 ((rd_T41 l0_4 x6_4).f0.f0), .int .i64 ((rd_T41 l0_4 x6_4).f0.f1), .int .u8 ((rd_T41 l0_4 x6_4).f2.f0), .int .i64 ((rd_T41 l0_4 x6_4).f2.f1)]) (ok := fun _ => True) (okp := fun _ => True) ?hr ?hp (fun _ hk => hk) trivial (Below.refl _ _) (Nat.le_refl _) (by simp) ?_; (case hd => rfl); (case hg => rfl); (case hr => first | (go_simp; done) | (go_simp; rfl)); (case hp => exact (Reps.c2 (show Kd.M k38 _ _ _ (⟨(rd_T41 l0_4 x6_4).f0.f0, (rd_T41 l0_4 x6_4).f0.f1⟩ : S38) [.int .u8 ((rd_T41 l0_4 x6_4).f0.f0), .int .i64 ((rd_T41 l0_4 x6_4).f0.f1)] from (k38_mkM _ _ _ (⟨(rd_T41 l0_4 x6_4).f0.f0, (rd_T41 l0_4 x6_4).f0.f1⟩ : S38) )) (Reps.c2 (show Kd.M k38 _ _ _ (⟨(rd_T41 l0_4 x6_4).f2.f0, (rd_T41 l0_4 x6_4).f2.f1⟩ : S38) [.int .u8 ((rd_T41 l0_4 x6_4).f2.f0), .int .i64 ((rd_T41 l0_4 x6_4).f2.f1)] from (k38_mkM _ _ _ (⟨(rd_T41 l0_4 x6_4).f2.f0, (rd_T41 l0_4 x6_4).f2.f1⟩ : S38) )) (Reps.none _ _)))); intro v158 w83 ho84 hb hg_ hnew_; clear hg_ hnew_; (first | rw [← Ny157.out] at ho84 | (simp only [Int.reduceToNat] at ho84; rw [← Ny157.out] at ho84)); have n0_ := Aside0.mk (Kd.R_lower ho84 (below_size (by repeat (first | (with_reducible first | exact HB.out | apply below_alloc | apply pw_below_drewN | apply below_drew1 | refine below_set ?_ GE150.out | refine below_set ?_ GE156.out) | exact HB.out)))); have n1_ := Aside0.mk (blk_below (g := gb150) (o := .cells #[.int .i64 a0_0, .int .u8 a0_1, .int .u8 a0_2, .slice A0_3 l0_3.length c0_3, .slice (some ad155) l0_4.length c0_4] 25 (0, 0)) (by (with_reducible repeat (first | refine blk_drewN ?_ _ | refine blk_drew ?_ | refine blk_alloc ?_ _)); refine blk_far ?_ NB150_156.out _; (with_reducible repeat (first | refine blk_drewN ?_ _ | refine blk_drew ?_ | refine blk_alloc ?_ _)); refine blk_far ?_ NB150_156.out _; (with_reducible repeat (first | refine blk_drewN ?_ _ | refine blk_drew ?_ | refine blk_alloc ?_ _)); refine blk_far ?_ NB150_156.out _; (with_reducible repeat (first | refine blk_drewN ?_ _ | refine blk_drew ?_ | refine blk_alloc ?_ _)); refine blk_far ?_ NB150_156.out _; (with_reducible repeat (first | refine blk_drewN ?_ _ | refine blk_drew ?_ | refine blk_alloc ?_ _)); refine blk_far ?_ NB150_156.out _; (with_reducible repeat (first | refine blk_drewN ?_ _ | refine blk_drew ?_ | refine blk_alloc ?_ _)); exact BK150.out) hb); have n2_ := Aside0.mk (blk_below (g := gb156) (o := .cells #[.int .u8 ((rd_T41 l0_4 x6_4).f0.f0), .int .i64 ((rd_T41 l0_4 x6_4).f0.f1), .slice A155_2 ((rd_T41 l0_4 x6_4).f1).length c155_2, .int .u8 ((rd_T41 l0_4 x6_4).f2.f0), .int .i64 ((rd_T41 l0_4 x6_4).f2.f1)] 41 (0, 0)) (by (with_reducible repeat (first | refine blk_drewN ?_ _ | refine blk_drew ?_ | refine blk_alloc ?_ _)); refine blk_put (cs := #[.int .u8 ((rd_T41 l0_4 x6_4).f0.f0), .int .i64 ((rd_T41 l0_4 x6_4).f0.f1), .slice A155_2 ((rd_T41 l0_4 x6_4).f1).length c155_2, .int .u8 ((rd_T41 l0_4 x6_4).f2.f0), .int .i64 0]) ?_ 4 _ rfl; (with_reducible repeat (first | refine blk_drewN ?_ _ | refine blk_drew ?_ | refine blk_alloc ?_ _)); refine blk_put (cs := #[.int .u8 ((rd_T41 l0_4 x6_4).f0.f0), .int .i64 ((rd_T41 l0_4 x6_4).f0.f1), .slice A155_2 ((rd_T41 l0_4 x6_4).f1).length c155_2, .int .u8 0, .int .i64 0]) ?_ 3 _ rfl; (with_reducible repeat (first | refine blk_drewN ?_ _ | refine blk_drew ?_ | refine blk_alloc ?_ _)); refine blk_put (cs := #[.int .u8 ((rd_T41 l0_4 x6_4).f0.f0), .int .i64 ((rd_T41 l0_4 x6_4).f0.f1), .slice none 0 0, .int .u8 0, .int .i64 0]) ?_ 2 _ rfl; (with_reducible repeat (first | refine blk_drewN ?_ _ | refine blk_drew ?_ | refine blk_alloc ?_ _)); refine blk_put (cs := #[.int .u8 ((rd_T41 l0_4 x6_4).f0.f0), .int .i64 0, .slice none 0 0, .int .u8 0, .int .i64 0]) ?_ 1 _ rfl; (with_reducible repeat (first | refine blk_drewN ?_ _ | refine blk_drew ?_ | refine blk_alloc ?_ _)); refine blk_put (cs := #[.int .u8 0, .int .i64 0, .slice none 0 0, .int .u8 0, .int .i64 0]) ?_ 0 _ rfl; (with_reducible repeat (first | refine blk_drewN ?_ _ | refine blk_drew ?_ | refine blk_alloc ?_ _)); exact BK156.out) hb); have n3_ := Aside0.mk (below_step (by repeat (first | (with_reducible first | exact HB.out | apply below_alloc | apply pw_below_drewN | apply below_drew1 | refine below_set ?_ GE150.out | refine below_set ?_ GE156.out) | exact HB.out)) hb); clear BK150; clear BK156; clear HB; have HO159 := n0_; have BK150 := n1_; have BK156 := n2_; have HB := n3_; clear n0_ n1_ n2_ n3_; clear hb ho84; obtain ⟨Ao85, co85, eo85⟩ := Kd.R_slice HO159.out; subst eo85) | (go_at_call 13; (with_reducible refine (vivariumref10_terms.calls k4 a0_0 a0_1 a0_2 _ _ l0_3 _ _ l0_4 _ _ y157 false _ ?side1 ?side2 ?side3 ?side4 ?side5 ?side6 A32.out).mono ?_); (case side1 => repeat (first | exact (Kd.C_below HR0_3.out HB.out) | (with_reducible refine Kd.C_alloc ?_ _) | (with_reducible refine Kd.C_drewN ?_ _) | (with_reducible refine Kd.C_drew ?_))); (case side2 => exact HC0_3.out); (case side3 => repeat (first | exact (Kd.C_below HR0_4.out HB.out) | (with_reducible refine Kd.C_alloc ?_ _) | (with_reducible refine Kd.C_drewN ?_ _) | (with_reducible refine Kd.C_drew ?_))); (case side4 => exact HC0_4.out); (case side5 => repeat (first | exact (Kd.R_reads' HO159.out).2.2 | (with_reducible refine Kd.C_alloc ?_ _) | (with_reducible refine Kd.C_drewN ?_ _) | (with_reducible refine Kd.C_drew ?_))); (case side6 => exact (Kd.R_reads' HO159.out).2.1); rintro e w86 ⟨rfl, hb⟩; have n0_ := Aside0.mk (Kd.R_below (by (with_reducible repeat (first | apply Kd.R_alloc | apply Kd.R_drewN | apply Kd.R_drew)); exact HO159.out) hb); have n1_ := Aside0.mk (blk_below (g := gb150) (o := .cells #[.int .i64 a0_0, .int .u8 a0_1, .int .u8 a0_2, .slice A0_3 l0_3.length c0_3, .slice (some ad155) l0_4.length c0_4] 25 (0, 0)) (by (with_reducible repeat (first | refine blk_drewN ?_ _ | refine blk_drew ?_ | refine blk_alloc ?_ _)); exact BK150.out) hb); have n2_ := Aside0.mk (blk_below (g := gb156) (o := .cells #[.int .u8 ((rd_T41 l0_4 x6_4).f0.f0), .int .i64 ((rd_T41 l0_4 x6_4).f0.f1), .slice A155_2 ((rd_T41 l0_4 x6_4).f1).length c155_2, .int .u8 ((rd_T41 l0_4 x6_4).f2.f0), .int .i64 ((rd_T41 l0_4 x6_4).f2.f1)] 41 (0, 0)) (by (with_reducible repeat (first | refine blk_drewN ?_ _ | refine blk_drew ?_ | refine blk_alloc ?_ _)); exact BK156.out) hb); have n3_ := Aside0.mk (below_step (by repeat (first | (with_reducible first | exact HB.out | apply below_alloc | apply pw_below_drewN | apply below_drew1 | refine below_set ?_ GE150.out | refine below_set ?_ GE156.out) | exact HB.out)) hb); clear HO159; clear BK150; clear BK156; clear HB; have HO159 := n0_; have BK150 := n1_; have BK156 := n2_; have HB := n3_; clear n0_ n1_ n2_ n3_; (try clear hb); (try clear hb2); (try clear hk); (try clear hi)))
                  go_ret
                  exact ⟨by first | rfl | (simp [errW_none, errW_some] <;> rfl) | (simp [*, errW_none, errW_some] <;> rfl), by repeat (first | (with_reducible first | exact HB.out | apply below_alloc | apply pw_below_drewN | apply below_drew1 | refine below_set ?_ GE150.out | refine below_set ?_ GE156.out) | exact HB.out)⟩
                ·rw [if_neg c31] at H
                 have c31b0 : ((((rd_T41 l0_4 x6_4).f1).length : Int) == t151) = false := beq_eq_false_iff_ne.mpr c31
                 have c31b1 : ((((rd_T41 l0_4 x6_4).f1).length : Int) != t151) = true := bne_iff_ne.mpr c31
                 obtain rfl := Option.some.inj H
                 have hcz87_0 : wr.cell? ⟨gb150, 0, none⟩ = some (.int .i64 a0_0) := (blk_cell BK150.out 0).trans rfl
                 have hcz87_1 : wr.cell? ⟨gb150, 1, none⟩ = some (.int .u8 a0_1) := (blk_cell BK150.out 1).trans rfl
                 have hcz87_2 : wr.cell? ⟨gb150, 2, none⟩ = some (.int .u8 a0_2) := (blk_cell BK150.out 2).trans rfl
                 have hcz87_3 : wr.cell? ⟨gb150, 3, none⟩ = some (.slice A0_3 l0_3.length c0_3) := (blk_cell BK150.out 3).trans rfl
                 have hcz87_4 : wr.cell? ⟨gb150, 4, none⟩ = some (.slice A0_4 l0_4.length c0_4) := (blk_cell BK150.out 4).trans rfl
                 have hfz87_0 := blk_frozen BK150.out 0
                 have hfz87_1 := blk_frozen BK150.out 1
                 have hfz87_2 := blk_frozen BK150.out 2
                 have hfz87_3 := blk_frozen BK150.out 3
                 have hfz87_4 := blk_frozen BK150.out 4
                 have p155 : 0 ≤ (x6_4 : Int) := of_decide_eq_true (by first | (with_reducible assumption) | assumption)
                 have q155 : x6_4 < (l0_4.length : Int) := of_decide_eq_true (by first | (with_reducible assumption) | assumption)
                 obtain ⟨ad155, A155_2, c155_2, e155, hx155_0, hx155_1, hx155_2, hx155_3, hx155_4, hl155_2, hi155_2⟩ := at_T41 HR0_4.out x6_4 p155 q155
                 cases e155
                 replace hx155_0 := (HB.out.cell (World.block_lt_of_cell? w _ hx155_0)).trans hx155_0
                 replace hx155_1 := (HB.out.cell (World.block_lt_of_cell? w _ hx155_1)).trans hx155_1
                 replace hx155_2 := (HB.out.cell (World.block_lt_of_cell? w _ hx155_2)).trans hx155_2
                 replace hx155_3 := (HB.out.cell (World.block_lt_of_cell? w _ hx155_3)).trans hx155_3
                 replace hx155_4 := (HB.out.cell (World.block_lt_of_cell? w _ hx155_4)).trans hx155_4
                 have HR155_2 := Aside0.mk hi155_2
                 have HC155_2 := Aside0.mk hl155_2
                 clear hi155_2 hl155_2
                 replace p155 := eq_true p155
                 replace q155 := eq_true q155
                 go_wp2_with (first | ((with_reducible refine gate_dst (N := 7) rfl ?_); (try (refine gate_guard (by rfl) ?_; dsimp only)); refine box_event ?hg (N := 7) ?hd (cs := #[.int .u8 0, .int .i64 0, .slice none 0 0, .int .u8 0, .int .i64 0]) (t := 41) ?hr ?_; (case hd => rfl); (case hg => rfl); (case hr => first | (go_simp; done) | (go_simp; rfl)); intro gb156 hg w88 hbox hb; have n0_ := Aside0.mk (blk_below (g := gb150) (o := .cells #[.int .i64 a0_0, .int .u8 a0_1, .int .u8 a0_2, .slice A0_3 l0_3.length c0_3, .slice (some ad155) l0_4.length c0_4] 25 (0, 0)) (by (with_reducible repeat (first | refine blk_drewN ?_ _ | refine blk_drew ?_ | refine blk_alloc ?_ _)); exact BK150.out) hb); have n1_ := Aside0.mk (below_step (by repeat (first | (with_reducible first | exact HB.out | apply below_alloc | apply pw_below_drewN | apply below_drew1 | refine below_set ?_ GE150.out) | exact HB.out)) hb); have n2_ := Aside0.mk (hbox); have n3_ := Aside0.mk ((by rw [hg]; exact (below_size (by repeat (first | (with_reducible first | exact HB.out | apply below_alloc | apply pw_below_drewN | apply below_drew1 | refine below_set ?_ GE150.out) | exact HB.out))) : w.heap.size ≤ gb156)); have n4_ := Aside0.mk ((by rw [hg]; exact (below_size (by repeat (first | (with_reducible first | exact HB.out | apply below_alloc | apply pw_below_drewN | apply below_drew1 | refine below_set ?_ GE150.out) | exact HB.out))) : w.heap.size ≤ gb156)); have n5_ := Aside0.mk ((by rw [hg]; exact Nat.ne_of_lt (blk_lt (g := gb150) (o := .cells #[.int .i64 a0_0, .int .u8 a0_1, .int .u8 a0_2, .slice A0_3 l0_3.length c0_3, .slice (some ad155) l0_4.length c0_4] 25 (0, 0)) (by (with_reducible repeat (first | refine blk_drewN ?_ _ | refine blk_drew ?_ | refine blk_alloc ?_ _)); exact BK150.out)) : gb150 ≠ gb156)); have n6_ := Aside0.mk ((by rw [hg]; exact Nat.ne_of_gt (blk_lt (g := gb150) (o := .cells #[.int .i64 a0_0, .int .u8 a0_1, .int .u8 a0_2, .slice A0_3 l0_3.length c0_3, .slice (some ad155) l0_4.length c0_4] 25 (0, 0)) (by (with_reducible repeat (first | refine blk_drewN ?_ _ | refine blk_drew ?_ | refine blk_alloc ?_ _)); exact BK150.out)) : gb156 ≠ gb150)); clear BK150; clear HB; have BK150 := n0_; have HB := n1_; have BK156 := n2_; have GW156 := n3_; have GE156 := n4_; have NB150_156 := n5_; have NB156_150 := n6_; clear n0_ n1_ n2_ n3_ n4_ n5_ n6_; clear hb hbox hg; have hnb89 := NB156_150.out; have hnc89 := NB150_156.out; have hcz90_0 : w88.cell? ⟨gb156, 0, none⟩ = some (.int .u8 0) := (blk_cell BK156.out 0).trans rfl; have hcz90_1 : w88.cell? ⟨gb156, 1, none⟩ = some (.int .i64 0) := (blk_cell BK156.out 1).trans rfl; have hcz90_2 : w88.cell? ⟨gb156, 2, none⟩ = some (.slice none 0 0) := (blk_cell BK156.out 2).trans rfl; have hcz90_3 : w88.cell? ⟨gb156, 3, none⟩ = some (.int .u8 0) := (blk_cell BK156.out 3).trans rfl; have hcz90_4 : w88.cell? ⟨gb156, 4, none⟩ = some (.int .i64 0) := (blk_cell BK156.out 4).trans rfl; have hfz90_0 := blk_frozen BK156.out 0; have hfz90_1 := blk_frozen BK156.out 1; have hfz90_2 := blk_frozen BK156.out 2; have hfz90_3 := blk_frozen BK156.out 3; have hfz90_4 := blk_frozen BK156.out 4))
                 go_ret
                 exact ⟨by first | rfl | (simp [errW_none, errW_some] <;> rfl) | (simp [*, errW_none, errW_some] <;> rfl), by repeat (first | (with_reducible first | exact HB.out | apply below_alloc | apply pw_below_drewN | apply below_drew1 | refine below_set ?_ GE150.out | refine below_set ?_ GE156.out) | exact HB.out)⟩
               ·rw [if_neg c30] at H
                exact absurd H (by simp)
              ·rw [if_neg c29] at H
               have c29b0 : decide (x6_4 < (l0_4.length : Int)) = false := decide_eq_false c29
               clear c29
               obtain rfl := Option.some.inj H
               have hcz91_0 : wr.cell? ⟨gb150, 0, none⟩ = some (.int .i64 a0_0) := (blk_cell BK150.out 0).trans rfl
               have hcz91_1 : wr.cell? ⟨gb150, 1, none⟩ = some (.int .u8 a0_1) := (blk_cell BK150.out 1).trans rfl
               have hcz91_2 : wr.cell? ⟨gb150, 2, none⟩ = some (.int .u8 a0_2) := (blk_cell BK150.out 2).trans rfl
               have hcz91_3 : wr.cell? ⟨gb150, 3, none⟩ = some (.slice A0_3 l0_3.length c0_3) := (blk_cell BK150.out 3).trans rfl
               have hcz91_4 : wr.cell? ⟨gb150, 4, none⟩ = some (.slice A0_4 l0_4.length c0_4) := (blk_cell BK150.out 4).trans rfl
               have hfz91_0 := blk_frozen BK150.out 0
               have hfz91_1 := blk_frozen BK150.out 1
               have hfz91_2 := blk_frozen BK150.out 2
               have hfz91_3 := blk_frozen BK150.out 3
               have hfz91_4 := blk_frozen BK150.out 4
               go_wp2
               go_ret
               exact ⟨by first | rfl | (simp [errW_none, errW_some] <;> rfl) | (simp [*, errW_none, errW_some] <;> rfl), by repeat (first | (with_reducible first | exact HB.out | apply below_alloc | apply pw_below_drewN | apply below_drew1 | refine below_set ?_ GE150.out) | exact HB.out)⟩
     ·rw [if_neg c11] at H
      have c11b0 : (t153 == 0) = false := beq_eq_false_iff_ne.mpr c11
      have c11b1 : (t153 != 0) = true := bne_iff_ne.mpr c11
      obtain rfl := Option.some.inj H
      have hcz92_0 : wc.cell? ⟨gb150, 0, none⟩ = some (.int .i64 a0_0) := (blk_cell BK150.out 0).trans rfl
      have hcz92_1 : wc.cell? ⟨gb150, 1, none⟩ = some (.int .u8 a0_1) := (blk_cell BK150.out 1).trans rfl
      have hcz92_2 : wc.cell? ⟨gb150, 2, none⟩ = some (.int .u8 a0_2) := (blk_cell BK150.out 2).trans rfl
      have hcz92_3 : wc.cell? ⟨gb150, 3, none⟩ = some (.slice A0_3 l0_3.length c0_3) := (blk_cell BK150.out 3).trans rfl
      have hcz92_4 : wc.cell? ⟨gb150, 4, none⟩ = some (.slice A0_4 l0_4.length c0_4) := (blk_cell BK150.out 4).trans rfl
      have hfz92_0 := blk_frozen BK150.out 0
      have hfz92_1 := blk_frozen BK150.out 1
      have hfz92_2 := blk_frozen BK150.out 2
      have hfz92_3 := blk_frozen BK150.out 3
      have hfz92_4 := blk_frozen BK150.out 4
      go_wp2_with (first | ((with_reducible refine gate_callee (f := 10) rfl ?_); refine goesL_ (some 19) rfl rfl Tryd.func10 (by kernel_rfl) rfl #[.int .u8 a0_1] rfl (by (try simp only [List.map_toArray, List.map_cons, List.map_nil]); first | done | rfl | (simp only [List.length_drop, List.length_take]; rfl)) ?_; (with_reducible refine (vivariumref07_Size.calls a0_1 t151 t152 _ A8.out).mono ?_); rintro e w93 ⟨rfl, hb⟩; refine ⟨_, rfl, ?_⟩; have n0_ := Aside0.mk (blk_below (g := gb150) (o := .cells #[.int .i64 a0_0, .int .u8 a0_1, .int .u8 a0_2, .slice A0_3 l0_3.length c0_3, .slice A0_4 l0_4.length c0_4] 25 (0, 0)) (by (with_reducible repeat (first | refine blk_drewN ?_ _ | refine blk_drew ?_ | refine blk_alloc ?_ _)); exact BK150.out) hb); have n1_ := Aside0.mk (below_step (by repeat (first | (with_reducible first | exact HB.out | apply below_alloc | apply pw_below_drewN | apply below_drew1 | refine below_set ?_ GE150.out) | exact HB.out)) hb); clear BK150; clear HB; have BK150 := n0_; have HB := n1_; clear n0_ n1_; (try clear hb); (try clear hb2); (try clear hk); (try clear hi); have hcz94_0 : w93.cell? ⟨gb150, 0, none⟩ = some (.int .i64 a0_0) := (blk_cell BK150.out 0).trans rfl; have hcz94_1 : w93.cell? ⟨gb150, 1, none⟩ = some (.int .u8 a0_1) := (blk_cell BK150.out 1).trans rfl; have hcz94_2 : w93.cell? ⟨gb150, 2, none⟩ = some (.int .u8 a0_2) := (blk_cell BK150.out 2).trans rfl; have hcz94_3 : w93.cell? ⟨gb150, 3, none⟩ = some (.slice A0_3 l0_3.length c0_3) := (blk_cell BK150.out 3).trans rfl; have hcz94_4 : w93.cell? ⟨gb150, 4, none⟩ = some (.slice A0_4 l0_4.length c0_4) := (blk_cell BK150.out 4).trans rfl; have hfz94_0 := blk_frozen BK150.out 0; have hfz94_1 := blk_frozen BK150.out 1; have hfz94_2 := blk_frozen BK150.out 2; have hfz94_3 := blk_frozen BK150.out 3; have hfz94_4 := blk_frozen BK150.out 4) | ((with_reducible refine gate_callee (f := 11) rfl ?_); refine goesL_ (some 29) rfl rfl Tryd.func11 (by kernel_rfl) rfl #[.int .u8 a0_2, .int .u8 a0_1] rfl (by (try simp only [List.map_toArray, List.map_cons, List.map_nil]); first | done | rfl | (simp only [List.length_drop, List.length_take]; rfl)) ?_; (with_reducible refine (vivariumref10_may.calls kj1 a0_2 a0_1 t153 _ A10.out).mono ?_); rintro e w95 ⟨rfl, hb⟩; refine ⟨_, rfl, ?_⟩; have n0_ := Aside0.mk (blk_below (g := gb150) (o := .cells #[.int .i64 a0_0, .int .u8 a0_1, .int .u8 a0_2, .slice A0_3 l0_3.length c0_3, .slice A0_4 l0_4.length c0_4] 25 (0, 0)) (by (with_reducible repeat (first | refine blk_drewN ?_ _ | refine blk_drew ?_ | refine blk_alloc ?_ _)); exact BK150.out) hb); have n1_ := Aside0.mk (below_step (by repeat (first | (with_reducible first | exact HB.out | apply below_alloc | apply pw_below_drewN | apply below_drew1 | refine below_set ?_ GE150.out) | exact HB.out)) hb); clear BK150; clear HB; have BK150 := n0_; have HB := n1_; clear n0_ n1_; (try clear hb); (try clear hb2); (try clear hk); (try clear hi)))
      go_ret
      exact ⟨by first | rfl | (simp [errW_none, errW_some] <;> rfl) | (simp [*, errW_none, errW_some] <;> rfl), by repeat (first | (with_reducible first | exact HB.out | apply below_alloc | apply pw_below_drewN | apply below_drew1 | refine below_set ?_ GE150.out) | exact HB.out)⟩
    ·rw [if_neg c9] at H
     have c9b0 : (t152 == 0) = false := beq_eq_false_iff_ne.mpr c9
     have c9b1 : (t152 != 0) = true := bne_iff_ne.mpr c9
     obtain rfl := Option.some.inj H
     have hcz96_0 : wc.cell? ⟨gb150, 0, none⟩ = some (.int .i64 a0_0) := (blk_cell BK150.out 0).trans rfl
     have hcz96_1 : wc.cell? ⟨gb150, 1, none⟩ = some (.int .u8 a0_1) := (blk_cell BK150.out 1).trans rfl
     have hcz96_2 : wc.cell? ⟨gb150, 2, none⟩ = some (.int .u8 a0_2) := (blk_cell BK150.out 2).trans rfl
     have hcz96_3 : wc.cell? ⟨gb150, 3, none⟩ = some (.slice A0_3 l0_3.length c0_3) := (blk_cell BK150.out 3).trans rfl
     have hcz96_4 : wc.cell? ⟨gb150, 4, none⟩ = some (.slice A0_4 l0_4.length c0_4) := (blk_cell BK150.out 4).trans rfl
     have hfz96_0 := blk_frozen BK150.out 0
     have hfz96_1 := blk_frozen BK150.out 1
     have hfz96_2 := blk_frozen BK150.out 2
     have hfz96_3 := blk_frozen BK150.out 3
     have hfz96_4 := blk_frozen BK150.out 4
     go_wp2_with (first | ((with_reducible refine gate_callee (f := 10) rfl ?_); refine goesL_ (some 19) rfl rfl Tryd.func10 (by kernel_rfl) rfl #[.int .u8 a0_1] rfl (by (try simp only [List.map_toArray, List.map_cons, List.map_nil]); first | done | rfl | (simp only [List.length_drop, List.length_take]; rfl)) ?_; (with_reducible refine (vivariumref07_Size.calls a0_1 t151 t152 _ A8.out).mono ?_); rintro e w97 ⟨rfl, hb⟩; refine ⟨_, rfl, ?_⟩; have n0_ := Aside0.mk (blk_below (g := gb150) (o := .cells #[.int .i64 a0_0, .int .u8 a0_1, .int .u8 a0_2, .slice A0_3 l0_3.length c0_3, .slice A0_4 l0_4.length c0_4] 25 (0, 0)) (by (with_reducible repeat (first | refine blk_drewN ?_ _ | refine blk_drew ?_ | refine blk_alloc ?_ _)); exact BK150.out) hb); have n1_ := Aside0.mk (below_step (by repeat (first | (with_reducible first | exact HB.out | apply below_alloc | apply pw_below_drewN | apply below_drew1 | refine below_set ?_ GE150.out) | exact HB.out)) hb); clear BK150; clear HB; have BK150 := n0_; have HB := n1_; clear n0_ n1_; (try clear hb); (try clear hb2); (try clear hk); (try clear hi)))
     go_ret
     exact ⟨by first | rfl | (simp [errW_none, errW_some] <;> rfl) | (simp [*, errW_none, errW_some] <;> rfl), by repeat (first | (with_reducible first | exact HB.out | apply below_alloc | apply pw_below_drewN | apply below_drew1 | refine below_set ?_ GE150.out) | exact HB.out)⟩
end Go.Proofs.YtajhfkcmfmhnaaaDoor.P
end

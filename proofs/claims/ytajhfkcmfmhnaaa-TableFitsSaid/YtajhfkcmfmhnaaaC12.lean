-- Written by a program of this session (wip/tools/shake.py): texts of this claim, of each what the claim names.
import Derived.Test.YtajhfkcmfmhnaaaC2
import Derived.Test.YtajhfkcmfmhnaaaC3
import Derived.Test.YtajhfkcmfmhnaaaC4
import Derived.Test.YtajhfkcmfmhnaaaC5
import Derived.Test.YtajhfkcmfmhnaaaC9
import Derived.Test.YtajhfkcmfmhnaaaC10
import Derived.Deep.DeepMust
import Derived.StillTailTactics
import Derived.Great.BuildSlice
import Derived.Great.Walk
section
namespace Go.Proofs.Ytajhfkcmfmhnaaa.P
open Go.RowKit Go.Proofs.YtajhfkcmfmhnaaaW.PrintWords Go.Proofs.YtajhfkcmfmhnaaaW.PrintLast Go.Proofs.YtajhfkcmfmhnaaaW.PrintMore
attribute [local go_sem] max2_int min2_int max_two min_two max_three min_three max_four min_four   -- for this text's walks alone
set_option linter.unusedVariables false
set_option linter.unusedSimpArgs false
mutual
def table_asked.j0 : Nat → Int → List Int → Bool → Int → Int → Int → List (S65) → List (S62) → Option (Int)
 | 0, _, _, _, _, _, _, _, _ => none
 | k + 1, x2, x3, x32, x257000, x257001, x257002, x257003, x257004 => if x32 = true then (some 2) else (if (wrap64 (x2)) ≥ x257000 then (some 7) else (table_asked.l0 k x3 (x3.length : Int) 0 x257000 x257001 x257002 x257003 x257004))
def table_asked.l0 : Nat → List Int → Int → Int → Int → Int → Int → List (S65) → List (S62) → Option (Int)
 | 0, _, _, _, _, _, _, _, _ => none
 | k + 1, x38, x39, x40, x257000, x257001, x257002, x257003, x257004 => if x40 < x39 then (if 0 ≤ x40 then (if x40 < (x38.length : Int) then (if (wrap64 (rd x38 x40)) ≥ x257000 then (some 7) else (table_asked.l0 k x38 x39 (wrap64 (x40 + 1)) x257000 x257001 x257002 x257003 x257004)) else (none)) else (none)) else (some 0)
end
def table_asked.f (k : Nat) (a0_0 : Int) (a0_1 : Int) (a0_2 : Int) (l0_3 : List (S65)) (l0_4 : List (S62)) (a1 : Bool) (a2 : Int) (l3 : List Int) : Option (Int) := (table_Check.f k a0_0 a0_1 a0_2 l0_3 l0_4).bind fun t257 => (if t257 = 0 then ((hood_Size.f a0_1).bind fun bt258 => (if a1 = true then (table_asked.j0 k a2 l3 ((l3.length : Int) != bt258.1) a0_0 a0_1 a0_2 l0_3 l0_4) else (table_asked.j0 k a2 l3 true a0_0 a0_1 a0_2 l0_3 l0_4))) else (some t257))
set_option maxHeartbeats 8000000 in
set_option maxRecDepth 100000 in
theorem table_asked.calls (k : Nat) (a0_0 : Int) (a0_1 : Int) (a0_2 : Int) (A0_3 : Option Addr) (c0_3 : Nat) (l0_3 : List (S65)) (A0_4 : Option Addr) (c0_4 : Nat) (l0_4 : List (S62)) (a1 : Bool) (a2 : Int) (A3 : Option Addr) (c3 : Nat) (l3 : List Int) (r : Int) (w : World) (hr0_3 : Kd.C k65 w A0_3 l0_3.length l0_3) (hc0_3 : l0_3.length ≤ c0_3) (hr0_4 : Kd.C k62 w A0_4 l0_4.length l0_4) (hc0_4 : l0_4.length ≤ c0_4) (hr3 : Kd.C (Kd.int .u8) w A3 l3.length l3) (hc3 : l3.length ≤ c3) (h : table_asked.f k a0_0 a0_1 a0_2 l0_3 l0_4 a1 a2 l3 = some r) :
  Calls Try.prog 31 #[.agg #[.int .i64 a0_0, .int .u8 a0_1, .int .u8 a0_2, .slice A0_3 l0_3.length c0_3, .slice A0_4 l0_4.length c0_4], .bool a1, .int .u8 a2, .slice A3 l3.length c3] w fun e w' => e = .returned (.int .i64 r) ∧ Below w.heap.size w w' := by
 have hu33 := Try.underlying33
 have HR0_3 := Aside0.mk hr0_3
 have HC0_3 := Aside0.mk hc0_3
 clear hr0_3 hc0_3
 have HR0_4 := Aside0.mk hr0_4
 have HC0_4 := Aside0.mk hc0_4
 clear hr0_4 hc0_4
 have HR3 := Aside0.mk hr3
 have HC3 := Aside0.mk hc3
 clear hr3 hc3
 have HB := Aside0.mk (Below.refl w.heap.size w)
 have H : ((table_Check.f k a0_0 a0_1 a0_2 l0_3 l0_4).bind fun t257 => (if t257 = 0 then ((hood_Size.f a0_1).bind fun bt258 => (if a1 = true then (table_asked.j0 k a2 l3 ((l3.length : Int) != bt258.1) a0_0 a0_1 a0_2 l0_3 l0_4) else (table_asked.j0 k a2 l3 true a0_0 a0_1 a0_2 l0_3 l0_4))) else (some t257))) = some r := h
 clear h
 replace H := Option.bind_eq_some_iff.mp H
 obtain ⟨t257, A50, H⟩ := H
 replace H : (if t257 = 0 then ((hood_Size.f a0_1).bind fun bt258 => (if a1 = true then (table_asked.j0 k a2 l3 ((l3.length : Int) != bt258.1) a0_0 a0_1 a0_2 l0_3 l0_4) else (table_asked.j0 k a2 l3 true a0_0 a0_1 a0_2 l0_3 l0_4))) else (some t257)) = some r := H
 have A5 := Aside0.mk A50
 clear A50
 by_cases c6 : t257 = 0
 ·rw [if_pos c6] at H
  have c6b0 : (t257 == 0) = true := beq_iff_eq.mpr c6
  have c6b1 : (t257 != 0) = false := bne_eq_false_iff_eq.mpr c6
  clear c6
  replace H := Option.bind_eq_some_iff.mp H
  obtain ⟨⟨t258, t259⟩, A70, H⟩ := H
  replace H : (if a1 = true then (table_asked.j0 k a2 l3 ((l3.length : Int) != t258) a0_0 a0_1 a0_2 l0_3 l0_4) else (table_asked.j0 k a2 l3 true a0_0 a0_1 a0_2 l0_3 l0_4)) = some r := H
  have A7 := Aside0.mk A70
  clear A70
  have HC8 := Aside0.mk H
  clear H
  go_enter Try.func31, Try.ntmps31
  go_upto_region 5 with (first | ((with_reducible refine gate_dst (N := 4) rfl ?_); (try (refine gate_guard (by rfl) ?_; dsimp only)); refine box_event ?hg (N := 4) ?hd (cs := #[.int .i64 a0_0, .int .u8 a0_1, .int .u8 a0_2, .slice A0_3 l0_3.length c0_3, .slice A0_4 l0_4.length c0_4]) (t := 33) ?hr ?_; (case hd => rfl); (case hg => rfl); (case hr => first | (go_simp; done) | (go_simp; rfl)); intro gb256 hg w9 hbox hb; have n0_ := Aside0.mk (below_step (by repeat (first | (with_reducible first | exact HB.out | apply below_alloc | apply pw_below_drewN | apply below_drew1) | exact HB.out)) hb); have n1_ := Aside0.mk (hbox); have n2_ := Aside0.mk ((by rw [hg]; exact (below_size (by repeat (first | (with_reducible first | exact HB.out | apply below_alloc | apply pw_below_drewN | apply below_drew1) | exact HB.out))) : w.heap.size ≤ gb256)); have n3_ := Aside0.mk ((by rw [hg]; exact (below_size (by repeat (first | (with_reducible first | exact HB.out | apply below_alloc | apply pw_below_drewN | apply below_drew1) | exact HB.out))) : w.heap.size ≤ gb256)); clear HB; have HB := n0_; have BK256 := n1_; have GW256 := n2_; have GE256 := n3_; clear n0_ n1_ n2_ n3_; clear hb hbox hg; have hcz10_0 : w9.cell? ⟨gb256, 0, none⟩ = some (.int .i64 a0_0) := (blk_cell BK256.out 0).trans rfl; have hcz10_1 : w9.cell? ⟨gb256, 1, none⟩ = some (.int .u8 a0_1) := (blk_cell BK256.out 1).trans rfl; have hcz10_2 : w9.cell? ⟨gb256, 2, none⟩ = some (.int .u8 a0_2) := (blk_cell BK256.out 2).trans rfl; have hcz10_3 : w9.cell? ⟨gb256, 3, none⟩ = some (.slice A0_3 l0_3.length c0_3) := (blk_cell BK256.out 3).trans rfl; have hcz10_4 : w9.cell? ⟨gb256, 4, none⟩ = some (.slice A0_4 l0_4.length c0_4) := (blk_cell BK256.out 4).trans rfl; have hfz10_0 := blk_frozen BK256.out 0; have hfz10_1 := blk_frozen BK256.out 1; have hfz10_2 := blk_frozen BK256.out 2; have hfz10_3 := blk_frozen BK256.out 3; have hfz10_4 := blk_frozen BK256.out 4) | ((with_reducible refine gate_callee (f := 45) rfl ?_); refine goesL_ (some 15) rfl rfl Try.func45 (by kernel_rfl) rfl #[.agg #[.int .i64 a0_0, .int .u8 a0_1, .int .u8 a0_2, .slice A0_3 l0_3.length c0_3, .slice A0_4 l0_4.length c0_4]] rfl (by (try simp only [List.map_toArray, List.map_cons, List.map_nil]); first | done | rfl | (simp only [List.length_drop, List.length_take]; rfl)) ?_; (with_reducible refine (table_Check.calls k a0_0 a0_1 a0_2 _ _ l0_3 _ _ l0_4 t257 _ ?side1 ?side2 ?side3 ?side4 A5.out).mono ?_); (case side1 => repeat (first | exact (Kd.C_below HR0_3.out HB.out) | (with_reducible refine Kd.C_alloc ?_ _) | (with_reducible refine Kd.C_drewN ?_ _) | (with_reducible refine Kd.C_drew ?_))); (case side2 => exact HC0_3.out); (case side3 => repeat (first | exact (Kd.C_below HR0_4.out HB.out) | (with_reducible refine Kd.C_alloc ?_ _) | (with_reducible refine Kd.C_drewN ?_ _) | (with_reducible refine Kd.C_drew ?_))); (case side4 => exact HC0_4.out); rintro e w11 ⟨rfl, hb⟩; refine ⟨_, rfl, ?_⟩; have n0_ := Aside0.mk (blk_below (g := gb256) (o := .cells #[.int .i64 a0_0, .int .u8 a0_1, .int .u8 a0_2, .slice A0_3 l0_3.length c0_3, .slice A0_4 l0_4.length c0_4] 33 (0, 0)) (by (with_reducible repeat (first | refine blk_drewN ?_ _ | refine blk_drew ?_ | refine blk_alloc ?_ _)); exact BK256.out) hb); have n1_ := Aside0.mk (below_step (by repeat (first | (with_reducible first | exact HB.out | apply below_alloc | apply pw_below_drewN | apply below_drew1 | refine below_set ?_ GE256.out) | exact HB.out)) hb); clear BK256; clear HB; have BK256 := n0_; have HB := n1_; clear n0_ n1_; (try clear hb); (try clear hb2); (try clear hk); (try clear hi); have hcz12_0 : w11.cell? ⟨gb256, 0, none⟩ = some (.int .i64 a0_0) := (blk_cell BK256.out 0).trans rfl; have hcz12_1 : w11.cell? ⟨gb256, 1, none⟩ = some (.int .u8 a0_1) := (blk_cell BK256.out 1).trans rfl; have hcz12_2 : w11.cell? ⟨gb256, 2, none⟩ = some (.int .u8 a0_2) := (blk_cell BK256.out 2).trans rfl; have hcz12_3 : w11.cell? ⟨gb256, 3, none⟩ = some (.slice A0_3 l0_3.length c0_3) := (blk_cell BK256.out 3).trans rfl; have hcz12_4 : w11.cell? ⟨gb256, 4, none⟩ = some (.slice A0_4 l0_4.length c0_4) := (blk_cell BK256.out 4).trans rfl; have hfz12_0 := blk_frozen BK256.out 0; have hfz12_1 := blk_frozen BK256.out 1; have hfz12_2 := blk_frozen BK256.out 2; have hfz12_3 := blk_frozen BK256.out 3; have hfz12_4 := blk_frozen BK256.out 4) | ((with_reducible refine gate_callee (f := 23) rfl ?_); refine goesL_ (some 22) rfl rfl Try.func23 (by kernel_rfl) rfl #[.int .u8 a0_1] rfl (by (try simp only [List.map_toArray, List.map_cons, List.map_nil]); first | done | rfl | (simp only [List.length_drop, List.length_take]; rfl)) ?_; (with_reducible refine (hood_Size.calls a0_1 t258 t259 _ A7.out).mono ?_); rintro e w13 ⟨rfl, hb⟩; refine ⟨_, rfl, ?_⟩; have n0_ := Aside0.mk (blk_below (g := gb256) (o := .cells #[.int .i64 a0_0, .int .u8 a0_1, .int .u8 a0_2, .slice A0_3 l0_3.length c0_3, .slice A0_4 l0_4.length c0_4] 33 (0, 0)) (by (with_reducible repeat (first | refine blk_drewN ?_ _ | refine blk_drew ?_ | refine blk_alloc ?_ _)); exact BK256.out) hb); have n1_ := Aside0.mk (below_step (by repeat (first | (with_reducible first | exact HB.out | apply below_alloc | apply pw_below_drewN | apply below_drew1 | refine below_set ?_ GE256.out) | exact HB.out)) hb); clear BK256; clear HB; have BK256 := n0_; have HB := n1_; clear n0_ n1_; (try clear hb); (try clear hb2); (try clear hk); (try clear hi)))
  (try simp only [Act.put, List.setIfInBounds_toArray, List.set_cons_zero, List.set_cons_succ])
  go_cut [32] (fun v32 wc => ∃ (kq : Nat) (x32_7 : Bool), v32 = .bool x32_7 ∧ Aside0 (table_asked.j0 kq a2 l3 x32_7 a0_0 a0_1 a0_2 l0_3 l0_4 = some r) ∧ Aside0 (kq ≤ k) ∧ Aside0 (wc.heap[gb256]? = some (.cells #[.int .i64 a0_0, .int .u8 a0_1, .int .u8 a0_2, (.slice A0_3 l0_3.length c0_3), (.slice A0_4 l0_4.length c0_4)] 33 (0, 0))) ∧ Aside0 (Below w.heap.size w wc))
  case first =>
   have H := HC8.out
   clear HC8
   by_cases c14 : a1 = true
   ·subst c14
    have H1 : (table_asked.j0 k a2 l3 ((l3.length : Int) != t258) a0_0 a0_1 a0_2 l0_3 l0_4) = some r := by rw [if_pos rfl] at H; exact H
    clear H
    have H := H1
    clear H1
    have H' := Aside0.mk H
    clear H
    go_wp2
    go_meet
    case rel => exact ⟨_, (((l3.length : Int) != t258)), (by first | rfl | (simp; done) | (simp [*]; done)), H', ⟨by first | omega | exact Nat.le_refl _⟩, ⟨by (with_reducible repeat (first | refine blk_drewN ?_ _ | refine blk_drew ?_ | refine blk_alloc ?_ _)); exact BK256.out⟩, ⟨by repeat (first | (with_reducible first | exact HB.out | apply below_alloc | apply pw_below_drewN | apply below_drew1 | refine below_set ?_ GE256.out) | exact HB.out)⟩⟩
   ·replace c14 := Bool.eq_false_iff.mpr c14
    subst c14
    have H1 : (table_asked.j0 k a2 l3 true a0_0 a0_1 a0_2 l0_3 l0_4) = some r := by rw [if_neg (show ¬ (false = true) by decide)] at H; exact H
    clear H
    have H := H1
    clear H1
    have H' := Aside0.mk H
    clear H
    go_wp2
    go_meet
    case rel => exact ⟨_, (true), (by first | rfl | (simp; done) | (simp [*]; done)), H', ⟨by first | omega | exact Nat.le_refl _⟩, ⟨by (with_reducible repeat (first | refine blk_drewN ?_ _ | refine blk_drew ?_ | refine blk_alloc ?_ _)); exact BK256.out⟩, ⟨by repeat (first | (with_reducible first | exact HB.out | apply below_alloc | apply pw_below_drewN | apply below_drew1 | refine below_set ?_ GE256.out) | exact HB.out)⟩⟩
  case rest =>
   clear HC8
   try clear c1
   try clear c2
   try clear p2
   try clear c3
   try clear c4
   try clear c6
   try clear c6b0
   try clear c6b1
   try clear c14
   try clear hcz10_0
   try clear hcz10_1
   try clear hcz10_2
   try clear hcz10_3
   try clear hcz10_4
   try clear hcz12_0
   try clear hcz12_1
   try clear hcz12_2
   try clear hcz12_3
   try clear hcz12_4
   try clear hfz10_0
   try clear hfz10_1
   try clear hfz10_2
   try clear hfz10_3
   try clear hfz10_4
   try clear hfz12_0
   try clear hfz12_1
   try clear hfz12_2
   try clear hfz12_3
   try clear hfz12_4
   obtain ⟨kq, x32_7, rfl, HA, HJ7, BK256, HB⟩ := hcut
   cases kq with
   | zero => exact absurd HA.out (by simp [table_asked.j0])
   | succ kj7 =>
    have H := HA.out
    clear HA
    simp only [table_asked.j0] at H
    by_cases c15 : x32_7 = true
    ·subst c15
     have H1 : (some 2) = some r := by rw [if_pos rfl] at H; exact H
     clear H
     have H := H1
     clear H1
     obtain rfl := Option.some.inj H
     go_wp2
     go_ret
     exact ⟨by first | rfl | (simp [errW_none, errW_some] <;> rfl) | (simp [*, errW_none, errW_some] <;> rfl), by repeat (first | (with_reducible first | exact HB.out | apply below_alloc | apply pw_below_drewN | apply below_drew1 | refine below_set ?_ GE256.out) | exact HB.out)⟩
    ·replace c15 := Bool.eq_false_iff.mpr c15
     subst c15
     have H1 : (if (wrap64 (a2)) ≥ a0_0 then (some 7) else (table_asked.l0 kj7 l3 (l3.length : Int) 0 a0_0 a0_1 a0_2 l0_3 l0_4)) = some r := by rw [if_neg (show ¬ (false = true) by decide)] at H; exact H
     clear H
     have H := H1
     clear H1
     by_cases c16 : (wrap64 (a2)) ≥ a0_0
     ·rw [if_pos c16] at H
      have c16b0 : decide (a0_0 ≤ (wrap64 (a2))) = true := decide_eq_true c16
      clear c16
      obtain rfl := Option.some.inj H
      have hcz17_0 : wc.cell? ⟨gb256, 0, none⟩ = some (.int .i64 a0_0) := (blk_cell BK256.out 0).trans rfl
      have hcz17_1 : wc.cell? ⟨gb256, 1, none⟩ = some (.int .u8 a0_1) := (blk_cell BK256.out 1).trans rfl
      have hcz17_2 : wc.cell? ⟨gb256, 2, none⟩ = some (.int .u8 a0_2) := (blk_cell BK256.out 2).trans rfl
      have hcz17_3 : wc.cell? ⟨gb256, 3, none⟩ = some (.slice A0_3 l0_3.length c0_3) := (blk_cell BK256.out 3).trans rfl
      have hcz17_4 : wc.cell? ⟨gb256, 4, none⟩ = some (.slice A0_4 l0_4.length c0_4) := (blk_cell BK256.out 4).trans rfl
      have hfz17_0 := blk_frozen BK256.out 0
      have hfz17_1 := blk_frozen BK256.out 1
      have hfz17_2 := blk_frozen BK256.out 2
      have hfz17_3 := blk_frozen BK256.out 3
      have hfz17_4 := blk_frozen BK256.out 4
      go_wp2
      go_ret
      exact ⟨by first | rfl | (simp [errW_none, errW_some] <;> rfl) | (simp [*, errW_none, errW_some] <;> rfl), by repeat (first | (with_reducible first | exact HB.out | apply below_alloc | apply pw_below_drewN | apply below_drew1 | refine below_set ?_ GE256.out) | exact HB.out)⟩
     ·rw [if_neg c16] at H
      have c16b0 : decide (a0_0 ≤ (wrap64 (a2))) = false := decide_eq_false c16
      clear c16
      have H' := Aside0.mk H
      clear H
      have hcz18_0 : wc.cell? ⟨gb256, 0, none⟩ = some (.int .i64 a0_0) := (blk_cell BK256.out 0).trans rfl
      have hcz18_1 : wc.cell? ⟨gb256, 1, none⟩ = some (.int .u8 a0_1) := (blk_cell BK256.out 1).trans rfl
      have hcz18_2 : wc.cell? ⟨gb256, 2, none⟩ = some (.int .u8 a0_2) := (blk_cell BK256.out 2).trans rfl
      have hcz18_3 : wc.cell? ⟨gb256, 3, none⟩ = some (.slice A0_3 l0_3.length c0_3) := (blk_cell BK256.out 3).trans rfl
      have hcz18_4 : wc.cell? ⟨gb256, 4, none⟩ = some (.slice A0_4 l0_4.length c0_4) := (blk_cell BK256.out 4).trans rfl
      have hfz18_0 := blk_frozen BK256.out 0
      have hfz18_1 := blk_frozen BK256.out 1
      have hfz18_2 := blk_frozen BK256.out 2
      have hfz18_3 := blk_frozen BK256.out 3
      have hfz18_4 := blk_frozen BK256.out 4
      go_wp2
      go_loopg [40] kj7 (fun kq v40 w' => ∃ (x40_2 : Int), v40 = .int .i64 x40_2 ∧ Aside0 (table_asked.l0 kq l3 (l3.length : Int) x40_2 a0_0 a0_1 a0_2 l0_3 l0_4 = some r) ∧ Aside0 (kq ≤ kj7) ∧ Aside0 (w'.heap[gb256]? = some (.cells #[.int .i64 a0_0, .int .u8 a0_1, .int .u8 a0_2, (.slice A0_3 l0_3.length c0_3), (.slice A0_4 l0_4.length c0_4)] 33 (0, 0))) ∧ Aside0 (Below w.heap.size w w'))
      case atStart => exact ⟨(0), (by first | rfl | (simp; done) | (simp [*]; done)), H', ⟨Nat.le_refl _⟩, ⟨by (with_reducible repeat (first | refine blk_drewN ?_ _ | refine blk_drew ?_ | refine blk_alloc ?_ _)); exact BK256.out⟩, ⟨by repeat (first | (with_reducible first | exact HB.out | apply below_alloc | apply pw_below_drewN | apply below_drew1 | refine below_set ?_ GE256.out) | exact HB.out)⟩⟩
      case round =>
       clear H'
       try clear c1
       try clear c2
       try clear p2
       try clear c3
       try clear c4
       try clear c6
       try clear c6b0
       try clear c6b1
       try clear p6
       try clear c14
       try clear c15
       try clear c16
       try clear c16b0
       try clear hcz10_0
       try clear hcz10_1
       try clear hcz10_2
       try clear hcz10_3
       try clear hcz10_4
       try clear hcz12_0
       try clear hcz12_1
       try clear hcz12_2
       try clear hcz12_3
       try clear hcz12_4
       try clear hcz17_0
       try clear hcz17_1
       try clear hcz17_2
       try clear hcz17_3
       try clear hcz17_4
       try clear hcz18_0
       try clear hcz18_1
       try clear hcz18_2
       try clear hcz18_3
       try clear hcz18_4
       try clear hfz10_0
       try clear hfz10_1
       try clear hfz10_2
       try clear hfz10_3
       try clear hfz10_4
       try clear hfz12_0
       try clear hfz12_1
       try clear hfz12_2
       try clear hfz12_3
       try clear hfz12_4
       try clear hfz17_0
       try clear hfz17_1
       try clear hfz17_2
       try clear hfz17_3
       try clear hfz17_4
       try clear hfz18_0
       try clear hfz18_1
       try clear hfz18_2
       try clear hfz18_3
       try clear hfz18_4
       try clear p2
       obtain ⟨x40_2, rfl, HA, HK2, BK256, HB⟩ := hrel
       cases gk with
       | zero => exact absurd HA.out (by simp [table_asked.l0])
       | succ k2 =>
        have H := HA.out
        clear HA
        simp only [table_asked.l0] at H
        by_cases c19 : x40_2 < (l3.length : Int)
        ·rw [if_pos c19] at H
         have c19b0 : decide (x40_2 < (l3.length : Int)) = true := decide_eq_true c19
         clear c19
         by_cases c20 : 0 ≤ x40_2
         ·rw [if_pos c20] at H
          have c20b0 : decide (0 ≤ x40_2) = true := decide_eq_true c20
          clear c20
          by_cases c21 : x40_2 < (l3.length : Int)
          ·rw [if_pos c21] at H
           have c21b0 : decide (x40_2 < (l3.length : Int)) = true := decide_eq_true c21
           clear c21
           by_cases c22 : (wrap64 (rd l3 x40_2)) ≥ a0_0
           ·rw [if_pos c22] at H
            have c22b0 : decide (a0_0 ≤ (wrap64 (rd l3 x40_2))) = true := decide_eq_true c22
            clear c22
            obtain rfl := Option.some.inj H
            have p260 : 0 ≤ (x40_2 : Int) := of_decide_eq_true (by first | (with_reducible assumption) | assumption)
            have q260 : x40_2 < (l3.length : Int) := of_decide_eq_true (by first | (with_reducible assumption) | assumption)
            obtain ⟨ad260, e260, hx260_0⟩ := Kd.at_int HR3.out x40_2 p260 q260
            cases e260
            replace hx260_0 := (HB.out.cell (World.block_lt_of_cell? w _ hx260_0)).trans hx260_0
            replace p260 := eq_true p260
            replace q260 := eq_true q260
            have hcz23_0 : wr.cell? ⟨gb256, 0, none⟩ = some (.int .i64 a0_0) := (blk_cell BK256.out 0).trans rfl
            have hcz23_1 : wr.cell? ⟨gb256, 1, none⟩ = some (.int .u8 a0_1) := (blk_cell BK256.out 1).trans rfl
            have hcz23_2 : wr.cell? ⟨gb256, 2, none⟩ = some (.int .u8 a0_2) := (blk_cell BK256.out 2).trans rfl
            have hcz23_3 : wr.cell? ⟨gb256, 3, none⟩ = some (.slice A0_3 l0_3.length c0_3) := (blk_cell BK256.out 3).trans rfl
            have hcz23_4 : wr.cell? ⟨gb256, 4, none⟩ = some (.slice A0_4 l0_4.length c0_4) := (blk_cell BK256.out 4).trans rfl
            have hfz23_0 := blk_frozen BK256.out 0
            have hfz23_1 := blk_frozen BK256.out 1
            have hfz23_2 := blk_frozen BK256.out 2
            have hfz23_3 := blk_frozen BK256.out 3
            have hfz23_4 := blk_frozen BK256.out 4
            go_wp2
            go_ret
            exact ⟨by first | rfl | (simp [errW_none, errW_some] <;> rfl) | (simp [*, errW_none, errW_some] <;> rfl), by repeat (first | (with_reducible first | exact HB.out | apply below_alloc | apply pw_below_drewN | apply below_drew1 | refine below_set ?_ GE256.out) | exact HB.out)⟩
           ·rw [if_neg c22] at H
            have c22b0 : decide (a0_0 ≤ (wrap64 (rd l3 x40_2))) = false := decide_eq_false c22
            clear c22
            have H' := Aside0.mk H
            clear H
            have p260 : 0 ≤ (x40_2 : Int) := of_decide_eq_true (by first | (with_reducible assumption) | assumption)
            have q260 : x40_2 < (l3.length : Int) := of_decide_eq_true (by first | (with_reducible assumption) | assumption)
            obtain ⟨ad260, e260, hx260_0⟩ := Kd.at_int HR3.out x40_2 p260 q260
            cases e260
            replace hx260_0 := (HB.out.cell (World.block_lt_of_cell? w _ hx260_0)).trans hx260_0
            replace p260 := eq_true p260
            replace q260 := eq_true q260
            have hcz24_0 : wr.cell? ⟨gb256, 0, none⟩ = some (.int .i64 a0_0) := (blk_cell BK256.out 0).trans rfl
            have hcz24_1 : wr.cell? ⟨gb256, 1, none⟩ = some (.int .u8 a0_1) := (blk_cell BK256.out 1).trans rfl
            have hcz24_2 : wr.cell? ⟨gb256, 2, none⟩ = some (.int .u8 a0_2) := (blk_cell BK256.out 2).trans rfl
            have hcz24_3 : wr.cell? ⟨gb256, 3, none⟩ = some (.slice A0_3 l0_3.length c0_3) := (blk_cell BK256.out 3).trans rfl
            have hcz24_4 : wr.cell? ⟨gb256, 4, none⟩ = some (.slice A0_4 l0_4.length c0_4) := (blk_cell BK256.out 4).trans rfl
            have hfz24_0 := blk_frozen BK256.out 0
            have hfz24_1 := blk_frozen BK256.out 1
            have hfz24_2 := blk_frozen BK256.out 2
            have hfz24_3 := blk_frozen BK256.out 3
            have hfz24_4 := blk_frozen BK256.out 4
            go_wp2
            go_roundg k2
            case measure => have := HJ7.out; have := HK2.out; omega
            case rel => exact ⟨(wrap64 (x40_2 + 1)), (by first | rfl | (simp; done) | (simp [*]; done)), H', ⟨by have := HJ7.out; have := HK2.out; omega⟩, ⟨by (with_reducible repeat (first | refine blk_drewN ?_ _ | refine blk_drew ?_ | refine blk_alloc ?_ _)); exact BK256.out⟩, ⟨by repeat (first | (with_reducible first | exact HB.out | apply below_alloc | apply pw_below_drewN | apply below_drew1 | refine below_set ?_ GE256.out) | exact HB.out)⟩⟩
          ·rw [if_neg c21] at H
           exact absurd H (by simp)
         ·rw [if_neg c20] at H
          exact absurd H (by simp)
        ·rw [if_neg c19] at H
         have c19b0 : decide (x40_2 < (l3.length : Int)) = false := decide_eq_false c19
         clear c19
         obtain rfl := Option.some.inj H
         go_wp2
         go_ret
         exact ⟨by first | rfl | (simp [errW_none, errW_some] <;> rfl) | (simp [*, errW_none, errW_some] <;> rfl), by repeat (first | (with_reducible first | exact HB.out | apply below_alloc | apply pw_below_drewN | apply below_drew1 | refine below_set ?_ GE256.out) | exact HB.out)⟩
 ·rw [if_neg c6] at H
  have c6b0 : (t257 == 0) = false := beq_eq_false_iff_ne.mpr c6
  have c6b1 : (t257 != 0) = true := bne_iff_ne.mpr c6
  obtain rfl := Option.some.inj H
  go_enter Try.func31, Try.ntmps31
  go_wp2_with (first | ((with_reducible refine gate_dst (N := 4) rfl ?_); (try (refine gate_guard (by rfl) ?_; dsimp only)); refine box_event ?hg (N := 4) ?hd (cs := #[.int .i64 a0_0, .int .u8 a0_1, .int .u8 a0_2, .slice A0_3 l0_3.length c0_3, .slice A0_4 l0_4.length c0_4]) (t := 33) ?hr ?_; (case hd => rfl); (case hg => rfl); (case hr => first | (go_simp; done) | (go_simp; rfl)); intro gb256 hg w25 hbox hb; have n0_ := Aside0.mk (below_step (by repeat (first | (with_reducible first | exact HB.out | apply below_alloc | apply pw_below_drewN | apply below_drew1) | exact HB.out)) hb); have n1_ := Aside0.mk (hbox); have n2_ := Aside0.mk ((by rw [hg]; exact (below_size (by repeat (first | (with_reducible first | exact HB.out | apply below_alloc | apply pw_below_drewN | apply below_drew1) | exact HB.out))) : w.heap.size ≤ gb256)); have n3_ := Aside0.mk ((by rw [hg]; exact (below_size (by repeat (first | (with_reducible first | exact HB.out | apply below_alloc | apply pw_below_drewN | apply below_drew1) | exact HB.out))) : w.heap.size ≤ gb256)); clear HB; have HB := n0_; have BK256 := n1_; have GW256 := n2_; have GE256 := n3_; clear n0_ n1_ n2_ n3_; clear hb hbox hg; have hcz26_0 : w25.cell? ⟨gb256, 0, none⟩ = some (.int .i64 a0_0) := (blk_cell BK256.out 0).trans rfl; have hcz26_1 : w25.cell? ⟨gb256, 1, none⟩ = some (.int .u8 a0_1) := (blk_cell BK256.out 1).trans rfl; have hcz26_2 : w25.cell? ⟨gb256, 2, none⟩ = some (.int .u8 a0_2) := (blk_cell BK256.out 2).trans rfl; have hcz26_3 : w25.cell? ⟨gb256, 3, none⟩ = some (.slice A0_3 l0_3.length c0_3) := (blk_cell BK256.out 3).trans rfl; have hcz26_4 : w25.cell? ⟨gb256, 4, none⟩ = some (.slice A0_4 l0_4.length c0_4) := (blk_cell BK256.out 4).trans rfl; have hfz26_0 := blk_frozen BK256.out 0; have hfz26_1 := blk_frozen BK256.out 1; have hfz26_2 := blk_frozen BK256.out 2; have hfz26_3 := blk_frozen BK256.out 3; have hfz26_4 := blk_frozen BK256.out 4) | ((with_reducible refine gate_callee (f := 45) rfl ?_); refine goesL_ (some 15) rfl rfl Try.func45 (by kernel_rfl) rfl #[.agg #[.int .i64 a0_0, .int .u8 a0_1, .int .u8 a0_2, .slice A0_3 l0_3.length c0_3, .slice A0_4 l0_4.length c0_4]] rfl (by (try simp only [List.map_toArray, List.map_cons, List.map_nil]); first | done | rfl | (simp only [List.length_drop, List.length_take]; rfl)) ?_; (with_reducible refine (table_Check.calls k a0_0 a0_1 a0_2 _ _ l0_3 _ _ l0_4 t257 _ ?side1 ?side2 ?side3 ?side4 A5.out).mono ?_); (case side1 => repeat (first | exact (Kd.C_below HR0_3.out HB.out) | (with_reducible refine Kd.C_alloc ?_ _) | (with_reducible refine Kd.C_drewN ?_ _) | (with_reducible refine Kd.C_drew ?_))); (case side2 => exact HC0_3.out); (case side3 => repeat (first | exact (Kd.C_below HR0_4.out HB.out) | (with_reducible refine Kd.C_alloc ?_ _) | (with_reducible refine Kd.C_drewN ?_ _) | (with_reducible refine Kd.C_drew ?_))); (case side4 => exact HC0_4.out); rintro e w27 ⟨rfl, hb⟩; refine ⟨_, rfl, ?_⟩; have n0_ := Aside0.mk (blk_below (g := gb256) (o := .cells #[.int .i64 a0_0, .int .u8 a0_1, .int .u8 a0_2, .slice A0_3 l0_3.length c0_3, .slice A0_4 l0_4.length c0_4] 33 (0, 0)) (by (with_reducible repeat (first | refine blk_drewN ?_ _ | refine blk_drew ?_ | refine blk_alloc ?_ _)); exact BK256.out) hb); have n1_ := Aside0.mk (below_step (by repeat (first | (with_reducible first | exact HB.out | apply below_alloc | apply pw_below_drewN | apply below_drew1 | refine below_set ?_ GE256.out) | exact HB.out)) hb); clear BK256; clear HB; have BK256 := n0_; have HB := n1_; clear n0_ n1_; (try clear hb); (try clear hb2); (try clear hk); (try clear hi)))
  go_ret
  exact ⟨by first | rfl | (simp [errW_none, errW_some] <;> rfl) | (simp [*, errW_none, errW_some] <;> rfl), by repeat (first | (with_reducible first | exact HB.out | apply below_alloc | apply pw_below_drewN | apply below_drew1 | refine below_set ?_ GE256.out) | exact HB.out)⟩
end Go.Proofs.Ytajhfkcmfmhnaaa.P
end
section
namespace Go.Proofs.Ytajhfkcmfmhnaaa.P
open Go.RowKit Go.Proofs.YtajhfkcmfmhnaaaW.PrintWords Go.Proofs.YtajhfkcmfmhnaaaW.PrintLast Go.Proofs.YtajhfkcmfmhnaaaW.PrintMore
attribute [local go_sem] max2_int min2_int max_two min_two max_three min_three max_four min_four   -- for this text's walks alone
set_option linter.unusedVariables false
set_option linter.unusedSimpArgs false
open Go.Proofs.Ytajhfkcmfmhnaaa.L
def trnL (n k i : Nat) : List Int := (List.range i).map fun (j : Nat) => ((k : Int) + j) % n
def mirL (n k i : Nat) : List Int := (List.range i).map fun (j : Nat) => ((k : Int) - j) % n
theorem trnL_len (n k i : Nat) : (trnL n k i).length = i := by simp [trnL]
theorem mirL_len (n k i : Nat) : (mirL n k i).length = i := by simp [mirL]
theorem trnL_succ (n k i : Nat) : trnL n k (i + 1) = trnL n k i ++ [((k : Int) + i) % n] := by simp [trnL, List.range_succ]
theorem mirL_succ (n k i : Nat) : mirL n k (i + 1) = mirL n k i ++ [((k : Int) - i) % n] := by simp [mirL, List.range_succ]
def pairL (n : Nat) (mi : Bool) (k : Nat) : List (List Int) :=
 if mi = true then (if rd (trnL n k n) 1 < rd (mirL n k n) 1 then [trnL n k n, mirL n k n] else if rd (mirL n k n) 1 < rd (trnL n k n) 1 then [mirL n k n, trnL n k n] else [trnL n k n]) else [trnL n k n]
def grpL (n st : Nat) (mi : Bool) (K : Nat) : List (List Int) := (List.range K).flatMap fun k => if k % st = 0 then pairL n mi k else []
theorem grpL_succ (n st : Nat) (mi : Bool) (K : Nat) : grpL n st mi (K + 1) = grpL n st mi K ++ (if K % st = 0 then pairL n mi K else []) := by simp [grpL, List.range_succ]
theorem pairL_le (n : Nat) (mi : Bool) (k : Nat) : (pairL n mi k).length ≤ 2 := by
 unfold pairL
 repeat' split
 all_goals simp
theorem grpL_len (n st : Nat) (mi : Bool) : ∀ K, (grpL n st mi K).length ≤ 2 * K
 | 0 => by simp [grpL]
 | K + 1 => by
  rw [grpL_succ, List.length_append]
  have := grpL_len n st mi K
  split
  ·have := pairL_le n mi K; omega
  ·simp; omega
theorem grpL_le (n st : Nat) (mi : Bool) (K : Nat) (hn : n ≤ 8) (hK : K ≤ n) : (grpL n st mi K).length ≤ 16 := by have := grpL_len n st mi K; omega
theorem infoI : (Try.prog.info? 3).map (fun i => (i.zero, i.size, i.bytes)) = some (some (.int .i64 0), 1, 8) := by kernel_rfl
theorem row_some {w : World} {base n : Nat} {v : Value} {xs : List Int} (h : w.ownsRow base 3 1 v n (nums .i64 xs)) (hn : 0 < n) : ∃ g c, v = .slice (some ⟨g, 0, none⟩) n c ∧ base ≤ g := by
 rcases h.2 with ⟨rfl, h2⟩ | ⟨g, cap, cur, rfl, hg, _⟩
 ·omega
 ·exact ⟨g, cap, rfl, hg⟩
def Sep (a b : Value) : Prop := a.ownBlock = none ∨ a.ownBlock ≠ b.ownBlock
theorem sep_symm {a b : Value} (h : Sep a b) : Sep b a := by
 unfold Sep at *
 rcases h with h | h
 ·by_cases e : b.ownBlock = none
  ·exact .inl e
  ·exact .inr (by rw [h]; exact e)
 ·exact .inr (Ne.symm h)
theorem sep_step {a a' b : Value} {N : Nat} (h : Sep a b) (hat : a'.ownBlock = a.ownBlock ∨ ∃ g, a'.ownBlock = some g ∧ N ≤ g) (hlt : ∀ k, b.ownBlock = some k → k < N) : Sep a' b := by
 unfold Sep at *
 rcases hat with e | ⟨g, e, hg⟩
 ·rw [e]; exact h
 ·refine .inr fun e2 => ?_
  have := hlt g (by rw [← e2, e])
  omega
set_option maxHeartbeats 8000000 in
set_option maxRecDepth 100000 in
theorem group_walk (k : Nat) (a0 a1 : Int) (n st : Nat) (e2 : Int) (mi : Bool) (hn2 : 2 ≤ n) (hn8 : n ≤ 8) (hst : 1 ≤ st) (hst8 : st ≤ 8) (h6 : a0 ≠ 6) (w : World) (hm : table_may.f k a0 a1 = some 0) (hs : hood_Size.f a1 = some ((n : Int), e2)) (ht : table_turns.f k a0 a1 n = some ((st : Int), mi)) :
  Calls Try.prog 6 #[.int .u8 a0, .int .u8 a1] w fun e w' => ∃ v us, e = .returned (.tuple #[v, .int .i64 0]) ∧ LL w' w.heap.size v us (grpL n st mi n) ∧ Below w.heap.size w w' := by
 have HM := Aside0.mk hm
 have HS := Aside0.mk hs
 have HT := Aside0.mk ht
 have h6b : (a0 == 6) = false := by rw [beq_eq_false_iff_ne]; exact h6
 have p0 : (0 : Int) < (n : Int) := by omega
 have p1 : (n : Int) ≤ 8 := by omega
 have p2 : (0 : Int) < (st : Int) := by omega
 have p3 : (st : Int) ≤ 8 := by omega
 clear hm hs ht h6
 go_enter Try.func6, Try.ntmps6
 go_wp2_with (first | (go_at_call 22; go_must (refine (table_may.calls k a0 a1 0 _ HM.out).mono ?_; rintro e w1 ⟨rfl, hb1⟩; have HB1 := Aside0.mk hb1; clear hb1)) | (go_at_call 23; go_must (refine (hood_Size.calls a1 (n : Int) e2 _ HS.out).mono ?_; rintro e w2 ⟨rfl, hb2⟩; have HB2 := Aside0.mk (below_step HB1.out hb2); clear hb2)) | (go_at_call 25; go_must (refine (table_turns.calls k a0 a1 (n : Int) (st : Int) mi _ HT.out).mono ?_; rintro e w3 ⟨rfl, hd3⟩; have HB3 := Aside0.mk (below_step HB2.out hd3.below); clear hd3)))
 go_loopw [11, 40] (fun v11 v40 wr => ∃ (K : Nat) (us : List Value), K ≤ n ∧ v40 = .int .i64 K ∧ Aside0 (LL wr w.heap.size v11 us (grpL n st mi K)) ∧ Aside0 (Below w.heap.size w wr)) (fun _ v40 wr => n - (intOf v40).toNat)
 case atStart => exact ⟨0, [], Nat.zero_le _, rfl, ⟨LL.nil _ _⟩, HB3⟩
 case round =>
  rename World => wo
  clear HB1 HB2 HB3
  obtain ⟨K, us, hK, rfl, HL, HB⟩ := hrel
  by_cases hKn : K < n
  ·have q0 : (0 : Int) ≤ (K : Int) := by omega
   have q1 : (K : Int) < (n : Int) := by omega
   have q2 : (K : Int) ≤ 8 := by omega
   go_wp2
   go_loopw [13, 14, 44] (fun v13 v14 v44 wq => ∃ i : Nat, i ≤ n ∧ v44 = .int .i64 i ∧ Aside0 (wq.ownsRow wo.heap.size 3 1 v13 (trnL n K i).length (nums .i64 (trnL n K i))) ∧ Aside0 (wq.ownsRow wo.heap.size 3 1 v14 (mirL n K i).length (nums .i64 (mirL n K i))) ∧ Aside0 (Sep v13 v14) ∧ Aside0 (Below wo.heap.size wo wq)) (fun _ _ v44 wq => n - (intOf v44).toNat)
   case atStart => exact ⟨0, Nat.zero_le _, rfl, ⟨World.ownsRow_nil _ _ _ _⟩, ⟨World.ownsRow_nil _ _ _ _⟩, ⟨.inl rfl⟩, ⟨Below.refl _ _⟩⟩
   case round =>
    rename World => wq
    obtain ⟨i, hi, rfl, HTR, HMR, HSP, HBQ⟩ := hrel
    by_cases hin : i < n
    ·have r0 : (0 : Int) ≤ (i : Int) := by omega
     have r1 : (i : Int) < (n : Int) := by omega
     have r2 : (0 : Int) ≤ (K : Int) - (i : Int) + (n : Int) := by omega
     have r3 : (i : Int) ≤ 8 := by omega
     have HTS := Aside0.mk (trnL_succ n K i)
     have HMS := Aside0.mk (mirL_succ n K i)
     have HTL : Aside0 ((trnL n K i).length ≤ 8) := ⟨by rw [trnL_len]; omega⟩
     have HML : Aside0 ((mirL n K i).length ≤ 8) := ⟨by rw [mirL_len]; omega⟩
     go_wp2_with (first | ((with_reducible refine gate_dst (N := 54) rfl ?_); at_builtin; go_must (refine print_append_num (w0 := wo) wo.heap.size rfl (.tmp 47) (.tmp 53) 28 3 .i64 8 rfl Try.underlying28 infoI (by decide) _ (trnL n K i) (((K : Int) + i) % n) rfl rfl HTR.out HBQ.out HBQ.out.size (by have := HTL.out; omega) ?_; intro v5 w5 ho5 hb5 hg5 hat5; rw [← HTS.out] at ho5; have HO5 := Aside0.mk ho5; have HB5 := Aside0.mk hb5; have HM5 := Aside0.mk (own_other HMR.out hg5 (sep_symm HSP.out)); have HP5 := Aside0.mk (sep_step HSP.out hat5 (fun j hj => own_lt HMR.out j hj)); clear ho5 hb5 hg5 hat5)) | ((with_reducible refine gate_dst (N := 64) rfl ?_); at_builtin; go_must (refine print_append_num (w0 := wo) wo.heap.size rfl (.tmp 55) (.tmp 63) 28 3 .i64 8 rfl Try.underlying28 infoI (by decide) _ (mirL n K i) (((K : Int) - i) % n) rfl rfl HM5.out HB5.out HB5.out.size (by have := HML.out; omega) ?_; intro v6 w6 ho6 hb6 hg6 hat6; rw [← HMS.out] at ho6; have HO6 := Aside0.mk ho6; have HB6 := Aside0.mk hb6; have HT6 := Aside0.mk (own_other HO5.out hg6 HP5.out); have HP6 := Aside0.mk (sep_symm (sep_step (sep_symm HP5.out) hat6 (fun j hj => own_lt HO5.out j hj))); clear ho6 hb6 hg6 hat6)))
     go_round
     case rel => exact ⟨i + 1, by omega, by go_num, HT6, HO6, HP6, HB6⟩
     case measure => simp [intOf]; omega
    ·obtain rfl : n = i := by omega
     obtain ⟨tg, tc, rfl, hTg⟩ := row_some HTR.out (by rw [trnL_len]; omega)
     obtain ⟨mg, mc, rfl, hMg⟩ := row_some HMR.out (by rw [mirL_len]; omega)
     have htm : tg ≠ mg := by
      rcases HSP.out with h | h
      ·cases h
      ·exact fun e => h (by rw [e]; rfl)
     have HTM : Aside0 (∀ a ∈ [((.slice (some ⟨tg, 0, none⟩) (trnL n K n).length tc) : Value)], ∀ b ∈ [((.slice (some ⟨mg, 0, none⟩) (mirL n K n).length mc) : Value)], a.ownBlock ≠ b.ownBlock) := ⟨by simp [Value.ownBlock, htm]⟩
     have HMT : Aside0 (∀ a ∈ [((.slice (some ⟨mg, 0, none⟩) (mirL n K n).length mc) : Value)], ∀ b ∈ [((.slice (some ⟨tg, 0, none⟩) (trnL n K n).length tc) : Value)], a.ownBlock ≠ b.ownBlock) := ⟨by simp [Value.ownBlock, Ne.symm htm]⟩
     have HSEP : Aside0 (∀ a ∈ us, ∀ b : Value, b = (.slice (some ⟨tg, 0, none⟩) (trnL n K n).length tc) ∨ b = (.slice (some ⟨mg, 0, none⟩) (mirL n K n).length mc) → a.ownBlock ≠ b.ownBlock) := ⟨fun a ha b hb e => by
      obtain ⟨g, hg⟩ := HL.out.inn.blk a ha
      have h1 := (HL.out.inn.lt a ha g hg).2
      rw [hg] at e
      rcases hb with rfl | rfl
      ·have : g = tg := by simpa [Value.ownBlock] using e
       omega
      ·have : g = mg := by simpa [Value.ownBlock] using e
       omega⟩
     have HLN : Aside0 (us.length ≤ 16) := ⟨by rw [HL.out.inn.len]; exact grpL_le n st mi K hn8 (by omega)⟩
     have HGU := Aside0.mk (grpL_succ n st mi K)
     have ct : wq.cell? ⟨tg, 1, none⟩ = some (.int .i64 (rd (trnL n K n) 1)) := (own_at HTR.out 1 (by decide) (by rw [trnL_len]; omega)).1
     have htl : tg < wq.heap.size := World.block_lt_of_cell? _ _ ct
     have cm : wq.cell? ⟨mg, 1, none⟩ = some (.int .i64 (rd (mirL n K n) 1)) := (own_at HMR.out 1 (by decide) (by rw [mirL_len]; omega)).1
     have hml : mg < wq.heap.size := World.block_lt_of_cell? _ _ cm
     have lt1 : (1 : Int) < ((trnL n K n).length : Int) := by rw [trnL_len]; omega
     have lm1 : (1 : Int) < ((mirL n K n).length : Int) := by rw [mirL_len]; omega
     clear hTg hMg htm
     by_cases hk : K % st = 0
     ·have hk2 : ((K : Int) % (st : Int) != 0) = false := by rw [bne_eq_false_iff_eq]; omega
      have hgs := HGU.out
      rw [if_pos hk] at hgs
      have hgp : pairL n mi K = pairL n mi K := rfl
      clear hk
      cases mi with
      | false =>
       have hpr : pairL n false K = [trnL n K n] := by unfold pairL; rw [if_neg (by decide)]
       rw [hpr] at hgs
       have HGE := Aside0.mk hgs
       clear hgs hpr hgp
       have HBW : Aside0 (∀ a b : Nat, Below wq.heap.size wq ((((wq.alloc (.cells #[(.slice (some ⟨tg, 0, none⟩) (trnL n K n).length tc)] 28))).drewN a).drewN b)) := ⟨fun a b => pw_below_drewN (pw_below_drewN (below_alloc (Below.refl _ _) _) a) b⟩
       have HLW : Aside0 (∀ a b : Nat, LL ((((wq.alloc (.cells #[(.slice (some ⟨tg, 0, none⟩) (trnL n K n).length tc)] 28))).drewN a).drewN b) w.heap.size u11 us (grpL n st false K)) := ⟨fun a b => (HL.out.below HBQ.out).below (HBW.out a b)⟩
       have HIW : Aside0 (∀ a b : Nat, Inn ((((wq.alloc (.cells #[(.slice (some ⟨tg, 0, none⟩) (trnL n K n).length tc)] 28))).drewN a).drewN b) w.heap.size [(.slice (some ⟨tg, 0, none⟩) (trnL n K n).length tc)] [(trnL n K n)]) := ⟨fun a b => ((Inn.one HTR.out ⟨tg, rfl⟩).lower HB.out.size).below (HBW.out a b)⟩
       have HPW : Aside0 (∀ a b : Nat, ((((wq.alloc (.cells #[(.slice (some ⟨tg, 0, none⟩) (trnL n K n).length tc)] 28))).drewN a).drewN b).heap[wq.heap.size]? = some (.cells ([(.slice (some ⟨tg, 0, none⟩) (trnL n K n).length tc)] : List Value).toArray 28 (0, 0))) := ⟨fun a b => (blk_new wq (.cells #[(.slice (some ⟨tg, 0, none⟩) (trnL n K n).length tc)] 28))⟩
       have HNW : Aside0 (∀ a ∈ us, ∀ b ∈ ([(.slice (some ⟨tg, 0, none⟩) (trnL n K n).length tc)] : List Value), a.ownBlock ≠ b.ownBlock) := ⟨fun a ha b hb => HSEP.out a ha b (by simp at hb ⊢; rcases hb with rfl; exact .inl rfl)⟩
       have HSW : Aside0 (∀ a b : Nat, Below w.heap.size w ((((wq.alloc (.cells #[(.slice (some ⟨tg, 0, none⟩) (trnL n K n).length tc)] 28))).drewN a).drewN b)) := ⟨fun a b => below_step HB.out (HBQ.out.trans ((HBW.out a b).mono HBQ.out.size))⟩
       go_wp2
       go_quiet (fail)
       go_wp2
       go_quiet (fail)
       go_wp2_with (((with_reducible refine gate_dst (N := 100) rfl ?_); at_builtin; go_must (refine app_rows (w0 := w) w.heap.size rfl (.tmp 98) (.tmp 99) rfl u11 us [(.slice (some ⟨tg, 0, none⟩) (trnL n K n).length tc)] (grpL n st false K) [(trnL n K n)] (wq.heap.size) _ (HLW.out _ _) (HIW.out _ _) (HPW.out _ _) HNW.out (by have := HLN.out; simp; omega) rfl rfl (HSW.out _ _) (HSW.out _ _).size ?_; intro v9 w9 hl9 hb9; have HL9 := Aside0.mk hl9; have HB9 := Aside0.mk hb9; clear hl9 hb9)))
       have HGS : Aside0 (LL w9 w.heap.size v9 _ (grpL n st false (K + 1))) := ⟨by rw [HGE.out]; exact HL9.out⟩
       go_round
       case rel => exact ⟨K + 1, _, by omega, by go_num, HGS, HB9⟩
       case measure => simp [intOf]; omega
      | true =>
       obtain ⟨t1, ht1⟩ : ∃ t1, rd (trnL n K n) 1 = t1 := ⟨_, rfl⟩
       obtain ⟨m1, hm1⟩ : ∃ m1, rd (mirL n K n) 1 = m1 := ⟨_, rfl⟩
       rw [ht1] at ct
       rw [hm1] at cm
       have hpr : pairL n true K = if t1 < m1 then [trnL n K n, mirL n K n] else if m1 < t1 then [mirL n K n, trnL n K n] else [trnL n K n] := by unfold pairL; rw [if_pos rfl, ht1, hm1]
       rw [hpr] at hgs
       clear hpr hgp ht1 hm1
       by_cases hlt : t1 < m1
       ·rw [if_pos hlt] at hgs
        have HGE := Aside0.mk hgs
        clear hgs
        have hl2 : decide (t1 < m1) = true := decide_eq_true hlt
        clear hlt
        have HBW : Aside0 (∀ a : Nat, Below wq.heap.size wq (((((wq.alloc (.cells #[(.slice (some ⟨tg, 0, none⟩) (trnL n K n).length tc)] 28))).drewN a).alloc (.cells #[(.slice (some ⟨tg, 0, none⟩) (trnL n K n).length tc), (.slice (some ⟨mg, 0, none⟩) (mirL n K n).length mc)] 28)))) := ⟨fun a => below_alloc (pw_below_drewN (below_alloc (Below.refl _ _) _) a) _⟩
        have HLW : Aside0 (∀ a : Nat, LL (((((wq.alloc (.cells #[(.slice (some ⟨tg, 0, none⟩) (trnL n K n).length tc)] 28))).drewN a).alloc (.cells #[(.slice (some ⟨tg, 0, none⟩) (trnL n K n).length tc), (.slice (some ⟨mg, 0, none⟩) (mirL n K n).length mc)] 28))) w.heap.size u11 us (grpL n st true K)) := ⟨fun a => (HL.out.below HBQ.out).below (HBW.out a)⟩
        have HIW : Aside0 (∀ a : Nat, Inn (((((wq.alloc (.cells #[(.slice (some ⟨tg, 0, none⟩) (trnL n K n).length tc)] 28))).drewN a).alloc (.cells #[(.slice (some ⟨tg, 0, none⟩) (trnL n K n).length tc), (.slice (some ⟨mg, 0, none⟩) (mirL n K n).length mc)] 28))) w.heap.size [(.slice (some ⟨tg, 0, none⟩) (trnL n K n).length tc), (.slice (some ⟨mg, 0, none⟩) (mirL n K n).length mc)] [(trnL n K n), (mirL n K n)]) := ⟨fun a => (((Inn.one HTR.out ⟨tg, rfl⟩).app (Inn.one HMR.out ⟨mg, rfl⟩) HTM.out).lower HB.out.size).below (HBW.out a)⟩
        have HPW : Aside0 (∀ a : Nat, (((((wq.alloc (.cells #[(.slice (some ⟨tg, 0, none⟩) (trnL n K n).length tc)] 28))).drewN a).alloc (.cells #[(.slice (some ⟨tg, 0, none⟩) (trnL n K n).length tc), (.slice (some ⟨mg, 0, none⟩) (mirL n K n).length mc)] 28))).heap[wq.heap.size + 1]? = some (.cells ([(.slice (some ⟨tg, 0, none⟩) (trnL n K n).length tc), (.slice (some ⟨mg, 0, none⟩) (mirL n K n).length mc)] : List Value).toArray 28 (0, 0))) := ⟨fun a => blk_new' _ _ _ (by simp)⟩
        have HNW : Aside0 (∀ a ∈ us, ∀ b ∈ ([(.slice (some ⟨tg, 0, none⟩) (trnL n K n).length tc), (.slice (some ⟨mg, 0, none⟩) (mirL n K n).length mc)] : List Value), a.ownBlock ≠ b.ownBlock) := ⟨fun a ha b hb => HSEP.out a ha b (by simpa using hb)⟩
        have HSW : Aside0 (∀ a : Nat, Below w.heap.size w (((((wq.alloc (.cells #[(.slice (some ⟨tg, 0, none⟩) (trnL n K n).length tc)] 28))).drewN a).alloc (.cells #[(.slice (some ⟨tg, 0, none⟩) (trnL n K n).length tc), (.slice (some ⟨mg, 0, none⟩) (mirL n K n).length mc)] 28)))) := ⟨fun a => below_step HB.out (HBQ.out.trans ((HBW.out a).mono HBQ.out.size))⟩
        go_wp2
        go_quiet (fail)
        go_wp2_with (((with_reducible refine gate_dst (N := 100) rfl ?_); at_builtin; go_must (refine app_rows (w0 := w) w.heap.size rfl (.tmp 98) (.tmp 99) rfl u11 us [(.slice (some ⟨tg, 0, none⟩) (trnL n K n).length tc), (.slice (some ⟨mg, 0, none⟩) (mirL n K n).length mc)] (grpL n st true K) [(trnL n K n), (mirL n K n)] (wq.heap.size + 1) _ (HLW.out _) (HIW.out _) (HPW.out _) HNW.out (by have := HLN.out; simp; omega) rfl rfl (HSW.out _) (HSW.out _).size ?_; intro v9 w9 hl9 hb9; have HL9 := Aside0.mk hl9; have HB9 := Aside0.mk hb9; clear hl9 hb9)))
        have HGS : Aside0 (LL w9 w.heap.size v9 _ (grpL n st true (K + 1))) := ⟨by rw [HGE.out]; exact HL9.out⟩
        go_round
        case rel => exact ⟨K + 1, _, by omega, by go_num, HGS, HB9⟩
        case measure => simp [intOf]; omega
       ·rw [if_neg hlt] at hgs
        have hl2 : decide (t1 < m1) = false := decide_eq_false hlt
        by_cases hgt : m1 < t1
        ·rw [if_pos hgt] at hgs
         have HGE := Aside0.mk hgs
         clear hgs
         have hl3 : decide (m1 < t1) = true := decide_eq_true hgt
         clear hlt hgt
         have HBW : Aside0 (∀ a : Nat, Below wq.heap.size wq (((((wq.alloc (.cells #[(.slice (some ⟨tg, 0, none⟩) (trnL n K n).length tc)] 28))).drewN a).alloc (.cells #[(.slice (some ⟨mg, 0, none⟩) (mirL n K n).length mc), (.slice (some ⟨tg, 0, none⟩) (trnL n K n).length tc)] 28)))) := ⟨fun a => below_alloc (pw_below_drewN (below_alloc (Below.refl _ _) _) a) _⟩
         have HLW : Aside0 (∀ a : Nat, LL (((((wq.alloc (.cells #[(.slice (some ⟨tg, 0, none⟩) (trnL n K n).length tc)] 28))).drewN a).alloc (.cells #[(.slice (some ⟨mg, 0, none⟩) (mirL n K n).length mc), (.slice (some ⟨tg, 0, none⟩) (trnL n K n).length tc)] 28))) w.heap.size u11 us (grpL n st true K)) := ⟨fun a => (HL.out.below HBQ.out).below (HBW.out a)⟩
         have HIW : Aside0 (∀ a : Nat, Inn (((((wq.alloc (.cells #[(.slice (some ⟨tg, 0, none⟩) (trnL n K n).length tc)] 28))).drewN a).alloc (.cells #[(.slice (some ⟨mg, 0, none⟩) (mirL n K n).length mc), (.slice (some ⟨tg, 0, none⟩) (trnL n K n).length tc)] 28))) w.heap.size [(.slice (some ⟨mg, 0, none⟩) (mirL n K n).length mc), (.slice (some ⟨tg, 0, none⟩) (trnL n K n).length tc)] [(mirL n K n), (trnL n K n)]) := ⟨fun a => (((Inn.one HMR.out ⟨mg, rfl⟩).app (Inn.one HTR.out ⟨tg, rfl⟩) HMT.out).lower HB.out.size).below (HBW.out a)⟩
         have HPW : Aside0 (∀ a : Nat, (((((wq.alloc (.cells #[(.slice (some ⟨tg, 0, none⟩) (trnL n K n).length tc)] 28))).drewN a).alloc (.cells #[(.slice (some ⟨mg, 0, none⟩) (mirL n K n).length mc), (.slice (some ⟨tg, 0, none⟩) (trnL n K n).length tc)] 28))).heap[wq.heap.size + 1]? = some (.cells ([(.slice (some ⟨mg, 0, none⟩) (mirL n K n).length mc), (.slice (some ⟨tg, 0, none⟩) (trnL n K n).length tc)] : List Value).toArray 28 (0, 0))) := ⟨fun a => blk_new' _ _ _ (by simp)⟩
         have HNW : Aside0 (∀ a ∈ us, ∀ b ∈ ([(.slice (some ⟨mg, 0, none⟩) (mirL n K n).length mc), (.slice (some ⟨tg, 0, none⟩) (trnL n K n).length tc)] : List Value), a.ownBlock ≠ b.ownBlock) := ⟨fun a ha b hb => HSEP.out a ha b (by simp at hb ⊢; exact hb.symm)⟩
         have HSW : Aside0 (∀ a : Nat, Below w.heap.size w (((((wq.alloc (.cells #[(.slice (some ⟨tg, 0, none⟩) (trnL n K n).length tc)] 28))).drewN a).alloc (.cells #[(.slice (some ⟨mg, 0, none⟩) (mirL n K n).length mc), (.slice (some ⟨tg, 0, none⟩) (trnL n K n).length tc)] 28)))) := ⟨fun a => below_step HB.out (HBQ.out.trans ((HBW.out a).mono HBQ.out.size))⟩
         go_wp2
         go_quiet (fail)
         go_wp2
         go_quiet (fail)
         go_wp2_with (((with_reducible refine gate_dst (N := 100) rfl ?_); at_builtin; go_must (refine app_rows (w0 := w) w.heap.size rfl (.tmp 98) (.tmp 99) rfl u11 us [(.slice (some ⟨mg, 0, none⟩) (mirL n K n).length mc), (.slice (some ⟨tg, 0, none⟩) (trnL n K n).length tc)] (grpL n st true K) [(mirL n K n), (trnL n K n)] (wq.heap.size + 1) _ (HLW.out _) (HIW.out _) (HPW.out _) HNW.out (by have := HLN.out; simp; omega) rfl rfl (HSW.out _) (HSW.out _).size ?_; intro v9 w9 hl9 hb9; have HL9 := Aside0.mk hl9; have HB9 := Aside0.mk hb9; clear hl9 hb9)))
         have HGS : Aside0 (LL w9 w.heap.size v9 _ (grpL n st true (K + 1))) := ⟨by rw [HGE.out]; exact HL9.out⟩
         go_round
         case rel => exact ⟨K + 1, _, by omega, by go_num, HGS, HB9⟩
         case measure => simp [intOf]; omega
        ·rw [if_neg hgt] at hgs
         have HGE := Aside0.mk hgs
         clear hgs
         have hl3 : decide (m1 < t1) = false := decide_eq_false hgt
         clear hlt hgt
         have HBW : Aside0 (∀ a b : Nat, Below wq.heap.size wq ((((wq.alloc (.cells #[(.slice (some ⟨tg, 0, none⟩) (trnL n K n).length tc)] 28))).drewN a).drewN b)) := ⟨fun a b => pw_below_drewN (pw_below_drewN (below_alloc (Below.refl _ _) _) a) b⟩
         have HLW : Aside0 (∀ a b : Nat, LL ((((wq.alloc (.cells #[(.slice (some ⟨tg, 0, none⟩) (trnL n K n).length tc)] 28))).drewN a).drewN b) w.heap.size u11 us (grpL n st true K)) := ⟨fun a b => (HL.out.below HBQ.out).below (HBW.out a b)⟩
         have HIW : Aside0 (∀ a b : Nat, Inn ((((wq.alloc (.cells #[(.slice (some ⟨tg, 0, none⟩) (trnL n K n).length tc)] 28))).drewN a).drewN b) w.heap.size [(.slice (some ⟨tg, 0, none⟩) (trnL n K n).length tc)] [(trnL n K n)]) := ⟨fun a b => ((Inn.one HTR.out ⟨tg, rfl⟩).lower HB.out.size).below (HBW.out a b)⟩
         have HPW : Aside0 (∀ a b : Nat, ((((wq.alloc (.cells #[(.slice (some ⟨tg, 0, none⟩) (trnL n K n).length tc)] 28))).drewN a).drewN b).heap[wq.heap.size]? = some (.cells ([(.slice (some ⟨tg, 0, none⟩) (trnL n K n).length tc)] : List Value).toArray 28 (0, 0))) := ⟨fun a b => (blk_new wq (.cells #[(.slice (some ⟨tg, 0, none⟩) (trnL n K n).length tc)] 28))⟩
         have HNW : Aside0 (∀ a ∈ us, ∀ b ∈ ([(.slice (some ⟨tg, 0, none⟩) (trnL n K n).length tc)] : List Value), a.ownBlock ≠ b.ownBlock) := ⟨fun a ha b hb => HSEP.out a ha b (by simp at hb ⊢; rcases hb with rfl; exact .inl rfl)⟩
         have HSW : Aside0 (∀ a b : Nat, Below w.heap.size w ((((wq.alloc (.cells #[(.slice (some ⟨tg, 0, none⟩) (trnL n K n).length tc)] 28))).drewN a).drewN b)) := ⟨fun a b => below_step HB.out (HBQ.out.trans ((HBW.out a b).mono HBQ.out.size))⟩
         go_wp2
         go_quiet (fail)
         go_wp2
         go_quiet (fail)
         go_wp2_with (((with_reducible refine gate_dst (N := 100) rfl ?_); at_builtin; go_must (refine app_rows (w0 := w) w.heap.size rfl (.tmp 98) (.tmp 99) rfl u11 us [(.slice (some ⟨tg, 0, none⟩) (trnL n K n).length tc)] (grpL n st true K) [(trnL n K n)] (wq.heap.size) _ (HLW.out _ _) (HIW.out _ _) (HPW.out _ _) HNW.out (by have := HLN.out; simp; omega) rfl rfl (HSW.out _ _) (HSW.out _ _).size ?_; intro v9 w9 hl9 hb9; have HL9 := Aside0.mk hl9; have HB9 := Aside0.mk hb9; clear hl9 hb9)))
         have HGS : Aside0 (LL w9 w.heap.size v9 _ (grpL n st true (K + 1))) := ⟨by rw [HGE.out]; exact HL9.out⟩
         go_round
         case rel => exact ⟨K + 1, _, by omega, by go_num, HGS, HB9⟩
         case measure => simp [intOf]; omega
     ·have hk2 : ((K : Int) % (st : Int) != 0) = true := by rw [bne_iff_ne]; omega
      have hgs := HGU.out
      rw [if_neg hk, List.append_nil] at hgs
      have HGE := Aside0.mk hgs
      have HLQ : Aside0 (LL wq w.heap.size u11 us (grpL n st mi (K + 1))) := ⟨by rw [HGE.out]; exact HL.out.below HBQ.out⟩
      have HBW := Aside0.mk (below_step HB.out HBQ.out)
      clear hk hgs
      go_wp2
      go_round
      case rel => exact ⟨K + 1, _, by omega, by go_num, HLQ, HBW⟩
      case measure => simp [intOf]; omega
  ·have hKe : K = n := by omega
   subst hKe
   go_wp2
   go_ret2
   exact ⟨_, us, rfl, HL.out, HB.out⟩
set_option maxHeartbeats 4000000 in
set_option maxRecDepth 100000 in
theorem group_err (k : Nat) (a0 a1 e : Int) (he : e ≠ 0) (w : World) (hm : table_may.f k a0 a1 = some e) :
  Calls Try.prog 6 #[.int .u8 a0, .int .u8 a1] w fun e' w' => e' = .returned (.tuple #[.slice none 0 0, .int .i64 e]) ∧ Below w.heap.size w w' := by
 have h4b : (e != 0) = true := bne_iff_ne.mpr he
 clear he
 go_enter Try.func6, Try.ntmps6
 go_wp2_with (go_at_call 22; go_must (refine (table_may.calls k a0 a1 e _ hm).mono ?_; rintro e w1 ⟨rfl, hb1⟩; have HB1 := Aside0.mk hb1; clear hb1))
 go_ret2
 exact ⟨rfl, HB1.out⟩
def table_Group.f (k : Nat) (a0 a1 : Int) : Option (List (List Int) × Int) :=
 (table_may.f k a0 a1).bind fun e => if e = 0 then ((hood_Size.f a1).bind fun n => if a0 = 6 then none else (table_turns.f k a0 a1 n.1).bind fun sm => if 2 ≤ n.1 ∧ n.1 ≤ 8 ∧ 1 ≤ sm.1 ∧ sm.1 ≤ 8 then some (grpL n.1.toNat sm.1.toNat sm.2 n.1.toNat, 0) else none) else some ([], e)
theorem table_Group.mono : ∀ a0 a1 k, LeO (table_Group.f k a0 a1) (table_Group.f (k + 1) a0 a1) := by
 intro a0 a1 k
 unfold table_Group.f
 exact LeO.bind (table_may.mono _ _ _) fun e => LeO.ite (LeO.bind (LeO.refl _) fun n => LeO.ite (LeO.refl _) (LeO.bind (table_turns.mono _ _ _ _) fun sm => LeO.refl _)) (LeO.refl _)
theorem ll_N {w : World} {base : Nat} {v : Value} {us : List Value} {xss : List (List Int)} (h : LL w base v us xss) : Kd.N (Kd.slice 3 (Kd.int .i64)) 28 w base (fun k_ => (base ≤ k_)) v xss :=
 Kd.R_N (Kd.R_mono (Kd.R_bound h.R) (fun _ hk => hk.2.1))
theorem table_Group.calls (k : Nat) (a0 a1 : Int) (r1 : List (List Int)) (r2 : Int) (w : World) (h : table_Group.f k a0 a1 = some (r1, r2)) :
  Calls Try.prog 6 #[.int .u8 a0, .int .u8 a1] w fun e w' => ∃ v0_ : Value, e = .returned (.tuple #[v0_, .int .i64 r2]) ∧ Kd.N (Kd.slice 3 (Kd.int .i64)) 28 w' w.heap.size (fun k_ => (w.heap.size ≤ k_)) v0_ r1 ∧ Below w.heap.size w w' := by
 unfold table_Group.f at h
 replace h := Option.bind_eq_some_iff.1 h
 obtain ⟨e, he, h⟩ := h
 by_cases h0 : e = 0
 ·subst h0
  rw [if_pos rfl] at h
  replace h := Option.bind_eq_some_iff.1 h
  obtain ⟨⟨n1, n2⟩, hn, h⟩ := h
  by_cases h6 : a0 = 6
  ·rw [if_pos h6] at h; cases h
  ·rw [if_neg h6] at h
   replace h := Option.bind_eq_some_iff.1 h
   obtain ⟨⟨st, mi⟩, hs, h⟩ := h
   by_cases hc : 2 ≤ n1 ∧ n1 ≤ 8 ∧ 1 ≤ st ∧ st ≤ 8
   ·rw [if_pos hc] at h
    obtain ⟨n, rfl⟩ : ∃ n : Nat, n1 = n := ⟨n1.toNat, by omega⟩
    obtain ⟨s, rfl⟩ : ∃ s : Nat, st = s := ⟨st.toNat, by omega⟩
    simp only [Int.toNat_natCast, Option.some.injEq, Prod.mk.injEq] at h
    obtain ⟨rfl, rfl⟩ := h
    refine (group_walk k a0 a1 n s n2 mi (by omega) (by omega) (by omega) (by omega) h6 w he hn hs).mono ?_
    rintro e w' ⟨v, us, rfl, hl, hb⟩
    exact ⟨v, rfl, ll_N hl, hb⟩
   ·rw [if_neg hc] at h; cases h
 ·rw [if_neg h0] at h
  simp only [Option.some.injEq, Prod.mk.injEq] at h
  obtain ⟨rfl, rfl⟩ := h
  refine (group_err k a0 a1 e h0 w he).mono ?_
  rintro e' w' ⟨rfl, hb⟩
  exact ⟨_, rfl, ll_N (LL.nil _ _), hb⟩
end Go.Proofs.Ytajhfkcmfmhnaaa.P
namespace Go.Proofs.Ytajhfkcmfmhnaaa.P
open Go.RowKit Go.Proofs.YtajhfkcmfmhnaaaW.PrintWords Go.Proofs.YtajhfkcmfmhnaaaW.PrintLast Go.Proofs.YtajhfkcmfmhnaaaW.PrintMore
attribute [local go_sem] max2_int min2_int max_two min_two max_three min_three max_four min_four   -- for this text's walks alone
set_option linter.unusedVariables false
set_option linter.unusedSimpArgs false
open Go.Proofs.Ytajhfkcmfmhnaaa.L
def table_orders.f (k : Nat) (a0_0 a0_1 a0_2 : Int) (l0_3 : List S65) (l0_4 : List S62) : Option (List (List Int)) :=
 if a0_2 = 6 then some [] else (table_Group.f k a0_2 a0_1).bind fun g => some g.1
set_option maxHeartbeats 4000000 in
set_option maxRecDepth 100000 in
theorem table_orders.calls (k : Nat) (a0_0 a0_1 a0_2 : Int) (A0_3 : Option Addr) (c0_3 : Nat) (l0_3 : List S65) (A0_4 : Option Addr) (c0_4 : Nat) (l0_4 : List S62) (r : List (List Int)) (w : World)
  (hr0_3 : Kd.C k65 w A0_3 l0_3.length l0_3) (hc0_3 : l0_3.length ≤ c0_3) (hr0_4 : Kd.C k62 w A0_4 l0_4.length l0_4) (hc0_4 : l0_4.length ≤ c0_4) (h : table_orders.f k a0_0 a0_1 a0_2 l0_3 l0_4 = some r) :
  Calls Try.prog 33 #[.agg #[.int .i64 a0_0, .int .u8 a0_1, .int .u8 a0_2, .slice A0_3 l0_3.length c0_3, .slice A0_4 l0_4.length c0_4]] w fun e w' => ∃ v0_ : Value, e = .returned v0_ ∧ Kd.N (Kd.slice 3 (Kd.int .i64)) 28 w' w.heap.size (fun k_ => (w.heap.size ≤ k_)) v0_ r ∧ Below w.heap.size w w' := by
 clear hr0_3 hc0_3 hr0_4 hc0_4
 unfold table_orders.f at h
 by_cases h6 : a0_2 = 6
 ·rw [if_pos h6] at h
  subst h6
  obtain rfl := Option.some.inj h
  have HN : Aside0 (∀ W : World, Kd.N (Kd.slice 3 (Kd.int .i64)) 28 W w.heap.size (fun k_ => (w.heap.size ≤ k_)) (.slice none 0 0) []) := ⟨fun W => ll_N (LL.nil _ _)⟩
  clear h
  go_enter Try.func33, Try.ntmps33
  go_wp2
  try rw [Exit.noGoto_ret]
  go_ret
  exact ⟨_, rfl, HN.out _, by repeat (first | exact Below.refl _ _ | apply below_alloc | apply pw_below_drewN)⟩
 ·rw [if_neg h6] at h
  have h6b : (a0_2 == 6) = false := by rw [beq_eq_false_iff_ne]; exact h6
  replace h := Option.bind_eq_some_iff.1 h
  obtain ⟨⟨gs, ge⟩, hg, h⟩ := h
  obtain rfl := Option.some.inj h
  have HG := Aside0.mk hg
  clear h h6 hg
  go_enter Try.func33, Try.ntmps33
  go_wp2_with (go_at_call 6; go_must (refine (table_Group.calls k a0_2 a0_1 gs ge _ HG.out).mono ?_; rintro e w1 ⟨v1, rfl, hn1, hb1⟩; have HN1 := Aside0.mk hn1; have HB1 := Aside0.mk hb1; clear hn1 hb1))
  try rw [Exit.noGoto_ret]
  go_ret
  refine ⟨_, rfl, Kd.N_mono (Kd.N_lower HN1.out ?_) (fun _ hk => Nat.le_trans ?_ hk), below_step ?_ HB1.out⟩
  ·simp
  ·simp
  ·repeat (first | exact Below.refl _ _ | apply below_alloc | apply pw_below_drewN)
end Go.Proofs.Ytajhfkcmfmhnaaa.P
end
section
namespace Go.Proofs.Ytajhfkcmfmhnaaa.L
open Go.RowKit Go.Proofs.Ytajhfkcmfmhnaaa.P Go.Proofs.YtajhfkcmfmhnaaaW.PrintWords Go.Proofs.YtajhfkcmfmhnaaaW.PrintLast Go.Proofs.YtajhfkcmfmhnaaaW.PrintMore
set_option linter.unusedVariables false
set_option linter.unusedSimpArgs false
theorem or_all : (List.range 256).all (fun m => (List.range 8).all fun k => decide (bits BinOp.or IntKind.u64 (m : Int) (IntKind.u64.wrap (2 ^ k)) = ((m ||| 2 ^ k : Nat) : Int) ∧ m ||| 2 ^ k < 256)) = true := by decide +kernel
theorem or_at {m k : Nat} (hm : m < 256) (hk : k < 8) : bits BinOp.or IntKind.u64 (m : Int) (IntKind.u64.wrap (2 ^ k)) = ((m ||| 2 ^ k : Nat) : Int) ∧ m ||| 2 ^ k < 256 :=
 of_decide_eq_true (List.all_eq_true.1 (List.all_eq_true.1 or_all m (List.mem_range.2 hm)) k (List.mem_range.2 hk))
theorem or_bits (m k : Nat) : (fun i => if i = k then true else m.testBit i) = (fun i => (m ||| 2 ^ k).testBit i) := by
 funext i
 rw [Nat.testBit_or, Nat.testBit_two_pow]
 by_cases h : i = k
 ·rw [if_pos h]; simp [h]
 ·rw [if_neg h]
  have : ¬ k = i := fun e => h e.symm
  simp [this]
set_option maxRecDepth 100000 in
set_option maxHeartbeats 4000000 in
theorem tfree_calls (gt : Nat) (p : Addr) (vs : List Vr) (AV : Option Addr) (cV : Nat) (T : List Tm) (AT : Option Addr) (cT : Nat) (o : Tm) (around : List Int) (A2 : Option Addr) (c2 : Nat) (hP : TPure vs T o around) :
  ∀ (ts : List Tm) (i : Nat) (b : Bd) (m : Nat) (w : World), TCtx w gt p vs AV cV T AT cT o around A2 → i + ts.length = T.length → T.drop i = ts → m < 256 →
  Calls Try.prog 47 #[.agg (fitC (.pointer (some ⟨gt, 0, none⟩)) (.pointer (some p)) b), .int .i64 i, .slice A2 around.length c2, .int .u64 m] w fun e w' =>
   e = .returned (resT (freeF vs (outP o) around ts (fun k => m.testBit k) b)) ∧ Below w.heap.size w w'
 | [], i, b, m, w, hC, hi, hd, hm => by
  have HC := Aside0.mk hC
  have hl := hP.hl
  have hii : i = around.length := by simpa [hl] using hi
  rw [freeF, resT]
  have HP := Aside0.mk hP
  clear hC hd hi hP
  have hi2 : decide ((i : Int) = (around.length : Int)) = true := decide_eq_true (by omega)
  go_enter Try.func47, Try.ntmps47
  go_wp2_with (go_at_call 48; go_must (refine (tsays_calls _ _ _ _ o _ (blk_new _ _) (pw_cell_below (below_alloc (Below.refl _ _) _) HC.out.h3) (pw_cell_below (below_alloc (Below.refl _ _) _) HC.out.h4) (by have := HP.out.h64; have := HP.out.ho; omega)).mono ?_; rintro e w' ⟨rfl, hd⟩))
  go_ret2
  exact ⟨rfl, below_step ((Below.refl _ _).alloc (Nat.le_refl _) _) hd.below⟩
 | x :: xs, i, b, m, w, hC, hi, hd, hm => by
  have HC := Aside0.mk hC
  have hl := hP.hl
  have hlt : (i : Int) < around.length := by simp at hi; omega
  have hne : ((i : Int) == (around.length : Int)) = false := by rw [beq_eq_false_iff_ne]; omega
  have HP := Aside0.mk hP
  have HD := Aside0.mk hd
  obtain ⟨R, hR⟩ : ∃ R, freeF vs (outP o) around (x :: xs) (fun k => m.testBit k) b = R := ⟨_, rfl⟩
  rw [hR]
  rw [freeF] at hR
  have HR0 := Aside0.mk hR
  clear hC hd hP hR
  go_enter Try.func47, Try.ntmps47
  go_wp2_with ((with_reducible refine gate_ (Op.alloc 102) rfl ?_); go_must (refine alloc_to rfl 102 rfl _ zero_tri ?_); intro g10 hg10; simp only [World.size_alloc] at hg10; simp only [Act.put, List.setIfInBounds_toArray, List.set_cons_succ, List.set_cons_zero])
  obtain ⟨W0, hW0⟩ : ∃ W0, (w.alloc (Obj.cells (fitC (Value.pointer (some { block := gt, off := 0 })) (Value.pointer (some p)) b) 88)).alloc (Obj.cells (triC fun x => false) 102) = W0 := ⟨_, rfl⟩
  have HF0 : Aside0 (W0.heap[w.heap.size]? = some (.cells (fitC (.pointer (some ⟨gt, 0, none⟩)) (.pointer (some p)) b) 88 (0, 0))) := ⟨by rw [← hW0]; exact blk_alloc (blk_new _ _) _⟩
  have HT0 : Aside0 (W0.heap[g10]? = some (.cells (triC fun _ => false) 102 (0, 0))) := ⟨by rw [← hW0]; exact blk_new' _ _ _ (by rw [hg10]; simp)⟩
  have HB0 : Aside0 (Below w.heap.size w W0) := ⟨by rw [← hW0]; exact below_alloc (below_alloc (Below.refl _ _) _) _⟩
  have HG10 := Aside0.mk hg10
  rw [hW0]
  clear hW0 hg10
  go_loopw [23] (fun v wr => ∃ (k : Nat) (tr : Int → Bool), k ≤ around.length ∧ v = .int .i64 k ∧ Aside0 (frK around (fun k => m.testBit k) (fun k => if fitB vs b x (rd around k) = true then freeF vs (outP o) around xs (fun i => if i = k then true else m.testBit i) (fitU vs b x (rd around k)) else none) k (around.length - k) tr = R) ∧ Aside0 (wr.heap[w.heap.size]? = some (.cells (fitC (.pointer (some ⟨gt, 0, none⟩)) (.pointer (some p)) b) 88 (0, 0))) ∧ Aside0 (wr.heap[g10]? = some (.cells (triC tr) 102 (0, 0))) ∧ Aside0 (Below w.heap.size w wr)) (fun v wr => around.length - (intOf v).toNat)
  case atStart => exact ⟨0, fun _ => false, Nat.zero_le _, rfl, HR0, HF0, HT0, HB0⟩
  case round =>
   obtain ⟨k, tr, hk, rfl, HR, HF, HT, HB⟩ := hrel
   clear HF0 HT0 HB0 HR0
   by_cases hlt : k < around.length
   ·have HCr := Aside0.mk (HC.out.below HB.out)
    obtain ⟨a1, rfl, cA⟩ := Kd.at_int HCr.out.hA (k : Int) (by omega) (by omega)
    rw [Int.toNat_natCast] at cA
    have hsr := HP.out.ha (k : Int)
    obtain ⟨s, hs⟩ : ∃ s : Nat, rd around (k : Int) = s := ⟨(rd around (k : Int)).toNat, by omega⟩
    rw [hs] at cA hsr
    have HS := Aside0.mk hs
    have cTr := (blk_cell HT.out s).trans (triC_at _ (by omega))
    have fTr := blk_frozen HT.out s
    have q0 : (0 : Int) ≤ (k : Int) := by omega
    have q1 : (k : Int) < around.length := by omega
    have q2 : (k : Int) < 8 := by have := HP.out.h8; omega
    have hm2 : (m : Int) < 256 := by omega
    clear hs
    have hbt := bit_at hm (show k < 8 by omega)
    have hstep := HR.out
    obtain ⟨d, hd⟩ : ∃ d, around.length - k = d + 1 := ⟨around.length - k - 1, by omega⟩
    have hd2 : around.length - (k + 1) = d := by omega
    rw [hd, frK] at hstep
    rw [HS.out] at hstep
    by_cases hbit : m.testBit k = true
    ·rw [hbit] at hbt
     rw [if_pos (by rw [hbit]; rfl), ← hd2] at hstep
     have HST := Aside0.mk hstep
     clear hstep hbit hd hd2
     go_wp2
     go_round
     case rel => exact ⟨k + 1, tr, by omega, by go_num, HST, HF, HT, HB⟩
     case measure => simp [intOf]; omega
    ·have hbit : m.testBit k = false := by simpa using hbit
     rw [hbit] at hbt
     by_cases htr : tr (s : Int) = true
     ·rw [if_pos (by rw [hbit, htr]; rfl), ← hd2] at hstep
      have HST := Aside0.mk hstep
      rw [htr] at cTr
      clear hstep hbit hd hd2 htr
      go_wp2
      go_round
      case rel => exact ⟨k + 1, tr, by omega, by go_num, HST, HF, HT, HB⟩
      case measure => simp [intOf]; omega
     ·have htr : tr (s : Int) = false := by simpa using htr
      rw [if_neg (by rw [hbit, htr]; decide)] at hstep
      rw [htr] at cTr
      have HST := Aside0.mk hstep
      have HD1 := Aside0.mk hd
      clear hstep hd hd2 htr
      have hgf : w.heap.size < wr.heap.size := blk_lt HF.out
      have hgt : g10 < wr.heap.size := blk_lt HT.out
      have hne : w.heap.size ≠ g10 := by have := HG10.out; omega
      have HF1 : Aside0 ((wr.setCell ⟨g10, s, none⟩ (.bool true)).heap[w.heap.size]? = some (.cells (fitC (.pointer (some ⟨gt, 0, none⟩)) (.pointer (some p)) b) 88 (0, 0))) := ⟨blk_far HF.out hne _⟩
      have HT1 : Aside0 ((wr.setCell ⟨g10, s, none⟩ (.bool true)).heap[g10]? = some (.cells (triC fun x => if x = (s : Int) then true else tr x) 102 (0, 0))) := ⟨by rw [← triC_set tr (by omega)]; exact blk_set HT.out s _⟩
      have HB1 : Aside0 (Below w.heap.size w (wr.setCell ⟨g10, s, none⟩ (.bool true))) := ⟨below_set HB.out (by have := HG10.out; omega)⟩
      have hxT : x ∈ T := by
       have : x ∈ T.drop i := by rw [HD.out]; exact List.mem_cons_self
       exact List.mem_of_mem_drop this
      have hix : T.getD i z59 = x := by
       have h1 : (T.drop i)[0]? = some x := by rw [HD.out]; rfl
       rw [List.getElem?_drop, Nat.add_zero] at h1
       rw [List.getD_eq_getElem?_getD, h1]; rfl
      have hiT : i < T.length := by simp at hi; omega
      have HC1 : Aside0 (TCtx (wr.setCell ⟨g10, s, none⟩ (.bool true)) gt p vs AV cV T AT cT o around (some a1)) := ⟨HC.out.below HB1.out⟩
      obtain ⟨aT, hAT, ct0, ct1⟩ := at_T59 HC1.out.hT (i : Int) (by omega) (by omega)
      have hrx : rd_T59 T (i : Int) = x := by unfold rd_T59; rw [Int.toNat_natCast]; exact hix
      rw [hrx, Int.toNat_natCast] at ct0 ct1
      subst hAT
      have cp := HC1.out.h2
      have cr := (blk_cell HF1.out 1).trans (fitC_1 _ _ _)
      have HXT := Aside0.mk (HP.out.hx x hxT)
      have p2 : (i : Int) < T.length := by omega
      have p3 : (0 : Int) ≤ (i : Int) := by omega
      clear hbit hrx hix hxT
      have hd2 : around.length - (k + 1) = d := by have := HD1.out; omega
      by_cases hfit : fitB vs b x (s : Int) = true
      ·have HFIT := Aside0.mk hfit
       have hst2 := HST.out
       rw [if_pos hfit, or_bits] at hst2
       obtain ⟨r2, hr2⟩ : ∃ r2, freeF vs (outP o) around xs (fun i => (m ||| 2 ^ k).testBit i) (fitU vs b x (s : Int)) = r2 := ⟨_, rfl⟩
       rw [hr2] at hst2
       have hor := or_at hm (show k < 8 by omega)
       have hi1 : wrap64 ((i : Int) + 1) = ((i + 1 : Nat) : Int) := by
        have := HP.out.h8
        unfold wrap64; omega
       have HIH : Aside0 (∀ w, TCtx w gt p vs AV cV T (some aT) cT o around (some a1) → Calls Try.prog 47 #[.agg (fitC (.pointer (some ⟨gt, 0, none⟩)) (.pointer (some p)) (fitU vs b x (s : Int))), .int .i64 (wrap64 ((i : Int) + 1)), .slice (some a1) around.length c2, .int .u64 (bits BinOp.or IntKind.u64 (m : Int) (IntKind.u64.wrap (2 ^ k)))] w fun e w' => e = .returned (resT r2) ∧ Below w.heap.size w w') := ⟨fun w hw => by
        have h := tfree_calls gt p vs AV cV T (some aT) cT o around (some a1) c2 HP.out xs (i + 1) (fitU vs b x (s : Int)) (m ||| 2 ^ k) w hw (by simp at hi; omega) (by
         have h1 : (T.drop i).drop 1 = xs := by rw [HD.out]; rfl
         rw [List.drop_drop] at h1
         exact h1) hor.2
        rw [← hi1, ← hor.1, hr2] at h
        exact h⟩
       clear hor hi1 hr2
       cases r2 with
       | some v =>
        have HIH : Aside0 (∀ w, TCtx w gt p vs AV cV T (some aT) cT o around (some a1) → Calls Try.prog 47 #[.agg (fitC (.pointer (some ⟨gt, 0, none⟩)) (.pointer (some p)) (fitU vs b x (s : Int))), .int .i64 (wrap64 ((i : Int) + 1)), .slice (some a1) around.length c2, .int .u64 (bits BinOp.or IntKind.u64 (m : Int) (IntKind.u64.wrap (2 ^ k)))] w fun e w' => e = .returned (.tuple #[.int .u8 v, .bool true]) ∧ Below w.heap.size w w') := ⟨fun w hw => HIH.out w hw⟩
        have HST2 := Aside0.mk hst2
        clear hfit hst2 hd2
        go_wp2_with (first | ((with_reducible refine gate_ (Op.load 88 (.tmp 4)) rfl ?_); go_must (generalize hw1 : wr.setCell ⟨g10, s, none⟩ (.bool true) = w1 at HF1 HT1 HB1 HC1 ct0 ct1 cp cr ⊢; clear hw1; refine wpList_load_row rfl 88 (.tmp 4) rfl w.heap.size (by kernel_rfl) 88 _ (0, 0) _ HF1.out Try.underlying88 rfl (fitC_info _ _ _) ?_; simp only [Act.put, List.setIfInBounds_toArray, List.set_cons_succ, List.set_cons_zero])) | ((with_reducible refine gate_ (Op.store 88 (.tmp 13) (.tmp 40)) rfl ?_); go_must (refine wpList_store_rowTo rfl 88 (.tmp 13) (.tmp 40) rfl rfl w1.heap.size (fitC (.pointer (some ⟨gt, 0, none⟩)) (.pointer (some p)) b) (by kernel_rfl) (by kernel_rfl) 88 _ (blk_new w1 _) (fitC_info _ _ _) (by rw [fitC_size]; kernel_rfl) (fitC_one _ _ _) ?_); have HH2 := Aside0.mk (row_new' w1 Try.zeroCells88 (fitC (.pointer (some ⟨gt, 0, none⟩)) (.pointer (some p)) b) 88); have HB2 := Aside0.mk (below_setRow (below_alloc (Below.refl w1.heap.size w1) (Obj.cells Try.zeroCells88 88)) (Nat.le_refl _) (fitC (.pointer (some ⟨gt, 0, none⟩)) (.pointer (some p)) b)); generalize hw2 : (w1.alloc (Obj.cells Try.zeroCells88 88)).setRow w1.heap.size (fitC (.pointer (some ⟨gt, 0, none⟩)) (.pointer (some p)) b) = w2 at HH2 HB2 ⊢; clear hw2; have HC2 := Aside0.mk (HC1.out.below HB2.out); replace ct0 := pw_cell_below HB2.out ct0; replace ct1 := pw_cell_below HB2.out ct1; replace cp := pw_cell_below HB2.out cp; replace cr := pw_cell_below HB2.out cr) | (go_at_call 46; go_must (have hcall := tfits_calls w1.heap.size gt (.pointer (some p)) b vs AV cV x (s : Int) w2 HH2.out HC2.out.ht HC2.out.hV HP.out.h64 HXT.out (by omega) (by omega); rw [HFIT.out] at hcall; refine hcall.mono ?_); rintro e w3 ⟨rfl, hh3, hb3⟩; have HH3 := Aside0.mk hh3; have HB13 := Aside0.mk (HB2.out.trans hb3); clear hh3 hb3 ct0 ct1 cp cr; have HB3 := Aside0.mk (below_step HB1.out HB13.out); have HC3 := Aside0.mk (HC1.out.below HB13.out); have HF3 := Aside0.mk ((HB13.out.block _ (blk_lt HF1.out)).trans HF1.out); have HT3 := Aside0.mk ((HB13.out.block _ (blk_lt HT1.out)).trans HT1.out)))
        have HC3d : Aside0 (TCtx w3.drew gt p vs AV cV T (some aT) cT o around (some a1)) := ⟨HC3.out.below (below_drew1 (Below.refl _ _))⟩
        refine start_ (n := 14) (S := fun w' => w'.heap[w1.heap.size]? = some (.cells (fitC (.pointer (some ⟨gt, 0, none⟩)) (.pointer (some p)) (fitU vs b x (s : Int))) 88 (0, 0))) (ds := [8]) #[false, false, false, false, false, false, false, false, false, false, false, false, false, false] (by kernel_rfl) rfl rfl (HH3.out) (fun hHeld => ?_)
        refine pure_ (i := 1) (N := some 54) (v := ?_) (a' := ?_) #[false, true, false, false, false, false, false, false, false, false, false, false, false, false] rfl rfl (by kernel_rfl) (fun _ _ _ h => h) (Or.inl ⟨by rfl, ?_⟩) ?_ ?_
        rotate_left
        ·intro w'
         go_simp
         with_reducible rfl
        rotate_left
        ·simp only [Act.put, List.setIfInBounds_toArray, List.set_cons_zero, List.set_cons_succ, i64_w, i32_w]
         rfl
        refine pure_ (i := 2) (N := some 55) (v := ?_) (a' := ?_) #[false, true, true, false, false, false, false, false, false, false, false, false, false, false] rfl rfl (by kernel_rfl) (fun _ _ _ h => h) (Or.inl ⟨by rfl, ?_⟩) ?_ ?_
        rotate_left
        ·intro w'
         go_simp
         with_reducible rfl
        rotate_left
        ·simp only [Act.put, List.setIfInBounds_toArray, List.set_cons_zero, List.set_cons_succ, i64_w, i32_w]
         rfl
        refine pure_ (i := 3) (N := some 56) (v := ?_) (a' := ?_) #[false, true, true, true, false, false, false, false, false, false, false, false, false, false] rfl rfl (by kernel_rfl) (fun _ _ _ h => h) (Or.inl ⟨by rfl, ?_⟩) ?_ ?_
        rotate_left
        ·intro w'
         go_simp
         with_reducible rfl
        rotate_left
        ·simp only [Act.put, List.setIfInBounds_toArray, List.set_cons_zero, List.set_cons_succ, i64_w, i32_w]
         rfl
        refine pure_ (i := 4) (N := some 57) (v := ?_) (a' := ?_) #[false, true, true, true, true, false, false, false, false, false, false, false, false, false] rfl rfl (by kernel_rfl) (fun _ _ _ h => h) (Or.inl ⟨by rfl, ?_⟩) ?_ ?_
        rotate_left
        ·intro w'
         go_simp
         with_reducible rfl
        rotate_left
        ·simp only [Act.put, List.setIfInBounds_toArray, List.set_cons_zero, List.set_cons_succ, i64_w, i32_w]
         rfl
        refine pure_ (i := 5) (N := some 58) (v := ?_) (a' := ?_) #[false, true, true, true, true, true, false, false, false, false, false, false, false, false] rfl rfl (by kernel_rfl) (fun _ _ _ h => h) (Or.inl ⟨by rfl, ?_⟩) ?_ ?_
        rotate_left
        ·intro w'
         go_simp
         with_reducible rfl
        rotate_left
        ·simp only [Act.put, List.setIfInBounds_toArray, List.set_cons_zero, List.set_cons_succ, i64_w, i32_w]
         rfl
        refine pure_ (i := 6) (N := some 59) (v := ?_) (a' := ?_) #[false, true, true, true, true, true, true, false, false, false, false, false, false, false] rfl rfl (by kernel_rfl) (fun _ _ _ h => h) (Or.inl ⟨by rfl, ?_⟩) ?_ ?_
        rotate_left
        ·intro w'
         go_simp
         with_reducible rfl
        rotate_left
        ·simp only [Act.put, List.setIfInBounds_toArray, List.set_cons_zero, List.set_cons_succ, i64_w, i32_w]
         rfl
        refine pure_ (i := 7) (N := some 60) (v := ?_) (a' := ?_) #[false, true, true, true, true, true, true, true, false, false, false, false, false, false] rfl rfl (by kernel_rfl) (fun _ _ _ h => h) (Or.inl ⟨by rfl, ?_⟩) ?_ ?_
        rotate_left
        ·intro w'
         go_simp
         with_reducible rfl
        rotate_left
        ·simp only [Act.put, List.setIfInBounds_toArray, List.set_cons_zero, List.set_cons_succ, i64_w, i32_w]
         rfl
        refine take_ (i := 0) (N := some 53) (v := ?_) (a' := ?_) #[true, true, true, true, true, true, true, true, false, false, false, false, false, false] rfl rfl (by kernel_rfl) (fun _ _ _ h => h) (Or.inl ⟨by rfl, ?_⟩) hHeld ?_ ?_
        rotate_left
        ·intro w' s0
         rw [load_row_run' (ty := 88) (x := .tmp 13) (hg := s0) (hu := Try.underlying88) (hd := rfl) (hi := fitC_info _ _ _)] <;> rfl
        rotate_left
        ·simp only [Act.put, List.setIfInBounds_toArray, List.set_cons_zero, List.set_cons_succ, i64_w, i32_w]
         rfl
        refine last_ (i := 8) (N := some 61) #[true, true, true, true, true, true, true, true, true, false, false, false, false, false] rfl rfl (by kernel_rfl) (by decide) (fun K hK => ?_)
        refine goes_ Try.func47 (by kernel_rfl) rfl #[.agg (fitC (.pointer (some ⟨gt, 0, none⟩)) (.pointer (some p)) (fitU vs b x (s : Int))), .int .i64 (wrap64 ((i : Int) + 1)), .slice (some a1) around.length c2, .int .u64 (bits BinOp.or IntKind.u64 (m : Int) (IntKind.u64.wrap (2 ^ k)))] (by rfl) rfl rfl (by simp only [List.map_toArray, List.map_cons, List.map_nil]; rfl) ?_
        with_reducible refine (HIH.out w3.drew HC3d.out).mono ?_
        rintro e w4 ⟨rfl, hb4⟩
        have HB34 := Aside0.mk hb4
        clear hb4
        have HB4 := Aside0.mk (below_step (below_drew1 HB3.out) HB34.out)
        have HF4 := Aside0.mk ((HB34.out.block _ (blk_lt HF3.out)).trans HF3.out)
        have HT4 := Aside0.mk ((HB34.out.block _ (blk_lt HT3.out)).trans HT3.out)
        refine ⟨_, rfl, ?_⟩
        refine hK.out _ _ ?_
        clear hK K
        refine norm_ (a' := ?_) ?_ ?_
        rotate_left
        ·show Act.put _ (some 61) _ = _
         simp only [Act.put, List.setIfInBounds_toArray, List.set_cons_zero, List.set_cons_succ, i64_w, i32_w]
         rfl
        refine pure_ (i := 9) (N := some 52) (v := ?_) (a' := ?_) #[true, true, true, true, true, true, true, true, true, true, false, false, false, false] rfl rfl (by kernel_rfl) (fun _ _ _ h => h) (Or.inl ⟨by rfl, ?_⟩) ?_ ?_
        rotate_left
        ·intro w'
         go_simp
         with_reducible rfl
        rotate_left
        ·simp only [Act.put, List.setIfInBounds_toArray, List.set_cons_zero, List.set_cons_succ, i64_w, i32_w]
         rfl
        refine pure_ (i := 10) (N := some 62) (v := ?_) (a' := ?_) #[true, true, true, true, true, true, true, true, true, true, true, false, false, false] rfl rfl (by kernel_rfl) (fun _ _ _ h => h) (Or.inl ⟨by rfl, ?_⟩) ?_ ?_
        rotate_left
        ·intro w'
         go_simp
         with_reducible rfl
        rotate_left
        ·simp only [Act.put, List.setIfInBounds_toArray, List.set_cons_zero, List.set_cons_succ, i64_w, i32_w]
         rfl
        refine pure_ (i := 11) (N := some 63) (v := ?_) (a' := ?_) #[true, true, true, true, true, true, true, true, true, true, true, true, false, false] rfl rfl (by kernel_rfl) (fun _ _ _ h => h) (Or.inl ⟨by rfl, ?_⟩) ?_ ?_
        rotate_left
        ·intro w'
         go_simp
         with_reducible rfl
        rotate_left
        ·simp only [Act.put, List.setIfInBounds_toArray, List.set_cons_zero, List.set_cons_succ, i64_w, i32_w]
         rfl
        refine pure_ (i := 12) (N := some 14) (v := ?_) (a' := ?_) #[true, true, true, true, true, true, true, true, true, true, true, true, true, false] rfl rfl (by kernel_rfl) (fun _ _ _ h => h) (Or.inl ⟨by rfl, ?_⟩) ?_ ?_
        rotate_left
        ·intro w'
         go_simp
         with_reducible rfl
        rotate_left
        ·simp only [Act.put, List.setIfInBounds_toArray, List.set_cons_zero, List.set_cons_succ, i64_w, i32_w]
         rfl
        refine pure_ (i := 13) (N := some 15) (v := ?_) (a' := ?_) #[true, true, true, true, true, true, true, true, true, true, true, true, true, true] rfl rfl (by kernel_rfl) (fun _ _ _ h => h) (Or.inl ⟨by rfl, ?_⟩) ?_ ?_
        rotate_left
        ·intro w'
         go_simp
         with_reducible rfl
        rotate_left
        ·simp only [Act.put, List.setIfInBounds_toArray, List.set_cons_zero, List.set_cons_succ, i64_w, i32_w]
         rfl
        refine done_ (by kernel_rfl) ?_
        go_wp2
        go_ret2
        rw [← HST2.out]
        exact ⟨rfl, HB4.out⟩
       | none =>
        have HIH : Aside0 (∀ w, TCtx w gt p vs AV cV T (some aT) cT o around (some a1) → Calls Try.prog 47 #[.agg (fitC (.pointer (some ⟨gt, 0, none⟩)) (.pointer (some p)) (fitU vs b x (s : Int))), .int .i64 (wrap64 ((i : Int) + 1)), .slice (some a1) around.length c2, .int .u64 (bits BinOp.or IntKind.u64 (m : Int) (IntKind.u64.wrap (2 ^ k)))] w fun e w' => e = .returned (.tuple #[.int .u8 0, .bool false]) ∧ Below w.heap.size w w') := ⟨fun w hw => HIH.out w hw⟩
        simp only at hst2
        rw [← hd2] at hst2
        have HST2 := Aside0.mk hst2
        clear hfit hst2 hd2
        go_wp2_with (first | ((with_reducible refine gate_ (Op.load 88 (.tmp 4)) rfl ?_); go_must (generalize hw1 : wr.setCell ⟨g10, s, none⟩ (.bool true) = w1 at HF1 HT1 HB1 HC1 ct0 ct1 cp cr ⊢; clear hw1; refine wpList_load_row rfl 88 (.tmp 4) rfl w.heap.size (by kernel_rfl) 88 _ (0, 0) _ HF1.out Try.underlying88 rfl (fitC_info _ _ _) ?_; simp only [Act.put, List.setIfInBounds_toArray, List.set_cons_succ, List.set_cons_zero])) | ((with_reducible refine gate_ (Op.store 88 (.tmp 13) (.tmp 40)) rfl ?_); go_must (refine wpList_store_rowTo rfl 88 (.tmp 13) (.tmp 40) rfl rfl w1.heap.size (fitC (.pointer (some ⟨gt, 0, none⟩)) (.pointer (some p)) b) (by kernel_rfl) (by kernel_rfl) 88 _ (blk_new w1 _) (fitC_info _ _ _) (by rw [fitC_size]; kernel_rfl) (fitC_one _ _ _) ?_); have HH2 := Aside0.mk (row_new' w1 Try.zeroCells88 (fitC (.pointer (some ⟨gt, 0, none⟩)) (.pointer (some p)) b) 88); have HB2 := Aside0.mk (below_setRow (below_alloc (Below.refl w1.heap.size w1) (Obj.cells Try.zeroCells88 88)) (Nat.le_refl _) (fitC (.pointer (some ⟨gt, 0, none⟩)) (.pointer (some p)) b)); generalize hw2 : (w1.alloc (Obj.cells Try.zeroCells88 88)).setRow w1.heap.size (fitC (.pointer (some ⟨gt, 0, none⟩)) (.pointer (some p)) b) = w2 at HH2 HB2 ⊢; clear hw2; have HC2 := Aside0.mk (HC1.out.below HB2.out); replace ct0 := pw_cell_below HB2.out ct0; replace ct1 := pw_cell_below HB2.out ct1; replace cp := pw_cell_below HB2.out cp; replace cr := pw_cell_below HB2.out cr) | (go_at_call 46; go_must (have hcall := tfits_calls w1.heap.size gt (.pointer (some p)) b vs AV cV x (s : Int) w2 HH2.out HC2.out.ht HC2.out.hV HP.out.h64 HXT.out (by omega) (by omega); rw [HFIT.out] at hcall; refine hcall.mono ?_); rintro e w3 ⟨rfl, hh3, hb3⟩; have HH3 := Aside0.mk hh3; have HB13 := Aside0.mk (HB2.out.trans hb3); clear hh3 hb3 ct0 ct1 cp cr; have HB3 := Aside0.mk (below_step HB1.out HB13.out); have HC3 := Aside0.mk (HC1.out.below HB13.out); have HF3 := Aside0.mk ((HB13.out.block _ (blk_lt HF1.out)).trans HF1.out); have HT3 := Aside0.mk ((HB13.out.block _ (blk_lt HT1.out)).trans HT1.out)))
        have HC3d : Aside0 (TCtx w3.drew gt p vs AV cV T (some aT) cT o around (some a1)) := ⟨HC3.out.below (below_drew1 (Below.refl _ _))⟩
        refine start_ (n := 14) (S := fun w' => w'.heap[w1.heap.size]? = some (.cells (fitC (.pointer (some ⟨gt, 0, none⟩)) (.pointer (some p)) (fitU vs b x (s : Int))) 88 (0, 0))) (ds := [8]) #[false, false, false, false, false, false, false, false, false, false, false, false, false, false] (by kernel_rfl) rfl rfl (HH3.out) (fun hHeld => ?_)
        refine pure_ (i := 1) (N := some 54) (v := ?_) (a' := ?_) #[false, true, false, false, false, false, false, false, false, false, false, false, false, false] rfl rfl (by kernel_rfl) (fun _ _ _ h => h) (Or.inl ⟨by rfl, ?_⟩) ?_ ?_
        rotate_left
        ·intro w'
         go_simp
         with_reducible rfl
        rotate_left
        ·simp only [Act.put, List.setIfInBounds_toArray, List.set_cons_zero, List.set_cons_succ, i64_w, i32_w]
         rfl
        refine pure_ (i := 2) (N := some 55) (v := ?_) (a' := ?_) #[false, true, true, false, false, false, false, false, false, false, false, false, false, false] rfl rfl (by kernel_rfl) (fun _ _ _ h => h) (Or.inl ⟨by rfl, ?_⟩) ?_ ?_
        rotate_left
        ·intro w'
         go_simp
         with_reducible rfl
        rotate_left
        ·simp only [Act.put, List.setIfInBounds_toArray, List.set_cons_zero, List.set_cons_succ, i64_w, i32_w]
         rfl
        refine pure_ (i := 3) (N := some 56) (v := ?_) (a' := ?_) #[false, true, true, true, false, false, false, false, false, false, false, false, false, false] rfl rfl (by kernel_rfl) (fun _ _ _ h => h) (Or.inl ⟨by rfl, ?_⟩) ?_ ?_
        rotate_left
        ·intro w'
         go_simp
         with_reducible rfl
        rotate_left
        ·simp only [Act.put, List.setIfInBounds_toArray, List.set_cons_zero, List.set_cons_succ, i64_w, i32_w]
         rfl
        refine pure_ (i := 4) (N := some 57) (v := ?_) (a' := ?_) #[false, true, true, true, true, false, false, false, false, false, false, false, false, false] rfl rfl (by kernel_rfl) (fun _ _ _ h => h) (Or.inl ⟨by rfl, ?_⟩) ?_ ?_
        rotate_left
        ·intro w'
         go_simp
         with_reducible rfl
        rotate_left
        ·simp only [Act.put, List.setIfInBounds_toArray, List.set_cons_zero, List.set_cons_succ, i64_w, i32_w]
         rfl
        refine pure_ (i := 5) (N := some 58) (v := ?_) (a' := ?_) #[false, true, true, true, true, true, false, false, false, false, false, false, false, false] rfl rfl (by kernel_rfl) (fun _ _ _ h => h) (Or.inl ⟨by rfl, ?_⟩) ?_ ?_
        rotate_left
        ·intro w'
         go_simp
         with_reducible rfl
        rotate_left
        ·simp only [Act.put, List.setIfInBounds_toArray, List.set_cons_zero, List.set_cons_succ, i64_w, i32_w]
         rfl
        refine pure_ (i := 6) (N := some 59) (v := ?_) (a' := ?_) #[false, true, true, true, true, true, true, false, false, false, false, false, false, false] rfl rfl (by kernel_rfl) (fun _ _ _ h => h) (Or.inl ⟨by rfl, ?_⟩) ?_ ?_
        rotate_left
        ·intro w'
         go_simp
         with_reducible rfl
        rotate_left
        ·simp only [Act.put, List.setIfInBounds_toArray, List.set_cons_zero, List.set_cons_succ, i64_w, i32_w]
         rfl
        refine pure_ (i := 7) (N := some 60) (v := ?_) (a' := ?_) #[false, true, true, true, true, true, true, true, false, false, false, false, false, false] rfl rfl (by kernel_rfl) (fun _ _ _ h => h) (Or.inl ⟨by rfl, ?_⟩) ?_ ?_
        rotate_left
        ·intro w'
         go_simp
         with_reducible rfl
        rotate_left
        ·simp only [Act.put, List.setIfInBounds_toArray, List.set_cons_zero, List.set_cons_succ, i64_w, i32_w]
         rfl
        refine take_ (i := 0) (N := some 53) (v := ?_) (a' := ?_) #[true, true, true, true, true, true, true, true, false, false, false, false, false, false] rfl rfl (by kernel_rfl) (fun _ _ _ h => h) (Or.inl ⟨by rfl, ?_⟩) hHeld ?_ ?_
        rotate_left
        ·intro w' s0
         rw [load_row_run' (ty := 88) (x := .tmp 13) (hg := s0) (hu := Try.underlying88) (hd := rfl) (hi := fitC_info _ _ _)] <;> rfl
        rotate_left
        ·simp only [Act.put, List.setIfInBounds_toArray, List.set_cons_zero, List.set_cons_succ, i64_w, i32_w]
         rfl
        refine last_ (i := 8) (N := some 61) #[true, true, true, true, true, true, true, true, true, false, false, false, false, false] rfl rfl (by kernel_rfl) (by decide) (fun K hK => ?_)
        refine goes_ Try.func47 (by kernel_rfl) rfl #[.agg (fitC (.pointer (some ⟨gt, 0, none⟩)) (.pointer (some p)) (fitU vs b x (s : Int))), .int .i64 (wrap64 ((i : Int) + 1)), .slice (some a1) around.length c2, .int .u64 (bits BinOp.or IntKind.u64 (m : Int) (IntKind.u64.wrap (2 ^ k)))] (by rfl) rfl rfl (by simp only [List.map_toArray, List.map_cons, List.map_nil]; rfl) ?_
        with_reducible refine (HIH.out w3.drew HC3d.out).mono ?_
        rintro e w4 ⟨rfl, hb4⟩
        have HB34 := Aside0.mk hb4
        clear hb4
        have HB4 := Aside0.mk (below_step (below_drew1 HB3.out) HB34.out)
        have HF4 := Aside0.mk ((HB34.out.block _ (blk_lt HF3.out)).trans HF3.out)
        have HT4 := Aside0.mk ((HB34.out.block _ (blk_lt HT3.out)).trans HT3.out)
        refine ⟨_, rfl, ?_⟩
        refine hK.out _ _ ?_
        clear hK K
        refine norm_ (a' := ?_) ?_ ?_
        rotate_left
        ·show Act.put _ (some 61) _ = _
         simp only [Act.put, List.setIfInBounds_toArray, List.set_cons_zero, List.set_cons_succ, i64_w, i32_w]
         rfl
        refine pure_ (i := 9) (N := some 52) (v := ?_) (a' := ?_) #[true, true, true, true, true, true, true, true, true, true, false, false, false, false] rfl rfl (by kernel_rfl) (fun _ _ _ h => h) (Or.inl ⟨by rfl, ?_⟩) ?_ ?_
        rotate_left
        ·intro w'
         go_simp
         with_reducible rfl
        rotate_left
        ·simp only [Act.put, List.setIfInBounds_toArray, List.set_cons_zero, List.set_cons_succ, i64_w, i32_w]
         rfl
        refine pure_ (i := 10) (N := some 62) (v := ?_) (a' := ?_) #[true, true, true, true, true, true, true, true, true, true, true, false, false, false] rfl rfl (by kernel_rfl) (fun _ _ _ h => h) (Or.inl ⟨by rfl, ?_⟩) ?_ ?_
        rotate_left
        ·intro w'
         go_simp
         with_reducible rfl
        rotate_left
        ·simp only [Act.put, List.setIfInBounds_toArray, List.set_cons_zero, List.set_cons_succ, i64_w, i32_w]
         rfl
        refine pure_ (i := 11) (N := some 63) (v := ?_) (a' := ?_) #[true, true, true, true, true, true, true, true, true, true, true, true, false, false] rfl rfl (by kernel_rfl) (fun _ _ _ h => h) (Or.inl ⟨by rfl, ?_⟩) ?_ ?_
        rotate_left
        ·intro w'
         go_simp
         with_reducible rfl
        rotate_left
        ·simp only [Act.put, List.setIfInBounds_toArray, List.set_cons_zero, List.set_cons_succ, i64_w, i32_w]
         rfl
        refine pure_ (i := 12) (N := some 14) (v := ?_) (a' := ?_) #[true, true, true, true, true, true, true, true, true, true, true, true, true, false] rfl rfl (by kernel_rfl) (fun _ _ _ h => h) (Or.inl ⟨by rfl, ?_⟩) ?_ ?_
        rotate_left
        ·intro w'
         go_simp
         with_reducible rfl
        rotate_left
        ·simp only [Act.put, List.setIfInBounds_toArray, List.set_cons_zero, List.set_cons_succ, i64_w, i32_w]
         rfl
        refine pure_ (i := 13) (N := some 15) (v := ?_) (a' := ?_) #[true, true, true, true, true, true, true, true, true, true, true, true, true, true] rfl rfl (by kernel_rfl) (fun _ _ _ h => h) (Or.inl ⟨by rfl, ?_⟩) ?_ ?_
        rotate_left
        ·intro w'
         go_simp
         with_reducible rfl
        rotate_left
        ·simp only [Act.put, List.setIfInBounds_toArray, List.set_cons_zero, List.set_cons_succ, i64_w, i32_w]
         rfl
        refine done_ (by kernel_rfl) ?_
        go_wp2
        go_round
        case rel => exact ⟨k + 1, _, by omega, by go_num, HST2, HF4, HT4, HB4⟩
        case measure => simp [intOf]; omega
      ·have hfit : fitB vs b x (s : Int) = false := by simpa using hfit
       have HFIT := Aside0.mk hfit
       have hst2 := HST.out
       rw [if_neg (by rw [hfit]; decide), ← hd2] at hst2
       have HST2 := Aside0.mk hst2
       clear hfit hst2 hd2
       go_wp2_with (first | ((with_reducible refine gate_ (Op.load 88 (.tmp 4)) rfl ?_); go_must (generalize hw1 : wr.setCell ⟨g10, s, none⟩ (.bool true) = w1 at HF1 HT1 HB1 HC1 ct0 ct1 cp cr ⊢; clear hw1; refine wpList_load_row rfl 88 (.tmp 4) rfl w.heap.size (by kernel_rfl) 88 _ (0, 0) _ HF1.out Try.underlying88 rfl (fitC_info _ _ _) ?_; simp only [Act.put, List.setIfInBounds_toArray, List.set_cons_succ, List.set_cons_zero])) | ((with_reducible refine gate_ (Op.store 88 (.tmp 13) (.tmp 40)) rfl ?_); go_must (refine wpList_store_rowTo rfl 88 (.tmp 13) (.tmp 40) rfl rfl w1.heap.size (fitC (.pointer (some ⟨gt, 0, none⟩)) (.pointer (some p)) b) (by kernel_rfl) (by kernel_rfl) 88 _ (blk_new w1 _) (fitC_info _ _ _) (by rw [fitC_size]; kernel_rfl) (fitC_one _ _ _) ?_); have HH2 := Aside0.mk (row_new' w1 Try.zeroCells88 (fitC (.pointer (some ⟨gt, 0, none⟩)) (.pointer (some p)) b) 88); have HB2 := Aside0.mk (below_setRow (below_alloc (Below.refl w1.heap.size w1) (Obj.cells Try.zeroCells88 88)) (Nat.le_refl _) (fitC (.pointer (some ⟨gt, 0, none⟩)) (.pointer (some p)) b)); generalize hw2 : (w1.alloc (Obj.cells Try.zeroCells88 88)).setRow w1.heap.size (fitC (.pointer (some ⟨gt, 0, none⟩)) (.pointer (some p)) b) = w2 at HH2 HB2 ⊢; clear hw2; have HC2 := Aside0.mk (HC1.out.below HB2.out); replace ct0 := pw_cell_below HB2.out ct0; replace ct1 := pw_cell_below HB2.out ct1; replace cp := pw_cell_below HB2.out cp; replace cr := pw_cell_below HB2.out cr) | (go_at_call 46; go_must (have hcall := tfits_calls w1.heap.size gt (.pointer (some p)) b vs AV cV x (s : Int) w2 HH2.out HC2.out.ht HC2.out.hV HP.out.h64 HXT.out (by omega) (by omega); rw [HFIT.out] at hcall; refine hcall.mono ?_); rintro e w3 ⟨rfl, hh3, hb3⟩; have HH3 := Aside0.mk hh3; have HB13 := Aside0.mk (HB2.out.trans hb3); clear hh3 hb3 ct0 ct1 cp cr; have HB3 := Aside0.mk (below_step HB1.out HB13.out); have HC3 := Aside0.mk (HC1.out.below HB13.out); have HF3 := Aside0.mk ((HB13.out.block _ (blk_lt HF1.out)).trans HF1.out); have HT3 := Aside0.mk ((HB13.out.block _ (blk_lt HT1.out)).trans HT1.out)))
       go_round
       case rel => exact ⟨k + 1, _, by omega, by go_num, HST2, HF3, HT3, HB3⟩
       case measure => simp [intOf]; omega
   ·have hkn : k = around.length := by omega
    subst hkn
    have hrn := HR.out
    rw [Nat.sub_self, frK] at hrn
    subst hrn
    go_wp2
    go_ret2
    exact ⟨rfl, HB.out⟩
end Go.Proofs.Ytajhfkcmfmhnaaa.L
end

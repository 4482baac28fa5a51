/- The program's map of the living cells: what it holds, or the error. -/
import Derived.Test.YtfgonglcmgahkabPlainKeys
import Derived.Test.YtfgonglcmgahkabPm0
import Derived.Maps.OwnOps
import Derived.RangeFuncBox
import Derived.Deep.DeepMust
set_option linter.unusedVariables false
namespace Go.Proofs.Ytfgonglcmgahkab.L
open Go.RowKit Go.Maps Go.Proofs.Ytfgonglcmgahkab.P Go.Proofs.YtfgonglcmgahkabW.PrintWords Go.Proofs.YtfgonglcmgahkabW.PrintLast Go.Proofs.YtfgonglcmgahkabW.PrintMore
theorem far_is (a : Int) : plain_far.f a = some (farI a) := by
 unfold plain_far.f farI
 by_cases h : a < -1099511627776
 ·rw [if_pos h, decide_eq_true h, Bool.true_or]
 ·rw [if_neg h, decide_eq_false h, Bool.false_or]
theorem rd_get (xs : List ClS) (i : Nat) (h : i < xs.length) : rd_T35 xs (i : Int) = xs[i] := by
 unfold rd_T35
 rw [Int.toNat_natCast, List.getD_eq_getElem?_getD, List.getElem?_eq_getElem h]
 rfl
/-- The error of cells and a rectangle. -/
def stE (T : DataW Unit × Int × Bool) (X Y W H : Int) : Int := if T.2.2 = true then 5 else if (Maps.size T.1 : Int) < T.2.1 then 6 else if W < 0 ∨ 65536 < W ∨ H < 0 ∨ 65536 < H then 231 else if (farI X || farI Y) = true then 5 else 0
theorem grown_none {W W' : World} (h : Below W.heap.size W W') : W.grownBy W' none := ⟨h.os, h.tape, h.output, h.size, fun k hk _ => h.block k hk⟩
set_option maxRecDepth 100000 in
set_option maxHeartbeats 4000000 in
theorem states_calls (A0 : Option Addr) (c0 : Nat) (xs : List ClS) (X Y W H : Int) (w : World) (hC : Kd.C k35 w A0 xs.length xs) (hc : xs.length ≤ c0) (hlen : xs.length ≤ 1000000000)
  (hwf : ∀ x ∈ xs, (Lit.int .i64 x.f0).wf = true ∧ (Lit.int .i64 x.f1).wf = true ∧ (Lit.int .u8 x.f2).wf = true) (hW : (Lit.int .i64 W).wf = true) (hH : (Lit.int .i64 H).wf = true) (hX : (Lit.int .i64 X).wf = true) (hY : (Lit.int .i64 Y).wf = true) :
  Calls Try.prog 24 #[.slice A0 xs.length c0, .agg #[.int .i64 X, .int .i64 Y, .int .i64 W, .int .i64 H]] w fun e w' =>
   ((¬ stE (stD xs (.map []) 0) X Y W H = 0 ∧ e = .returned (.tuple #[.map none, .int .i64 (stE (stD xs (.map []) 0) X Y W H)])) ∨
    (stE (stD xs (.map []) 0) X Y W H = 0 ∧ ∃ B, w.heap.size ≤ B ∧ e = .returned (.tuple #[.map (some B), .int .i64 0]) ∧ ∃ n, w'.ownsMap Try.prog 55 (plainElem Try.prog 5) B n (stD xs (.map []) 0).1)) ∧ Below w.heap.size w w' := by
 have hCC := Aside0.mk hC
 have hWF := Aside0.mk hwf
 clear hC hwf
 obtain ⟨T, hT⟩ : ∃ T, stD xs (.map []) 0 = T := ⟨_, rfl⟩
 rw [hT]
 have hTT := Aside0.mk hT
 clear hT
 have hmm := @run_makeMap Try.prog
 go_enter Try.func24, Try.ntmps24
 go_wp2
 go_loopw [6, 13] (fun v6 v13 wr => ∃ (i : Nat) (n : Int) (D : DataW Unit), v13 = .int .i64 i ∧ v6 = .int .i64 n ∧ (i ≤ xs.length ∧ 0 ≤ n ∧ n ≤ i) ∧ Aside0 (stD (xs.drop i) D n = T) ∧ Aside0 (wr.ownsMap Try.prog 55 (plainElem Try.prog 5) (w.heap.size + 1) i D) ∧ Aside0 (Below w.heap.size w wr) ∧ Aside0 (wr.heap[w.heap.size]? = some (.cells #[.int .i64 X, .int .i64 Y, .int .i64 W, .int .i64 H] 23 (0, 0))))
  (fun _ v13 _ => xs.length - (match v13 with | .int _ i => i.toNat | _ => 0))
 case atStart =>
  refine ⟨0, 0, .map [], rfl, rfl, ⟨by omega, by omega, by omega⟩, hTT, ⟨?_⟩, ⟨?_⟩, ⟨?_⟩⟩
  ·have h := World.ownsMap_made (w.alloc (.cells #[.int .i64 X, .int .i64 Y, .int .i64 W, .int .i64 H] 23)) Try.prog 55 (plainElem (H := Unit) Try.prog 5)
   rw [World.size_alloc] at h
   exact h
  ·exact ((Below.refl _ w).alloc (Nat.le_refl _) _).alloc (by simp) _
  ·exact (Below.heap_alloc _ _ _ (by simp)).trans (blk_new w _)
 case round =>
  obtain ⟨i, n, D, rfl, rfl, ⟨hi0, hn0, hn1⟩, HST, HOW, HB, HBX⟩ := hrel
  have b0 := blk_cell HBX.out 0
  have b1 := blk_cell HBX.out 1
  have b2 := blk_cell HBX.out 2
  have b3 := blk_cell HBX.out 3
  by_cases hi : i < xs.length
  ·have hi2 : (i : Int) < (xs.length : Int) := by omega
   have hCw := Kd.C_below hCC.out HB.out
   obtain ⟨ad, rfl, hx0, hx1, hx2⟩ := at_T35 hCw (i : Int) (by omega) (by omega)
   have hst := HST.out
   rw [List.drop_eq_getElem_cons hi] at hst
   have hw3 := hWF.out _ (List.getElem_mem hi)
   rw [rd_get xs i hi, Int.toNat_natCast] at hx0 hx1 hx2
   obtain ⟨y, hy⟩ : ∃ y, xs[i] = y := ⟨_, rfl⟩
   rw [hy] at hst hw3 hx0 hx1 hx2
   obtain ⟨wf0, wf1, wf2⟩ := hw3
   clear hCw hy HST
   by_cases h0 : y.f2 = 0
   ·unfold stD at hst
    rw [if_pos h0] at hst
    have e0 : (y.f2 == 0) = true := beq_iff_eq.mpr h0
    have HST := Aside0.mk hst
    clear hst
    go_wp2
    go_roundw
    case rel => exact ⟨i + 1, n, D, rfl, rfl, ⟨by omega, by omega, by omega⟩, HST, ⟨(HOW.out.alloc _).mono (Nat.le_succ _)⟩, ⟨HB.out.alloc HB.out.size _⟩, ⟨(Below.heap_alloc _ _ _ (Array.getElem?_eq_some_iff.1 HBX.out).1).trans HBX.out⟩⟩
    case measure => simp; omega
   ·have e0 : (y.f2 == 0) = false := beq_eq_false_iff_ne.mpr h0
    unfold stD at hst
    rw [if_neg h0] at hst
    cases h1 : farI y.f0 with
    | true =>
     rw [h1, Bool.true_or, if_pos rfl] at hst
     have HST := Aside0.mk hst
     clear hst
     go_wp2_with (go_at_call 33; refine (plain_far.calls y.f0 true _ (by rw [far_is, h1])).mono ?_; rintro e w2 ⟨rfl, hd2⟩; have hbl2 : w2.heap[wr.heap.size]? = some (.cells #[.int .i64 y.f0, .int .i64 y.f1, .int .u8 y.f2] 35 (0, 0)) := (hd2.below.block wr.heap.size (by simp)).trans (blk_new wr _); have cA2 := blk_cell hbl2 0; have cB2 := blk_cell hbl2 1; have cC2 := blk_cell hbl2 2; have HD2 := Aside0.mk hd2.below; clear hd2)
     go_ret2
     have hE : stE T X Y W H = 5 := by rw [← HST.out]; unfold stE; rw [if_pos rfl]
     rw [hE]
     exact ⟨.inl ⟨by decide, rfl⟩, (HB.out.alloc HB.out.size _).trans (HD2.out.mono (by have := HB.out.size; simp; omega))⟩
    | false =>
     cases h2 : farI y.f1 with
     | true =>
      rw [h1, h2, Bool.false_or, if_pos rfl] at hst
      have HST := Aside0.mk hst
      clear hst
      go_wp2_with (first | (go_at_call 33; refine (plain_far.calls y.f0 false _ (by rw [far_is, h1])).mono ?_; rintro e w2 ⟨rfl, hd2⟩; have hbl2 : w2.heap[wr.heap.size]? = some (.cells #[.int .i64 y.f0, .int .i64 y.f1, .int .u8 y.f2] 35 (0, 0)) := (hd2.below.block wr.heap.size (by simp)).trans (blk_new wr _); have cA2 := blk_cell hbl2 0; have cB2 := blk_cell hbl2 1; have cC2 := blk_cell hbl2 2; have HD2 := Aside0.mk hd2.below; clear hd2) | (go_at_call 33; refine (plain_far.calls y.f1 true _ (by rw [far_is, h2])).mono ?_; rintro e w3 ⟨rfl, hd3⟩; have hbl3 : w3.heap[wr.heap.size]? = some (.cells #[.int .i64 y.f0, .int .i64 y.f1, .int .u8 y.f2] 35 (0, 0)) := (hd3.below.block wr.heap.size (by have := HD2.out.size; simp at this; omega)).trans hbl2; have cA3 := blk_cell hbl3 0; have cB3 := blk_cell hbl3 1; have cC3 := blk_cell hbl3 2; have HD3 := Aside0.mk hd3.below; clear hd3))
      go_ret2
      have hE : stE T X Y W H = 5 := by rw [← HST.out]; unfold stE; rw [if_pos rfl]
      rw [hE]
      have s2 := HD2.out.size
      exact ⟨.inl ⟨by decide, rfl⟩, ((HB.out.alloc HB.out.size _).trans (HD2.out.mono (by have := HB.out.size; simp; omega))).trans (HD3.out.mono (by have := HB.out.size; simp at s2; omega))⟩
     | false =>
      rw [h1, h2, Bool.false_or, if_neg (by decide)] at hst
      have HST := Aside0.mk hst
      clear hst
      go_wp2_with (first | (go_at_call 33; refine (plain_far.calls y.f0 false _ (by rw [far_is, h1])).mono ?_; rintro e w2 ⟨rfl, hd2⟩; have hbl2 : w2.heap[wr.heap.size]? = some (.cells #[.int .i64 y.f0, .int .i64 y.f1, .int .u8 y.f2] 35 (0, 0)) := (hd2.below.block wr.heap.size (by simp)).trans (blk_new wr _); have cA2 := blk_cell hbl2 0; have cB2 := blk_cell hbl2 1; have cC2 := blk_cell hbl2 2; have HD2 := Aside0.mk hd2.below; clear hd2) | (go_at_call 33; refine (plain_far.calls y.f1 false _ (by rw [far_is, h2])).mono ?_; rintro e w3 ⟨rfl, hd3⟩; have hbl3 : w3.heap[wr.heap.size]? = some (.cells #[.int .i64 y.f0, .int .i64 y.f1, .int .u8 y.f2] 35 (0, 0)) := (hd3.below.block wr.heap.size (by have := HD2.out.size; simp at this; omega)).trans hbl2; have cA3 := blk_cell hbl3 0; have cB3 := blk_cell hbl3 1; have cC3 := blk_cell hbl3 2; have HD3 := Aside0.mk hd3.below; clear hd3) | (at_mapUpdate; go_must (refine wpList_mapUpdate_own _ rfl _ _ _ 50 rfl 55 5 pkey Try.underlying50 _ (w.heap.size + 1) i D rfl (((HOW.out.alloc _).kept (grown_none HD2.out) (by simp)).kept (grown_none HD3.out) (by simp)) (by unfold maxLen; omega) _ _ _ rfl rfl (key_of y.f0 y.f1 wf0 wf1) (.lit (.int .u8 y.f2)) [] (plainElem_int Try.underlying5 wf2) ?_; intro w4 hown4 hgrow4)))
      go_roundw
      case rel =>
       have s0 := HB.out.size
       have s2 := HD2.out.size
       have s3 := HD3.out.size
       simp at s2
       have hB4 := (((HB.out.alloc HB.out.size (.cells #[.int .i64 y.f0, .int .i64 y.f1, .int .u8 y.f2] 35)).trans (HD2.out.mono (by simp; omega))).trans (HD3.out.mono (by omega))).grown hgrow4 (by omega) (fun k e => by cases e; omega)
       have hlt := (Array.getElem?_eq_some_iff.1 HBX.out).1
       refine ⟨i + 1, n + 1, putC D y, rfl, rfl, ⟨by omega, by omega, by omega⟩, HST, ⟨hown4⟩, ⟨hB4⟩, ⟨?_⟩⟩
       exact (hgrow4.block _ (by omega) (fun e => by have := Option.some.inj e; omega)).trans ((HD3.out.block _ (by omega)).trans ((HD2.out.block _ (by simp; omega)).trans ((Below.heap_alloc _ _ _ hlt).trans HBX.out)))
      case measure => simp; omega
  ·have hi2 : ¬ (i : Int) < (xs.length : Int) := by omega
   have hst := HST.out
   rw [List.drop_eq_nil_of_le (by omega)] at hst
   unfold stD at hst
   subst hst
   have hbl := (Array.getElem?_eq_some_iff.1 HBX.out).1
   have hs0 := HB.out.size
   clear HST
   by_cases z : (Maps.size D : Int) < n
   ·have z1 : decide ((Maps.size D : Int) < n) = true := decide_eq_true z
    have hE : stE (D, n, false) X Y W H = 6 := by unfold stE; rw [if_neg Bool.false_ne_true, if_pos z]
    have HE := Aside0.mk hE
    clear z hE
    go_wp2_with (at_len; go_must (refine wpList_len_own _ rfl _ 50 rfl 55 5 Try.underlying50 (plainElem (H := Unit) Try.prog 5) (w.heap.size + 1) i D rfl HOW.out ?_))
    go_ret2
    rw [HE.out]
    exact ⟨.inl ⟨by decide, rfl⟩, HB.out⟩
   ·have z1 : decide ((Maps.size D : Int) < n) = false := decide_eq_false z
    have hE0 : stE (D, n, false) X Y W H = if W < 0 ∨ 65536 < W ∨ H < 0 ∨ 65536 < H then 231 else if (farI X || farI Y) = true then 5 else 0 := by unfold stE; rw [if_neg Bool.false_ne_true, if_neg z]
    clear z
    by_cases d0 : W < 0
    ·have e0 : decide (W < 0) = true := decide_eq_true d0
     rw [if_pos (.inl d0)] at hE0
     clear d0
     have HE := Aside0.mk hE0
     clear hE0
     go_wp2_with (at_len; go_must (refine wpList_len_own _ rfl _ 50 rfl 55 5 Try.underlying50 (plainElem (H := Unit) Try.prog 5) (w.heap.size + 1) i D rfl HOW.out ?_))
     go_ret2
     rw [HE.out]
     exact ⟨.inl ⟨by decide, rfl⟩, HB.out⟩
    ·by_cases d1 : 65536 < W
     ·have e0 : decide (W < 0) = false := decide_eq_false d0
      have e1 : decide (65536 < W) = true := decide_eq_true d1
      rw [if_pos (.inr (.inl d1))] at hE0
      clear d0 d1
      have HE := Aside0.mk hE0
      clear hE0
      go_wp2_with (at_len; go_must (refine wpList_len_own _ rfl _ 50 rfl 55 5 Try.underlying50 (plainElem (H := Unit) Try.prog 5) (w.heap.size + 1) i D rfl HOW.out ?_))
      go_ret2
      rw [HE.out]
      exact ⟨.inl ⟨by decide, rfl⟩, HB.out⟩
     ·by_cases d2 : H < 0
      ·have e0 : decide (W < 0) = false := decide_eq_false d0
       have e1 : decide (65536 < W) = false := decide_eq_false d1
       have e2 : decide (H < 0) = true := decide_eq_true d2
       rw [if_pos (.inr (.inr (.inl d2)))] at hE0
       clear d0 d1 d2
       have HE := Aside0.mk hE0
       clear hE0
       go_wp2_with (at_len; go_must (refine wpList_len_own _ rfl _ 50 rfl 55 5 Try.underlying50 (plainElem (H := Unit) Try.prog 5) (w.heap.size + 1) i D rfl HOW.out ?_))
       go_ret2
       rw [HE.out]
       exact ⟨.inl ⟨by decide, rfl⟩, HB.out⟩
      ·by_cases d3 : 65536 < H
       ·have e0 : decide (W < 0) = false := decide_eq_false d0
        have e1 : decide (65536 < W) = false := decide_eq_false d1
        have e2 : decide (H < 0) = false := decide_eq_false d2
        have e3 : decide (65536 < H) = true := decide_eq_true d3
        rw [if_pos (.inr (.inr (.inr d3)))] at hE0
        clear d0 d1 d2 d3
        have HE := Aside0.mk hE0
        clear hE0
        go_wp2_with (at_len; go_must (refine wpList_len_own _ rfl _ 50 rfl 55 5 Try.underlying50 (plainElem (H := Unit) Try.prog 5) (w.heap.size + 1) i D rfl HOW.out ?_))
        go_ret2
        rw [HE.out]
        exact ⟨.inl ⟨by decide, rfl⟩, HB.out⟩
       ·have e0 : decide (W < 0) = false := decide_eq_false d0
        have e1 : decide (65536 < W) = false := decide_eq_false d1
        have e2 : decide (H < 0) = false := decide_eq_false d2
        have e3 : decide (65536 < H) = false := decide_eq_false d3
        rw [if_neg (by omega)] at hE0
        clear d0 d1 d2 d3
        cases fX : farI X with
        | true =>
         rw [fX, Bool.true_or, if_pos rfl] at hE0
         have HE := Aside0.mk hE0
         clear hE0
         go_wp2_with (first | (at_len; go_must (refine wpList_len_own _ rfl _ 50 rfl 55 5 Try.underlying50 (plainElem (H := Unit) Try.prog 5) (w.heap.size + 1) i D rfl HOW.out ?_)) | (go_at_call 33; refine (plain_far.calls X true _ (by rw [far_is, fX])).mono ?_; rintro e w2 ⟨rfl, hd2⟩; have hbl2 := (hd2.below.block w.heap.size hbl).trans HBX.out; have cA2 := blk_cell hbl2 0; have cB2 := blk_cell hbl2 1; have cC2 := blk_cell hbl2 2; have cD2 := blk_cell hbl2 3; have HD2 := Aside0.mk hd2.below; clear hd2))
         go_ret2
         rw [HE.out]
         exact ⟨.inl ⟨by decide, rfl⟩, HB.out.trans (HD2.out.mono hs0)⟩
        | false =>
         cases fY : farI Y with
         | true =>
          rw [fX, fY, Bool.false_or, if_pos rfl] at hE0
          have HE := Aside0.mk hE0
          clear hE0
          go_wp2_with (first | (at_len; go_must (refine wpList_len_own _ rfl _ 50 rfl 55 5 Try.underlying50 (plainElem (H := Unit) Try.prog 5) (w.heap.size + 1) i D rfl HOW.out ?_)) | (go_at_call 33; refine (plain_far.calls X false _ (by rw [far_is, fX])).mono ?_; rintro e w2 ⟨rfl, hd2⟩; have hbl2 := (hd2.below.block w.heap.size hbl).trans HBX.out; have cA2 := blk_cell hbl2 0; have cB2 := blk_cell hbl2 1; have cC2 := blk_cell hbl2 2; have cD2 := blk_cell hbl2 3; have HD2 := Aside0.mk hd2.below; clear hd2) | (go_at_call 33; refine (plain_far.calls Y true _ (by rw [far_is, fY])).mono ?_; rintro e w3 ⟨rfl, hd3⟩; have HD3 := Aside0.mk hd3.below; clear hd3))
          go_ret2
          rw [HE.out]
          have s2 := HD2.out.size
          exact ⟨.inl ⟨by decide, rfl⟩, (HB.out.trans (HD2.out.mono hs0)).trans (HD3.out.mono (by omega))⟩
         | false =>
          rw [fX, fY, Bool.false_or, if_neg (by decide)] at hE0
          have HE := Aside0.mk hE0
          clear hE0
          go_wp2_with (first | (at_len; go_must (refine wpList_len_own _ rfl _ 50 rfl 55 5 Try.underlying50 (plainElem (H := Unit) Try.prog 5) (w.heap.size + 1) i D rfl HOW.out ?_)) | (go_at_call 33; refine (plain_far.calls X false _ (by rw [far_is, fX])).mono ?_; rintro e w2 ⟨rfl, hd2⟩; have hbl2 := (hd2.below.block w.heap.size hbl).trans HBX.out; have cA2 := blk_cell hbl2 0; have cB2 := blk_cell hbl2 1; have cC2 := blk_cell hbl2 2; have cD2 := blk_cell hbl2 3; have HD2 := Aside0.mk hd2.below; clear hd2) | (go_at_call 33; refine (plain_far.calls Y false _ (by rw [far_is, fY])).mono ?_; rintro e w3 ⟨rfl, hd3⟩; have HD3 := Aside0.mk hd3.below; clear hd3))
          go_ret2
          rw [HE.out]
          have s2 := HD2.out.size
          exact ⟨.inr ⟨rfl, w.heap.size + 1, Nat.le_succ _, rfl, i, (HOW.out.kept (grown_none HD2.out) (by simp)).kept (grown_none HD3.out) (by simp)⟩, (HB.out.trans (HD2.out.mono hs0)).trans (HD3.out.mono (by omega))⟩
end Go.Proofs.Ytfgonglcmgahkab.L

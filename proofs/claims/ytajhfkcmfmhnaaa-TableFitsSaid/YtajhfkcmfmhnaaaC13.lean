-- Written by a program of this session (wip/tools/shake.py): texts of this claim, of each what the claim names.
import Derived.Test.YtajhfkcmfmhnaaaC2
import Derived.Test.YtajhfkcmfmhnaaaC5
import Derived.Test.YtajhfkcmfmhnaaaC11
import Derived.Test.YtajhfkcmfmhnaaaC12
import Derived.Deep.DeepMust
import Derived.Great.BuildSlice
section
namespace Go.Proofs.Ytajhfkcmfmhnaaa.L
open Go.RowKit Go.Proofs.Ytajhfkcmfmhnaaa.P Go.Proofs.YtajhfkcmfmhnaaaW.PrintWords Go.Proofs.YtajhfkcmfmhnaaaW.PrintLast Go.Proofs.YtajhfkcmfmhnaaaW.PrintMore
set_option linter.unusedVariables false
set_option linter.unusedSimpArgs false
/-- What a row says of a centre and neighbours (the program). -/
def oneF (vs : List Vr) (sym : Int) (ce : Tm) (T : List Tm) (o : Tm) (gs : List (List Int)) (centre : Int) (around : List Int) : Option Int :=
 if fitB vs bd0 ce centre = true then (if sym = 6 then freeF vs (outP o) around T (fun _ => false) (fitU vs bd0 ce centre) else ordF vs (outP o) T around (fitU vs bd0 ce centre) gs) else none
theorem built_fit (gt : Nat) (p : Addr) : Try.prog.built 88 [(0, Value.pointer (some ⟨gt, 0, none⟩)), (1, Value.pointer (some p))] = some (fitC (.pointer (some ⟨gt, 0, none⟩)) (.pointer (some p)) bd0) := by kernel_rfl
theorem bits0 : (fun k : Nat => (0 : Nat).testBit k) = fun _ => false := by funext k; simp
set_option maxRecDepth 100000 in
set_option maxHeartbeats 4000000 in
theorem tone_calls (gt : Nat) (p : Addr) (vs : List Vr) (AV : Option Addr) (cV : Nat) (T : List Tm) (AT : Option Addr) (cT : Nat) (o ce : Tm) (sym : Int) (centre : Int) (around : List Int) (A2 : Option Addr) (c2 : Nat) (gs : List (List Int)) (AO : Option Addr) (cO : Nat) (w : World)
  (hP : TPure vs T o around) (hC : TCtx w gt p vs AV cV T AT cT o around A2) (h0 : w.cell? p = some (.int .u8 ce.f0)) (h1 : w.cell? ⟨p.block, p.off + 1, none⟩ = some (.int .i64 ce.f1)) (hs : w.cell? ⟨gt, 2, none⟩ = some (.int .u8 sym)) (hce : ce.f1 < vs.length) (hc0 : 0 ≤ centre) (hc1 : centre ≤ 255)
  (hO : Kd.C (Kd.slice 3 (Kd.int .i64)) w AO gs.length gs) (hg : ∀ g ∈ gs, g.length = around.length ∧ ∀ i ∈ g, 0 ≤ i ∧ i < around.length) :
  Calls Try.prog 32 #[.pointer (some ⟨gt, 0, none⟩), .pointer (some p), .slice AO gs.length cO, .int .u8 centre, .slice A2 around.length c2] w fun e w' =>
   e = .returned (resT (oneF vs sym ce T o gs centre around)) ∧ Below w.heap.size w w' := by
 obtain ⟨R, hR⟩ : ∃ R, oneF vs sym ce T o gs centre around = R := ⟨_, rfl⟩
 rw [hR]
 unfold oneF at hR
 have HC := Aside0.mk hC
 have HP := Aside0.mk hP
 have HO := Aside0.mk hO
 have HG := Aside0.mk hg
 have HCE := Aside0.mk hce
 clear hC hP hO hg hce
 have HS0 := Aside0.mk hs
 by_cases hf : fitB vs bd0 ce centre = true
 ·rw [if_pos hf] at hR
  have HF := Aside0.mk hf
  clear hf
  by_cases h6 : sym = 6
  ·rw [if_pos h6] at hR
   subst h6
   have HRR := Aside0.mk hR
   clear hR
   cases R with
   | some v =>
    go_enter Try.func32, Try.ntmps32
    go_wp2_with (first | go_step3 | ((with_reducible refine gate_ (Op.build 88 #[(0, .tmp 18), (1, .tmp 19)]) rfl ?_); go_must (refine wpList_buildTo rfl 88 _ rfl (some 20) rfl (fitC (.pointer (some ⟨gt, 0, none⟩)) (.pointer (some p)) bd0) (by simp only [List.map_toArray, List.map_cons, List.map_nil]; exact built_fit gt p) ?_); simp only [Act.put, List.setIfInBounds_toArray, List.set_cons_succ, List.set_cons_zero]) | ((with_reducible refine gate_ (Op.store 88 (.tmp 12) (.tmp 20)) rfl ?_); go_must (refine wpList_store_rowTo rfl 88 (.tmp 12) (.tmp 20) rfl rfl w.heap.size (fitC (.pointer (some ⟨gt, 0, none⟩)) (.pointer (some p)) bd0) (by kernel_rfl) (by kernel_rfl) 88 _ (blk_new w _) (fitC_info _ _ _) (by rw [fitC_size]; kernel_rfl) (fitC_one _ _ _) ?_); have HNw1 := Aside0.mk (row_new' w Try.zeroCells88 (fitC (.pointer (some ⟨gt, 0, none⟩)) (.pointer (some p)) bd0) 88); have HSw1 := Aside0.mk (below_setRow (below_alloc (Below.refl w.heap.size w) (Obj.cells Try.zeroCells88 88)) (Nat.le_refl _) (fitC (.pointer (some ⟨gt, 0, none⟩)) (.pointer (some p)) bd0)); generalize hww1 : (w.alloc (Obj.cells Try.zeroCells88 88)).setRow w.heap.size (fitC (.pointer (some ⟨gt, 0, none⟩)) (.pointer (some p)) bd0) = w1 at HNw1 HSw1 ⊢; clear hww1; have HC1 := Aside0.mk (HC.out.below HSw1.out); replace h0 := pw_cell_below HSw1.out h0; replace h1 := pw_cell_below HSw1.out h1; replace hs := pw_cell_below HSw1.out hs) | (go_at_call 46; go_must (have hcall := tfits_calls w.heap.size gt (.pointer (some p)) bd0 vs AV cV ce centre w1 HNw1.out HC1.out.ht HC1.out.hV HP.out.h64 HCE.out hc0 hc1; rw [HF.out] at hcall; refine hcall.mono ?_; rintro e w2 ⟨rfl, hh2, hb2⟩; have HF2 := Aside0.mk hh2; have HB2 := Aside0.mk (HSw1.out.trans hb2); have HC2 := Aside0.mk (HC.out.below HB2.out); clear hh2 h0 h1 hs; have hs := pw_cell_below HB2.out HS0.out; clear hb2)) | ((with_reducible refine gate_ (Op.load 88 (.tmp 12)) rfl ?_); go_must (refine wpList_load_row rfl 88 (.tmp 12) rfl w.heap.size (by kernel_rfl) 88 _ (0, 0) _ HF2.out Try.underlying88 rfl (fitC_info _ _ _) ?_); simp only [Act.put, List.setIfInBounds_toArray, List.set_cons_succ, List.set_cons_zero]) | (go_at_call 47; go_must (have hcall := tfree_calls gt p vs AV cV T AT cT o around A2 c2 HP.out T 0 (fitU vs bd0 ce centre) 0 w2 HC2.out (by simp) (by simp) (by decide); rw [bits0, HRR.out] at hcall; simp only [resT, Int.natCast_zero] at hcall; refine hcall.mono ?_); rintro e w3 ⟨rfl, hb3⟩; have HB3 := Aside0.mk (below_step HB2.out hb3); clear hb3))
    try rw [Exit.noGoto_ret]
    go_ret2
    exact ⟨rfl, HB3.out⟩
   | none =>
    go_enter Try.func32, Try.ntmps32
    go_wp2_with (first | go_step3 | ((with_reducible refine gate_ (Op.build 88 #[(0, .tmp 18), (1, .tmp 19)]) rfl ?_); go_must (refine wpList_buildTo rfl 88 _ rfl (some 20) rfl (fitC (.pointer (some ⟨gt, 0, none⟩)) (.pointer (some p)) bd0) (by simp only [List.map_toArray, List.map_cons, List.map_nil]; exact built_fit gt p) ?_); simp only [Act.put, List.setIfInBounds_toArray, List.set_cons_succ, List.set_cons_zero]) | ((with_reducible refine gate_ (Op.store 88 (.tmp 12) (.tmp 20)) rfl ?_); go_must (refine wpList_store_rowTo rfl 88 (.tmp 12) (.tmp 20) rfl rfl w.heap.size (fitC (.pointer (some ⟨gt, 0, none⟩)) (.pointer (some p)) bd0) (by kernel_rfl) (by kernel_rfl) 88 _ (blk_new w _) (fitC_info _ _ _) (by rw [fitC_size]; kernel_rfl) (fitC_one _ _ _) ?_); have HNw1 := Aside0.mk (row_new' w Try.zeroCells88 (fitC (.pointer (some ⟨gt, 0, none⟩)) (.pointer (some p)) bd0) 88); have HSw1 := Aside0.mk (below_setRow (below_alloc (Below.refl w.heap.size w) (Obj.cells Try.zeroCells88 88)) (Nat.le_refl _) (fitC (.pointer (some ⟨gt, 0, none⟩)) (.pointer (some p)) bd0)); generalize hww1 : (w.alloc (Obj.cells Try.zeroCells88 88)).setRow w.heap.size (fitC (.pointer (some ⟨gt, 0, none⟩)) (.pointer (some p)) bd0) = w1 at HNw1 HSw1 ⊢; clear hww1; have HC1 := Aside0.mk (HC.out.below HSw1.out); replace h0 := pw_cell_below HSw1.out h0; replace h1 := pw_cell_below HSw1.out h1; replace hs := pw_cell_below HSw1.out hs) | (go_at_call 46; go_must (have hcall := tfits_calls w.heap.size gt (.pointer (some p)) bd0 vs AV cV ce centre w1 HNw1.out HC1.out.ht HC1.out.hV HP.out.h64 HCE.out hc0 hc1; rw [HF.out] at hcall; refine hcall.mono ?_; rintro e w2 ⟨rfl, hh2, hb2⟩; have HF2 := Aside0.mk hh2; have HB2 := Aside0.mk (HSw1.out.trans hb2); have HC2 := Aside0.mk (HC.out.below HB2.out); clear hh2 h0 h1 hs; have hs := pw_cell_below HB2.out HS0.out; clear hb2)) | ((with_reducible refine gate_ (Op.load 88 (.tmp 12)) rfl ?_); go_must (refine wpList_load_row rfl 88 (.tmp 12) rfl w.heap.size (by kernel_rfl) 88 _ (0, 0) _ HF2.out Try.underlying88 rfl (fitC_info _ _ _) ?_); simp only [Act.put, List.setIfInBounds_toArray, List.set_cons_succ, List.set_cons_zero]) | (go_at_call 47; go_must (have hcall := tfree_calls gt p vs AV cV T AT cT o around A2 c2 HP.out T 0 (fitU vs bd0 ce centre) 0 w2 HC2.out (by simp) (by simp) (by decide); rw [bits0, HRR.out] at hcall; simp only [resT, Int.natCast_zero] at hcall; refine hcall.mono ?_); rintro e w3 ⟨rfl, hb3⟩; have HB3 := Aside0.mk (below_step HB2.out hb3); clear hb3))
    try rw [Exit.noGoto_ret]
    go_ret2
    exact ⟨rfl, HB3.out⟩
  ·rw [if_neg h6] at hR
   have h6b : (sym == 6) = false := by rw [beq_eq_false_iff_ne]; exact h6
   have HRR := Aside0.mk hR
   clear hR h6
   go_enter Try.func32, Try.ntmps32
   go_wp2_with (first | go_step3 | ((with_reducible refine gate_ (Op.build 88 #[(0, .tmp 18), (1, .tmp 19)]) rfl ?_); go_must (refine wpList_buildTo rfl 88 _ rfl (some 20) rfl (fitC (.pointer (some ⟨gt, 0, none⟩)) (.pointer (some p)) bd0) (by simp only [List.map_toArray, List.map_cons, List.map_nil]; exact built_fit gt p) ?_); simp only [Act.put, List.setIfInBounds_toArray, List.set_cons_succ, List.set_cons_zero]) | ((with_reducible refine gate_ (Op.store 88 (.tmp 12) (.tmp 20)) rfl ?_); go_must (refine wpList_store_rowTo rfl 88 (.tmp 12) (.tmp 20) rfl rfl w.heap.size (fitC (.pointer (some ⟨gt, 0, none⟩)) (.pointer (some p)) bd0) (by kernel_rfl) (by kernel_rfl) 88 _ (blk_new w _) (fitC_info _ _ _) (by rw [fitC_size]; kernel_rfl) (fitC_one _ _ _) ?_); have HNw1 := Aside0.mk (row_new' w Try.zeroCells88 (fitC (.pointer (some ⟨gt, 0, none⟩)) (.pointer (some p)) bd0) 88); have HSw1 := Aside0.mk (below_setRow (below_alloc (Below.refl w.heap.size w) (Obj.cells Try.zeroCells88 88)) (Nat.le_refl _) (fitC (.pointer (some ⟨gt, 0, none⟩)) (.pointer (some p)) bd0)); generalize hww1 : (w.alloc (Obj.cells Try.zeroCells88 88)).setRow w.heap.size (fitC (.pointer (some ⟨gt, 0, none⟩)) (.pointer (some p)) bd0) = w1 at HNw1 HSw1 ⊢; clear hww1; have HC1 := Aside0.mk (HC.out.below HSw1.out); replace h0 := pw_cell_below HSw1.out h0; replace h1 := pw_cell_below HSw1.out h1; replace hs := pw_cell_below HSw1.out hs) | (go_at_call 46; go_must (have hcall := tfits_calls w.heap.size gt (.pointer (some p)) bd0 vs AV cV ce centre w1 HNw1.out HC1.out.ht HC1.out.hV HP.out.h64 HCE.out hc0 hc1; rw [HF.out] at hcall; refine hcall.mono ?_; rintro e w2 ⟨rfl, hh2, hb2⟩; have HF2 := Aside0.mk hh2; have HB2 := Aside0.mk (HSw1.out.trans hb2); have HC2 := Aside0.mk (HC.out.below HB2.out); clear hh2 h0 h1 hs; have hs := pw_cell_below HB2.out HS0.out; clear hb2)))
   go_loopw [40] (fun v wr => ∃ j : Nat, j ≤ gs.length ∧ v = .int .i64 j ∧ Aside0 (ordF vs (outP o) T around (fitU vs bd0 ce centre) (gs.drop j) = R) ∧ Aside0 (wr.heap[w.heap.size]? = some (.cells (fitC (.pointer (some ⟨gt, 0, none⟩)) (.pointer (some p)) (fitU vs bd0 ce centre)) 88 (0, 0))) ∧ Aside0 (Below w.heap.size w wr)) (fun v wr => gs.length - (intOf v).toNat)
   case atStart => exact ⟨0, Nat.zero_le _, rfl, by rw [List.drop_zero]; exact HRR, HF2, HB2⟩
   case round =>
    rename World => wo
    obtain ⟨j, hj, rfl, HR, HFw, HBw⟩ := hrel
    clear HF2 HB2 HRR HC2 hs
    by_cases hlt : j < gs.length
    ·have q0 : (0 : Int) ≤ (j : Int) := by omega
     have q1 : (j : Int) < gs.length := by omega
     have q2 : (j : Int) < 9223372036854775807 := by have := HO.out.2.1; omega
     have HCw := Aside0.mk (HC.out.below HBw.out)
     have HOw := Aside0.mk (Kd.C_below HO.out HBw.out)
     obtain ⟨adO, cO1, rfl, _, ⟨Ag, cg, rfl, hgc, hCg⟩, hcc⟩ := Kd.C_get HOw.out [] (j : Int) q0 q1
     have hgj : gs.getD j [] ∈ gs := by
      rw [List.getD_eq_getElem?_getD, List.getElem?_eq_getElem hlt]
      exact List.getElem_mem hlt
     have hcg : wo.cell? (adO.add j) = some (.slice Ag (gs.getD j []).length cg) := by
      have h := hcc 0 _ rfl
      simpa [Kd.slice] using h
     rw [Int.toNat_natCast] at hgc hCg
     have hgl := HG.out _ hgj
     have hdr : gs.drop j = gs.getD j [] :: gs.drop (j + 1) := by
      rw [List.drop_eq_getElem_cons hlt, List.getD_eq_getElem?_getD, List.getElem?_eq_getElem hlt]; rfl
     have hRj := HR.out
     rw [hdr, ordF] at hRj
     obtain ⟨gj, hgjj⟩ : ∃ gj, gs.getD j [] = gj := ⟨_, rfl⟩
     rw [hgjj] at hgc hCg hcg hgl hRj
     rw [hgl.1] at hcg
     obtain ⟨S, hS⟩ : ∃ S, seqF vs (fitU vs bd0 ce centre) T (gj.map (rd around)) = S := ⟨_, rfl⟩
     rw [hS] at hRj
     have HSS := Aside0.mk hS
     have HGL := Aside0.mk hgl
     have HRJ := Aside0.mk hRj
     have HCg := Aside0.mk hCg
     have cp := HCw.out.h2
     clear hS hgl hRj hCg hgc hcc hgj hgjj hdr HR
     go_wp2_with (first | go_step3 | ((with_reducible refine gate_ (Op.load 88 (.tmp 12)) rfl ?_); go_must (refine wpList_load_row rfl 88 (.tmp 12) rfl w.heap.size (by kernel_rfl) 88 _ (0, 0) _ HFw.out Try.underlying88 rfl (fitC_info _ _ _) ?_); simp only [Act.put, List.setIfInBounds_toArray, List.set_cons_succ, List.set_cons_zero]) | ((with_reducible refine gate_ (Op.store 88 (.tmp 15) (.tmp 44)) rfl ?_); go_must (refine wpList_store_rowTo rfl 88 (.tmp 15) (.tmp 44) rfl rfl wo.heap.size (fitC (.pointer (some ⟨gt, 0, none⟩)) (.pointer (some p)) (fitU vs bd0 ce centre)) (by kernel_rfl) (by kernel_rfl) 88 _ (blk_new wo _) (fitC_info _ _ _) (by rw [fitC_size]; kernel_rfl) (fitC_one _ _ _) ?_); have HNw4 := Aside0.mk (row_new' wo Try.zeroCells88 (fitC (.pointer (some ⟨gt, 0, none⟩)) (.pointer (some p)) (fitU vs bd0 ce centre)) 88); have HSw4 := Aside0.mk (below_setRow (below_alloc (Below.refl wo.heap.size wo) (Obj.cells Try.zeroCells88 88)) (Nat.le_refl _) (fitC (.pointer (some ⟨gt, 0, none⟩)) (.pointer (some p)) (fitU vs bd0 ce centre))); generalize hww4 : (wo.alloc (Obj.cells Try.zeroCells88 88)).setRow wo.heap.size (fitC (.pointer (some ⟨gt, 0, none⟩)) (.pointer (some p)) (fitU vs bd0 ce centre)) = w4 at HNw4 HSw4 ⊢; clear hww4; have HC4 := Aside0.mk (HCw.out.below HSw4.out); have HB4 := Aside0.mk (below_step HBw.out HSw4.out); have HF4 := Aside0.mk ((HSw4.out.block _ (blk_lt HFw.out)).trans HFw.out); replace cp := pw_cell_below HSw4.out cp))
     go_loopw [50] (fun v wq => ∃ (k : Nat) (bb : Bd), k ≤ around.length ∧ v = .int .i64 k ∧ Aside0 (seqF vs bb (T.drop k) ((gj.drop k).map (rd around)) = S) ∧ Aside0 (wq.heap[wo.heap.size]? = some (.cells (fitC (.pointer (some ⟨gt, 0, none⟩)) (.pointer (some p)) bb) 88 (0, 0))) ∧ Aside0 (Below wo.heap.size wo wq)) (fun v wq => around.length - (intOf v).toNat)
     case atStart => exact ⟨0, fitU vs bd0 ce centre, Nat.zero_le _, rfl, ⟨by rw [List.drop_zero, List.drop_zero]; exact HSS.out⟩, HNw4, HSw4⟩
     case round =>
      rename World => wq
      obtain ⟨k, bb, hk, rfl, HQ, HNq, HSq⟩ := hrel
      clear HNw4 HSw4 HSS HC4 HB4 HF4 cp
      by_cases hkl : k < around.length
      ·have hkT : k < T.length := by rw [HP.out.hl]; exact hkl
       have p4 : (k : Int) < 8 := by have := HP.out.h8; omega
       have hkg : k < gj.length := by rw [HGL.out.1]; exact hkl
       have HCq := Aside0.mk (HCw.out.below HSq.out)
       obtain ⟨aT, hAT, ct0, ct1⟩ := at_T59 HCq.out.hT (k : Int) (by omega) (by omega)
       rw [Int.toNat_natCast] at ct0 ct1
       obtain ⟨x, hx⟩ : ∃ x, rd_T59 T (k : Int) = x := ⟨_, rfl⟩
       rw [hx] at ct0 ct1
       subst hAT
       have HCgq := Aside0.mk (Kd.C_below HCg.out HSq.out)
       obtain ⟨aG, rfl, cG⟩ := Kd.at_int HCgq.out (k : Int) (by omega) (by omega)
       rw [Int.toNat_natCast] at cG
       obtain ⟨gi, hgi⟩ : ∃ gi, rd gj (k : Int) = gi := ⟨_, rfl⟩
       rw [hgi] at cG
       have hgm : gi ∈ gj := by
        rw [← hgi]; unfold rd; rw [Int.toNat_natCast, List.getD_eq_getElem?_getD, List.getElem?_eq_getElem hkg]; exact List.getElem_mem hkg
       obtain ⟨gb0, gb1⟩ := HGL.out.2 gi hgm
       obtain ⟨aA, rfl, cA⟩ := Kd.at_int HCq.out.hA gi gb0 gb1
       obtain ⟨gn, rfl⟩ : ∃ gn : Nat, gi = gn := ⟨gi.toNat, by omega⟩
       rw [Int.toNat_natCast] at cA
       obtain ⟨s, hs2⟩ : ∃ s, rd around (gn : Int) = s := ⟨_, rfl⟩
       rw [hs2] at cA
       have hsb := HP.out.ha (gn : Int)
       rw [hs2] at hsb
       have hxT : x ∈ T := by
        rw [← hx]; unfold rd_T59; rw [Int.toNat_natCast, List.getD_eq_getElem?_getD, List.getElem?_eq_getElem hkT]; exact List.getElem_mem hkT
       have HXT := Aside0.mk (HP.out.hx x hxT)
       have hst := HQ.out
       have e1 : T.drop k = x :: T.drop (k + 1) := by
        rw [List.drop_eq_getElem_cons hkT, ← hx]; unfold rd_T59; rw [Int.toNat_natCast, List.getD_eq_getElem?_getD, List.getElem?_eq_getElem hkT]; rfl
       have e2 : gj.drop k = (gn : Int) :: gj.drop (k + 1) := by
        rw [List.drop_eq_getElem_cons hkg, ← hgi]; unfold rd; rw [Int.toNat_natCast, List.getD_eq_getElem?_getD, List.getElem?_eq_getElem hkg]; rfl
       rw [e1, e2, List.map_cons, seqF, hs2] at hst
       have p0 : (0 : Int) ≤ (k : Int) := by omega
       have p1 : (k : Int) < around.length := by omega
       have p2 : (k : Int) < T.length := by omega
       have p3 : (0 : Int) ≤ (gn : Int) := by omega
       clear e1 e2 hxT hgm hgi hx hs2 HQ
       by_cases hfx : fitB vs bb x s = true
       ·rw [if_pos hfx] at hst
        have HST := Aside0.mk hst
        have HFX := Aside0.mk hfx
        clear hst hfx
        go_wp2_with (first | go_step3 | fail)
        obtain ⟨wz, hwz⟩ : ∃ wz, wq.alloc (Obj.cells #[.int .u8 x.f0, .int .i64 x.f1] 59) = wz := ⟨_, rfl⟩
        have hbz : Below wq.heap.size wq wz := by rw [← hwz]; exact below_alloc (Below.refl _ _) _
        have cz0 : wz.cell? ⟨wq.heap.size, 0, none⟩ = some (.int .u8 x.f0) := by rw [← hwz]; exact blk_cell (blk_new _ _) 0
        have cz1 : wz.cell? ⟨wq.heap.size, 1, none⟩ = some (.int .i64 x.f1) := by rw [← hwz]; exact blk_cell (blk_new _ _) 1
        have HNz := Aside0.mk ((hbz.block _ (blk_lt HNq.out)).trans HNq.out)
        have HSz := Aside0.mk (HSq.out.trans (hbz.mono HSq.out.size))
        have HCz := Aside0.mk (HCq.out.below hbz)
        replace cG := pw_cell_below hbz cG
        replace cA := pw_cell_below hbz cA
        rw [hwz]
        clear hwz hbz ct0 ct1
        refine wp_region_still_tail 8 (by kernel_rfl) (by kernel_rfl) ?_
        simp only [List.take_succ_cons, List.take_zero, List.drop_succ_cons, List.drop_zero]
        repeat still_step
        refine wpStill_nil ?_
        change wpList _ _ _ _ _ wz.drew
        go_wp2_with (first | go_step3 | (go_at_call 46; go_must (have hcall := tfits_calls wo.heap.size gt (.pointer (some p)) bb vs AV cV x s wz.drew HNz.out HCz.out.ht HCz.out.hV HP.out.h64 HXT.out hsb.1 hsb.2; rw [HFX.out] at hcall; refine hcall.mono ?_; rintro e w5 ⟨rfl, hh5, hb5⟩; have HN5 := Aside0.mk hh5; have HS5 := Aside0.mk ((below_drew1 HSz.out).trans hb5); clear hh5 hb5 cG cA cz0 cz1)))
        go_round
        case rel => exact ⟨k + 1, _, by omega, by go_num, HST, HN5, HS5⟩
        case measure => simp [intOf]; omega
       ·have hfx : fitB vs bb x s = false := by simpa using hfx
        rw [if_neg (by rw [hfx]; decide)] at hst
        have hrj := HRJ.out
        rw [← hst] at hrj
        simp only at hrj
        have HRK := Aside0.mk hrj
        clear hrj
        have HFX := Aside0.mk hfx
        clear hst hfx HRJ
        go_wp2_with (first | go_step3 | fail)
        obtain ⟨wz, hwz⟩ : ∃ wz, wq.alloc (Obj.cells #[.int .u8 x.f0, .int .i64 x.f1] 59) = wz := ⟨_, rfl⟩
        have hbz : Below wq.heap.size wq wz := by rw [← hwz]; exact below_alloc (Below.refl _ _) _
        have cz0 : wz.cell? ⟨wq.heap.size, 0, none⟩ = some (.int .u8 x.f0) := by rw [← hwz]; exact blk_cell (blk_new _ _) 0
        have cz1 : wz.cell? ⟨wq.heap.size, 1, none⟩ = some (.int .i64 x.f1) := by rw [← hwz]; exact blk_cell (blk_new _ _) 1
        have HNz := Aside0.mk ((hbz.block _ (blk_lt HNq.out)).trans HNq.out)
        have HSz := Aside0.mk (HSq.out.trans (hbz.mono HSq.out.size))
        have HCz := Aside0.mk (HCq.out.below hbz)
        replace cG := pw_cell_below hbz cG
        replace cA := pw_cell_below hbz cA
        rw [hwz]
        clear hwz hbz ct0 ct1
        refine wp_region_still_tail 8 (by kernel_rfl) (by kernel_rfl) ?_
        simp only [List.take_succ_cons, List.take_zero, List.drop_succ_cons, List.drop_zero]
        repeat still_step
        refine wpStill_nil ?_
        change wpList _ _ _ _ _ wz.drew
        go_wp2_with (first | go_step3 | (go_at_call 46; go_must (have hcall := tfits_calls wo.heap.size gt (.pointer (some p)) bb vs AV cV x s wz.drew HNz.out HCz.out.ht HCz.out.hV HP.out.h64 HXT.out hsb.1 hsb.2; rw [HFX.out] at hcall; refine hcall.mono ?_; rintro e w5 ⟨rfl, hh5, hb5⟩; have HN5 := Aside0.mk hh5; have HS5 := Aside0.mk ((below_drew1 HSz.out).trans hb5); clear hh5 hb5 cG cA cz0 cz1)))
        have HF5 := Aside0.mk ((HS5.out.block _ (blk_lt HFw.out)).trans HFw.out)
        have HB5 := Aside0.mk (below_step HBw.out HS5.out)
        go_round
        case rel => exact ⟨j + 1, by omega, by go_num, HRK, HF5, HB5⟩
        case measure => simp [intOf]; omega
      ·have hkn : T.length ≤ k := by rw [HP.out.hl]; omega
       have hst := HQ.out
       rw [List.drop_eq_nil_of_le hkn, show ∀ l, seqF vs bb [] l = some bb from fun l => by cases l <;> rfl] at hst
       have hrj := HRJ.out
       rw [← hst] at hrj
       simp only at hrj
       subst hrj
       have HCq := Aside0.mk (HCw.out.below HSq.out)
       have HOV : Aside0 (o.f1 < 64) := ⟨by have := HP.out.h64; have := HP.out.ho; omega⟩
       clear hst HQ HRJ q2
       go_wp2_with (first | go_step3 | (go_at_call 48; go_must (refine (tsays_calls _ _ _ _ o _ HNq.out HCq.out.h3 HCq.out.h4 HOV.out).mono ?_; rintro e w6 ⟨rfl, hd6⟩; have HD6 := Aside0.mk hd6; clear hd6)))
       try rw [Exit.noGoto_ret]
       go_ret2
       exact ⟨rfl, below_step HBw.out (HSq.out.trans (HD6.out.below.mono HSq.out.size))⟩
    ·have hjn : j = gs.length := by omega
     subst hjn
     have hr := HR.out
     rw [List.drop_length, ordF] at hr
     subst hr
     go_wp2_with (first | go_step3 | fail)
     try rw [Exit.noGoto_ret]
     go_ret2
     exact ⟨rfl, HBw.out⟩
 ·have hf : fitB vs bd0 ce centre = false := by simpa using hf
  rw [if_neg (by rw [hf]; decide)] at hR
  subst hR
  have HF := Aside0.mk hf
  clear hf
  go_enter Try.func32, Try.ntmps32
  go_wp2_with (first | go_step3 | ((with_reducible refine gate_ (Op.build 88 #[(0, .tmp 18), (1, .tmp 19)]) rfl ?_); go_must (refine wpList_buildTo rfl 88 _ rfl (some 20) rfl (fitC (.pointer (some ⟨gt, 0, none⟩)) (.pointer (some p)) bd0) (by simp only [List.map_toArray, List.map_cons, List.map_nil]; exact built_fit gt p) ?_); simp only [Act.put, List.setIfInBounds_toArray, List.set_cons_succ, List.set_cons_zero]) | ((with_reducible refine gate_ (Op.store 88 (.tmp 12) (.tmp 20)) rfl ?_); go_must (refine wpList_store_rowTo rfl 88 (.tmp 12) (.tmp 20) rfl rfl w.heap.size (fitC (.pointer (some ⟨gt, 0, none⟩)) (.pointer (some p)) bd0) (by kernel_rfl) (by kernel_rfl) 88 _ (blk_new w _) (fitC_info _ _ _) (by rw [fitC_size]; kernel_rfl) (fitC_one _ _ _) ?_); have HNw1 := Aside0.mk (row_new' w Try.zeroCells88 (fitC (.pointer (some ⟨gt, 0, none⟩)) (.pointer (some p)) bd0) 88); have HSw1 := Aside0.mk (below_setRow (below_alloc (Below.refl w.heap.size w) (Obj.cells Try.zeroCells88 88)) (Nat.le_refl _) (fitC (.pointer (some ⟨gt, 0, none⟩)) (.pointer (some p)) bd0)); generalize hww1 : (w.alloc (Obj.cells Try.zeroCells88 88)).setRow w.heap.size (fitC (.pointer (some ⟨gt, 0, none⟩)) (.pointer (some p)) bd0) = w1 at HNw1 HSw1 ⊢; clear hww1; have HC1 := Aside0.mk (HC.out.below HSw1.out); replace h0 := pw_cell_below HSw1.out h0; replace h1 := pw_cell_below HSw1.out h1; replace hs := pw_cell_below HSw1.out hs) | (go_at_call 46; go_must (have hcall := tfits_calls w.heap.size gt (.pointer (some p)) bd0 vs AV cV ce centre w1 HNw1.out HC1.out.ht HC1.out.hV HP.out.h64 HCE.out hc0 hc1; rw [HF.out] at hcall; refine hcall.mono ?_; rintro e w2 ⟨rfl, hh2, hb2⟩; have HF2 := Aside0.mk hh2; have HB2 := Aside0.mk (HSw1.out.trans hb2); have HC2 := Aside0.mk (HC.out.below HB2.out); clear hh2 h0 h1 hs; have hs := pw_cell_below HB2.out HS0.out; clear hb2)))
  try rw [Exit.noGoto_ret]
  go_ret2
  exact ⟨rfl, HB2.out⟩
end Go.Proofs.Ytajhfkcmfmhnaaa.L
end
section
namespace Go.Proofs.Ytajhfkcmfmhnaaa.L
open Go.RowKit Go.Proofs.YtajhfkcmfmhnaaaW.PrintWords
theorem cut_room {P : Program} (t e : TypeId) (kh : IntKind) {i : TypeInfo} (ht : P.underlying t = some (.slice e)) (hi : P.info? e = some i) (A : Option Addr) (n c : Nat) (j : Int) (h0 : 0 ≤ j) (hm : j ≤ c) :
  ∀ W : World, (Instr.slice t (.slice A n c) none (some (.int kh j)) none).run P W = .ok (.slice A j.toNat c) W := by
 intro W
 have hel : P.elem t = e := by simp [Program.elem, ht]
 have hu : P.underlying t = some (.slice (P.elem t)) := by rw [hel]; exact ht
 have ha : (A.map fun x => x.add 0) = A := by cases A <;> simp [Addr.add]
 rw [run_slice_h W t A n c hu kh j h0 (by omega), hel]
 simp [sizeOf, typeInfo, hi, sliced, Result.andThen, ha]
end Go.Proofs.Ytajhfkcmfmhnaaa.L
end
section
namespace Go.Proofs.Ytajhfkcmfmhnaaa.P
open Go.RowKit Go.Proofs.YtajhfkcmfmhnaaaW.PrintWords Go.Proofs.YtajhfkcmfmhnaaaW.PrintLast Go.Proofs.YtajhfkcmfmhnaaaW.PrintMore
attribute [local go_sem] max2_int min2_int max_two min_two max_three min_three max_four min_four   -- for this text's walks alone
set_option linter.unusedVariables false
set_option linter.unusedSimpArgs false
open Go.Proofs.Ytajhfkcmfmhnaaa.L
/-- What the walks of a row ask. -/
theorem tone_ok {w : World} {gt : Nat} {vs : List S65} {AV : Option Addr} {cV : Nat} {ad : Addr} {i : Nat} {x : S62} {AT : Option Addr} {cT : Nat} {A2 : Option Addr} {centre : Int} {around : List Int}
  (hs : okSay vs x.f0.f1 x.f1 x.f2.f1 centre around = true) (ht : w.cell? ⟨gt, 3, none⟩ = some (.slice AV vs.length cV)) (hV : Kd.C k65 w AV vs.length vs)
  (u2 : w.cell? ⟨(ad.add (i * 5)).block, (ad.add (i * 5)).off + 2, none⟩ = some (.slice AT x.f1.length cT)) (u3 : w.cell? ⟨(ad.add (i * 5)).block, (ad.add (i * 5)).off + 3, none⟩ = some (.int .u8 x.f2.f0)) (u4 : w.cell? ⟨(ad.add (i * 5)).block, (ad.add (i * 5)).off + 4, none⟩ = some (.int .i64 x.f2.f1)) (hT : Kd.C k59 w AT x.f1.length x.f1) (hA : (Kd.int .u8).C w A2 around.length around) :
  TCtx w gt (ad.add (i * 5)) vs AV cV x.f1 AT cT x.f2 around A2 ∧ TPure vs x.f1 x.f2 around ∧ x.f0.f1 < vs.length ∧ 0 ≤ centre ∧ centre ≤ 255 := by
 obtain ⟨hP, hce, h0, h1⟩ := okSay_pure (o0 := x.f2.f0) hs
 exact ⟨⟨ht, hV, u2, u3, u4, hT, hA⟩, hP, hce, h0, h1⟩
def table_Fits.f (k : Nat) (a0_0 a0_1 a0_2 : Int) (l0_3 : List S65) (l0_4 : List S62) (a1 a2 : Int) (l3 : List Int) : Option (Int × Bool × Int) :=
 (table_asked.f k a0_0 a0_1 a0_2 l0_3 l0_4 (decide (0 ≤ a1 ∧ a1 < (l0_4.length : Int))) a2 l3).bind fun e => if e = 0 then (if 0 ≤ a1 ∧ a1 < (l0_4.length : Int) then (table_orders.f k a0_0 a0_1 a0_2 l0_3 l0_4).bind fun gs => (if okSay l0_3 (rd_T62 l0_4 a1).f0.f1 (rd_T62 l0_4 a1).f1 (rd_T62 l0_4 a1).f2.f1 a2 l3 = true then (if okG gs l3.length = true then some ((resP (oneF l0_3 a0_2 (rd_T62 l0_4 a1).f0 (rd_T62 l0_4 a1).f1 (rd_T62 l0_4 a1).f2 gs a2 l3)).1, (resP (oneF l0_3 a0_2 (rd_T62 l0_4 a1).f0 (rd_T62 l0_4 a1).f1 (rd_T62 l0_4 a1).f2 gs a2 l3)).2, 0) else none) else none) else none) else some (0, false, e)
set_option maxHeartbeats 4000000 in
set_option maxRecDepth 100000 in
theorem table_Fits.calls (k : Nat) (a0_0 a0_1 a0_2 : Int) (A0_3 : Option Addr) (c0_3 : Nat) (l0_3 : List S65) (A0_4 : Option Addr) (c0_4 : Nat) (l0_4 : List S62) (a1 a2 : Int) (A3 : Option Addr) (c3 : Nat) (l3 : List Int) (r1 : Int) (r2 : Bool) (r3 : Int) (w : World)
  (hr0_3 : Kd.C k65 w A0_3 l0_3.length l0_3) (hc0_3 : l0_3.length ≤ c0_3) (hr0_4 : Kd.C k62 w A0_4 l0_4.length l0_4) (hc0_4 : l0_4.length ≤ c0_4) (hr3 : Kd.C (Kd.int .u8) w A3 l3.length l3) (hc3 : l3.length ≤ c3)
  (h : table_Fits.f k a0_0 a0_1 a0_2 l0_3 l0_4 a1 a2 l3 = some (r1, r2, r3)) :
  Calls Try.prog 13 #[.agg #[.int .i64 a0_0, .int .u8 a0_1, .int .u8 a0_2, .slice A0_3 l0_3.length c0_3, .slice A0_4 l0_4.length c0_4], .int .i64 a1, .int .u8 a2, .slice A3 l3.length c3] w fun e w' => e = .returned (.tuple #[.int .u8 r1, .bool r2, .int .i64 r3]) ∧ Below w.heap.size w w' := by
 have HV := Aside0.mk hr0_3
 have HVc := Aside0.mk hc0_3
 have HR := Aside0.mk hr0_4
 have HRc := Aside0.mk hc0_4
 have HA := Aside0.mk hr3
 have HAc := Aside0.mk hc3
 clear hr0_3 hc0_3 hr0_4 hc0_4 hr3 hc3
 unfold table_Fits.f at h
 replace h := Option.bind_eq_some_iff.1 h
 obtain ⟨e, he, h⟩ := h
 have h255 : ∀ e : Int, e ≠ 0 → (e == 0) = false ∧ (e != 0) = true := fun e h0 => ⟨by rw [beq_eq_false_iff_ne]; exact h0, bne_iff_ne.mpr h0⟩
 by_cases hin : 0 ≤ a1 ∧ a1 < (l0_4.length : Int)
 ·rw [decide_eq_true hin] at he
  have HE := Aside0.mk he
  clear he
  obtain ⟨b0, b1⟩ := hin
  by_cases h2 : e = 0
  ·subst h2
   rw [if_pos rfl, if_pos ⟨b0, b1⟩] at h
   replace h := Option.bind_eq_some_iff.1 h
   obtain ⟨gs, hgs, h⟩ := h
   obtain ⟨x, hx⟩ : ∃ x, rd_T62 l0_4 a1 = x := ⟨_, rfl⟩
   rw [hx] at h
   by_cases hs : okSay l0_3 x.f0.f1 x.f1 x.f2.f1 a2 l3 = true
   ·rw [if_pos hs] at h
    by_cases hG : okG gs l3.length = true
    ·rw [if_pos hG] at h
     obtain ⟨R, hR⟩ : ∃ R, oneF l0_3 a0_2 x.f0 x.f1 x.f2 gs a2 l3 = R := ⟨_, rfl⟩
     rw [hR] at h
     simp only [Option.some.injEq, Prod.mk.injEq] at h
     obtain ⟨rfl, rfl, rfl⟩ := h
     obtain ⟨ad, AT, cT, rfl, u0, u1, u2, u3, u4, hcT, hCT⟩ := at_T62 HR.out a1 b0 b1
     rw [hx] at u0 u1 u2 u3 u4 hcT hCT
     have HU0 := Aside0.mk u0
     have HU1 := Aside0.mk u1
     have HU2 := Aside0.mk u2
     have HU3 := Aside0.mk u3
     have HU4 := Aside0.mk u4
     have HCT := Aside0.mk hCT
     have HcT := Aside0.mk hcT
     have HS := Aside0.mk hs
     have HG := Aside0.mk hG
     have HGS := Aside0.mk hgs
     have HRR := Aside0.mk hR
     clear hgs hs hG hR hx u0 u1 u2 u3 u4 hCT hcT h255
     go_enter Try.func13, Try.ntmps13
     go_wp2_with (go_at_call 31; go_must ((with_reducible refine (table_asked.calls k a0_0 a0_1 a0_2 A0_3 c0_3 l0_3 (some ad) c0_4 l0_4 true a2 A3 c3 l3 0 _ (Kd.C_alloc HV.out _) HVc.out (Kd.C_alloc HR.out _) HRc.out (Kd.C_alloc HA.out _) HAc.out HE.out).mono ?_); rintro e' w1 ⟨rfl, hb1⟩; have ht1 := blk_below (blk_new w _) hb1; have HB1 := Aside0.mk (below_step (below_alloc (Below.refl w.heap.size w) (Obj.cells #[.int .i64 a0_0, .int .u8 a0_1, .int .u8 a0_2, .slice A0_3 l0_3.length c0_3, .slice (some ad) l0_4.length c0_4] 33)) hb1); have t0a : w1.cell? ⟨w.heap.size, 0, none⟩ = some (.int .i64 a0_0) := blk_cell ht1 0; have t1a : w1.cell? ⟨w.heap.size, 1, none⟩ = some (.int .u8 a0_1) := blk_cell ht1 1; have t2a : w1.cell? ⟨w.heap.size, 2, none⟩ = some (.int .u8 a0_2) := blk_cell ht1 2; have t3a : w1.cell? ⟨w.heap.size, 3, none⟩ = some (.slice A0_3 l0_3.length c0_3) := blk_cell ht1 3; have t4a : w1.cell? ⟨w.heap.size, 4, none⟩ = some (.slice (some ad) l0_4.length c0_4) := blk_cell ht1 4; have HT1 := Aside0.mk ht1; clear ht1 hb1))
     have HCALL := Aside0.mk (table_orders.calls k a0_0 a0_1 a0_2 A0_3 c0_3 l0_3 (some ad) c0_4 l0_4 gs w1.drew (Kd.C_drew (Kd.C_below HV.out HB1.out)) HVc.out (Kd.C_drew (Kd.C_below HR.out HB1.out)) HRc.out HGS.out)
     refine start_ (n := 14) (S := fun w' => w'.cell? ⟨w.heap.size, 0, none⟩ = some (.int .i64 a0_0) ∧ w'.cell? ⟨w.heap.size, 1, none⟩ = some (.int .u8 a0_1) ∧ w'.cell? ⟨w.heap.size, 2, none⟩ = some (.int .u8 a0_2) ∧ w'.cell? ⟨w.heap.size, 3, none⟩ = some (.slice A0_3 l0_3.length c0_3) ∧ w'.cell? ⟨w.heap.size, 4, none⟩ = some (.slice (some ad) l0_4.length c0_4)) (ds := [8]) #[false, false, false, false, false, false, false, false, false, false, false, false, false, false] (by kernel_rfl) rfl rfl ⟨t0a, t1a, t2a, t3a, t4a⟩ (fun hHeld => ?_)
     refine pure_ (i := 0) (N := some 31) (v := ?_) (a' := ?_) #[true, false, false, false, false, false, false, false, false, false, false, false, false, false] rfl rfl (by kernel_rfl) (fun _ _ _ h => h) (Or.inl ⟨by rfl, ?_⟩) ?_ ?_
     rotate_left
     ·intro w'
      go_simp
      with_reducible rfl
     rotate_left
     ·simp only [Act.put, List.setIfInBounds_toArray, List.set_cons_zero, List.set_cons_succ, i64_w, i32_w]
      rfl
     refine pure_ (i := 2) (N := some 33) (v := ?_) (a' := ?_) #[true, false, true, false, false, false, false, false, false, false, false, false, false, false] rfl rfl (by kernel_rfl) (fun _ _ _ h => h) (Or.inl ⟨by rfl, ?_⟩) ?_ ?_
     rotate_left
     ·intro w'
      go_simp
      with_reducible rfl
     rotate_left
     ·simp only [Act.put, List.setIfInBounds_toArray, List.set_cons_zero, List.set_cons_succ, i64_w, i32_w]
      rfl
     refine pure_ (i := 6) (N := some 37) (v := ?_) (a' := ?_) #[true, false, true, false, false, false, true, false, false, false, false, false, false, false] rfl rfl (by kernel_rfl) (fun _ _ _ h => h) (Or.inl ⟨by rfl, ?_⟩) ?_ ?_
     rotate_left
     ·intro w'
      go_simp
      with_reducible rfl
     rotate_left
     ·simp only [Act.put, List.setIfInBounds_toArray, List.set_cons_zero, List.set_cons_succ, i64_w, i32_w]
      rfl
     refine pure_ (i := 7) (N := some 38) (v := ?_) (a' := ?_) #[true, false, true, false, false, false, true, true, false, false, false, false, false, false] rfl rfl (by kernel_rfl) (fun _ _ _ h => h) (Or.inl ⟨by rfl, ?_⟩) ?_ ?_
     rotate_left
     ·intro w'
      go_simp
      with_reducible rfl
     rotate_left
     ·simp only [Act.put, List.setIfInBounds_toArray, List.set_cons_zero, List.set_cons_succ, i64_w, i32_w]
      rfl
     refine take_ (i := 1) (N := some 32) (v := ?_) (a' := ?_) #[true, true, true, false, false, false, true, true, false, false, false, false, false, false] rfl rfl (by kernel_rfl) (fun _ _ _ h => h) (Or.inl ⟨by rfl, ?_⟩) hHeld ?_ ?_
     rotate_left
     ·rintro w' ⟨s0, s1, s2, s3, s4⟩
      go_simp
      with_reducible rfl
     rotate_left
     ·simp only [Act.put, List.setIfInBounds_toArray, List.set_cons_zero, List.set_cons_succ, i64_w, i32_w]
      rfl
     refine pure_ (i := 3) (N := some 34) (v := ?_) (a' := ?_) #[true, true, true, true, false, false, true, true, false, false, false, false, false, false] rfl rfl (by kernel_rfl) (fun _ _ _ h => h) (Or.inl ⟨by rfl, ?_⟩) ?_ ?_
     rotate_left
     ·intro w'
      go_simp
      with_reducible rfl
     rotate_left
     ·simp only [Act.put, List.setIfInBounds_toArray, List.set_cons_zero, List.set_cons_succ, i64_w, i32_w]
      rfl
     refine take_ (i := 4) (N := some 35) (v := ?_) (a' := ?_) #[true, true, true, true, true, false, true, true, false, false, false, false, false, false] rfl rfl (by kernel_rfl) (fun _ _ _ h => h) (Or.inl ⟨by rfl, ?_⟩) hHeld ?_ ?_
     rotate_left
     ·rintro w' ⟨s0, s1, s2, s3, s4⟩
      go_simp
      with_reducible rfl
     rotate_left
     ·simp only [Act.put, List.setIfInBounds_toArray, List.set_cons_zero, List.set_cons_succ, i64_w, i32_w]
      rfl
     refine one_ (i := 5) (N := some 36) #[true, true, true, true, true, true, true, true, false, false, false, false, false, false] rfl rfl (by kernel_rfl) (by decide) (fun K hK => ?_)
     refine goes_ Try.func33 (by kernel_rfl) rfl #[.agg #[.int .i64 a0_0, .int .u8 a0_1, .int .u8 a0_2, .slice A0_3 l0_3.length c0_3, .slice (some ad) l0_4.length c0_4]] (by rfl) rfl rfl (by simp only [List.map_toArray, List.map_cons, List.map_nil]; rfl) ?_
     with_reducible refine HCALL.out.mono ?_
     rintro e2 w2 ⟨v2, rfl, hn2, hb2⟩
     obtain ⟨AO, cO, rfl, hcO, hO2⟩ := Kd.N_reads hn2
     have HO2 := Aside0.mk hO2
     have HT2 := Aside0.mk (blk_below (blk_below HT1.out (below_drew1 (Below.refl _ _))) hb2)
     have HB2 := Aside0.mk (below_step (below_drew1 HB1.out) hb2)
     have u0 := pw_cell_below HB2.out HU0.out
     have u1 := pw_cell_below HB2.out HU1.out
     have u2 := pw_cell_below HB2.out HU2.out
     have u3 := pw_cell_below HB2.out HU3.out
     have u4 := pw_cell_below HB2.out HU4.out
     have t2b : w2.cell? ⟨w.heap.size, 2, none⟩ = some (.int .u8 a0_2) := blk_cell HT2.out 2
     have t3b : w2.cell? ⟨w.heap.size, 3, none⟩ = some (.slice A0_3 l0_3.length c0_3) := blk_cell HT2.out 3
     obtain ⟨hC2, hP2, hce2, h02, h12⟩ := tone_ok HS.out t3b (Kd.C_below HV.out HB2.out) u2 u3 u4 (Kd.C_below HCT.out HB2.out) (Kd.C_below HA.out HB2.out)
     have hONE := tone_calls w.heap.size (ad.add (a1.toNat * 5)) l0_3 A0_3 c0_3 x.f1 AT cT x.f2 x.f0 a0_2 a2 l3 A3 c3 gs AO cO w2 hP2 hC2 u0 u1 t2b hce2 h02 h12 HO2.out (okG_all HG.out)
     rw [HRR.out, resT_P] at hONE
     have HONE := Aside0.mk hONE
     clear hn2 hb2 hcO hO2 u0 u1 u2 u3 u4 t2b t3b hC2 hP2 hce2 h02 h12 hONE
     refine ⟨_, rfl, ?_⟩
     refine hK.out _ _ ⟨blk_cell HT2.out 0, blk_cell HT2.out 1, blk_cell HT2.out 2, blk_cell HT2.out 3, blk_cell HT2.out 4⟩ (fun hHeld => ?_)
     clear hK K
     refine norm_ (a' := ?_) ?_ ?_
     rotate_left
     ·show Act.put _ (some 36) _ = _
      simp only [Act.put, List.setIfInBounds_toArray, List.set_cons_zero, List.set_cons_succ, i64_w, i32_w]
      rfl
     refine last_ (i := 8) (N := some 39) #[true, true, true, true, true, true, true, true, true, false, false, false, false, false] rfl rfl (by kernel_rfl) (by decide) (fun K hK => ?_)
     refine goes_ Try.func32 (by kernel_rfl) rfl #[.pointer (some ⟨w.heap.size, 0, none⟩), .pointer (some (ad.add (a1.toNat * 5))), .slice AO gs.length cO, .int .u8 a2, .slice A3 l3.length c3] (by rfl) rfl rfl (by simp only [List.map_toArray, List.map_cons, List.map_nil]; rfl) ?_
     with_reducible refine HONE.out.mono ?_
     rintro e3 w3 ⟨rfl, hb3⟩
     have HB3 := Aside0.mk (below_step HB2.out hb3)
     clear hb3
     refine ⟨_, rfl, ?_⟩
     refine hK.out _ _ ?_
     clear hK K
     refine norm_ (a' := ?_) ?_ ?_
     rotate_left
     ·show Act.put _ (some 39) _ = _
      simp only [Act.put, List.setIfInBounds_toArray, List.set_cons_zero, List.set_cons_succ, i64_w, i32_w]
      rfl
     refine pure_ (i := 9) (N := some 30) (v := ?_) (a' := ?_) #[true, true, true, true, true, true, true, true, true, true, false, false, false, false] rfl rfl (by kernel_rfl) (fun _ _ _ h => h) (Or.inl ⟨by rfl, ?_⟩) ?_ ?_
     rotate_left
     ·intro w'
      go_simp
      with_reducible rfl
     rotate_left
     ·simp only [Act.put, List.setIfInBounds_toArray, List.set_cons_zero, List.set_cons_succ, i64_w, i32_w]
      rfl
     refine pure_ (i := 10) (N := some 40) (v := ?_) (a' := ?_) #[true, true, true, true, true, true, true, true, true, true, true, false, false, false] rfl rfl (by kernel_rfl) (fun _ _ _ h => h) (Or.inl ⟨by rfl, ?_⟩) ?_ ?_
     rotate_left
     ·intro w'
      go_simp
      with_reducible rfl
     rotate_left
     ·simp only [Act.put, List.setIfInBounds_toArray, List.set_cons_zero, List.set_cons_succ, i64_w, i32_w]
      rfl
     refine pure_ (i := 11) (N := some 41) (v := ?_) (a' := ?_) #[true, true, true, true, true, true, true, true, true, true, true, true, false, false] rfl rfl (by kernel_rfl) (fun _ _ _ h => h) (Or.inl ⟨by rfl, ?_⟩) ?_ ?_
     rotate_left
     ·intro w'
      go_simp
      with_reducible rfl
     rotate_left
     ·simp only [Act.put, List.setIfInBounds_toArray, List.set_cons_zero, List.set_cons_succ, i64_w, i32_w]
      rfl
     refine pure_ (i := 12) (N := some 12) (v := ?_) (a' := ?_) #[true, true, true, true, true, true, true, true, true, true, true, true, true, false] rfl rfl (by kernel_rfl) (fun _ _ _ h => h) (Or.inl ⟨by rfl, ?_⟩) ?_ ?_
     rotate_left
     ·intro w'
      go_simp
      with_reducible rfl
     rotate_left
     ·simp only [Act.put, List.setIfInBounds_toArray, List.set_cons_zero, List.set_cons_succ, i64_w, i32_w]
      rfl
     refine pure_ (i := 13) (N := some 13) (v := ?_) (a' := ?_) #[true, true, true, true, true, true, true, true, true, true, true, true, true, true] rfl rfl (by kernel_rfl) (fun _ _ _ h => h) (Or.inl ⟨by rfl, ?_⟩) ?_ ?_
     rotate_left
     ·intro w'
      go_simp
      with_reducible rfl
     rotate_left
     ·simp only [Act.put, List.setIfInBounds_toArray, List.set_cons_zero, List.set_cons_succ, i64_w, i32_w]
      rfl
     refine done_ (by kernel_rfl) ?_
     go_wp2
     go_ret3
     exact ⟨rfl, HB3.out⟩
    ·rw [if_neg hG] at h; cases h
   ·rw [if_neg hs] at h; cases h
  ·rw [if_neg h2] at h
   simp only [Option.some.injEq, Prod.mk.injEq] at h
   obtain ⟨rfl, rfl, rfl⟩ := h
   obtain ⟨h2b, h2c⟩ := h255 e h2
   clear h2 h255
   go_enter Try.func13, Try.ntmps13
   go_wp2_with (go_at_call 31; go_must ((with_reducible refine (table_asked.calls k a0_0 a0_1 a0_2 A0_3 c0_3 l0_3 A0_4 c0_4 l0_4 true a2 A3 c3 l3 e _ (Kd.C_alloc HV.out _) HVc.out (Kd.C_alloc HR.out _) HRc.out (Kd.C_alloc HA.out _) HAc.out HE.out).mono ?_); rintro e' w1 ⟨rfl, hb1⟩; have ht1 := blk_below (blk_new w _) hb1; have HB1 := Aside0.mk (below_step (below_alloc (Below.refl w.heap.size w) (Obj.cells #[.int .i64 a0_0, .int .u8 a0_1, .int .u8 a0_2, .slice A0_3 l0_3.length c0_3, .slice A0_4 l0_4.length c0_4] 33)) hb1); have t0a : w1.cell? ⟨w.heap.size, 0, none⟩ = some (.int .i64 a0_0) := blk_cell ht1 0; have t1a : w1.cell? ⟨w.heap.size, 1, none⟩ = some (.int .u8 a0_1) := blk_cell ht1 1; have t2a : w1.cell? ⟨w.heap.size, 2, none⟩ = some (.int .u8 a0_2) := blk_cell ht1 2; have t3a : w1.cell? ⟨w.heap.size, 3, none⟩ = some (.slice A0_3 l0_3.length c0_3) := blk_cell ht1 3; have t4a : w1.cell? ⟨w.heap.size, 4, none⟩ = some (.slice A0_4 l0_4.length c0_4) := blk_cell ht1 4; have HT1 := Aside0.mk ht1; clear ht1 hb1))
   go_ret3
   exact ⟨rfl, HB1.out⟩
 ·rw [decide_eq_false hin] at he
  have HE := Aside0.mk he
  clear he
  by_cases h2 : e = 0
  ·rw [if_pos h2, if_neg hin] at h; cases h
  ·rw [if_neg h2] at h
   simp only [Option.some.injEq, Prod.mk.injEq] at h
   obtain ⟨rfl, rfl, rfl⟩ := h
   obtain ⟨h2b, h2c⟩ := h255 e h2
   clear h2 h255
   by_cases b0 : 0 ≤ a1
   ·have b1 : ¬ a1 < (l0_4.length : Int) := fun h => hin ⟨b0, h⟩
    have b2 : decide (a1 < (l0_4.length : Int)) = false := decide_eq_false b1
    clear hin
    go_enter Try.func13, Try.ntmps13
    go_wp2_with (go_at_call 31; go_must ((with_reducible refine (table_asked.calls k a0_0 a0_1 a0_2 A0_3 c0_3 l0_3 A0_4 c0_4 l0_4 false a2 A3 c3 l3 e _ (Kd.C_alloc HV.out _) HVc.out (Kd.C_alloc HR.out _) HRc.out (Kd.C_alloc HA.out _) HAc.out HE.out).mono ?_); rintro e' w1 ⟨rfl, hb1⟩; have ht1 := blk_below (blk_new w _) hb1; have HB1 := Aside0.mk (below_step (below_alloc (Below.refl w.heap.size w) (Obj.cells #[.int .i64 a0_0, .int .u8 a0_1, .int .u8 a0_2, .slice A0_3 l0_3.length c0_3, .slice A0_4 l0_4.length c0_4] 33)) hb1); have t0a : w1.cell? ⟨w.heap.size, 0, none⟩ = some (.int .i64 a0_0) := blk_cell ht1 0; have t1a : w1.cell? ⟨w.heap.size, 1, none⟩ = some (.int .u8 a0_1) := blk_cell ht1 1; have t2a : w1.cell? ⟨w.heap.size, 2, none⟩ = some (.int .u8 a0_2) := blk_cell ht1 2; have t3a : w1.cell? ⟨w.heap.size, 3, none⟩ = some (.slice A0_3 l0_3.length c0_3) := blk_cell ht1 3; have t4a : w1.cell? ⟨w.heap.size, 4, none⟩ = some (.slice A0_4 l0_4.length c0_4) := blk_cell ht1 4; have HT1 := Aside0.mk ht1; clear ht1 hb1))
    go_ret3
    exact ⟨rfl, HB1.out⟩
   ·have b2 : decide (0 ≤ a1) = false := decide_eq_false b0
    have b3 : a1 < 0 := by omega
    clear hin
    go_enter Try.func13, Try.ntmps13
    go_wp2_with (go_at_call 31; go_must ((with_reducible refine (table_asked.calls k a0_0 a0_1 a0_2 A0_3 c0_3 l0_3 A0_4 c0_4 l0_4 false a2 A3 c3 l3 e _ (Kd.C_alloc HV.out _) HVc.out (Kd.C_alloc HR.out _) HRc.out (Kd.C_alloc HA.out _) HAc.out HE.out).mono ?_); rintro e' w1 ⟨rfl, hb1⟩; have ht1 := blk_below (blk_new w _) hb1; have HB1 := Aside0.mk (below_step (below_alloc (Below.refl w.heap.size w) (Obj.cells #[.int .i64 a0_0, .int .u8 a0_1, .int .u8 a0_2, .slice A0_3 l0_3.length c0_3, .slice A0_4 l0_4.length c0_4] 33)) hb1); have t0a : w1.cell? ⟨w.heap.size, 0, none⟩ = some (.int .i64 a0_0) := blk_cell ht1 0; have t1a : w1.cell? ⟨w.heap.size, 1, none⟩ = some (.int .u8 a0_1) := blk_cell ht1 1; have t2a : w1.cell? ⟨w.heap.size, 2, none⟩ = some (.int .u8 a0_2) := blk_cell ht1 2; have t3a : w1.cell? ⟨w.heap.size, 3, none⟩ = some (.slice A0_3 l0_3.length c0_3) := blk_cell ht1 3; have t4a : w1.cell? ⟨w.heap.size, 4, none⟩ = some (.slice A0_4 l0_4.length c0_4) := blk_cell ht1 4; have HT1 := Aside0.mk ht1; clear ht1 hb1))
    go_ret3
    exact ⟨rfl, HB1.out⟩
end Go.Proofs.Ytajhfkcmfmhnaaa.P
namespace Go.Proofs.Ytajhfkcmfmhnaaa.P
open Go.RowKit Go.Proofs.YtajhfkcmfmhnaaaW.PrintWords Go.Proofs.YtajhfkcmfmhnaaaW.PrintLast Go.Proofs.YtajhfkcmfmhnaaaW.PrintMore
attribute [local go_sem] max2_int min2_int max_two min_two max_three min_three max_four min_four   -- for this text's walks alone
set_option linter.unusedVariables false
set_option linter.unusedSimpArgs false
open Go.Proofs.Ytajhfkcmfmhnaaa.L
def table_Next.g (a0_2 : Int) (l0_3 : List S65) (gs : List (List Int)) (a1 : Int) (l2 : List Int) : List S62 → Option Int
 | [] => some a1
 | r :: rs => if okSay l0_3 r.f0.f1 r.f1 r.f2.f1 a1 l2 = true then (match oneF l0_3 a0_2 r.f0 r.f1 r.f2 gs a1 l2 with | some v => some v | none => table_Next.g a0_2 l0_3 gs a1 l2 rs) else none
def table_Next.f (k : Nat) (a0_0 a0_1 a0_2 : Int) (l0_3 : List S65) (l0_4 : List S62) (a1 : Int) (l2 : List Int) : Option (Int × Int) :=
 (table_asked.f k a0_0 a0_1 a0_2 l0_3 l0_4 true a1 l2).bind fun e => if e = 0 then ((table_orders.f k a0_0 a0_1 a0_2 l0_3 l0_4).bind fun gs => (if okG gs l2.length = true then ((table_Next.g a0_2 l0_3 gs a1 l2 l0_4).bind fun s => some (s, 0)) else none)) else some (0, e)
set_option maxHeartbeats 4000000 in
set_option maxRecDepth 100000 in
theorem table_Next.calls (k : Nat) (a0_0 a0_1 a0_2 : Int) (A0_3 : Option Addr) (c0_3 : Nat) (l0_3 : List S65) (A0_4 : Option Addr) (c0_4 : Nat) (l0_4 : List S62) (a1 : Int) (A2 : Option Addr) (c2 : Nat) (l2 : List Int) (r1 : Int) (r2 : Int) (w : World)
  (hr0_3 : Kd.C k65 w A0_3 l0_3.length l0_3) (hc0_3 : l0_3.length ≤ c0_3) (hr0_4 : Kd.C k62 w A0_4 l0_4.length l0_4) (hc0_4 : l0_4.length ≤ c0_4) (hr2 : Kd.C (Kd.int .u8) w A2 l2.length l2) (hc2 : l2.length ≤ c2)
  (h : table_Next.f k a0_0 a0_1 a0_2 l0_3 l0_4 a1 l2 = some (r1, r2)) :
  Calls Try.prog 14 #[.agg #[.int .i64 a0_0, .int .u8 a0_1, .int .u8 a0_2, .slice A0_3 l0_3.length c0_3, .slice A0_4 l0_4.length c0_4], .int .u8 a1, .slice A2 l2.length c2] w fun e w' => e = .returned (.tuple #[.int .u8 r1, .int .i64 r2]) ∧ Below w.heap.size w w' := by
 have HV := Aside0.mk hr0_3
 have HVc := Aside0.mk hc0_3
 have HR := Aside0.mk hr0_4
 have HRc := Aside0.mk hc0_4
 have HA := Aside0.mk hr2
 have HAc := Aside0.mk hc2
 clear hr0_3 hc0_3 hr0_4 hc0_4 hr2 hc2
 unfold table_Next.f at h
 replace h := Option.bind_eq_some_iff.1 h
 obtain ⟨e, he, h⟩ := h
 have HE := Aside0.mk he
 clear he
 by_cases h2 : e = 0
 ·subst h2
  rw [if_pos rfl] at h
  replace h := Option.bind_eq_some_iff.1 h
  obtain ⟨gs, hgs, h⟩ := h
  by_cases hG : okG gs l2.length = true
  ·rw [if_pos hG] at h
   replace h := Option.bind_eq_some_iff.1 h
   obtain ⟨s, hg, h⟩ := h
   simp only [Option.some.injEq, Prod.mk.injEq] at h
   obtain ⟨rfl, rfl⟩ := h
   have HG := Aside0.mk hG
   have HGS := Aside0.mk hgs
   have HN := Aside0.mk hg
   clear hgs hG hg
   go_enter Try.func14, Try.ntmps14
   go_wp2_with (first | (go_at_call 31; go_must ((with_reducible refine (table_asked.calls k a0_0 a0_1 a0_2 A0_3 c0_3 l0_3 A0_4 c0_4 l0_4 true a1 A2 c2 l2 0 _ (Kd.C_alloc HV.out _) HVc.out (Kd.C_alloc HR.out _) HRc.out (Kd.C_alloc HA.out _) HAc.out HE.out).mono ?_); rintro e' w1 ⟨rfl, hb1⟩; have ht1 := blk_below (blk_new w _) hb1; have HB1 := Aside0.mk (below_step (below_alloc (Below.refl w.heap.size w) (Obj.cells #[.int .i64 a0_0, .int .u8 a0_1, .int .u8 a0_2, .slice A0_3 l0_3.length c0_3, .slice A0_4 l0_4.length c0_4] 33)) hb1); have t0a : w1.cell? ⟨w.heap.size, 0, none⟩ = some (.int .i64 a0_0) := blk_cell ht1 0; have t1a : w1.cell? ⟨w.heap.size, 1, none⟩ = some (.int .u8 a0_1) := blk_cell ht1 1; have t2a : w1.cell? ⟨w.heap.size, 2, none⟩ = some (.int .u8 a0_2) := blk_cell ht1 2; have t3a : w1.cell? ⟨w.heap.size, 3, none⟩ = some (.slice A0_3 l0_3.length c0_3) := blk_cell ht1 3; have t4a : w1.cell? ⟨w.heap.size, 4, none⟩ = some (.slice A0_4 l0_4.length c0_4) := blk_cell ht1 4; have HT1 := Aside0.mk ht1; clear ht1 hb1)) | (go_at_call 33; go_must ((with_reducible refine (table_orders.calls k a0_0 a0_1 a0_2 A0_3 c0_3 l0_3 A0_4 c0_4 l0_4 gs _ (Kd.C_below HV.out HB1.out) HVc.out (Kd.C_below HR.out HB1.out) HRc.out HGS.out).mono ?_); rintro e2 w2 ⟨v2, rfl, hn2, hb2⟩; obtain ⟨AO, cO, rfl, hcO, hO2⟩ := Kd.N_reads hn2; have HO2 := Aside0.mk hO2; have ht2 := blk_below HT1.out hb2; have HB2 := Aside0.mk (below_step HB1.out hb2); have t0b : w2.cell? ⟨w.heap.size, 0, none⟩ = some (.int .i64 a0_0) := blk_cell ht2 0; have t1b : w2.cell? ⟨w.heap.size, 1, none⟩ = some (.int .u8 a0_1) := blk_cell ht2 1; have t2b : w2.cell? ⟨w.heap.size, 2, none⟩ = some (.int .u8 a0_2) := blk_cell ht2 2; have t3b : w2.cell? ⟨w.heap.size, 3, none⟩ = some (.slice A0_3 l0_3.length c0_3) := blk_cell ht2 3; have t4b : w2.cell? ⟨w.heap.size, 4, none⟩ = some (.slice A0_4 l0_4.length c0_4) := blk_cell ht2 4; have HT2 := Aside0.mk ht2; clear ht2 hn2 hb2 hcO hO2 t0a t1a t2a t3a t4a)))
   clear t0b t1b t2b t3b t4b
   go_loopw [25] (fun v wr => ∃ i : Nat, i ≤ l0_4.length ∧ v = .int .i64 i ∧ Aside0 (table_Next.g a0_2 l0_3 gs a1 l2 (l0_4.drop i) = some s) ∧ Aside0 (Below w.heap.size w wr) ∧ Aside0 (wr.heap[w.heap.size]? = some (.cells #[.int .i64 a0_0, .int .u8 a0_1, .int .u8 a0_2, .slice A0_3 l0_3.length c0_3, .slice A0_4 l0_4.length c0_4] 33 (0, 0))) ∧ Aside0 (Kd.C (Kd.slice 3 (Kd.int .i64)) wr AO gs.length gs)) (fun v wr => l0_4.length - (intOf v).toNat)
   case atStart => exact ⟨0, Nat.zero_le _, rfl, ⟨by rw [List.drop_zero]; exact HN.out⟩, HB2, HT2, HO2⟩
   case round =>
    rename World => wo
    clear HB2 HT2 HN HO2
    obtain ⟨i, hi, rfl, HN, HB, HT, HO⟩ := hrel
    by_cases hlt : i < l0_4.length
    ·have q0 : (0 : Int) ≤ (i : Int) := by omega
     have q1 : (i : Int) < l0_4.length := by omega
     have q2 : (i : Int) < 9223372036854775807 := by have := HR.out.2.1; omega
     have t2 : wo.cell? ⟨w.heap.size, 2, none⟩ = some (.int .u8 a0_2) := blk_cell HT.out 2
     have t3 : wo.cell? ⟨w.heap.size, 3, none⟩ = some (.slice A0_3 l0_3.length c0_3) := blk_cell HT.out 3
     have t4 : wo.cell? ⟨w.heap.size, 4, none⟩ = some (.slice A0_4 l0_4.length c0_4) := blk_cell HT.out 4
     have HRo := Aside0.mk (Kd.C_below HR.out HB.out)
     obtain ⟨ad, AT, cT, rfl, u0, u1, u2, u3, u4, hcT, hCT⟩ := at_T62 HRo.out (i : Int) q0 q1
     rw [Int.toNat_natCast] at u0 u1 u2 u3 u4
     have hg := HN.out
     rw [List.drop_eq_getElem_cons hlt, table_Next.g, show l0_4[i] = rd_T62 l0_4 (i : Int) from by unfold rd_T62; rw [Int.toNat_natCast, List.getD_eq_getElem?_getD, List.getElem?_eq_getElem hlt]; rfl] at hg
     obtain ⟨x, hx⟩ : ∃ x, rd_T62 l0_4 (i : Int) = x := ⟨_, rfl⟩
     rw [hx] at hg u0 u1 u2 u3 u4 hcT hCT
     by_cases hs : okSay l0_3 x.f0.f1 x.f1 x.f2.f1 a1 l2 = true
     ·rw [if_pos hs] at hg
      obtain ⟨R, hR⟩ : ∃ R, oneF l0_3 a0_2 x.f0 x.f1 x.f2 gs a1 l2 = R := ⟨_, rfl⟩
      rw [hR] at hg
      have HONE : Aside0 (Calls Try.prog 32 #[.pointer (some ⟨w.heap.size, 0, none⟩), .pointer (some (ad.add (i * 5))), .slice AO gs.length cO, .int .u8 a1, .slice A2 l2.length c2] wo fun e w' => e = .returned (resT R) ∧ Below wo.heap.size wo w') := ⟨by
       obtain ⟨hC2, hP2, hce2, h02, h12⟩ := tone_ok hs t3 (Kd.C_below HV.out HB.out) u2 u3 u4 hCT (Kd.C_below HA.out HB.out)
       have hONE := tone_calls w.heap.size (ad.add (i * 5)) l0_3 A0_3 c0_3 x.f1 AT cT x.f2 x.f0 a0_2 a1 l2 A2 c2 gs AO cO wo hP2 hC2 u0 u1 t2 hce2 h02 h12 HO.out (okG_all HG.out)
       rw [hR] at hONE
       exact hONE⟩
      clear hs hR hx hCT hcT HN u0 u1 u2 u3 u4 t2 t3
      cases R with
      | some v =>
       simp only at hg
       obtain rfl := Option.some.inj hg
       clear hg
       go_wp2_with (go_at_call 32; go_must ((with_reducible refine HONE.out.mono ?_); rintro e3 w3 ⟨rfl, hb3⟩; have HB3 := Aside0.mk (below_step HB.out hb3); clear hb3; simp only [resT]))
       go_ret2
       exact ⟨rfl, HB3.out⟩
      | none =>
       simp only at hg
       have HN2 := Aside0.mk hg
       clear hg
       go_wp2_with (go_at_call 32; go_must ((with_reducible refine HONE.out.mono ?_); rintro e3 w3 ⟨rfl, hb3⟩; have HB3 := Aside0.mk (below_step HB.out hb3); have HT3 := Aside0.mk (blk_below HT.out hb3); have HO3 := Aside0.mk (Kd.C_below HO.out hb3); clear hb3; simp only [resT]))
       go_round
       case rel => exact ⟨i + 1, by omega, by go_num, HN2, HB3, HT3, HO3⟩
       case measure => simp [intOf]; omega
     ·rw [if_neg hs] at hg; cases hg
    ·obtain rfl : i = l0_4.length := by omega
     have hg := HN.out
     rw [List.drop_length, table_Next.g] at hg
     obtain rfl := Option.some.inj hg
     clear hg
     go_wp2
     go_ret2
     exact ⟨rfl, HB.out⟩
  ·rw [if_neg hG] at h; cases h
 ·rw [if_neg h2] at h
  simp only [Option.some.injEq, Prod.mk.injEq] at h
  obtain ⟨rfl, rfl⟩ := h
  have h2b : (e == 0) = false := by rw [beq_eq_false_iff_ne]; exact h2
  have h2c : (e != 0) = true := bne_iff_ne.mpr h2
  clear h2
  go_enter Try.func14, Try.ntmps14
  go_wp2_with (go_at_call 31; go_must ((with_reducible refine (table_asked.calls k a0_0 a0_1 a0_2 A0_3 c0_3 l0_3 A0_4 c0_4 l0_4 true a1 A2 c2 l2 e _ (Kd.C_alloc HV.out _) HVc.out (Kd.C_alloc HR.out _) HRc.out (Kd.C_alloc HA.out _) HAc.out HE.out).mono ?_); rintro e' w1 ⟨rfl, hb1⟩; have ht1 := blk_below (blk_new w _) hb1; have HB1 := Aside0.mk (below_step (below_alloc (Below.refl w.heap.size w) (Obj.cells #[.int .i64 a0_0, .int .u8 a0_1, .int .u8 a0_2, .slice A0_3 l0_3.length c0_3, .slice A0_4 l0_4.length c0_4] 33)) hb1); have t0a : w1.cell? ⟨w.heap.size, 0, none⟩ = some (.int .i64 a0_0) := blk_cell ht1 0; have t1a : w1.cell? ⟨w.heap.size, 1, none⟩ = some (.int .u8 a0_1) := blk_cell ht1 1; have t2a : w1.cell? ⟨w.heap.size, 2, none⟩ = some (.int .u8 a0_2) := blk_cell ht1 2; have t3a : w1.cell? ⟨w.heap.size, 3, none⟩ = some (.slice A0_3 l0_3.length c0_3) := blk_cell ht1 3; have t4a : w1.cell? ⟨w.heap.size, 4, none⟩ = some (.slice A0_4 l0_4.length c0_4) := blk_cell ht1 4; have HT1 := Aside0.mk ht1; clear ht1 hb1))
  go_ret2
  exact ⟨rfl, HB1.out⟩
end Go.Proofs.Ytajhfkcmfmhnaaa.P
namespace Go.Proofs.Ytajhfkcmfmhnaaa.P
open Go.RowKit Go.Proofs.YtajhfkcmfmhnaaaW.PrintWords Go.Proofs.YtajhfkcmfmhnaaaW.PrintLast Go.Proofs.YtajhfkcmfmhnaaaW.PrintMore
attribute [local go_sem] max2_int min2_int max_two min_two max_three min_three max_four min_four   -- for this text's walks alone
set_option linter.unusedVariables false
set_option linter.unusedSimpArgs false
open Go.Proofs.Ytajhfkcmfmhnaaa.L
theorem rd_app0 (l m : List Int) (j : Nat) : rd (l ++ m) ((l.length : Int) + j) = m.getD j 0 := by
 unfold rd
 rw [show ((l.length : Int) + j).toNat = l.length + j from by omega, List.getD_eq_getElem?_getD, List.getElem?_append_right (by omega), List.getD_eq_getElem?_getD]
 congr 2; omega
set_option maxHeartbeats 8000000 in
set_option maxRecDepth 100000 in
/-- What was lent is as it was, the marks too. -/
theorem vivariumlaw10_kept.calls (A0 : Option Addr) (c0 : Nat) (l0 : List Int) (A1 : Option Addr) (c1 : Nat) (w : World) (hr0 : Kd.C (Kd.int .u8) w A0 l0.length l0) (hf : Kd.C (Kd.int .u8) w A0 (l0 ++ [201, 77, 55]).length (l0 ++ [201, 77, 55])) (hc0 : (l0 ++ [201, 77, 55]).length ≤ c0) (hr1 : Kd.C (Kd.int .u8) w A1 l0.length l0) (hc1 : l0.length ≤ c1) :
  Calls Try.prog 15 #[.slice A0 l0.length c0, .slice A1 l0.length c1] w fun e w' => e = .returned (.bool true) ∧ Drawn0 w w' := by
 have hl : (l0 ++ [201, 77, 55]).length = l0.length + 3 := by simp
 have hbig : (l0 ++ [201, 77, 55]).length ≤ 9223372036854775807 := hf.2.1
 obtain ⟨F, hF⟩ : ∃ F, F = l0 ++ [201, 77, 55] := ⟨_, rfl⟩
 have g0 : rd F (l0.length : Int) = 201 := by rw [hF]; exact rd_app0 l0 [201, 77, 55] 0
 have g1 : rd F ((l0.length : Int) + 1) = 77 := by rw [hF]; exact rd_app0 l0 [201, 77, 55] 1
 have g2 : rd F ((l0.length : Int) + 2) = 55 := by rw [hF]; exact rd_app0 l0 [201, 77, 55] 2
 rw [← hF] at hl hf hc0 hbig
 obtain ⟨i0, hi0, _, hsz, _⟩ := info_parts info5
 have hcut := L.cut_room (P := Try.prog) 34 5 .i64 Try.underlying34 hi0 A0 l0.length c0 ((l0.length : Int) + 3) (by omega) (by omega)
 rw [show ((l0.length : Int) + 3).toNat = l0.length + 3 from by omega] at hcut
 have hcv1 := Kd.C_string (P := Try.prog) (A := A0) (c := c0) Try.underlying34 Try.underlying5 Try.underlying9 hr0
 have hcv2 := Kd.C_string (P := Try.prog) (A := A1) (c := c1) Try.underlying34 Try.underlying5 Try.underlying9 hr1
 obtain ⟨ad, e0, x0⟩ := Kd.at_int hf (l0.length : Int) (by omega) (by omega)
 cases e0
 obtain ⟨ad1, e1, x1⟩ := Kd.at_int hf ((l0.length : Int) + 1) (by omega) (by omega)
 obtain rfl : ad = ad1 := by injection e1
 obtain ⟨ad2, e2, x2⟩ := Kd.at_int hf ((l0.length : Int) + 2) (by omega) (by omega)
 obtain rfl : ad = ad2 := by injection e2
 rw [g0] at x0
 rw [g1] at x1
 rw [g2] at x2
 simp only [Go.IntWalk.toNatUp] at x0 x1 x2
 have y1 : w.cell? ⟨ad.block, ad.off + (l0.length + 1), none⟩ = some (.int .u8 77) := x1
 have y2 : w.cell? ⟨ad.block, ad.off + (l0.length + 2), none⟩ = some (.int .u8 55) := x2
 have s3 : IntKind.i64.wrap ((l0.length : Int) + 3) = (l0.length : Int) + 3 := by rw [i64_w]; unfold wrap64; omega
 have s1 : IntKind.i64.wrap ((l0.length : Int) + 1) = (l0.length : Int) + 1 := by rw [i64_w]; unfold wrap64; omega
 have s2 : IntKind.i64.wrap ((l0.length : Int) + 2) = (l0.length : Int) + 2 := by rw [i64_w]; unfold wrap64; omega
 have HS := Aside0.mk (And.intro s1 (And.intro s2 s3))
 have b0 : (0 : Int) ≤ (l0.length : Int) + 3 := by omega
 have hz : l0.length + 3 ≤ 9223372036854775807 := by omega
 clear hr0 hf hr1 hF g0 g1 g2 e1 e2 hi0 hsz s1 s2 s3
 go_enter Try.func15, Try.ntmps15
 go_wp2
 go_ret
 exact ⟨rfl, by repeat (first | exact Drawn0.refl _ | apply Drawn0.step)⟩
end Go.Proofs.Ytajhfkcmfmhnaaa.P
end
section
namespace Go.Proofs.Ytajhfkcmfmhnaaa.P
open Go.RowKit Go.Proofs.YtajhfkcmfmhnaaaW.PrintWords Go.Proofs.YtajhfkcmfmhnaaaW.PrintLast Go.Proofs.YtajhfkcmfmhnaaaW.PrintMore
attribute [local go_sem] max2_int min2_int max_two min_two max_three min_three max_four min_four   -- for this text's walks alone
set_option linter.unusedVariables false
set_option linter.unusedSimpArgs false
mutual
def vivariumref10_asked.j0 : Nat → Int → List Int → Bool → Int → Int → Int → List (S65) → List (S62) → Option (Int)
 | 0, _, _, _, _, _, _, _, _ => none
 | k + 1, x2, x3, x25, x164000, x164001, x164002, x164003, x164004 => if x25 = true then (some 2) else (if (wrap64 (x2)) ≥ x164000 then (some 7) else (vivariumref10_asked.l0 k x3 0 x164000 x164001 x164002 x164003 x164004))
def vivariumref10_asked.l0 : Nat → List Int → Int → Int → Int → Int → List (S65) → List (S62) → Option (Int)
 | 0, _, _, _, _, _, _, _ => none
 | k + 1, x3, x11, x164000, x164001, x164002, x164003, x164004 => if x11 < (x3.length : Int) then (if 0 ≤ x11 then (if (wrap64 (rd x3 x11)) ≥ x164000 then (some 7) else (vivariumref10_asked.l0 k x3 (wrap64 (x11 + 1)) x164000 x164001 x164002 x164003 x164004)) else (none)) else (some 0)
end
def vivariumref10_asked.f (k : Nat) (a0_0 : Int) (a0_1 : Int) (a0_2 : Int) (l0_3 : List (S65)) (l0_4 : List (S62)) (a1 : Bool) (a2 : Int) (l3 : List Int) : Option (Int) := (vivariumref07_Size.f a0_1).bind fun bt164 => (if a1 = true then (vivariumref10_asked.j0 k a2 l3 ((l3.length : Int) != bt164.1) a0_0 a0_1 a0_2 l0_3 l0_4) else (vivariumref10_asked.j0 k a2 l3 true a0_0 a0_1 a0_2 l0_3 l0_4))
set_option maxHeartbeats 8000000 in
set_option maxRecDepth 100000 in
theorem vivariumref10_asked.calls (k : Nat) (a0_0 : Int) (a0_1 : Int) (a0_2 : Int) (A0_3 : Option Addr) (c0_3 : Nat) (l0_3 : List (S65)) (A0_4 : Option Addr) (c0_4 : Nat) (l0_4 : List (S62)) (a1 : Bool) (a2 : Int) (A3 : Option Addr) (c3 : Nat) (l3 : List Int) (r : Int) (w : World) (hr0_3 : Kd.C k65 w A0_3 l0_3.length l0_3) (hc0_3 : l0_3.length ≤ c0_3) (hr0_4 : Kd.C k62 w A0_4 l0_4.length l0_4) (hc0_4 : l0_4.length ≤ c0_4) (hr3 : Kd.C (Kd.int .u8) w A3 l3.length l3) (hc3 : l3.length ≤ c3) (h : vivariumref10_asked.f k a0_0 a0_1 a0_2 l0_3 l0_4 a1 a2 l3 = some r) :
  Calls Try.prog 28 #[.agg #[.int .i64 a0_0, .int .u8 a0_1, .int .u8 a0_2, .slice A0_3 l0_3.length c0_3, .slice A0_4 l0_4.length c0_4], .bool a1, .int .u8 a2, .slice A3 l3.length c3] w fun e w' => e = .returned (.int .i64 r) ∧ Below w.heap.size w w' := by
 have hu33 := Try.underlying33
 have HR0_3 := Aside0.mk hr0_3
 have HC0_3 := Aside0.mk hc0_3
 clear hr0_3 hc0_3
 have HR0_4 := Aside0.mk hr0_4
 have HC0_4 := Aside0.mk hc0_4
 clear hr0_4 hc0_4
 have HR3 := Aside0.mk hr3
 have HC3 := Aside0.mk hc3
 clear hr3 hc3
 have HB := Aside0.mk (Below.refl w.heap.size w)
 have H : ((vivariumref07_Size.f a0_1).bind fun bt164 => (if a1 = true then (vivariumref10_asked.j0 k a2 l3 ((l3.length : Int) != bt164.1) a0_0 a0_1 a0_2 l0_3 l0_4) else (vivariumref10_asked.j0 k a2 l3 true a0_0 a0_1 a0_2 l0_3 l0_4))) = some r := h
 clear h
 replace H := Option.bind_eq_some_iff.mp H
 obtain ⟨⟨t164, t165⟩, A50, H⟩ := H
 replace H : (if a1 = true then (vivariumref10_asked.j0 k a2 l3 ((l3.length : Int) != t164) a0_0 a0_1 a0_2 l0_3 l0_4) else (vivariumref10_asked.j0 k a2 l3 true a0_0 a0_1 a0_2 l0_3 l0_4)) = some r := H
 have A5 := Aside0.mk A50
 clear A50
 have HC6 := Aside0.mk H
 clear H
 go_enter Try.func28, Try.ntmps28
 go_upto_region 2 with (first | ((with_reducible refine gate_dst (N := 4) rfl ?_); (try (refine gate_guard (by rfl) ?_; dsimp only)); refine box_event ?hg (N := 4) ?hd (cs := #[.int .i64 a0_0, .int .u8 a0_1, .int .u8 a0_2, .slice A0_3 l0_3.length c0_3, .slice A0_4 l0_4.length c0_4]) (t := 33) ?hr ?_; (case hd => rfl); (case hg => rfl); (case hr => first | (go_simp; done) | (go_simp; rfl)); intro gb163 hg w7 hbox hb; have n0_ := Aside0.mk (below_step (by repeat (first | (with_reducible first | exact HB.out | apply below_alloc | apply pw_below_drewN | apply below_drew1) | exact HB.out)) hb); have n1_ := Aside0.mk (hbox); have n2_ := Aside0.mk ((by rw [hg]; exact (below_size (by repeat (first | (with_reducible first | exact HB.out | apply below_alloc | apply pw_below_drewN | apply below_drew1) | exact HB.out))) : w.heap.size ≤ gb163)); have n3_ := Aside0.mk ((by rw [hg]; exact (below_size (by repeat (first | (with_reducible first | exact HB.out | apply below_alloc | apply pw_below_drewN | apply below_drew1) | exact HB.out))) : w.heap.size ≤ gb163)); clear HB; have HB := n0_; have BK163 := n1_; have GW163 := n2_; have GE163 := n3_; clear n0_ n1_ n2_ n3_; clear hb hbox hg; have hcz8_0 : w7.cell? ⟨gb163, 0, none⟩ = some (.int .i64 a0_0) := (blk_cell BK163.out 0).trans rfl; have hcz8_1 : w7.cell? ⟨gb163, 1, none⟩ = some (.int .u8 a0_1) := (blk_cell BK163.out 1).trans rfl; have hcz8_2 : w7.cell? ⟨gb163, 2, none⟩ = some (.int .u8 a0_2) := (blk_cell BK163.out 2).trans rfl; have hcz8_3 : w7.cell? ⟨gb163, 3, none⟩ = some (.slice A0_3 l0_3.length c0_3) := (blk_cell BK163.out 3).trans rfl; have hcz8_4 : w7.cell? ⟨gb163, 4, none⟩ = some (.slice A0_4 l0_4.length c0_4) := (blk_cell BK163.out 4).trans rfl; have hfz8_0 := blk_frozen BK163.out 0; have hfz8_1 := blk_frozen BK163.out 1; have hfz8_2 := blk_frozen BK163.out 2; have hfz8_3 := blk_frozen BK163.out 3; have hfz8_4 := blk_frozen BK163.out 4) | (go_at_call 18; (with_reducible refine (vivariumref07_Size.calls a0_1 t164 t165 _ A5.out).mono ?_); rintro e w9 ⟨rfl, hb⟩; have n0_ := Aside0.mk (blk_below (g := gb163) (o := .cells #[.int .i64 a0_0, .int .u8 a0_1, .int .u8 a0_2, .slice A0_3 l0_3.length c0_3, .slice A0_4 l0_4.length c0_4] 33 (0, 0)) (by (with_reducible repeat (first | refine blk_drewN ?_ _ | refine blk_drew ?_ | refine blk_alloc ?_ _)); exact BK163.out) hb); have n1_ := Aside0.mk (below_step (by repeat (first | (with_reducible first | exact HB.out | apply below_alloc | apply pw_below_drewN | apply below_drew1 | refine below_set ?_ GE163.out) | exact HB.out)) hb); clear BK163; clear HB; have BK163 := n0_; have HB := n1_; clear n0_ n1_; (try clear hb); (try clear hb2); (try clear hk); (try clear hi)))
 repeat (go_quiet (first | ((with_reducible refine gate_dst (N := 4) rfl ?_); (try (refine gate_guard (by rfl) ?_; dsimp only)); refine box_event ?hg (N := 4) ?hd (cs := #[.int .i64 a0_0, .int .u8 a0_1, .int .u8 a0_2, .slice A0_3 l0_3.length c0_3, .slice A0_4 l0_4.length c0_4]) (t := 33) ?hr ?_; (case hd => rfl); (case hg => rfl); (case hr => first | (go_simp; done) | (go_simp; rfl)); intro gb163 hg w7 hbox hb; have n0_ := Aside0.mk (below_step (by repeat (first | (with_reducible first | exact HB.out | apply below_alloc | apply pw_below_drewN | apply below_drew1) | exact HB.out)) hb); have n1_ := Aside0.mk (hbox); have n2_ := Aside0.mk ((by rw [hg]; exact (below_size (by repeat (first | (with_reducible first | exact HB.out | apply below_alloc | apply pw_below_drewN | apply below_drew1) | exact HB.out))) : w.heap.size ≤ gb163)); have n3_ := Aside0.mk ((by rw [hg]; exact (below_size (by repeat (first | (with_reducible first | exact HB.out | apply below_alloc | apply pw_below_drewN | apply below_drew1) | exact HB.out))) : w.heap.size ≤ gb163)); clear HB; have HB := n0_; have BK163 := n1_; have GW163 := n2_; have GE163 := n3_; clear n0_ n1_ n2_ n3_; clear hb hbox hg; have hcz8_0 : w7.cell? ⟨gb163, 0, none⟩ = some (.int .i64 a0_0) := (blk_cell BK163.out 0).trans rfl; have hcz8_1 : w7.cell? ⟨gb163, 1, none⟩ = some (.int .u8 a0_1) := (blk_cell BK163.out 1).trans rfl; have hcz8_2 : w7.cell? ⟨gb163, 2, none⟩ = some (.int .u8 a0_2) := (blk_cell BK163.out 2).trans rfl; have hcz8_3 : w7.cell? ⟨gb163, 3, none⟩ = some (.slice A0_3 l0_3.length c0_3) := (blk_cell BK163.out 3).trans rfl; have hcz8_4 : w7.cell? ⟨gb163, 4, none⟩ = some (.slice A0_4 l0_4.length c0_4) := (blk_cell BK163.out 4).trans rfl; have hfz8_0 := blk_frozen BK163.out 0; have hfz8_1 := blk_frozen BK163.out 1; have hfz8_2 := blk_frozen BK163.out 2; have hfz8_3 := blk_frozen BK163.out 3; have hfz8_4 := blk_frozen BK163.out 4) | (go_at_call 18; (with_reducible refine (vivariumref07_Size.calls a0_1 t164 t165 _ A5.out).mono ?_); rintro e w9 ⟨rfl, hb⟩; have n0_ := Aside0.mk (blk_below (g := gb163) (o := .cells #[.int .i64 a0_0, .int .u8 a0_1, .int .u8 a0_2, .slice A0_3 l0_3.length c0_3, .slice A0_4 l0_4.length c0_4] 33 (0, 0)) (by (with_reducible repeat (first | refine blk_drewN ?_ _ | refine blk_drew ?_ | refine blk_alloc ?_ _)); exact BK163.out) hb); have n1_ := Aside0.mk (below_step (by repeat (first | (with_reducible first | exact HB.out | apply below_alloc | apply pw_below_drewN | apply below_drew1 | refine below_set ?_ GE163.out) | exact HB.out)) hb); clear BK163; clear HB; have BK163 := n0_; have HB := n1_; clear n0_ n1_; (try clear hb); (try clear hb2); (try clear hk); (try clear hi))); go_upto_region 2 with (first | ((with_reducible refine gate_dst (N := 4) rfl ?_); (try (refine gate_guard (by rfl) ?_; dsimp only)); refine box_event ?hg (N := 4) ?hd (cs := #[.int .i64 a0_0, .int .u8 a0_1, .int .u8 a0_2, .slice A0_3 l0_3.length c0_3, .slice A0_4 l0_4.length c0_4]) (t := 33) ?hr ?_; (case hd => rfl); (case hg => rfl); (case hr => first | (go_simp; done) | (go_simp; rfl)); intro gb163 hg w7 hbox hb; have n0_ := Aside0.mk (below_step (by repeat (first | (with_reducible first | exact HB.out | apply below_alloc | apply pw_below_drewN | apply below_drew1) | exact HB.out)) hb); have n1_ := Aside0.mk (hbox); have n2_ := Aside0.mk ((by rw [hg]; exact (below_size (by repeat (first | (with_reducible first | exact HB.out | apply below_alloc | apply pw_below_drewN | apply below_drew1) | exact HB.out))) : w.heap.size ≤ gb163)); have n3_ := Aside0.mk ((by rw [hg]; exact (below_size (by repeat (first | (with_reducible first | exact HB.out | apply below_alloc | apply pw_below_drewN | apply below_drew1) | exact HB.out))) : w.heap.size ≤ gb163)); clear HB; have HB := n0_; have BK163 := n1_; have GW163 := n2_; have GE163 := n3_; clear n0_ n1_ n2_ n3_; clear hb hbox hg; have hcz8_0 : w7.cell? ⟨gb163, 0, none⟩ = some (.int .i64 a0_0) := (blk_cell BK163.out 0).trans rfl; have hcz8_1 : w7.cell? ⟨gb163, 1, none⟩ = some (.int .u8 a0_1) := (blk_cell BK163.out 1).trans rfl; have hcz8_2 : w7.cell? ⟨gb163, 2, none⟩ = some (.int .u8 a0_2) := (blk_cell BK163.out 2).trans rfl; have hcz8_3 : w7.cell? ⟨gb163, 3, none⟩ = some (.slice A0_3 l0_3.length c0_3) := (blk_cell BK163.out 3).trans rfl; have hcz8_4 : w7.cell? ⟨gb163, 4, none⟩ = some (.slice A0_4 l0_4.length c0_4) := (blk_cell BK163.out 4).trans rfl; have hfz8_0 := blk_frozen BK163.out 0; have hfz8_1 := blk_frozen BK163.out 1; have hfz8_2 := blk_frozen BK163.out 2; have hfz8_3 := blk_frozen BK163.out 3; have hfz8_4 := blk_frozen BK163.out 4) | (go_at_call 18; (with_reducible refine (vivariumref07_Size.calls a0_1 t164 t165 _ A5.out).mono ?_); rintro e w9 ⟨rfl, hb⟩; have n0_ := Aside0.mk (blk_below (g := gb163) (o := .cells #[.int .i64 a0_0, .int .u8 a0_1, .int .u8 a0_2, .slice A0_3 l0_3.length c0_3, .slice A0_4 l0_4.length c0_4] 33 (0, 0)) (by (with_reducible repeat (first | refine blk_drewN ?_ _ | refine blk_drew ?_ | refine blk_alloc ?_ _)); exact BK163.out) hb); have n1_ := Aside0.mk (below_step (by repeat (first | (with_reducible first | exact HB.out | apply below_alloc | apply pw_below_drewN | apply below_drew1 | refine below_set ?_ GE163.out) | exact HB.out)) hb); clear BK163; clear HB; have BK163 := n0_; have HB := n1_; clear n0_ n1_; (try clear hb); (try clear hb2); (try clear hk); (try clear hi))))
 (try simp only [Act.put, List.setIfInBounds_toArray, List.set_cons_zero, List.set_cons_succ])
 go_cut [25] (fun v25 wc => ∃ (kq : Nat) (x25_5 : Bool), v25 = .bool x25_5 ∧ Aside0 (vivariumref10_asked.j0 kq a2 l3 x25_5 a0_0 a0_1 a0_2 l0_3 l0_4 = some r) ∧ Aside0 (kq ≤ k) ∧ Aside0 (wc.heap[gb163]? = some (.cells #[.int .i64 a0_0, .int .u8 a0_1, .int .u8 a0_2, (.slice A0_3 l0_3.length c0_3), (.slice A0_4 l0_4.length c0_4)] 33 (0, 0))) ∧ Aside0 (Below w.heap.size w wc))
 case first =>
  have H := HC6.out
  clear HC6
  by_cases c10 : a1 = true
  ·subst c10
   have H1 : (vivariumref10_asked.j0 k a2 l3 ((l3.length : Int) != t164) a0_0 a0_1 a0_2 l0_3 l0_4) = some r := by rw [if_pos rfl] at H; exact H
   clear H
   have H := H1
   clear H1
   have H' := Aside0.mk H
   clear H
   go_wp2
   repeat (go_quiet (fail); try go_wp2)
   go_meet
   case rel => exact ⟨_, (((l3.length : Int) != t164)), (by first | rfl | (simp; done) | (simp [*]; done)), H', ⟨by first | omega | exact Nat.le_refl _⟩, ⟨by (with_reducible repeat (first | refine blk_drewN ?_ _ | refine blk_drew ?_ | refine blk_alloc ?_ _)); exact BK163.out⟩, ⟨by repeat (first | (with_reducible first | exact HB.out | apply below_alloc | apply pw_below_drewN | apply below_drew1 | refine below_set ?_ GE163.out) | exact HB.out)⟩⟩
  ·replace c10 := Bool.eq_false_iff.mpr c10
   subst c10
   have H1 : (vivariumref10_asked.j0 k a2 l3 true a0_0 a0_1 a0_2 l0_3 l0_4) = some r := by rw [if_neg (show ¬ (false = true) by decide)] at H; exact H
   clear H
   have H := H1
   clear H1
   have H' := Aside0.mk H
   clear H
   go_wp2
   repeat (go_quiet (fail); try go_wp2)
   go_meet
   case rel => exact ⟨_, (true), (by first | rfl | (simp; done) | (simp [*]; done)), H', ⟨by first | omega | exact Nat.le_refl _⟩, ⟨by (with_reducible repeat (first | refine blk_drewN ?_ _ | refine blk_drew ?_ | refine blk_alloc ?_ _)); exact BK163.out⟩, ⟨by repeat (first | (with_reducible first | exact HB.out | apply below_alloc | apply pw_below_drewN | apply below_drew1 | refine below_set ?_ GE163.out) | exact HB.out)⟩⟩
 case rest =>
  clear HC6
  try clear c1
  try clear c2
  try clear p2
  try clear c3
  try clear c10
  try clear hcz8_0
  try clear hcz8_1
  try clear hcz8_2
  try clear hcz8_3
  try clear hcz8_4
  try clear hfz8_0
  try clear hfz8_1
  try clear hfz8_2
  try clear hfz8_3
  try clear hfz8_4
  obtain ⟨kq, x25_5, rfl, HA, HJ5, BK163, HB⟩ := hcut
  cases kq with
  | zero => exact absurd HA.out (by simp [vivariumref10_asked.j0])
  | succ kj5 =>
   have H := HA.out
   clear HA
   simp only [vivariumref10_asked.j0] at H
   by_cases c11 : x25_5 = true
   ·subst c11
    have H1 : (some 2) = some r := by rw [if_pos rfl] at H; exact H
    clear H
    have H := H1
    clear H1
    obtain rfl := Option.some.inj H
    go_wp2
    repeat (go_quiet (fail); try go_wp2)
    go_ret
    exact ⟨by first | rfl | (simp [errW_none, errW_some] <;> rfl) | (simp [*, errW_none, errW_some] <;> rfl), by repeat (first | (with_reducible first | exact HB.out | apply below_alloc | apply pw_below_drewN | apply below_drew1 | refine below_set ?_ GE163.out) | exact HB.out)⟩
   ·replace c11 := Bool.eq_false_iff.mpr c11
    subst c11
    have H1 : (if (wrap64 (a2)) ≥ a0_0 then (some 7) else (vivariumref10_asked.l0 kj5 l3 0 a0_0 a0_1 a0_2 l0_3 l0_4)) = some r := by rw [if_neg (show ¬ (false = true) by decide)] at H; exact H
    clear H
    have H := H1
    clear H1
    by_cases c12 : (wrap64 (a2)) ≥ a0_0
    ·rw [if_pos c12] at H
     have c12b0 : decide (a0_0 ≤ (wrap64 (a2))) = true := decide_eq_true c12
     clear c12
     obtain rfl := Option.some.inj H
     have hcz13_0 : wc.cell? ⟨gb163, 0, none⟩ = some (.int .i64 a0_0) := (blk_cell BK163.out 0).trans rfl
     have hcz13_1 : wc.cell? ⟨gb163, 1, none⟩ = some (.int .u8 a0_1) := (blk_cell BK163.out 1).trans rfl
     have hcz13_2 : wc.cell? ⟨gb163, 2, none⟩ = some (.int .u8 a0_2) := (blk_cell BK163.out 2).trans rfl
     have hcz13_3 : wc.cell? ⟨gb163, 3, none⟩ = some (.slice A0_3 l0_3.length c0_3) := (blk_cell BK163.out 3).trans rfl
     have hcz13_4 : wc.cell? ⟨gb163, 4, none⟩ = some (.slice A0_4 l0_4.length c0_4) := (blk_cell BK163.out 4).trans rfl
     have hfz13_0 := blk_frozen BK163.out 0
     have hfz13_1 := blk_frozen BK163.out 1
     have hfz13_2 := blk_frozen BK163.out 2
     have hfz13_3 := blk_frozen BK163.out 3
     have hfz13_4 := blk_frozen BK163.out 4
     go_wp2
     repeat (go_quiet (fail); try go_wp2)
     go_ret
     exact ⟨by first | rfl | (simp [errW_none, errW_some] <;> rfl) | (simp [*, errW_none, errW_some] <;> rfl), by repeat (first | (with_reducible first | exact HB.out | apply below_alloc | apply pw_below_drewN | apply below_drew1 | refine below_set ?_ GE163.out) | exact HB.out)⟩
    ·rw [if_neg c12] at H
     have c12b0 : decide (a0_0 ≤ (wrap64 (a2))) = false := decide_eq_false c12
     clear c12
     have H' := Aside0.mk H
     clear H
     have hcz14_0 : wc.cell? ⟨gb163, 0, none⟩ = some (.int .i64 a0_0) := (blk_cell BK163.out 0).trans rfl
     have hcz14_1 : wc.cell? ⟨gb163, 1, none⟩ = some (.int .u8 a0_1) := (blk_cell BK163.out 1).trans rfl
     have hcz14_2 : wc.cell? ⟨gb163, 2, none⟩ = some (.int .u8 a0_2) := (blk_cell BK163.out 2).trans rfl
     have hcz14_3 : wc.cell? ⟨gb163, 3, none⟩ = some (.slice A0_3 l0_3.length c0_3) := (blk_cell BK163.out 3).trans rfl
     have hcz14_4 : wc.cell? ⟨gb163, 4, none⟩ = some (.slice A0_4 l0_4.length c0_4) := (blk_cell BK163.out 4).trans rfl
     have hfz14_0 := blk_frozen BK163.out 0
     have hfz14_1 := blk_frozen BK163.out 1
     have hfz14_2 := blk_frozen BK163.out 2
     have hfz14_3 := blk_frozen BK163.out 3
     have hfz14_4 := blk_frozen BK163.out 4
     go_wp2
     repeat (go_quiet (fail); try go_wp2)
     go_loopg [11] kj5 (fun kq v11 w' => ∃ (x11_2 : Int), v11 = .int .i64 x11_2 ∧ Aside0 (vivariumref10_asked.l0 kq l3 x11_2 a0_0 a0_1 a0_2 l0_3 l0_4 = some r) ∧ Aside0 (kq ≤ kj5) ∧ Aside0 (w'.heap[gb163]? = some (.cells #[.int .i64 a0_0, .int .u8 a0_1, .int .u8 a0_2, (.slice A0_3 l0_3.length c0_3), (.slice A0_4 l0_4.length c0_4)] 33 (0, 0))) ∧ Aside0 (Below w.heap.size w w'))
     case atStart => exact ⟨(0), (by first | rfl | (simp; done) | (simp [*]; done)), H', ⟨Nat.le_refl _⟩, ⟨by (with_reducible repeat (first | refine blk_drewN ?_ _ | refine blk_drew ?_ | refine blk_alloc ?_ _)); exact BK163.out⟩, ⟨by repeat (first | (with_reducible first | exact HB.out | apply below_alloc | apply pw_below_drewN | apply below_drew1 | refine below_set ?_ GE163.out) | exact HB.out)⟩⟩
     case round =>
      clear H'
      try clear c1
      try clear c2
      try clear p2
      try clear c3
      try clear p6
      try clear c10
      try clear c11
      try clear c12
      try clear c12b0
      try clear hcz13_0
      try clear hcz13_1
      try clear hcz13_2
      try clear hcz13_3
      try clear hcz13_4
      try clear hcz14_0
      try clear hcz14_1
      try clear hcz14_2
      try clear hcz14_3
      try clear hcz14_4
      try clear hcz8_0
      try clear hcz8_1
      try clear hcz8_2
      try clear hcz8_3
      try clear hcz8_4
      try clear hfz13_0
      try clear hfz13_1
      try clear hfz13_2
      try clear hfz13_3
      try clear hfz13_4
      try clear hfz14_0
      try clear hfz14_1
      try clear hfz14_2
      try clear hfz14_3
      try clear hfz14_4
      try clear hfz8_0
      try clear hfz8_1
      try clear hfz8_2
      try clear hfz8_3
      try clear hfz8_4
      try clear p2
      obtain ⟨x11_2, rfl, HA, HK2, BK163, HB⟩ := hrel
      cases gk with
      | zero => exact absurd HA.out (by simp [vivariumref10_asked.l0])
      | succ k2 =>
       have H := HA.out
       clear HA
       simp only [vivariumref10_asked.l0] at H
       by_cases c15 : x11_2 < (l3.length : Int)
       ·rw [if_pos c15] at H
        have c15b0 : decide (x11_2 < (l3.length : Int)) = true := decide_eq_true c15
        clear c15
        by_cases c16 : 0 ≤ x11_2
        ·rw [if_pos c16] at H
         have c16b0 : decide (0 ≤ x11_2) = true := decide_eq_true c16
         clear c16
         by_cases c17 : (wrap64 (rd l3 x11_2)) ≥ a0_0
         ·rw [if_pos c17] at H
          have c17b0 : decide (a0_0 ≤ (wrap64 (rd l3 x11_2))) = true := decide_eq_true c17
          clear c17
          obtain rfl := Option.some.inj H
          have p166 : 0 ≤ (x11_2 : Int) := of_decide_eq_true (by first | (with_reducible assumption) | assumption)
          have q166 : x11_2 < (l3.length : Int) := of_decide_eq_true (by first | (with_reducible assumption) | assumption)
          obtain ⟨ad166, e166, hx166_0⟩ := Kd.at_int HR3.out x11_2 p166 q166
          cases e166
          replace hx166_0 := (HB.out.cell (World.block_lt_of_cell? w _ hx166_0)).trans hx166_0
          replace p166 := eq_true p166
          replace q166 := eq_true q166
          have hcz18_0 : wr.cell? ⟨gb163, 0, none⟩ = some (.int .i64 a0_0) := (blk_cell BK163.out 0).trans rfl
          have hcz18_1 : wr.cell? ⟨gb163, 1, none⟩ = some (.int .u8 a0_1) := (blk_cell BK163.out 1).trans rfl
          have hcz18_2 : wr.cell? ⟨gb163, 2, none⟩ = some (.int .u8 a0_2) := (blk_cell BK163.out 2).trans rfl
          have hcz18_3 : wr.cell? ⟨gb163, 3, none⟩ = some (.slice A0_3 l0_3.length c0_3) := (blk_cell BK163.out 3).trans rfl
          have hcz18_4 : wr.cell? ⟨gb163, 4, none⟩ = some (.slice A0_4 l0_4.length c0_4) := (blk_cell BK163.out 4).trans rfl
          have hfz18_0 := blk_frozen BK163.out 0
          have hfz18_1 := blk_frozen BK163.out 1
          have hfz18_2 := blk_frozen BK163.out 2
          have hfz18_3 := blk_frozen BK163.out 3
          have hfz18_4 := blk_frozen BK163.out 4
          go_wp2
          repeat (go_quiet (fail); try go_wp2)
          go_ret
          exact ⟨by first | rfl | (simp [errW_none, errW_some] <;> rfl) | (simp [*, errW_none, errW_some] <;> rfl), by repeat (first | (with_reducible first | exact HB.out | apply below_alloc | apply pw_below_drewN | apply below_drew1 | refine below_set ?_ GE163.out) | exact HB.out)⟩
         ·rw [if_neg c17] at H
          have c17b0 : decide (a0_0 ≤ (wrap64 (rd l3 x11_2))) = false := decide_eq_false c17
          clear c17
          have H' := Aside0.mk H
          clear H
          have p166 : 0 ≤ (x11_2 : Int) := of_decide_eq_true (by first | (with_reducible assumption) | assumption)
          have q166 : x11_2 < (l3.length : Int) := of_decide_eq_true (by first | (with_reducible assumption) | assumption)
          obtain ⟨ad166, e166, hx166_0⟩ := Kd.at_int HR3.out x11_2 p166 q166
          cases e166
          replace hx166_0 := (HB.out.cell (World.block_lt_of_cell? w _ hx166_0)).trans hx166_0
          replace p166 := eq_true p166
          replace q166 := eq_true q166
          have hcz19_0 : wr.cell? ⟨gb163, 0, none⟩ = some (.int .i64 a0_0) := (blk_cell BK163.out 0).trans rfl
          have hcz19_1 : wr.cell? ⟨gb163, 1, none⟩ = some (.int .u8 a0_1) := (blk_cell BK163.out 1).trans rfl
          have hcz19_2 : wr.cell? ⟨gb163, 2, none⟩ = some (.int .u8 a0_2) := (blk_cell BK163.out 2).trans rfl
          have hcz19_3 : wr.cell? ⟨gb163, 3, none⟩ = some (.slice A0_3 l0_3.length c0_3) := (blk_cell BK163.out 3).trans rfl
          have hcz19_4 : wr.cell? ⟨gb163, 4, none⟩ = some (.slice A0_4 l0_4.length c0_4) := (blk_cell BK163.out 4).trans rfl
          have hfz19_0 := blk_frozen BK163.out 0
          have hfz19_1 := blk_frozen BK163.out 1
          have hfz19_2 := blk_frozen BK163.out 2
          have hfz19_3 := blk_frozen BK163.out 3
          have hfz19_4 := blk_frozen BK163.out 4
          go_wp2
          repeat (go_quiet (fail); try go_wp2)
          go_roundg k2
          case measure => have := HJ5.out; have := HK2.out; omega
          case rel => exact ⟨(wrap64 (x11_2 + 1)), (by first | rfl | (simp; done) | (simp [*]; done)), H', ⟨by have := HJ5.out; have := HK2.out; omega⟩, ⟨by (with_reducible repeat (first | refine blk_drewN ?_ _ | refine blk_drew ?_ | refine blk_alloc ?_ _)); exact BK163.out⟩, ⟨by repeat (first | (with_reducible first | exact HB.out | apply below_alloc | apply pw_below_drewN | apply below_drew1 | refine below_set ?_ GE163.out) | exact HB.out)⟩⟩
        ·rw [if_neg c16] at H
         exact absurd H (by simp)
       ·rw [if_neg c15] at H
        have c15b0 : decide (x11_2 < (l3.length : Int)) = false := decide_eq_false c15
        clear c15
        obtain rfl := Option.some.inj H
        go_wp2
        repeat (go_quiet (fail); try go_wp2)
        go_ret
        exact ⟨by first | rfl | (simp [errW_none, errW_some] <;> rfl) | (simp [*, errW_none, errW_some] <;> rfl), by repeat (first | (with_reducible first | exact HB.out | apply below_alloc | apply pw_below_drewN | apply below_drew1 | refine below_set ?_ GE163.out) | exact HB.out)⟩
end Go.Proofs.Ytajhfkcmfmhnaaa.P
end

-- Written by a program of this session (wip/tools/shake.py): texts of this claim, of each what the claim names.
import Derived.Test.YtajhfkcmfmhnaaaDoorC2
import Derived.Test.YtajhfkcmfmhnaaaDoorC3
import Derived.Test.YtajhfkcmfmhnaaaDoorC4
import Derived.Maps.OwnOps
import Derived.Maps.OwnSet
import Derived.StringKeys
import Derived.Deep.DeepMust
section
namespace Go.Proofs.YtajhfkcmfmhnaaaDoor.P
open Go.RowKit Go.Proofs.YtajhfkcmfmhnaaaDoorW.PrintWords Go.Proofs.YtajhfkcmfmhnaaaDoorW.PrintLast Go.Proofs.YtajhfkcmfmhnaaaDoorW.PrintMore
attribute [local go_sem] max2_int min2_int max_two min_two max_three min_three max_four min_four   -- for this text's walks alone
set_option linter.unusedVariables false
set_option linter.unusedSimpArgs false
open Go.Proofs.YtajhfkcmfmhnaaaDoor.L Go.Maps
/-- Are a variable's states states, rising? -/
def okS (st : Int) (l : List Int) (i : Nat) : Bool := decide (wrap64 (rd l (i : Nat)) < st) && (i == 0 || decide (rd l ((i : Int) - 1) < rd l (i : Nat)))
def risB (st : Int) (l : List Int) : Bool := (List.range l.length).all (okS st l)
theorem ris_no {st : Int} {l : List Int} {i : Nat} (h : i < l.length) (hb : okS st l i = false) : risB st l = false := by
 rw [Bool.eq_false_iff]; intro h2
 unfold risB at h2
 rw [List.all_eq_true] at h2
 have := h2 i (List.mem_range.2 h)
 rw [hb] at this; cases this
theorem ris_yes {st : Int} {l : List Int} (h : ∀ i, i < l.length → okS st l i = true) : risB st l = true := by
 unfold risB; rw [List.all_eq_true]; intro i hi; exact h i (List.mem_range.1 hi)
def chkV (k : Nat) (st : Int) : List Vr → List (List UInt8) → Option Bool
 | [], _ => some true
 | v :: vs, seen => if v.f0.size ≤ 140737488351232 ∧ v.f1.length ≤ 140737488351232 then ((table_named.f k v.f0).bind fun b => if b = false then some false else if v.f0.data.toList ∈ seen then some false else if v.f1.length = 0 then some false else if risB st v.f1 = true then chkV k st vs (v.f0.data.toList :: seen) else some false) else none
def chkTs (st hd sy : Int) (vs : List Vr) (rs : List Rw) : List Tm → Option Bool
 | [] => some true
 | x :: xs => (table_term.f st hd sy vs rs x.f0 x.f1).bind fun b => if b = true then chkTs st hd sy vs rs xs else some false
def chkR (k : Nat) (st hd sy : Int) (vs : List Vr) (rs : List Rw) (n : Int) : List Rw → Option Bool
 | [] => some true
 | r :: rows => if (r.f1.length : Int) = n then (if n ≤ 1000 then ((table_term.f st hd sy vs rs r.f0.f0 r.f0.f1).bind fun b => if b = true then ((table_term.f st hd sy vs rs r.f2.f0 r.f2.f1).bind fun b => if b = true then ((table_bound.f k r.f0.f0 r.f0.f1 r.f1 r.f2.f0 r.f2.f1).bind fun b => if b = true then ((chkTs st hd sy vs rs r.f1).bind fun b => if b = true then chkR k st hd sy vs rs n rows else some false) else some false) else some false) else some false) else none) else some false
def table_Check.f (k : Nat) (st hd sy : Int) (vs : List Vr) (rs : List Rw) : Option Int :=
 if st < 2 then some 101 else if 256 < st then some 101 else (hood_Size.f hd).bind fun n => if n.2 = 0 then ((table_may.f k sy hd).bind fun e => if e = 0 then (if 64 < (vs.length : Int) then some 6 else if 4096 < (rs.length : Int) then some 6 else ((chkV k st vs []).bind fun b => if b = true then ((chkR k st hd sy vs rs n.1 rs).bind fun b => if b = true then some 0 else some 105) else some 104)) else some e) else some n.2
/-- Which names have come: the program's map. -/
def NmD (D : DataW Unit) (seen : List (List UInt8)) : Prop := IsMap D ∧ ∀ s : List UInt8, D.atKey (.string s) (.lit (.int .i64 0)) = .lit (.int .i64 (if s ∈ seen then 1 else 0))
theorem nmd_nil : NmD (.map []) [] := ⟨isMap_empty, fun s => by simp [DataW.atKey]⟩
theorem nmd_put {D : DataW Unit} {seen : List (List UInt8)} (h : NmD D seen) (s : List UInt8) : NmD (D.put (.string s) (.lit (.int .i64 1))) (s :: seen) := by
 refine ⟨h.1.put _ _, fun t => ?_⟩
 by_cases e : t = s
 ·subst e
  rw [atKey_put_same h.1 (by trivial)]; simp
 ·rw [atKey_put_other (fun h => e (by injection h)), h.2 t]; simp [e]
theorem lit_inj {a b : Int} (h : (DataW.lit (.int .i64 a) : DataW Unit) = .lit (.int .i64 b)) : b = a := by
 simp only [DataW.lit.injEq, Lit.int.injEq] at h
 exact h.2.symm
theorem slaw : Keyed Tryd.prog 9 := string_keyed Tryd.underlying9
theorem zero3 (w : World) : (zeroValue 3).run Tryd.prog w = .ok (.int .i64 0) w := by kernel_rfl
theorem grown_none' {W W' : World} (h : Below W.heap.size W W') : W.grownBy W' none := ⟨h.os, h.tape, h.output, h.size, fun k hk _ => h.block k hk⟩
theorem rd_65 (xs : List Vr) (i : Nat) (h : i < xs.length) : rd_T49 xs (i : Int) = xs[i] := by
 unfold rd_T49
 rw [Int.toNat_natCast, List.getD_eq_getElem?_getD, List.getElem?_eq_getElem h]; rfl
theorem rd_62 (xs : List Rw) (i : Nat) (h : i < xs.length) : rd_T41 xs (i : Int) = xs[i] := by
 unfold rd_T41
 rw [Int.toNat_natCast, List.getD_eq_getElem?_getD, List.getElem?_eq_getElem h]; rfl
theorem rd_59 (xs : List Tm) (i : Nat) (h : i < xs.length) : rd_T38 xs (i : Int) = xs[i] := by
 unfold rd_T38
 rw [Int.toNat_natCast, List.getD_eq_getElem?_getD, List.getElem?_eq_getElem h]; rfl
set_option maxHeartbeats 16000000 in
set_option maxRecDepth 100000 in
theorem table_Check.calls (k : Nat) (st hd sy : Int) (A3 : Option Addr) (c3 : Nat) (vs : List Vr) (A4 : Option Addr) (c4 : Nat) (rs : List Rw) (r : Int) (w : World) (hr3 : Kd.C k49 w A3 vs.length vs) (hc3 : vs.length ≤ c3) (hr4 : Kd.C k41 w A4 rs.length rs) (hc4 : rs.length ≤ c4) (h : table_Check.f k st hd sy vs rs = some r) :
  Calls Tryd.prog 7 #[.agg #[.int .i64 st, .int .u8 hd, .int .u8 sy, .slice A3 vs.length c3, .slice A4 rs.length c4]] w fun e w' => e = .returned (.int .i64 r) ∧ Below w.heap.size w w' := by
 have HR3 := Aside0.mk hr3
 have HR4 := Aside0.mk hr4
 have HC3 := Aside0.mk hc3
 have HC4 := Aside0.mk hc4
 clear hr3 hr4 hc3 hc4
 unfold table_Check.f at h
 by_cases h1 : st < 2
 ·rw [if_pos h1] at h
  obtain rfl := Option.some.inj h
  clear h
  go_enter Tryd.func7, Tryd.ntmps7
  go_wp2
  go_ret
  exact ⟨rfl, below_alloc (Below.refl _ _) _⟩
 ·rw [if_neg h1] at h
  by_cases h2 : 256 < st
  ·rw [if_pos h2] at h
   obtain rfl := Option.some.inj h
   clear h
   go_enter Tryd.func7, Tryd.ntmps7
   go_wp2
   go_ret
   exact ⟨rfl, below_alloc (Below.refl _ _) _⟩
  ·rw [if_neg h2] at h
   replace h := Option.bind_eq_some_iff.1 h
   obtain ⟨n, hn, h⟩ := h
   obtain ⟨n1, n2⟩ := n
   by_cases h3 : n2 = 0
   ·subst h3
    rw [if_pos rfl] at h
    replace h := Option.bind_eq_some_iff.1 h
    obtain ⟨e, he, h⟩ := h
    by_cases h4 : e = 0
    ·subst h4
     rw [if_pos rfl] at h
     have HN := Aside0.mk hn
     have HE := Aside0.mk he
     clear hn he
     by_cases h5 : 64 < (vs.length : Int)
     ·rw [if_pos h5] at h
      obtain rfl := Option.some.inj h
      clear h
      go_enter Tryd.func7, Tryd.ntmps7
      go_wp2_with (first | (go_at_call 19; go_must (refine (hood_Size.calls hd n1 0 _ HN.out).mono ?_; rintro e w1 ⟨rfl, hb1⟩; have HB1 := Aside0.mk (below_step (below_alloc (Below.refl w.heap.size w) _) hb1); have HX1 := Aside0.mk ((hb1.block _ (by simp)).trans (blk_new w (.cells #[.int .i64 st, .int .u8 hd, .int .u8 sy, .slice A3 vs.length c3, .slice A4 rs.length c4] 25))); clear hb1; have b0 := blk_cell HX1.out 0; have b1 := blk_cell HX1.out 1; have b2 := blk_cell HX1.out 2; have b3 := blk_cell HX1.out 3; have b4 := blk_cell HX1.out 4)) | (go_at_call 20; go_must (refine (table_may.calls k sy hd 0 _ HE.out).mono ?_; rintro e w2 ⟨rfl, hb2⟩; have HB2 := Aside0.mk (below_step HB1.out hb2); have HX2 := Aside0.mk ((hb2.block _ (blk_lt HX1.out)).trans HX1.out); clear hb2 b0 b1 b2 b3 b4; have b0 := blk_cell HX2.out 0; have b1 := blk_cell HX2.out 1; have b2 := blk_cell HX2.out 2; have b3 := blk_cell HX2.out 3; have b4 := blk_cell HX2.out 4; have hw2 : w.heap.size < w2.heap.size := blk_lt HX2.out)))
      go_ret
      exact ⟨rfl, HB2.out⟩
     ·rw [if_neg h5] at h
      by_cases h6 : 4096 < (rs.length : Int)
      ·rw [if_pos h6] at h
       obtain rfl := Option.some.inj h
       clear h
       go_enter Tryd.func7, Tryd.ntmps7
       go_wp2_with (first | (go_at_call 19; go_must (refine (hood_Size.calls hd n1 0 _ HN.out).mono ?_; rintro e w1 ⟨rfl, hb1⟩; have HB1 := Aside0.mk (below_step (below_alloc (Below.refl w.heap.size w) _) hb1); have HX1 := Aside0.mk ((hb1.block _ (by simp)).trans (blk_new w (.cells #[.int .i64 st, .int .u8 hd, .int .u8 sy, .slice A3 vs.length c3, .slice A4 rs.length c4] 25))); clear hb1; have b0 := blk_cell HX1.out 0; have b1 := blk_cell HX1.out 1; have b2 := blk_cell HX1.out 2; have b3 := blk_cell HX1.out 3; have b4 := blk_cell HX1.out 4)) | (go_at_call 20; go_must (refine (table_may.calls k sy hd 0 _ HE.out).mono ?_; rintro e w2 ⟨rfl, hb2⟩; have HB2 := Aside0.mk (below_step HB1.out hb2); have HX2 := Aside0.mk ((hb2.block _ (blk_lt HX1.out)).trans HX1.out); clear hb2 b0 b1 b2 b3 b4; have b0 := blk_cell HX2.out 0; have b1 := blk_cell HX2.out 1; have b2 := blk_cell HX2.out 2; have b3 := blk_cell HX2.out 3; have b4 := blk_cell HX2.out 4; have hw2 : w.heap.size < w2.heap.size := blk_lt HX2.out)))
       go_ret
       exact ⟨rfl, HB2.out⟩
      ·rw [if_neg h6] at h
       replace h := Option.bind_eq_some_iff.1 h
       obtain ⟨bv, hbv, h⟩ := h
       have HV := Aside0.mk hbv
       have HH := Aside0.mk h
       have h5b : decide (64 < (vs.length : Int)) = false := decide_eq_false h5
       have h6b : decide (4096 < (rs.length : Int)) = false := decide_eq_false h6
       have hvb : (vs.length : Int) ≤ 64 := by omega
       have hrb : (rs.length : Int) ≤ 4096 := by omega
       clear h hbv h5 h6
       have hmm := @run_makeMap Tryd.prog
       go_enter Tryd.func7, Tryd.ntmps7
       go_wp2_with (first | (go_at_call 19; go_must (refine (hood_Size.calls hd n1 0 _ HN.out).mono ?_; rintro e w1 ⟨rfl, hb1⟩; have HB1 := Aside0.mk (below_step (below_alloc (Below.refl w.heap.size w) _) hb1); have HX1 := Aside0.mk ((hb1.block _ (by simp)).trans (blk_new w (.cells #[.int .i64 st, .int .u8 hd, .int .u8 sy, .slice A3 vs.length c3, .slice A4 rs.length c4] 25))); clear hb1; have b0 := blk_cell HX1.out 0; have b1 := blk_cell HX1.out 1; have b2 := blk_cell HX1.out 2; have b3 := blk_cell HX1.out 3; have b4 := blk_cell HX1.out 4)) | (go_at_call 20; go_must (refine (table_may.calls k sy hd 0 _ HE.out).mono ?_; rintro e w2 ⟨rfl, hb2⟩; have HB2 := Aside0.mk (below_step HB1.out hb2); have HX2 := Aside0.mk ((hb2.block _ (blk_lt HX1.out)).trans HX1.out); clear hb2 b0 b1 b2 b3 b4; have b0 := blk_cell HX2.out 0; have b1 := blk_cell HX2.out 1; have b2 := blk_cell HX2.out 2; have b3 := blk_cell HX2.out 3; have b4 := blk_cell HX2.out 4; have hw2 : w.heap.size < w2.heap.size := blk_lt HX2.out)))
       have HBm : Aside0 (Below w.heap.size w (w2.alloc (.map #[] 0))) := ⟨below_alloc HB2.out _⟩
       have HXm := Aside0.mk (blk_alloc HX2.out (.map #[] 0))
       have HOm : Aside0 ((w2.alloc (.map #[] 0)).ownsMap Tryd.prog 9 (plainElem (H := Unit) Tryd.prog 3) w2.heap.size 0 (.map [])) := ⟨World.ownsMap_made _ _ _ _⟩
       clear b0 b1 b2 b3 b4
       have HMX := Aside0.mk hw2
       have HMS : Aside0 (w.heap.size ≤ w2.heap.size) := ⟨by omega⟩
       go_loopw [54] (fun v wr => ∃ (i : Nat) (seen : List (List UInt8)) (D : DataW Unit), i ≤ vs.length ∧ v = .int .i64 i ∧ Aside0 (chkV k st (vs.drop i) seen = some bv) ∧ Aside0 (NmD D seen) ∧ Aside0 (wr.ownsMap Tryd.prog 9 (plainElem (H := Unit) Tryd.prog 3) w2.heap.size i D) ∧ Aside0 (wr.heap[w.heap.size]? = some (.cells #[.int .i64 st, .int .u8 hd, .int .u8 sy, .slice A3 vs.length c3, .slice A4 rs.length c4] 25 (0, 0))) ∧ Aside0 (Below w.heap.size w wr)) (fun v wr => vs.length - (intOf v).toNat)
       case atStart => exact ⟨0, [], .map [], Nat.zero_le _, rfl, ⟨by rw [List.drop_zero]; exact HV.out⟩, ⟨nmd_nil⟩, HOm, HXm, HBm⟩
       case round =>
        rename World => wo
        obtain ⟨i, seen, D, hi, rfl, HQ, HD, HO, HX, HB⟩ := hrel
        clear HBm HXm HOm HV HB2 HX2 hw2
        have x0 := blk_cell HX.out 0
        have x3 := blk_cell HX.out 3
        have x4 := blk_cell HX.out 4
        have hwo : w.heap.size < wo.heap.size := blk_lt HX.out
        by_cases hlt : i < vs.length
        ·have q0 : (0 : Int) ≤ (i : Int) := by omega
         have q1 : (i : Int) < vs.length := by omega
         obtain ⟨ad, A1, c1, rfl, y0, y1, hyc, hyC⟩ := at_T49 HR3.out (i : Int) q0 q1
         replace y0 := pw_cell_below HB.out y0
         replace y1 := pw_cell_below HB.out y1
         rw [Int.toNat_natCast] at y0 y1
         rw [rd_65 vs i hlt] at y0 y1 hyc hyC
         have hq := HQ.out
         rw [List.drop_eq_getElem_cons hlt, chkV] at hq
         obtain ⟨v, hv⟩ : ∃ v, vs[i] = v := ⟨_, rfl⟩
         rw [hv] at y0 y1 hyc hyC hq
         by_cases hsz : v.f0.size ≤ 140737488351232 ∧ v.f1.length ≤ 140737488351232
         ·rw [if_pos hsz] at hq
          replace hq := Option.bind_eq_some_iff.1 hq
          obtain ⟨nb, hnb, hq⟩ := hq
          have hkey : keyOf Tryd.prog 9 (.string v.f0) = some (.string v.f0.data.toList) := Go.WideMaps.keyOf_string_mk Tryd.underlying9 (by unfold maxLen; omega)
          have HKEY := Aside0.mk hkey
          have HNB := Aside0.mk hnb
          have HLB := Aside0.mk hsz.2
          have HYC := Aside0.mk hyC
          clear hkey hnb hyC hv hsz HQ
          by_cases hm : v.f0.data.toList ∈ seen
          ·have HAT : Aside0 (D.atKey (.string v.f0.data.toList) (.lit (.int .i64 0)) = .lit (.int .i64 1)) := ⟨by rw [HD.out.2, if_pos hm]⟩
           have hbv : bv = false := by
            by_cases hz : nb = false
            ·rw [if_pos hz] at hq; exact (Option.some.inj hq).symm
            ·rw [if_neg hz, if_pos hm] at hq; exact (Option.some.inj hq).symm
           subst hbv
           have hr := HH.out
           rw [if_neg (by decide)] at hr
           obtain rfl := Option.some.inj hr
           have HAT2 : Aside0 ((D.put (.string v.f0.data.toList) (.lit (.int .i64 2))).atKey (.string v.f0.data.toList) (.lit (.int .i64 0)) = .lit (.int .i64 2)) := ⟨atKey_put_same HD.out.1 (by trivial) _ _⟩
           clear hq hr hm HH
           cases nb with
           | false =>
            go_wp2_with (first | ((with_reducible refine gate_dst (N := 61) rfl ?_); at_lookup; go_must (refine wpList_lookup_own_int _ rfl _ _ 51 rfl 9 3 .i64 slaw Tryd.underlying51 Tryd.underlying3 (zero3 _) w2.heap.size i D rfl (HO.out.alloc _) _ _ rfl HKEY.out ?_; intro cc hat hwf; rw [HAT.out] at hat; obtain rfl := lit_inj hat)) | (at_mapUpdate; go_must (refine wpList_mapUpdate_own _ rfl _ _ _ 51 rfl 9 3 slaw Tryd.underlying51 _ w2.heap.size i D rfl (HO.out.alloc _) (by unfold maxLen; omega) _ _ _ rfl rfl HKEY.out (.lit (.int .i64 2)) [] (plainElem_int Tryd.underlying3 (by decide)) ?_; intro w4 hown4 hgrow4; have hne4 : wo.heap.size ≠ w2.heap.size := (fun e => by have := HO.out.lt; omega); have HO4 := Aside0.mk hown4; have HV4 := Aside0.mk ((hgrow4.block wo.heap.size (by have h9 := World.size_alloc wo (.cells #[.string v.f0, .slice A1 v.f1.length c1] 49); omega) (fun e => hne4 (Option.some.inj e))).trans (blk_new wo (.cells #[.string v.f0, .slice A1 v.f1.length c1] 49))); have HB4 := Aside0.mk ((below_alloc HB.out (.cells #[.string v.f0, .slice A1 v.f1.length c1] 49)).grown hgrow4 (by have := HB.out.size; have h9 := World.size_alloc wo (.cells #[.string v.f0, .slice A1 v.f1.length c1] 49); omega) (fun j hj => by cases hj; exact HMS.out)); have HX4 := Aside0.mk ((hgrow4.block w.heap.size (by have h9 := World.size_alloc wo (.cells #[.string v.f0, .slice A1 v.f1.length c1] 49); omega) (fun e => by have h1 := Option.some.inj e; have := HMX.out; omega)).trans (blk_alloc HX.out (.cells #[.string v.f0, .slice A1 v.f1.length c1] 49))); have HG4 := Aside0.mk hgrow4; clear hown4 hgrow4 hne4 hat hwf x0 x3 x4 y0 y1; have z0 := blk_cell HV4.out 0; have z1 := blk_cell HV4.out 1)) | (go_at_call 21; go_must (refine (table_named.calls k v.f0 _ _ HNB.out).mono ?_; rintro e w5 ⟨rfl, hb5⟩; have HB5 := Aside0.mk (below_step HB4.out hb5); have HX5 := Aside0.mk ((hb5.block _ (blk_lt HX4.out)).trans HX4.out); have HV5 := Aside0.mk ((hb5.block _ (blk_lt HV4.out)).trans HV4.out); have HO5 := Aside0.mk (HO4.out.kept (grown_none' hb5) (by simp)); clear hb5 z0 z1; have z0 := blk_cell HV5.out 0; have z1 := blk_cell HV5.out 1)))
            go_ret
            exact ⟨rfl, HB5.out⟩
           | true =>
            go_wp2_with (first | ((with_reducible refine gate_dst (N := 61) rfl ?_); at_lookup; go_must (refine wpList_lookup_own_int _ rfl _ _ 51 rfl 9 3 .i64 slaw Tryd.underlying51 Tryd.underlying3 (zero3 _) w2.heap.size i D rfl (HO.out.alloc _) _ _ rfl HKEY.out ?_; intro cc hat hwf; rw [HAT.out] at hat; obtain rfl := lit_inj hat)) | (at_mapUpdate; go_must (refine wpList_mapUpdate_own _ rfl _ _ _ 51 rfl 9 3 slaw Tryd.underlying51 _ w2.heap.size i D rfl (HO.out.alloc _) (by unfold maxLen; omega) _ _ _ rfl rfl HKEY.out (.lit (.int .i64 2)) [] (plainElem_int Tryd.underlying3 (by decide)) ?_; intro w4 hown4 hgrow4; have hne4 : wo.heap.size ≠ w2.heap.size := (fun e => by have := HO.out.lt; omega); have HO4 := Aside0.mk hown4; have HV4 := Aside0.mk ((hgrow4.block wo.heap.size (by have h9 := World.size_alloc wo (.cells #[.string v.f0, .slice A1 v.f1.length c1] 49); omega) (fun e => hne4 (Option.some.inj e))).trans (blk_new wo (.cells #[.string v.f0, .slice A1 v.f1.length c1] 49))); have HB4 := Aside0.mk ((below_alloc HB.out (.cells #[.string v.f0, .slice A1 v.f1.length c1] 49)).grown hgrow4 (by have := HB.out.size; have h9 := World.size_alloc wo (.cells #[.string v.f0, .slice A1 v.f1.length c1] 49); omega) (fun j hj => by cases hj; exact HMS.out)); have HX4 := Aside0.mk ((hgrow4.block w.heap.size (by have h9 := World.size_alloc wo (.cells #[.string v.f0, .slice A1 v.f1.length c1] 49); omega) (fun e => by have h1 := Option.some.inj e; have := HMX.out; omega)).trans (blk_alloc HX.out (.cells #[.string v.f0, .slice A1 v.f1.length c1] 49))); have HG4 := Aside0.mk hgrow4; clear hown4 hgrow4 hne4 hat hwf x0 x3 x4 y0 y1; have z0 := blk_cell HV4.out 0; have z1 := blk_cell HV4.out 1)) | (go_at_call 21; go_must (refine (table_named.calls k v.f0 _ _ HNB.out).mono ?_; rintro e w5 ⟨rfl, hb5⟩; have HB5 := Aside0.mk (below_step HB4.out hb5); have HX5 := Aside0.mk ((hb5.block _ (blk_lt HX4.out)).trans HX4.out); have HV5 := Aside0.mk ((hb5.block _ (blk_lt HV4.out)).trans HV4.out); have HO5 := Aside0.mk (HO4.out.kept (grown_none' hb5) (by simp)); obtain ⟨c5, hrun5, hat5, hwf5⟩ := HO5.out.lookup_int slaw Tryd.underlying51 Tryd.underlying3 (zero3 _) HKEY.out; rw [HAT2.out] at hat5; obtain rfl := lit_inj hat5; clear hat5 hwf5; clear hb5 z0 z1; have z0 := blk_cell HV5.out 0; have z1 := blk_cell HV5.out 1)))
            go_ret
            exact ⟨rfl, HB5.out⟩
          ·have HAT : Aside0 (D.atKey (.string v.f0.data.toList) (.lit (.int .i64 0)) = .lit (.int .i64 0)) := ⟨by rw [HD.out.2, if_neg hm]⟩
           have HAT2 : Aside0 ((D.put (.string v.f0.data.toList) (.lit (.int .i64 1))).atKey (.string v.f0.data.toList) (.lit (.int .i64 0)) = .lit (.int .i64 1)) := ⟨atKey_put_same HD.out.1 (by trivial) _ _⟩
           cases nb with
           | false =>
            rw [if_pos rfl] at hq
            obtain rfl := Option.some.inj hq
            have hr := HH.out
            rw [if_neg (by decide)] at hr
            obtain rfl := Option.some.inj hr
            clear hq hr hm HH
            go_wp2_with (first | ((with_reducible refine gate_dst (N := 61) rfl ?_); at_lookup; go_must (refine wpList_lookup_own_int _ rfl _ _ 51 rfl 9 3 .i64 slaw Tryd.underlying51 Tryd.underlying3 (zero3 _) w2.heap.size i D rfl (HO.out.alloc _) _ _ rfl HKEY.out ?_; intro cc hat hwf; rw [HAT.out] at hat; obtain rfl := lit_inj hat)) | (at_mapUpdate; go_must (refine wpList_mapUpdate_own _ rfl _ _ _ 51 rfl 9 3 slaw Tryd.underlying51 _ w2.heap.size i D rfl (HO.out.alloc _) (by unfold maxLen; omega) _ _ _ rfl rfl HKEY.out (.lit (.int .i64 1)) [] (plainElem_int Tryd.underlying3 (by decide)) ?_; intro w4 hown4 hgrow4; have hne4 : wo.heap.size ≠ w2.heap.size := (fun e => by have := HO.out.lt; omega); have HO4 := Aside0.mk hown4; have HV4 := Aside0.mk ((hgrow4.block wo.heap.size (by have h9 := World.size_alloc wo (.cells #[.string v.f0, .slice A1 v.f1.length c1] 49); omega) (fun e => hne4 (Option.some.inj e))).trans (blk_new wo (.cells #[.string v.f0, .slice A1 v.f1.length c1] 49))); have HB4 := Aside0.mk ((below_alloc HB.out (.cells #[.string v.f0, .slice A1 v.f1.length c1] 49)).grown hgrow4 (by have := HB.out.size; have h9 := World.size_alloc wo (.cells #[.string v.f0, .slice A1 v.f1.length c1] 49); omega) (fun j hj => by cases hj; exact HMS.out)); have HX4 := Aside0.mk ((hgrow4.block w.heap.size (by have h9 := World.size_alloc wo (.cells #[.string v.f0, .slice A1 v.f1.length c1] 49); omega) (fun e => by have h1 := Option.some.inj e; have := HMX.out; omega)).trans (blk_alloc HX.out (.cells #[.string v.f0, .slice A1 v.f1.length c1] 49))); have HG4 := Aside0.mk hgrow4; clear hown4 hgrow4 hne4 hat hwf x0 x3 x4 y0 y1; have z0 := blk_cell HV4.out 0; have z1 := blk_cell HV4.out 1)) | (go_at_call 21; go_must (refine (table_named.calls k v.f0 _ _ HNB.out).mono ?_; rintro e w5 ⟨rfl, hb5⟩; have HB5 := Aside0.mk (below_step HB4.out hb5); have HX5 := Aside0.mk ((hb5.block _ (blk_lt HX4.out)).trans HX4.out); have HV5 := Aside0.mk ((hb5.block _ (blk_lt HV4.out)).trans HV4.out); have HO5 := Aside0.mk (HO4.out.kept (grown_none' hb5) (by simp)); clear hb5 z0 z1; have z0 := blk_cell HV5.out 0; have z1 := blk_cell HV5.out 1)))
            go_ret
            exact ⟨rfl, HB5.out⟩
           | true =>
            rw [if_neg (by decide), if_neg hm] at hq
            clear hm
            by_cases hl : v.f1.length = 0
            ·rw [if_pos hl] at hq
             obtain rfl := Option.some.inj hq
             have hr := HH.out
             rw [if_neg (by decide)] at hr
             obtain rfl := Option.some.inj hr
             have hl2 : ((v.f1.length : Int) == 0) = true := by rw [beq_iff_eq]; omega
             clear hq hr HH hl
             go_wp2_with (first | ((with_reducible refine gate_dst (N := 61) rfl ?_); at_lookup; go_must (refine wpList_lookup_own_int _ rfl _ _ 51 rfl 9 3 .i64 slaw Tryd.underlying51 Tryd.underlying3 (zero3 _) w2.heap.size i D rfl (HO.out.alloc _) _ _ rfl HKEY.out ?_; intro cc hat hwf; rw [HAT.out] at hat; obtain rfl := lit_inj hat)) | (at_mapUpdate; go_must (refine wpList_mapUpdate_own _ rfl _ _ _ 51 rfl 9 3 slaw Tryd.underlying51 _ w2.heap.size i D rfl (HO.out.alloc _) (by unfold maxLen; omega) _ _ _ rfl rfl HKEY.out (.lit (.int .i64 1)) [] (plainElem_int Tryd.underlying3 (by decide)) ?_; intro w4 hown4 hgrow4; have hne4 : wo.heap.size ≠ w2.heap.size := (fun e => by have := HO.out.lt; omega); have HO4 := Aside0.mk hown4; have HV4 := Aside0.mk ((hgrow4.block wo.heap.size (by have h9 := World.size_alloc wo (.cells #[.string v.f0, .slice A1 v.f1.length c1] 49); omega) (fun e => hne4 (Option.some.inj e))).trans (blk_new wo (.cells #[.string v.f0, .slice A1 v.f1.length c1] 49))); have HB4 := Aside0.mk ((below_alloc HB.out (.cells #[.string v.f0, .slice A1 v.f1.length c1] 49)).grown hgrow4 (by have := HB.out.size; have h9 := World.size_alloc wo (.cells #[.string v.f0, .slice A1 v.f1.length c1] 49); omega) (fun j hj => by cases hj; exact HMS.out)); have HX4 := Aside0.mk ((hgrow4.block w.heap.size (by have h9 := World.size_alloc wo (.cells #[.string v.f0, .slice A1 v.f1.length c1] 49); omega) (fun e => by have h1 := Option.some.inj e; have := HMX.out; omega)).trans (blk_alloc HX.out (.cells #[.string v.f0, .slice A1 v.f1.length c1] 49))); have HG4 := Aside0.mk hgrow4; clear hown4 hgrow4 hne4 hat hwf x0 x3 x4 y0 y1; have z0 := blk_cell HV4.out 0; have z1 := blk_cell HV4.out 1)) | (go_at_call 21; go_must (refine (table_named.calls k v.f0 _ _ HNB.out).mono ?_; rintro e w5 ⟨rfl, hb5⟩; have HB5 := Aside0.mk (below_step HB4.out hb5); have HX5 := Aside0.mk ((hb5.block _ (blk_lt HX4.out)).trans HX4.out); have HV5 := Aside0.mk ((hb5.block _ (blk_lt HV4.out)).trans HV4.out); have HO5 := Aside0.mk (HO4.out.kept (grown_none' hb5) (by simp)); obtain ⟨c5, hrun5, hat5, hwf5⟩ := HO5.out.lookup_int slaw Tryd.underlying51 Tryd.underlying3 (zero3 _) HKEY.out; rw [HAT2.out] at hat5; obtain rfl := lit_inj hat5; clear hat5 hwf5; clear hb5 z0 z1; have z0 := blk_cell HV5.out 0; have z1 := blk_cell HV5.out 1)))
             go_ret
             exact ⟨rfl, HB5.out⟩
            ·rw [if_neg hl] at hq
             have hl2 : ((v.f1.length : Int) == 0) = false := by rw [beq_eq_false_iff_ne]; omega
             have HQ := Aside0.mk hq
             clear hq hl
             go_wp2_with (first | ((with_reducible refine gate_dst (N := 61) rfl ?_); at_lookup; go_must (refine wpList_lookup_own_int _ rfl _ _ 51 rfl 9 3 .i64 slaw Tryd.underlying51 Tryd.underlying3 (zero3 _) w2.heap.size i D rfl (HO.out.alloc _) _ _ rfl HKEY.out ?_; intro cc hat hwf; rw [HAT.out] at hat; obtain rfl := lit_inj hat)) | (at_mapUpdate; go_must (refine wpList_mapUpdate_own _ rfl _ _ _ 51 rfl 9 3 slaw Tryd.underlying51 _ w2.heap.size i D rfl (HO.out.alloc _) (by unfold maxLen; omega) _ _ _ rfl rfl HKEY.out (.lit (.int .i64 1)) [] (plainElem_int Tryd.underlying3 (by decide)) ?_; intro w4 hown4 hgrow4; have hne4 : wo.heap.size ≠ w2.heap.size := (fun e => by have := HO.out.lt; omega); have HO4 := Aside0.mk hown4; have HV4 := Aside0.mk ((hgrow4.block wo.heap.size (by have h9 := World.size_alloc wo (.cells #[.string v.f0, .slice A1 v.f1.length c1] 49); omega) (fun e => hne4 (Option.some.inj e))).trans (blk_new wo (.cells #[.string v.f0, .slice A1 v.f1.length c1] 49))); have HB4 := Aside0.mk ((below_alloc HB.out (.cells #[.string v.f0, .slice A1 v.f1.length c1] 49)).grown hgrow4 (by have := HB.out.size; have h9 := World.size_alloc wo (.cells #[.string v.f0, .slice A1 v.f1.length c1] 49); omega) (fun j hj => by cases hj; exact HMS.out)); have HX4 := Aside0.mk ((hgrow4.block w.heap.size (by have h9 := World.size_alloc wo (.cells #[.string v.f0, .slice A1 v.f1.length c1] 49); omega) (fun e => by have h1 := Option.some.inj e; have := HMX.out; omega)).trans (blk_alloc HX.out (.cells #[.string v.f0, .slice A1 v.f1.length c1] 49))); have HG4 := Aside0.mk hgrow4; clear hown4 hgrow4 hne4 hat hwf x0 x3 x4 y0 y1; have z0 := blk_cell HV4.out 0; have z1 := blk_cell HV4.out 1)) | (go_at_call 21; go_must (refine (table_named.calls k v.f0 _ _ HNB.out).mono ?_; rintro e w5 ⟨rfl, hb5⟩; have HB5 := Aside0.mk (below_step HB4.out hb5); have HX5 := Aside0.mk ((hb5.block _ (blk_lt HX4.out)).trans HX4.out); have HV5 := Aside0.mk ((hb5.block _ (blk_lt HV4.out)).trans HV4.out); have HO5 := Aside0.mk (HO4.out.kept (grown_none' hb5) (by simp)); obtain ⟨c5, hrun5, hat5, hwf5⟩ := HO5.out.lookup_int slaw Tryd.underlying51 Tryd.underlying3 (zero3 _) HKEY.out; rw [HAT2.out] at hat5; obtain rfl := lit_inj hat5; clear hat5 hwf5; clear hb5 z0 z1; have z0 := blk_cell HV5.out 0; have z1 := blk_cell HV5.out 1)))
             obtain ⟨L, hL⟩ : ∃ L, v.f1 = L := ⟨_, rfl⟩
             rw [hL] at HQ z1 HV5 HYC hl2 HLB
             have HLC := Aside0.mk (Kd.C_below HYC.out HB5.out)
             have x0 := blk_cell HX5.out 0
             have x5 : w.heap.size < w5.heap.size := blk_lt HX5.out
             rw [hL]
             clear hL
             go_loop [83] (fun v => ∃ j : Nat, j ≤ L.length ∧ v = .int .i64 j ∧ Aside0 (∀ m, m < j → okS st L m = true)) (fun v => L.length - (intOf v).toNat)
             case atStart => exact ⟨0, Nat.zero_le _, rfl, ⟨fun m hm => absurd hm (Nat.not_lt_zero _)⟩⟩
             case round =>
              obtain ⟨j, hj, rfl, HN⟩ := hrel
              have hLb : (L.length : Int) ≤ 140737488351232 := by have := HLB.out; omega
              by_cases hjl : j < L.length
              ·have p0 : (0 : Int) ≤ (j : Int) := by omega
               have p1 : (j : Int) < L.length := by omega
               have p2 : (j : Int) ≤ 140737488351232 := by omega
               obtain ⟨aL, rfl, cL⟩ := Kd.at_int HLC.out (j : Int) p0 p1
               rw [Int.toNat_natCast] at cL
               clear hLb
               by_cases ha : wrap64 (rd L (j : Int)) < st
               ·have ha2 : decide (st ≤ wrap64 (rd L (j : Int))) = false := decide_eq_false (by omega)
                by_cases hj0 : j = 0
                ·have hok : okS st L j = true := by unfold okS; rw [decide_eq_true ha, hj0]; rfl
                 have HN2 : Aside0 (∀ m, m < j + 1 → okS st L m = true) := ⟨fun m hm => by
                  rcases Nat.lt_succ_iff_lt_or_eq.1 hm with h | h
                  ·exact HN.out m h
                  ·rw [h]; exact hok⟩
                 have HJ0 := Aside0.mk hj0
                 clear ha hj0 hok HN
                 obtain ⟨s, hs⟩ : ∃ s, rd L (j : Int) = s := ⟨_, rfl⟩
                 rw [hs] at cL ha2
                 clear hs
                 go_wp2
                 try any_goals (exfalso; have hh := HJ0.out; omega)
                 go_round
                 case rel => exact ⟨j + 1, by omega, by go_num, HN2⟩
                 case measure => simp [intOf]; omega
                ·have p3 : (1 : Int) ≤ (j : Int) := by omega
                 obtain ⟨aL', e5, cM⟩ := Kd.at_int HLC.out ((j : Int) - 1) (by omega) (by omega)
                 obtain rfl : aL = aL' := Option.some.inj e5
                 rw [show ((j : Int) - 1).toNat = j - 1 from by omega] at cM
                 have p4 : (j : Int) - 1 < L.length := by omega
                 by_cases hb : rd L ((j : Int) - 1) < rd L (j : Int)
                 ·have hb2 : decide (rd L (j : Int) ≤ rd L ((j : Int) - 1)) = false := decide_eq_false (by omega)
                  have hok : okS st L j = true := by unfold okS; rw [decide_eq_true ha, decide_eq_true hb, Bool.or_true]; rfl
                  have HN2 : Aside0 (∀ m, m < j + 1 → okS st L m = true) := ⟨fun m hm => by
                   rcases Nat.lt_succ_iff_lt_or_eq.1 hm with h | h
                   ·exact HN.out m h
                   ·rw [h]; exact hok⟩
                  have HJ0 := Aside0.mk hj0
                  clear ha hj0 hok HN hb e5
                  obtain ⟨s, hs⟩ : ∃ s, rd L (j : Int) = s := ⟨_, rfl⟩
                  obtain ⟨s', hs'⟩ : ∃ s, rd L ((j : Int) - 1) = s := ⟨_, rfl⟩
                  rw [hs] at cL ha2 hb2
                  rw [hs'] at cM hb2
                  clear hs hs'
                  go_wp2
                  try any_goals (exfalso; have hh := HJ0.out; omega)
                  go_round
                  case rel => exact ⟨j + 1, by omega, by go_num, HN2⟩
                  case measure => simp [intOf]; omega
                 ·have hb2 : decide (rd L (j : Int) ≤ rd L ((j : Int) - 1)) = true := decide_eq_true (by omega)
                  have hok : okS st L j = false := by unfold okS; rw [decide_eq_false hb, show (j == 0) = false from by rw [beq_eq_false_iff_ne]; exact hj0]; cases decide (wrap64 (rd L (j : Int)) < st) <;> rfl
                  have hq := HQ.out
                  rw [ris_no hjl hok, if_neg (by decide)] at hq
                  obtain rfl := Option.some.inj hq
                  have hr := HH.out
                  rw [if_neg (by decide)] at hr
                  obtain rfl := Option.some.inj hr
                  have HJ0 := Aside0.mk hj0
                  clear ha hj0 hok HN hb e5 hq hr HH
                  obtain ⟨s, hs⟩ : ∃ s, rd L (j : Int) = s := ⟨_, rfl⟩
                  obtain ⟨s', hs'⟩ : ∃ s, rd L ((j : Int) - 1) = s := ⟨_, rfl⟩
                  rw [hs] at cL ha2 hb2
                  rw [hs'] at cM hb2
                  clear hs hs' HQ
                  go_wp2
                  try any_goals (exfalso; have hh := HJ0.out; omega)
                  go_ret
                  exact ⟨rfl, HB5.out⟩
               ·have ha2 : decide (st ≤ wrap64 (rd L (j : Int))) = true := decide_eq_true (by omega)
                have hok : okS st L j = false := by unfold okS; rw [decide_eq_false ha]; rfl
                have hq := HQ.out
                rw [ris_no hjl hok, if_neg (by decide)] at hq
                obtain rfl := Option.some.inj hq
                have hr := HH.out
                rw [if_neg (by decide)] at hr
                obtain rfl := Option.some.inj hr
                clear ha hok HN hq hr HH
                obtain ⟨s, hs⟩ : ∃ s, rd L (j : Int) = s := ⟨_, rfl⟩
                rw [hs] at cL ha2
                clear hs HQ
                go_wp2
                go_ret
                exact ⟨rfl, HB5.out⟩
              ·have hq := HQ.out
               rw [ris_yes (fun m hm => HN.out m (by omega)), if_pos rfl] at hq
               have HQ2 := Aside0.mk hq
               have HD2 := Aside0.mk (nmd_put HD.out v.f0.data.toList)
               clear hq HQ HN hLb
               go_wp2
               go_round
               case rel => exact ⟨i + 1, _, _, by omega, by go_num, HQ2, HD2, HO5, HX5, HB5⟩
               case measure => simp [intOf]; omega
         ·rw [if_neg hsz] at hq; cases hq
        ·have hq := HQ.out
         rw [List.drop_eq_nil_of_le (by omega), chkV] at hq
         obtain rfl := Option.some.inj hq
         have hr := HH.out
         rw [if_pos rfl] at hr
         replace hr := Option.bind_eq_some_iff.1 hr
         obtain ⟨br, hbr, hr⟩ := hr
         have HBR := Aside0.mk hbr
         have HRR := Aside0.mk hr
         clear hq hr hbr HQ HH HD HO
         go_wp2
         clear x0 x3 x4
         go_loopw [112] (fun v wr => ∃ m : Nat, m ≤ rs.length ∧ v = .int .i64 m ∧ Aside0 (chkR k st hd sy vs rs n1 (rs.drop m) = some br) ∧ Aside0 (wr.heap[w.heap.size]? = some (.cells #[.int .i64 st, .int .u8 hd, .int .u8 sy, .slice A3 vs.length c3, .slice A4 rs.length c4] 25 (0, 0))) ∧ Aside0 (Below w.heap.size w wr)) (fun v wr => rs.length - (intOf v).toNat)
         case atStart => exact ⟨0, Nat.zero_le _, rfl, ⟨by rw [List.drop_zero]; exact HBR.out⟩, HX, HB⟩
         case round =>
          clear HX HB hwo HBR
          rename World => wp
          obtain ⟨m, hm, rfl, HQ, HX, HB⟩ := hrel
          have x0 := blk_cell HX.out 0
          have x1 := blk_cell HX.out 1
          have x2 := blk_cell HX.out 2
          have x3 := blk_cell HX.out 3
          have x4 := blk_cell HX.out 4
          have hwp : w.heap.size < wp.heap.size := blk_lt HX.out
          by_cases hmt : m < rs.length
          ·have q0 : (0 : Int) ≤ (m : Int) := by omega
           have q1 : (m : Int) < rs.length := by omega
           have q2 : (m : Int) ≤ 4096 := by omega
           obtain ⟨ad, A2, c2, rfl, y0, y1, y2, y3, y4, hyc, hyC⟩ := at_T41 HR4.out (m : Int) q0 q1
           rw [Int.toNat_natCast] at y0 y1 y2 y3 y4
           rw [rd_62 rs m hmt] at y0 y1 y2 y3 y4 hyc hyC
           replace y0 := pw_cell_below HB.out y0
           replace y1 := pw_cell_below HB.out y1
           replace y2 := pw_cell_below HB.out y2
           replace y3 := pw_cell_below HB.out y3
           replace y4 := pw_cell_below HB.out y4
           have hq := HQ.out
           rw [List.drop_eq_getElem_cons hmt, chkR] at hq
           obtain ⟨ro, hro⟩ : ∃ ro, rs[m] = ro := ⟨_, rfl⟩
           rw [hro] at y0 y1 y2 y3 y4 hyc hyC hq
           have HYC := Aside0.mk hyC
           have HYL := Aside0.mk hyc
           clear hyC hyc hro HQ
           by_cases hl : (ro.f1.length : Int) = n1
           ·rw [if_pos hl] at hq
            have hrow : n1 ≤ 1000 := by
             by_cases hz : n1 ≤ 1000
             ·exact hz
             ·rw [if_neg hz] at hq; cases hq
            rw [if_pos hrow] at hq
            subst hl
            have HROW := Aside0.mk hrow
            clear hrow
            replace hq := Option.bind_eq_some_iff.1 hq
            obtain ⟨b1, hb1, hq⟩ := hq
            have HT1 := Aside0.mk hb1
            clear hb1
            cases b1 with
            | false =>
             rw [if_neg (by decide)] at hq
             obtain rfl := Option.some.inj hq
             have hr := HRR.out
             rw [if_neg (by decide)] at hr
             obtain rfl := Option.some.inj hr
             clear hq hr HRR
             go_wp2_with (first | (go_at_call 22; (with_reducible refine (table_term.calls st hd sy _ c3 vs _ c4 rs ro.f0.f0 ro.f0.f1 _ _ (Kd.C_below HR3.out (below_alloc HB.out (.cells #[.int .u8 ro.f0.f0, .int .i64 ro.f0.f1, .slice A2 ro.f1.length c2, .int .u8 ro.f2.f0, .int .i64 ro.f2.f1] 41))) HC3.out (Kd.C_below HR4.out (below_alloc HB.out (.cells #[.int .u8 ro.f0.f0, .int .i64 ro.f0.f1, .slice A2 ro.f1.length c2, .int .u8 ro.f2.f0, .int .i64 ro.f2.f1] 41))) HC4.out HT1.out).mono ?_); go_must (rintro e w3 ⟨rfl, hb3⟩; have HB3 := Aside0.mk (below_step (below_alloc HB.out (.cells #[.int .u8 ro.f0.f0, .int .i64 ro.f0.f1, .slice A2 ro.f1.length c2, .int .u8 ro.f2.f0, .int .i64 ro.f2.f1] 41)) hb3); have HX3 := Aside0.mk ((hb3.block _ (by have h9 := blk_lt HX.out; simp; try omega)).trans (blk_alloc HX.out (.cells #[.int .u8 ro.f0.f0, .int .i64 ro.f0.f1, .slice A2 ro.f1.length c2, .int .u8 ro.f2.f0, .int .i64 ro.f2.f1] 41))); have HZ3 := Aside0.mk ((hb3.block _ (by have h9 := blk_lt HX.out; simp; try omega)).trans (blk_new wp (.cells #[.int .u8 ro.f0.f0, .int .i64 ro.f0.f1, .slice A2 ro.f1.length c2, .int .u8 ro.f2.f0, .int .i64 ro.f2.f1] 41))); clear hb3 x0 x1 x2 x3 x4 y0 y1 y2 y3 y4; have k0 := blk_cell HX3.out 0; have k1 := blk_cell HX3.out 1; have k2 := blk_cell HX3.out 2; have k3 := blk_cell HX3.out 3; have k4 := blk_cell HX3.out 4; have l0 := blk_cell HZ3.out 0; have l1 := blk_cell HZ3.out 1; have l2 := blk_cell HZ3.out 2; have l3 := blk_cell HZ3.out 3; have l4 := blk_cell HZ3.out 4)))
             go_ret
             exact ⟨rfl, HB3.out⟩
            | true =>
             rw [if_pos rfl] at hq
             replace hq := Option.bind_eq_some_iff.1 hq
             obtain ⟨b2, hb2, hq⟩ := hq
             have HT2 := Aside0.mk hb2
             clear hb2
             cases b2 with
             | false =>
              rw [if_neg (by decide)] at hq
              obtain rfl := Option.some.inj hq
              have hr := HRR.out
              rw [if_neg (by decide)] at hr
              obtain rfl := Option.some.inj hr
              clear hq hr HRR
              go_wp2_with (first | (go_at_call 22; (with_reducible refine (table_term.calls st hd sy _ c3 vs _ c4 rs ro.f0.f0 ro.f0.f1 _ _ (Kd.C_below HR3.out (below_alloc HB.out (.cells #[.int .u8 ro.f0.f0, .int .i64 ro.f0.f1, .slice A2 ro.f1.length c2, .int .u8 ro.f2.f0, .int .i64 ro.f2.f1] 41))) HC3.out (Kd.C_below HR4.out (below_alloc HB.out (.cells #[.int .u8 ro.f0.f0, .int .i64 ro.f0.f1, .slice A2 ro.f1.length c2, .int .u8 ro.f2.f0, .int .i64 ro.f2.f1] 41))) HC4.out HT1.out).mono ?_); go_must (rintro e w3 ⟨rfl, hb3⟩; have HB3 := Aside0.mk (below_step (below_alloc HB.out (.cells #[.int .u8 ro.f0.f0, .int .i64 ro.f0.f1, .slice A2 ro.f1.length c2, .int .u8 ro.f2.f0, .int .i64 ro.f2.f1] 41)) hb3); have HX3 := Aside0.mk ((hb3.block _ (by have h9 := blk_lt HX.out; simp; try omega)).trans (blk_alloc HX.out (.cells #[.int .u8 ro.f0.f0, .int .i64 ro.f0.f1, .slice A2 ro.f1.length c2, .int .u8 ro.f2.f0, .int .i64 ro.f2.f1] 41))); have HZ3 := Aside0.mk ((hb3.block _ (by have h9 := blk_lt HX.out; simp; try omega)).trans (blk_new wp (.cells #[.int .u8 ro.f0.f0, .int .i64 ro.f0.f1, .slice A2 ro.f1.length c2, .int .u8 ro.f2.f0, .int .i64 ro.f2.f1] 41))); clear hb3 x0 x1 x2 x3 x4 y0 y1 y2 y3 y4; have k0 := blk_cell HX3.out 0; have k1 := blk_cell HX3.out 1; have k2 := blk_cell HX3.out 2; have k3 := blk_cell HX3.out 3; have k4 := blk_cell HX3.out 4; have l0 := blk_cell HZ3.out 0; have l1 := blk_cell HZ3.out 1; have l2 := blk_cell HZ3.out 2; have l3 := blk_cell HZ3.out 3; have l4 := blk_cell HZ3.out 4)) | (go_at_call 22; (with_reducible refine (table_term.calls st hd sy _ c3 vs _ c4 rs ro.f2.f0 ro.f2.f1 _ _ (Kd.C_below HR3.out HB3.out) HC3.out (Kd.C_below HR4.out HB3.out) HC4.out HT2.out).mono ?_); go_must (rintro e w4 ⟨rfl, hb4⟩; have HB4 := Aside0.mk (below_step HB3.out hb4); have HX4 := Aside0.mk ((hb4.block _ (blk_lt HX3.out)).trans HX3.out); have HZ4 := Aside0.mk ((hb4.block _ (blk_lt HZ3.out)).trans HZ3.out); clear hb4 k0 k1 k2 k3 k4 l0 l1 l2 l3 l4; have k0 := blk_cell HX4.out 0; have k1 := blk_cell HX4.out 1; have k2 := blk_cell HX4.out 2; have k3 := blk_cell HX4.out 3; have k4 := blk_cell HX4.out 4; have l0 := blk_cell HZ4.out 0; have l1 := blk_cell HZ4.out 1; have l2 := blk_cell HZ4.out 2; have l3 := blk_cell HZ4.out 3; have l4 := blk_cell HZ4.out 4)))
              go_ret
              exact ⟨rfl, HB4.out⟩
             | true =>
              rw [if_pos rfl] at hq
              replace hq := Option.bind_eq_some_iff.1 hq
              obtain ⟨b3, hb3, hq⟩ := hq
              have HT3 := Aside0.mk hb3
              clear hb3
              cases b3 with
              | false =>
               rw [if_neg (by decide)] at hq
               obtain rfl := Option.some.inj hq
               have hr := HRR.out
               rw [if_neg (by decide)] at hr
               obtain rfl := Option.some.inj hr
               clear hq hr HRR
               go_wp2_with (first | (go_at_call 22; (with_reducible refine (table_term.calls st hd sy _ c3 vs _ c4 rs ro.f0.f0 ro.f0.f1 _ _ (Kd.C_below HR3.out (below_alloc HB.out (.cells #[.int .u8 ro.f0.f0, .int .i64 ro.f0.f1, .slice A2 ro.f1.length c2, .int .u8 ro.f2.f0, .int .i64 ro.f2.f1] 41))) HC3.out (Kd.C_below HR4.out (below_alloc HB.out (.cells #[.int .u8 ro.f0.f0, .int .i64 ro.f0.f1, .slice A2 ro.f1.length c2, .int .u8 ro.f2.f0, .int .i64 ro.f2.f1] 41))) HC4.out HT1.out).mono ?_); go_must (rintro e w3 ⟨rfl, hb3⟩; have HB3 := Aside0.mk (below_step (below_alloc HB.out (.cells #[.int .u8 ro.f0.f0, .int .i64 ro.f0.f1, .slice A2 ro.f1.length c2, .int .u8 ro.f2.f0, .int .i64 ro.f2.f1] 41)) hb3); have HX3 := Aside0.mk ((hb3.block _ (by have h9 := blk_lt HX.out; simp; try omega)).trans (blk_alloc HX.out (.cells #[.int .u8 ro.f0.f0, .int .i64 ro.f0.f1, .slice A2 ro.f1.length c2, .int .u8 ro.f2.f0, .int .i64 ro.f2.f1] 41))); have HZ3 := Aside0.mk ((hb3.block _ (by have h9 := blk_lt HX.out; simp; try omega)).trans (blk_new wp (.cells #[.int .u8 ro.f0.f0, .int .i64 ro.f0.f1, .slice A2 ro.f1.length c2, .int .u8 ro.f2.f0, .int .i64 ro.f2.f1] 41))); clear hb3 x0 x1 x2 x3 x4 y0 y1 y2 y3 y4; have k0 := blk_cell HX3.out 0; have k1 := blk_cell HX3.out 1; have k2 := blk_cell HX3.out 2; have k3 := blk_cell HX3.out 3; have k4 := blk_cell HX3.out 4; have l0 := blk_cell HZ3.out 0; have l1 := blk_cell HZ3.out 1; have l2 := blk_cell HZ3.out 2; have l3 := blk_cell HZ3.out 3; have l4 := blk_cell HZ3.out 4)) | (go_at_call 22; (with_reducible refine (table_term.calls st hd sy _ c3 vs _ c4 rs ro.f2.f0 ro.f2.f1 _ _ (Kd.C_below HR3.out HB3.out) HC3.out (Kd.C_below HR4.out HB3.out) HC4.out HT2.out).mono ?_); go_must (rintro e w4 ⟨rfl, hb4⟩; have HB4 := Aside0.mk (below_step HB3.out hb4); have HX4 := Aside0.mk ((hb4.block _ (blk_lt HX3.out)).trans HX3.out); have HZ4 := Aside0.mk ((hb4.block _ (blk_lt HZ3.out)).trans HZ3.out); clear hb4 k0 k1 k2 k3 k4 l0 l1 l2 l3 l4; have k0 := blk_cell HX4.out 0; have k1 := blk_cell HX4.out 1; have k2 := blk_cell HX4.out 2; have k3 := blk_cell HX4.out 3; have k4 := blk_cell HX4.out 4; have l0 := blk_cell HZ4.out 0; have l1 := blk_cell HZ4.out 1; have l2 := blk_cell HZ4.out 2; have l3 := blk_cell HZ4.out 3; have l4 := blk_cell HZ4.out 4)) | (go_at_call 23; go_must (refine (table_bound.calls k ro.f0.f0 ro.f0.f1 A2 c2 ro.f1 ro.f2.f0 ro.f2.f1 _ _ (Kd.C_below HYC.out HB4.out) HYL.out HT3.out).mono ?_; rintro e w5 ⟨rfl, hb5⟩; have HB5 := Aside0.mk (below_step HB4.out hb5); have HX5 := Aside0.mk ((hb5.block _ (blk_lt HX4.out)).trans HX4.out); have HZ5 := Aside0.mk ((hb5.block _ (blk_lt HZ4.out)).trans HZ4.out); clear hb5 k0 k1 k2 k3 k4 l0 l1 l2 l3 l4; have k0 := blk_cell HX5.out 0; have k1 := blk_cell HX5.out 1; have k2 := blk_cell HX5.out 2; have k3 := blk_cell HX5.out 3; have k4 := blk_cell HX5.out 4; have l0 := blk_cell HZ5.out 0; have l1 := blk_cell HZ5.out 1; have l2 := blk_cell HZ5.out 2; have l3 := blk_cell HZ5.out 3; have l4 := blk_cell HZ5.out 4)))
               go_ret
               exact ⟨rfl, HB5.out⟩
              | true =>
               rw [if_pos rfl] at hq
               replace hq := Option.bind_eq_some_iff.1 hq
               obtain ⟨bt, hbt, hq⟩ := hq
               have HTS := Aside0.mk hbt
               have HQ2 := Aside0.mk hq
               clear hbt hq
               go_wp2_with (first | (go_at_call 22; (with_reducible refine (table_term.calls st hd sy _ c3 vs _ c4 rs ro.f0.f0 ro.f0.f1 _ _ (Kd.C_below HR3.out (below_alloc HB.out (.cells #[.int .u8 ro.f0.f0, .int .i64 ro.f0.f1, .slice A2 ro.f1.length c2, .int .u8 ro.f2.f0, .int .i64 ro.f2.f1] 41))) HC3.out (Kd.C_below HR4.out (below_alloc HB.out (.cells #[.int .u8 ro.f0.f0, .int .i64 ro.f0.f1, .slice A2 ro.f1.length c2, .int .u8 ro.f2.f0, .int .i64 ro.f2.f1] 41))) HC4.out HT1.out).mono ?_); go_must (rintro e w3 ⟨rfl, hb3⟩; have HB3 := Aside0.mk (below_step (below_alloc HB.out (.cells #[.int .u8 ro.f0.f0, .int .i64 ro.f0.f1, .slice A2 ro.f1.length c2, .int .u8 ro.f2.f0, .int .i64 ro.f2.f1] 41)) hb3); have HX3 := Aside0.mk ((hb3.block _ (by have h9 := blk_lt HX.out; simp; try omega)).trans (blk_alloc HX.out (.cells #[.int .u8 ro.f0.f0, .int .i64 ro.f0.f1, .slice A2 ro.f1.length c2, .int .u8 ro.f2.f0, .int .i64 ro.f2.f1] 41))); have HZ3 := Aside0.mk ((hb3.block _ (by have h9 := blk_lt HX.out; simp; try omega)).trans (blk_new wp (.cells #[.int .u8 ro.f0.f0, .int .i64 ro.f0.f1, .slice A2 ro.f1.length c2, .int .u8 ro.f2.f0, .int .i64 ro.f2.f1] 41))); clear hb3 x0 x1 x2 x3 x4 y0 y1 y2 y3 y4; have k0 := blk_cell HX3.out 0; have k1 := blk_cell HX3.out 1; have k2 := blk_cell HX3.out 2; have k3 := blk_cell HX3.out 3; have k4 := blk_cell HX3.out 4; have l0 := blk_cell HZ3.out 0; have l1 := blk_cell HZ3.out 1; have l2 := blk_cell HZ3.out 2; have l3 := blk_cell HZ3.out 3; have l4 := blk_cell HZ3.out 4)) | (go_at_call 22; (with_reducible refine (table_term.calls st hd sy _ c3 vs _ c4 rs ro.f2.f0 ro.f2.f1 _ _ (Kd.C_below HR3.out HB3.out) HC3.out (Kd.C_below HR4.out HB3.out) HC4.out HT2.out).mono ?_); go_must (rintro e w4 ⟨rfl, hb4⟩; have HB4 := Aside0.mk (below_step HB3.out hb4); have HX4 := Aside0.mk ((hb4.block _ (blk_lt HX3.out)).trans HX3.out); have HZ4 := Aside0.mk ((hb4.block _ (blk_lt HZ3.out)).trans HZ3.out); clear hb4 k0 k1 k2 k3 k4 l0 l1 l2 l3 l4; have k0 := blk_cell HX4.out 0; have k1 := blk_cell HX4.out 1; have k2 := blk_cell HX4.out 2; have k3 := blk_cell HX4.out 3; have k4 := blk_cell HX4.out 4; have l0 := blk_cell HZ4.out 0; have l1 := blk_cell HZ4.out 1; have l2 := blk_cell HZ4.out 2; have l3 := blk_cell HZ4.out 3; have l4 := blk_cell HZ4.out 4)) | (go_at_call 23; go_must (refine (table_bound.calls k ro.f0.f0 ro.f0.f1 A2 c2 ro.f1 ro.f2.f0 ro.f2.f1 _ _ (Kd.C_below HYC.out HB4.out) HYL.out HT3.out).mono ?_; rintro e w5 ⟨rfl, hb5⟩; have HB5 := Aside0.mk (below_step HB4.out hb5); have HX5 := Aside0.mk ((hb5.block _ (blk_lt HX4.out)).trans HX4.out); have HZ5 := Aside0.mk ((hb5.block _ (blk_lt HZ4.out)).trans HZ4.out); clear hb5 k0 k1 k2 k3 k4 l0 l1 l2 l3 l4; have k0 := blk_cell HX5.out 0; have k1 := blk_cell HX5.out 1; have k2 := blk_cell HX5.out 2; have k3 := blk_cell HX5.out 3; have k4 := blk_cell HX5.out 4; have l0 := blk_cell HZ5.out 0; have l1 := blk_cell HZ5.out 1; have l2 := blk_cell HZ5.out 2; have l3 := blk_cell HZ5.out 3; have l4 := blk_cell HZ5.out 4)))
               have HLC := Aside0.mk (Kd.C_below HYC.out HB5.out)
               go_loopw [143] (fun v wr => ∃ u : Nat, u ≤ ro.f1.length ∧ v = .int .i64 u ∧ Aside0 (chkTs st hd sy vs rs (ro.f1.drop u) = some bt) ∧ Aside0 (wr.heap[w.heap.size]? = some (.cells #[.int .i64 st, .int .u8 hd, .int .u8 sy, .slice A3 vs.length c3, .slice (some ad) rs.length c4] 25 (0, 0))) ∧ Aside0 (Below w.heap.size w wr)) (fun v wr => ro.f1.length - (intOf v).toNat)
               case atStart => exact ⟨0, Nat.zero_le _, rfl, ⟨by rw [List.drop_zero]; exact HTS.out⟩, HX5, HB5⟩
               case round =>
                clear HX5 HB5 HZ5 HTS k0 k1 k2 k3 k4 l0 l1 l2 l3 l4 hwp HLC
                rename World => wt
                obtain ⟨u, hu, rfl, HTS, HX6, HB6⟩ := hrel
                have k0 := blk_cell HX6.out 0
                have k1 := blk_cell HX6.out 1
                have k2 := blk_cell HX6.out 2
                have k3 := blk_cell HX6.out 3
                have k4 := blk_cell HX6.out 4
                have hwt : w.heap.size < wt.heap.size := blk_lt HX6.out
                have hts := HTS.out
                by_cases hut : u < ro.f1.length
                ·have p0 : (0 : Int) ≤ (u : Int) := by omega
                 have p1 : (u : Int) < ro.f1.length := by omega
                 have p2 : (u : Int) ≤ 1000 := by have := HROW.out; omega
                 obtain ⟨aT, hA, t0, t1⟩ := at_T38 HYC.out (u : Int) p0 p1
                 subst hA
                 rw [Int.toNat_natCast, rd_59 ro.f1 u hut] at t0 t1
                 replace t0 := pw_cell_below HB6.out t0
                 replace t1 := pw_cell_below HB6.out t1
                 rw [List.drop_eq_getElem_cons hut, chkTs] at hts
                 obtain ⟨x, hx⟩ : ∃ x, ro.f1[u] = x := ⟨_, rfl⟩
                 rw [hx] at t0 t1 hts
                 replace hts := Option.bind_eq_some_iff.1 hts
                 obtain ⟨b, hb, hts⟩ := hts
                 have HTB := Aside0.mk hb
                 clear hb hx HTS
                 cases b with
                 | false =>
                  rw [if_neg (by decide)] at hts
                  obtain rfl := Option.some.inj hts
                  have hq := HQ2.out
                  rw [if_neg (by decide)] at hq
                  obtain rfl := Option.some.inj hq
                  have hr := HRR.out
                  rw [if_neg (by decide)] at hr
                  obtain rfl := Option.some.inj hr
                  clear hq hr HRR
                  clear hts HQ2
                  go_wp2_with (first | (go_at_call 22; (with_reducible refine (table_term.calls st hd sy _ c3 vs _ c4 rs x.f0 x.f1 _ _ (Kd.C_below HR3.out (below_alloc HB6.out (.cells #[.int .u8 x.f0, .int .i64 x.f1] 38))) HC3.out (Kd.C_below HR4.out (below_alloc HB6.out (.cells #[.int .u8 x.f0, .int .i64 x.f1] 38))) HC4.out HTB.out).mono ?_); go_must (rintro e w7 ⟨rfl, hb7⟩; have HB7 := Aside0.mk (below_step (below_alloc HB6.out (.cells #[.int .u8 x.f0, .int .i64 x.f1] 38)) hb7); have HX7 := Aside0.mk ((hb7.block _ (by have h9 := World.size_alloc wt (.cells #[.int .u8 x.f0, .int .i64 x.f1] 38); omega)).trans (blk_alloc HX6.out (.cells #[.int .u8 x.f0, .int .i64 x.f1] 38))); clear hb7)))
                  go_ret
                  exact ⟨rfl, HB7.out⟩
                 | true =>
                  rw [if_pos rfl] at hts
                  have HTS := Aside0.mk hts
                  clear hts
                  go_wp2_with (first | (go_at_call 22; (with_reducible refine (table_term.calls st hd sy _ c3 vs _ c4 rs x.f0 x.f1 _ _ (Kd.C_below HR3.out (below_alloc HB6.out (.cells #[.int .u8 x.f0, .int .i64 x.f1] 38))) HC3.out (Kd.C_below HR4.out (below_alloc HB6.out (.cells #[.int .u8 x.f0, .int .i64 x.f1] 38))) HC4.out HTB.out).mono ?_); go_must (rintro e w7 ⟨rfl, hb7⟩; have HB7 := Aside0.mk (below_step (below_alloc HB6.out (.cells #[.int .u8 x.f0, .int .i64 x.f1] 38)) hb7); have HX7 := Aside0.mk ((hb7.block _ (by have h9 := World.size_alloc wt (.cells #[.int .u8 x.f0, .int .i64 x.f1] 38); omega)).trans (blk_alloc HX6.out (.cells #[.int .u8 x.f0, .int .i64 x.f1] 38))); clear hb7)))
                  go_round
                  case rel => exact ⟨u + 1, by omega, by go_num, HTS, HX7, HB7⟩
                  case measure => simp [intOf]; omega
                ·rw [List.drop_eq_nil_of_le (by omega), chkTs] at hts
                 obtain rfl := Option.some.inj hts
                 have hq := HQ2.out
                 rw [if_pos rfl] at hq
                 have HQ3 := Aside0.mk hq
                 clear hts hq HQ2 HTS
                 go_wp2
                 go_round
                 case rel => exact ⟨m + 1, by omega, by go_num, HQ3, HX6, HB6⟩
                 case measure => simp [intOf]; omega
           ·rw [if_neg hl] at hq
            have hl2 : ((ro.f1.length : Int) != n1) = true := bne_iff_ne.mpr hl
            obtain rfl := Option.some.inj hq
            have hr := HRR.out
            rw [if_neg (by decide)] at hr
            obtain rfl := Option.some.inj hr
            clear hq hr HRR
            clear hl
            go_wp2
            go_ret
            exact ⟨rfl, below_alloc HB.out _⟩
          ·have hq := HQ.out
           rw [List.drop_eq_nil_of_le (by omega), chkR] at hq
           obtain rfl := Option.some.inj hq
           have hr := HRR.out
           rw [if_pos rfl] at hr
           obtain rfl := Option.some.inj hr
           clear hq hr HQ HRR
           go_wp2
           go_ret
           exact ⟨rfl, HB.out⟩
    ·rw [if_neg h4] at h
     obtain rfl := Option.some.inj h
     have HN := Aside0.mk hn
     have HE := Aside0.mk he
     clear hn he h
     have h4b : (e != 0) = true := bne_iff_ne.mpr h4
     go_enter Tryd.func7, Tryd.ntmps7
     go_wp2_with (first | (go_at_call 19; go_must (refine (hood_Size.calls hd n1 0 _ HN.out).mono ?_; rintro e w1 ⟨rfl, hb1⟩; have HB1 := Aside0.mk (below_step (below_alloc (Below.refl w.heap.size w) _) hb1); have HX1 := Aside0.mk ((hb1.block _ (by simp)).trans (blk_new w (.cells #[.int .i64 st, .int .u8 hd, .int .u8 sy, .slice A3 vs.length c3, .slice A4 rs.length c4] 25))); clear hb1; have b0 := blk_cell HX1.out 0; have b1 := blk_cell HX1.out 1; have b2 := blk_cell HX1.out 2; have b3 := blk_cell HX1.out 3; have b4 := blk_cell HX1.out 4)) | (go_at_call 20; go_must (refine (table_may.calls k sy hd e _ HE.out).mono ?_; rintro e w2 ⟨rfl, hb2⟩; have HB2 := Aside0.mk (below_step HB1.out hb2); have HX2 := Aside0.mk ((hb2.block _ (blk_lt HX1.out)).trans HX1.out); clear hb2 b0 b1 b2 b3 b4; have b0 := blk_cell HX2.out 0; have b1 := blk_cell HX2.out 1; have b2 := blk_cell HX2.out 2; have b3 := blk_cell HX2.out 3; have b4 := blk_cell HX2.out 4; have hw2 : w.heap.size < w2.heap.size := blk_lt HX2.out)))
     go_ret
     exact ⟨rfl, HB2.out⟩
   ·rw [if_neg h3] at h
    obtain rfl := Option.some.inj h
    have HN := Aside0.mk hn
    clear hn h
    have h3b : (n2 != 0) = true := bne_iff_ne.mpr h3
    go_enter Tryd.func7, Tryd.ntmps7
    go_wp2_with (first | (go_at_call 19; go_must (refine (hood_Size.calls hd n1 n2 _ HN.out).mono ?_; rintro e w1 ⟨rfl, hb1⟩; have HB1 := Aside0.mk (below_step (below_alloc (Below.refl w.heap.size w) _) hb1); have HX1 := Aside0.mk ((hb1.block _ (by simp)).trans (blk_new w (.cells #[.int .i64 st, .int .u8 hd, .int .u8 sy, .slice A3 vs.length c3, .slice A4 rs.length c4] 25))); clear hb1; have b0 := blk_cell HX1.out 0; have b1 := blk_cell HX1.out 1; have b2 := blk_cell HX1.out 2; have b3 := blk_cell HX1.out 3; have b4 := blk_cell HX1.out 4)))
    go_ret
    exact ⟨rfl, HB1.out⟩
end Go.Proofs.YtajhfkcmfmhnaaaDoor.P
end
section
namespace Go.Proofs.YtajhfkcmfmhnaaaDoor.P
open Go.RowKit Go.Proofs.YtajhfkcmfmhnaaaDoorW.PrintWords Go.Proofs.YtajhfkcmfmhnaaaDoorW.PrintLast Go.Proofs.YtajhfkcmfmhnaaaDoorW.PrintMore
attribute [local go_sem] max2_int min2_int max_two min_two max_three min_three max_four min_four   -- for this text's walks alone
set_option linter.unusedVariables false
set_option linter.unusedSimpArgs false
def vivariumref07_Offsets.f (a0 : Int) : Option ((List (S83)) × Int) := if a0 = 1 then (some ((([(⟨0, (-1)⟩ : S83), (⟨1, (-1)⟩ : S83), (⟨1, 0⟩ : S83), (⟨1, 1⟩ : S83), (⟨0, 1⟩ : S83), (⟨(-1), 1⟩ : S83), (⟨(-1), 0⟩ : S83), (⟨(-1), (-1)⟩ : S83)] : List (S83))), 0)) else (if a0 = 2 then (some ((([(⟨0, (-1)⟩ : S83), (⟨1, 0⟩ : S83), (⟨0, 1⟩ : S83), (⟨(-1), 0⟩ : S83)] : List (S83))), 0)) else (if a0 = 3 then (some ((([(⟨0, (-1)⟩ : S83), (⟨1, 0⟩ : S83), (⟨1, 1⟩ : S83), (⟨0, 1⟩ : S83), (⟨(-1), 0⟩ : S83), (⟨(-1), (-1)⟩ : S83)] : List (S83))), 0)) else (some (([] : List (S83)), 70))))
set_option maxHeartbeats 8000000 in
set_option maxRecDepth 100000 in
theorem vivariumref07_Offsets.calls (a0 : Int) (r1 : List (S83)) (r2 : Int) (w : World) (h : vivariumref07_Offsets.f a0 = some (r1, r2)) :
  Calls Tryd.prog 32 #[.int .u8 a0] w fun e w' => ∃ v0_ : Value, e = .returned (.tuple #[v0_, .int .i64 r2]) ∧ Kd.R k83 83 w' w.heap.size (fun _ => True) v0_ r1 ∧ Below w.heap.size w w' := by
 have hu83 := Tryd.underlying83
 have HB := Aside0.mk (Below.refl w.heap.size w)
 have H : (if a0 = 1 then (some ((([(⟨0, (-1)⟩ : S83), (⟨1, (-1)⟩ : S83), (⟨1, 0⟩ : S83), (⟨1, 1⟩ : S83), (⟨0, 1⟩ : S83), (⟨(-1), 1⟩ : S83), (⟨(-1), 0⟩ : S83), (⟨(-1), (-1)⟩ : S83)] : List (S83))), 0)) else (if a0 = 2 then (some ((([(⟨0, (-1)⟩ : S83), (⟨1, 0⟩ : S83), (⟨0, 1⟩ : S83), (⟨(-1), 0⟩ : S83)] : List (S83))), 0)) else (if a0 = 3 then (some ((([(⟨0, (-1)⟩ : S83), (⟨1, 0⟩ : S83), (⟨1, 1⟩ : S83), (⟨0, 1⟩ : S83), (⟨(-1), 0⟩ : S83), (⟨(-1), (-1)⟩ : S83)] : List (S83))), 0)) else (some (([] : List (S83)), 70))))) = some (r1, r2) := h
 clear h
 by_cases c2 : a0 = 1
 ·rw [if_pos c2] at H
  have c2b0 : (a0 == 1) = true := beq_iff_eq.mpr c2
  have c2b1 : (a0 != 1) = false := bne_eq_false_iff_eq.mpr c2
  clear c2
  obtain ⟨y101, hy101⟩ : ∃ y_ : List (S83), y_ = (([(⟨0, (-1)⟩ : S83), (⟨1, (-1)⟩ : S83), (⟨1, 0⟩ : S83), (⟨1, 1⟩ : S83), (⟨0, 1⟩ : S83), (⟨(-1), 1⟩ : S83), (⟨(-1), 0⟩ : S83), (⟨(-1), (-1)⟩ : S83)] : List (S83))) := ⟨_, rfl⟩
  replace H : (some (y101, 0)) = some (r1, r2) := by first | (rw [hy101]; with_reducible exact H) | (have H2_ := (Option.bind_some _ _).symm.trans H; rw [hy101]; with_reducible exact H2_) | (have H2_ := (Option.bind_some _ _).symm.trans H; with_reducible exact H2_) | with_reducible exact H | (rw [hy101]; exact H) | exact H
  have Ny101 := Aside0.mk hy101
  clear hy101
  simp only [Option.some.injEq, Prod.mk.injEq] at H
  obtain ⟨rfl, rfl⟩ := H
  go_enter Tryd.func32, Tryd.ntmps32
  go_wp2_with (first | ((with_reducible refine gate_dst (N := 15) rfl ?_); refine Kd.R_lit k83 _ 83 ?hg (N := 15) ?hd (xs := ([(⟨0, (-1)⟩ : S83), (⟨1, (-1)⟩ : S83), (⟨1, 0⟩ : S83), (⟨1, 1⟩ : S83), (⟨0, 1⟩ : S83), (⟨(-1), 1⟩ : S83), (⟨(-1), 0⟩ : S83), (⟨(-1), (-1)⟩ : S83)] : List (S83))) (inner := [.int .i64 0, .int .i64 (-1), .int .i64 1, .int .i64 (-1), .int .i64 1, .int .i64 0, .int .i64 1, .int .i64 1, .int .i64 0, .int .i64 1, .int .i64 (-1), .int .i64 1, .int .i64 (-1), .int .i64 0, .int .i64 (-1), .int .i64 (-1)]) (ok := fun _ => True) (okp := fun _ => True) ?hr ?hp (fun _ hk => hk) trivial (Below.refl _ _) (Nat.le_refl _) (by simp) ?_; (case hd => rfl); (case hg => rfl); (case hr => first | (go_simp; done) | (go_simp; rfl)); (case hp => exact (Reps.c2 (show Kd.M k83 _ _ _ (⟨0, (-1)⟩ : S83) [.int .i64 0, .int .i64 (-1)] from (k83_mkM _ _ _ (⟨0, (-1)⟩ : S83) )) (Reps.c2 (show Kd.M k83 _ _ _ (⟨1, (-1)⟩ : S83) [.int .i64 1, .int .i64 (-1)] from (k83_mkM _ _ _ (⟨1, (-1)⟩ : S83) )) (Reps.c2 (show Kd.M k83 _ _ _ (⟨1, 0⟩ : S83) [.int .i64 1, .int .i64 0] from (k83_mkM _ _ _ (⟨1, 0⟩ : S83) )) (Reps.c2 (show Kd.M k83 _ _ _ (⟨1, 1⟩ : S83) [.int .i64 1, .int .i64 1] from (k83_mkM _ _ _ (⟨1, 1⟩ : S83) )) (Reps.c2 (show Kd.M k83 _ _ _ (⟨0, 1⟩ : S83) [.int .i64 0, .int .i64 1] from (k83_mkM _ _ _ (⟨0, 1⟩ : S83) )) (Reps.c2 (show Kd.M k83 _ _ _ (⟨(-1), 1⟩ : S83) [.int .i64 (-1), .int .i64 1] from (k83_mkM _ _ _ (⟨(-1), 1⟩ : S83) )) (Reps.c2 (show Kd.M k83 _ _ _ (⟨(-1), 0⟩ : S83) [.int .i64 (-1), .int .i64 0] from (k83_mkM _ _ _ (⟨(-1), 0⟩ : S83) )) (Reps.c2 (show Kd.M k83 _ _ _ (⟨(-1), (-1)⟩ : S83) [.int .i64 (-1), .int .i64 (-1)] from (k83_mkM _ _ _ (⟨(-1), (-1)⟩ : S83) )) (Reps.none _ _)))))))))); intro v102 w3 ho4 hb hg_ hnew_; clear hg_ hnew_; (first | rw [← Ny101.out] at ho4 | (simp only [Int.reduceToNat] at ho4; rw [← Ny101.out] at ho4)); have n0_ := Aside0.mk (Kd.R_lower ho4 (below_size (by repeat (first | (with_reducible first | exact HB.out | apply below_alloc | apply pw_below_drewN | apply below_drew1) | exact HB.out)))); have n1_ := Aside0.mk (below_step (by repeat (first | (with_reducible first | exact HB.out | apply below_alloc | apply pw_below_drewN | apply below_drew1) | exact HB.out)) hb); clear HB; have HO103 := n0_; have HB := n1_; clear n0_ n1_; clear hb ho4))
  go_ret2
  exact ⟨_, by first | rfl | (simp [errW_none, errW_some] <;> rfl) | (simp [*, errW_none, errW_some] <;> rfl), by (with_reducible repeat (first | apply Kd.R_alloc | apply Kd.R_drewN | apply Kd.R_drew)); exact HO103.out, by repeat (first | (with_reducible first | exact HB.out | apply below_alloc | apply pw_below_drewN | apply below_drew1) | exact HB.out)⟩
 ·rw [if_neg c2] at H
  have c2b0 : (a0 == 1) = false := beq_eq_false_iff_ne.mpr c2
  have c2b1 : (a0 != 1) = true := bne_iff_ne.mpr c2
  by_cases c5 : a0 = 2
  ·rw [if_pos c5] at H
   have c5b0 : (a0 == 2) = true := beq_iff_eq.mpr c5
   have c5b1 : (a0 != 2) = false := bne_eq_false_iff_eq.mpr c5
   clear c5
   obtain ⟨y104, hy104⟩ : ∃ y_ : List (S83), y_ = (([(⟨0, (-1)⟩ : S83), (⟨1, 0⟩ : S83), (⟨0, 1⟩ : S83), (⟨(-1), 0⟩ : S83)] : List (S83))) := ⟨_, rfl⟩
   replace H : (some (y104, 0)) = some (r1, r2) := by first | (rw [hy104]; with_reducible exact H) | (have H2_ := (Option.bind_some _ _).symm.trans H; rw [hy104]; with_reducible exact H2_) | (have H2_ := (Option.bind_some _ _).symm.trans H; with_reducible exact H2_) | with_reducible exact H | (rw [hy104]; exact H) | exact H
   have Ny104 := Aside0.mk hy104
   clear hy104
   simp only [Option.some.injEq, Prod.mk.injEq] at H
   obtain ⟨rfl, rfl⟩ := H
   go_enter Tryd.func32, Tryd.ntmps32
   go_wp2_with (first | ((with_reducible refine gate_dst (N := 22) rfl ?_); refine Kd.R_lit k83 _ 83 ?hg (N := 22) ?hd (xs := ([(⟨0, (-1)⟩ : S83), (⟨1, 0⟩ : S83), (⟨0, 1⟩ : S83), (⟨(-1), 0⟩ : S83)] : List (S83))) (inner := [.int .i64 0, .int .i64 (-1), .int .i64 1, .int .i64 0, .int .i64 0, .int .i64 1, .int .i64 (-1), .int .i64 0]) (ok := fun _ => True) (okp := fun _ => True) ?hr ?hp (fun _ hk => hk) trivial (Below.refl _ _) (Nat.le_refl _) (by simp) ?_; (case hd => rfl); (case hg => rfl); (case hr => first | (go_simp; done) | (go_simp; rfl)); (case hp => exact (Reps.c2 (show Kd.M k83 _ _ _ (⟨0, (-1)⟩ : S83) [.int .i64 0, .int .i64 (-1)] from (k83_mkM _ _ _ (⟨0, (-1)⟩ : S83) )) (Reps.c2 (show Kd.M k83 _ _ _ (⟨1, 0⟩ : S83) [.int .i64 1, .int .i64 0] from (k83_mkM _ _ _ (⟨1, 0⟩ : S83) )) (Reps.c2 (show Kd.M k83 _ _ _ (⟨0, 1⟩ : S83) [.int .i64 0, .int .i64 1] from (k83_mkM _ _ _ (⟨0, 1⟩ : S83) )) (Reps.c2 (show Kd.M k83 _ _ _ (⟨(-1), 0⟩ : S83) [.int .i64 (-1), .int .i64 0] from (k83_mkM _ _ _ (⟨(-1), 0⟩ : S83) )) (Reps.none _ _)))))); intro v105 w6 ho7 hb hg_ hnew_; clear hg_ hnew_; (first | rw [← Ny104.out] at ho7 | (simp only [Int.reduceToNat] at ho7; rw [← Ny104.out] at ho7)); have n0_ := Aside0.mk (Kd.R_lower ho7 (below_size (by repeat (first | (with_reducible first | exact HB.out | apply below_alloc | apply pw_below_drewN | apply below_drew1) | exact HB.out)))); have n1_ := Aside0.mk (below_step (by repeat (first | (with_reducible first | exact HB.out | apply below_alloc | apply pw_below_drewN | apply below_drew1) | exact HB.out)) hb); clear HB; have HO106 := n0_; have HB := n1_; clear n0_ n1_; clear hb ho7))
   go_ret2
   exact ⟨_, by first | rfl | (simp [errW_none, errW_some] <;> rfl) | (simp [*, errW_none, errW_some] <;> rfl), by (with_reducible repeat (first | apply Kd.R_alloc | apply Kd.R_drewN | apply Kd.R_drew)); exact HO106.out, by repeat (first | (with_reducible first | exact HB.out | apply below_alloc | apply pw_below_drewN | apply below_drew1) | exact HB.out)⟩
  ·rw [if_neg c5] at H
   have c5b0 : (a0 == 2) = false := beq_eq_false_iff_ne.mpr c5
   have c5b1 : (a0 != 2) = true := bne_iff_ne.mpr c5
   by_cases c8 : a0 = 3
   ·rw [if_pos c8] at H
    have c8b0 : (a0 == 3) = true := beq_iff_eq.mpr c8
    have c8b1 : (a0 != 3) = false := bne_eq_false_iff_eq.mpr c8
    clear c8
    obtain ⟨y107, hy107⟩ : ∃ y_ : List (S83), y_ = (([(⟨0, (-1)⟩ : S83), (⟨1, 0⟩ : S83), (⟨1, 1⟩ : S83), (⟨0, 1⟩ : S83), (⟨(-1), 0⟩ : S83), (⟨(-1), (-1)⟩ : S83)] : List (S83))) := ⟨_, rfl⟩
    replace H : (some (y107, 0)) = some (r1, r2) := by first | (rw [hy107]; with_reducible exact H) | (have H2_ := (Option.bind_some _ _).symm.trans H; rw [hy107]; with_reducible exact H2_) | (have H2_ := (Option.bind_some _ _).symm.trans H; with_reducible exact H2_) | with_reducible exact H | (rw [hy107]; exact H) | exact H
    have Ny107 := Aside0.mk hy107
    clear hy107
    simp only [Option.some.injEq, Prod.mk.injEq] at H
    obtain ⟨rfl, rfl⟩ := H
    go_enter Tryd.func32, Tryd.ntmps32
    go_wp2_with (first | ((with_reducible refine gate_dst (N := 31) rfl ?_); refine Kd.R_lit k83 _ 83 ?hg (N := 31) ?hd (xs := ([(⟨0, (-1)⟩ : S83), (⟨1, 0⟩ : S83), (⟨1, 1⟩ : S83), (⟨0, 1⟩ : S83), (⟨(-1), 0⟩ : S83), (⟨(-1), (-1)⟩ : S83)] : List (S83))) (inner := [.int .i64 0, .int .i64 (-1), .int .i64 1, .int .i64 0, .int .i64 1, .int .i64 1, .int .i64 0, .int .i64 1, .int .i64 (-1), .int .i64 0, .int .i64 (-1), .int .i64 (-1)]) (ok := fun _ => True) (okp := fun _ => True) ?hr ?hp (fun _ hk => hk) trivial (Below.refl _ _) (Nat.le_refl _) (by simp) ?_; (case hd => rfl); (case hg => rfl); (case hr => first | (go_simp; done) | (go_simp; rfl)); (case hp => exact (Reps.c2 (show Kd.M k83 _ _ _ (⟨0, (-1)⟩ : S83) [.int .i64 0, .int .i64 (-1)] from (k83_mkM _ _ _ (⟨0, (-1)⟩ : S83) )) (Reps.c2 (show Kd.M k83 _ _ _ (⟨1, 0⟩ : S83) [.int .i64 1, .int .i64 0] from (k83_mkM _ _ _ (⟨1, 0⟩ : S83) )) (Reps.c2 (show Kd.M k83 _ _ _ (⟨1, 1⟩ : S83) [.int .i64 1, .int .i64 1] from (k83_mkM _ _ _ (⟨1, 1⟩ : S83) )) (Reps.c2 (show Kd.M k83 _ _ _ (⟨0, 1⟩ : S83) [.int .i64 0, .int .i64 1] from (k83_mkM _ _ _ (⟨0, 1⟩ : S83) )) (Reps.c2 (show Kd.M k83 _ _ _ (⟨(-1), 0⟩ : S83) [.int .i64 (-1), .int .i64 0] from (k83_mkM _ _ _ (⟨(-1), 0⟩ : S83) )) (Reps.c2 (show Kd.M k83 _ _ _ (⟨(-1), (-1)⟩ : S83) [.int .i64 (-1), .int .i64 (-1)] from (k83_mkM _ _ _ (⟨(-1), (-1)⟩ : S83) )) (Reps.none _ _)))))))); intro v108 w9 ho10 hb hg_ hnew_; clear hg_ hnew_; (first | rw [← Ny107.out] at ho10 | (simp only [Int.reduceToNat] at ho10; rw [← Ny107.out] at ho10)); have n0_ := Aside0.mk (Kd.R_lower ho10 (below_size (by repeat (first | (with_reducible first | exact HB.out | apply below_alloc | apply pw_below_drewN | apply below_drew1) | exact HB.out)))); have n1_ := Aside0.mk (below_step (by repeat (first | (with_reducible first | exact HB.out | apply below_alloc | apply pw_below_drewN | apply below_drew1) | exact HB.out)) hb); clear HB; have HO109 := n0_; have HB := n1_; clear n0_ n1_; clear hb ho10))
    go_ret2
    exact ⟨_, by first | rfl | (simp [errW_none, errW_some] <;> rfl) | (simp [*, errW_none, errW_some] <;> rfl), by (with_reducible repeat (first | apply Kd.R_alloc | apply Kd.R_drewN | apply Kd.R_drew)); exact HO109.out, by repeat (first | (with_reducible first | exact HB.out | apply below_alloc | apply pw_below_drewN | apply below_drew1) | exact HB.out)⟩
   ·rw [if_neg c8] at H
    have c8b0 : (a0 == 3) = false := beq_eq_false_iff_ne.mpr c8
    have c8b1 : (a0 != 3) = true := bne_iff_ne.mpr c8
    simp only [Option.some.injEq, Prod.mk.injEq] at H
    obtain ⟨rfl, rfl⟩ := H
    go_enter Tryd.func32, Tryd.ntmps32
    go_wp2
    go_ret2
    exact ⟨_, by first | rfl | (simp [errW_none, errW_some] <;> rfl) | (simp [*, errW_none, errW_some] <;> rfl), by first | exact Kd.R_nil _ _ _ _ _ | exact Kd.N_nil _ _ _ _ _ | exact Kd.V_nil _ _ _ _ _ | exact Kd.Q_nil _ _ _ _ _ | exact Kd.S_nil _ _ _ _ _, by repeat (first | (with_reducible first | exact HB.out | apply below_alloc | apply pw_below_drewN | apply below_drew1) | exact HB.out)⟩
end Go.Proofs.YtajhfkcmfmhnaaaDoor.P
namespace Go.Proofs.YtajhfkcmfmhnaaaDoor.P
open Go.RowKit Go.Proofs.YtajhfkcmfmhnaaaDoorW.PrintWords Go.Proofs.YtajhfkcmfmhnaaaDoorW.PrintLast Go.Proofs.YtajhfkcmfmhnaaaDoorW.PrintMore
attribute [local go_sem] max2_int min2_int max_two min_two max_three min_three max_four min_four   -- for this text's walks alone
set_option linter.unusedVariables false
set_option linter.unusedSimpArgs false
def vivariumref07_Size.f (a0 : Int) : Option (Int × Int) := (vivariumref07_Offsets.f a0).bind fun bt110 => (some ((bt110.1.length : Int), bt110.2))
set_option maxHeartbeats 8000000 in
set_option maxRecDepth 100000 in
theorem vivariumref07_Size.calls (a0 : Int) (r1 : Int) (r2 : Int) (w : World) (h : vivariumref07_Size.f a0 = some (r1, r2)) :
  Calls Tryd.prog 10 #[.int .u8 a0] w fun e w' => e = .returned (.tuple #[.int .i64 r1, .int .i64 r2]) ∧ Below w.heap.size w w' := by
 have HB := Aside0.mk (Below.refl w.heap.size w)
 have H : ((vivariumref07_Offsets.f a0).bind fun bt110 => (some ((bt110.1.length : Int), bt110.2))) = some (r1, r2) := h
 clear h
 replace H := Option.bind_eq_some_iff.mp H
 obtain ⟨⟨t110, t111⟩, A20, H⟩ := H
 replace H : (some ((t110.length : Int), t111)) = some (r1, r2) := H
 have A2 := Aside0.mk A20
 clear A20
 simp only [Option.some.injEq, Prod.mk.injEq] at H
 obtain ⟨rfl, rfl⟩ := H
 go_enter Tryd.func10, Tryd.ntmps10
 go_wp2_with (first | ((with_reducible refine gate_callee (f := 32) rfl ?_); refine goesL_ (some 8) rfl rfl Tryd.func32 (by kernel_rfl) rfl #[.int .u8 a0] rfl (by (try simp only [List.map_toArray, List.map_cons, List.map_nil]); first | done | rfl | (simp only [List.length_drop, List.length_take]; rfl)) ?_; (with_reducible refine (vivariumref07_Offsets.calls a0 t110 t111 _ A2.out).mono ?_); rintro e w3 ⟨v112, rfl, ho0, hb⟩; refine ⟨_, rfl, ?_⟩; have n0_ := Aside0.mk (Kd.R_lower ho0 (below_size (by repeat (first | (with_reducible first | exact HB.out | apply below_alloc | apply pw_below_drewN | apply below_drew1) | exact HB.out)))); have n1_ := Aside0.mk (below_step (by repeat (first | (with_reducible first | exact HB.out | apply below_alloc | apply pw_below_drewN | apply below_drew1) | exact HB.out)) hb); clear HB; have HO113 := n0_; have HB := n1_; clear n0_ n1_; (try clear hb); (try clear hb2); (try clear hk); (try clear hi); (try clear ho0); obtain ⟨Ao4, co4, eo4⟩ := Kd.R_slice HO113.out; subst eo4))
 go_ret2
 exact ⟨by first | rfl | (simp [errW_none, errW_some] <;> rfl) | (simp [*, errW_none, errW_some] <;> rfl), by repeat (first | (with_reducible first | exact HB.out | apply below_alloc | apply pw_below_drewN | apply below_drew1) | exact HB.out)⟩
end Go.Proofs.YtajhfkcmfmhnaaaDoor.P
end
section
namespace Go.Proofs.YtajhfkcmfmhnaaaDoor.P
open Go.RowKit Go.Proofs.YtajhfkcmfmhnaaaDoorW.PrintWords Go.Proofs.YtajhfkcmfmhnaaaDoorW.PrintLast Go.Proofs.YtajhfkcmfmhnaaaDoorW.PrintMore
attribute [local go_sem] max2_int min2_int max_two min_two max_three min_three max_four min_four   -- for this text's walks alone
set_option linter.unusedVariables false
set_option linter.unusedSimpArgs false
mutual
def vivariumref10_step.j0 : Nat → Int → Int → Int → Bool → Option (Int)
 | 0, _, _, _, _ => none
 | k + 1, x1, x5, x12, x13 => if x13 = true then (some x5) else (if x12 = 3 then (if x1 = 3 then (some 0) else (some x5)) else (if x12 = 1 then (vivariumref10_step.j1 k x1 x5 x12 (x12 == 1)) else (vivariumref10_step.j1 k x1 x5 x12 (x12 == 4))))
def vivariumref10_step.j1 : Nat → Int → Int → Int → Bool → Option (Int)
 | 0, _, _, _, _ => none
 | k + 1, x1, x5, x12, x22 => if x22 = true then (if x1 = 3 then (some 0) else (some (wrap64 (Int.tdiv x5 4)))) else (if x12 = 2 then (vivariumref10_step.j2 k x1 x12 (x12 == 2)) else (vivariumref10_step.j2 k x1 x12 (x12 == 5)))
def vivariumref10_step.j2 : Nat → Int → Int → Bool → Option (Int)
 | 0, _, _, _ => none
 | k + 1, x1, x12, x29 => if x29 = true then (if x1 = 1 then (some 1) else (some 0)) else (if x12 = 7 then (if x1 = 3 then (some 3) else (some 0)) else (if x12 = 8 then (if x1 = 3 then (some 2) else (some 0)) else (if x12 = 9 then (vivariumref10_step.j3 k x1 (x12 == 9)) else (vivariumref10_step.j3 k x1 (x12 == 10)))))
def vivariumref10_step.j3 : Nat → Int → Bool → Option (Int)
 | 0, _, _ => none
 | k + 1, x1, x42 => if x42 = true then (if x1 = 3 then (some 1) else (some 0)) else (some 0)
end
def vivariumref10_step.f (k : Nat) (a0 : Int) (a1 : Int) : Option (Int) := (vivariumref07_Size.f a1).bind fun bt114 => (if a0 = 0 then (vivariumref10_step.j0 k a1 bt114.1 a0 (a0 == 0)) else (vivariumref10_step.j0 k a1 bt114.1 a0 (a0 == 6)))
theorem vivariumref10_step.mono_l : ∀ k, (∀ y0 y1 y2 y3, LeO (vivariumref10_step.j0 k y0 y1 y2 y3) (vivariumref10_step.j0 (k + 1) y0 y1 y2 y3)) ∧ (∀ y0 y1 y2 y3, LeO (vivariumref10_step.j1 k y0 y1 y2 y3) (vivariumref10_step.j1 (k + 1) y0 y1 y2 y3)) ∧ (∀ y0 y1 y2, LeO (vivariumref10_step.j2 k y0 y1 y2) (vivariumref10_step.j2 (k + 1) y0 y1 y2)) ∧ (∀ y0 y1, LeO (vivariumref10_step.j3 k y0 y1) (vivariumref10_step.j3 (k + 1) y0 y1))
 | 0 => ⟨fun _ _ _ _ r h => by simp [vivariumref10_step.j0] at h, fun _ _ _ _ r h => by simp [vivariumref10_step.j1] at h, fun _ _ _ r h => by simp [vivariumref10_step.j2] at h, fun _ _ r h => by simp [vivariumref10_step.j3] at h⟩
 | k + 1 => by
  obtain ⟨ih0, ih1, ih2, ih3⟩ := vivariumref10_step.mono_l k
  refine ⟨?_, ?_, ?_, ?_⟩
  ·intro y0 y1 y2 y3
   unfold vivariumref10_step.j0
   repeat' first
   | (with_reducible exact ih0 _ _ _ _)
   | (with_reducible exact ih1 _ _ _ _)
   | (with_reducible exact ih2 _ _ _)
   | (with_reducible exact ih3 _ _)
   | (with_reducible exact LeO.refl _)
   | (with_reducible exact LeO.none _)
   | (with_reducible refine LeO.ite ?_ ?_)
   | (with_reducible refine LeO.bind ?_ (fun _ => ?_))
   | exact ih0 _ _ _ _
   | exact ih1 _ _ _ _
   | exact ih2 _ _ _
   | exact ih3 _ _
   | exact LeO.none _
   | refine LeO.ite ?_ ?_
   | refine LeO.bind ?_ (fun _ => ?_)
  ·intro y0 y1 y2 y3
   unfold vivariumref10_step.j1
   repeat' first
   | (with_reducible exact ih0 _ _ _ _)
   | (with_reducible exact ih1 _ _ _ _)
   | (with_reducible exact ih2 _ _ _)
   | (with_reducible exact ih3 _ _)
   | (with_reducible exact LeO.refl _)
   | (with_reducible exact LeO.none _)
   | (with_reducible refine LeO.ite ?_ ?_)
   | (with_reducible refine LeO.bind ?_ (fun _ => ?_))
   | exact ih0 _ _ _ _
   | exact ih1 _ _ _ _
   | exact ih2 _ _ _
   | exact ih3 _ _
   | exact LeO.none _
   | refine LeO.ite ?_ ?_
   | refine LeO.bind ?_ (fun _ => ?_)
  ·intro y0 y1 y2
   unfold vivariumref10_step.j2
   repeat' first
   | (with_reducible exact ih0 _ _ _ _)
   | (with_reducible exact ih1 _ _ _ _)
   | (with_reducible exact ih2 _ _ _)
   | (with_reducible exact ih3 _ _)
   | (with_reducible exact LeO.refl _)
   | (with_reducible exact LeO.none _)
   | (with_reducible refine LeO.ite ?_ ?_)
   | (with_reducible refine LeO.bind ?_ (fun _ => ?_))
   | exact ih0 _ _ _ _
   | exact ih1 _ _ _ _
   | exact ih2 _ _ _
   | exact ih3 _ _
   | exact LeO.none _
   | refine LeO.ite ?_ ?_
   | refine LeO.bind ?_ (fun _ => ?_)
  ·intro y0 y1
   unfold vivariumref10_step.j3
   repeat' first
   | (with_reducible exact ih0 _ _ _ _)
   | (with_reducible exact ih1 _ _ _ _)
   | (with_reducible exact ih2 _ _ _)
   | (with_reducible exact ih3 _ _)
   | (with_reducible exact LeO.refl _)
   | (with_reducible exact LeO.none _)
   | (with_reducible refine LeO.ite ?_ ?_)
   | (with_reducible refine LeO.bind ?_ (fun _ => ?_))
   | exact ih0 _ _ _ _
   | exact ih1 _ _ _ _
   | exact ih2 _ _ _
   | exact ih3 _ _
   | exact LeO.none _
   | refine LeO.ite ?_ ?_
   | refine LeO.bind ?_ (fun _ => ?_)
theorem vivariumref10_step.mono : ∀ a0 a1 k, LeO (vivariumref10_step.f k a0 a1) (vivariumref10_step.f (k + 1) a0 a1) := by
 intro a0 a1 k
 obtain ⟨ih0, ih1, ih2, ih3⟩ := vivariumref10_step.mono_l k
 unfold vivariumref10_step.f
 repeat' first
   | (with_reducible exact ih0 _ _ _ _)
   | (with_reducible exact ih1 _ _ _ _)
   | (with_reducible exact ih2 _ _ _)
   | (with_reducible exact ih3 _ _)
   | (with_reducible exact LeO.refl _)
   | (with_reducible exact LeO.none _)
   | (with_reducible refine LeO.ite ?_ ?_)
   | (with_reducible refine LeO.bind ?_ (fun _ => ?_))
   | exact ih0 _ _ _ _
   | exact ih1 _ _ _ _
   | exact ih2 _ _ _
   | exact ih3 _ _
   | exact LeO.none _
   | refine LeO.ite ?_ ?_
   | refine LeO.bind ?_ (fun _ => ?_)
set_option maxHeartbeats 8000000 in
set_option maxRecDepth 100000 in
theorem vivariumref10_step.calls (k : Nat) (a0 : Int) (a1 : Int) (r : Int) (w : World) (h : vivariumref10_step.f k a0 a1 = some r) :
  Calls Tryd.prog 33 #[.int .u8 a0, .int .u8 a1] w fun e w' => e = .returned (.int .i64 r) ∧ Below w.heap.size w w' := by
 have HB := Aside0.mk (Below.refl w.heap.size w)
 have H : ((vivariumref07_Size.f a1).bind fun bt114 => (if a0 = 0 then (vivariumref10_step.j0 k a1 bt114.1 a0 (a0 == 0)) else (vivariumref10_step.j0 k a1 bt114.1 a0 (a0 == 6)))) = some r := h
 clear h
 replace H := Option.bind_eq_some_iff.mp H
 obtain ⟨⟨t114, t115⟩, A30, H⟩ := H
 replace H : (if a0 = 0 then (vivariumref10_step.j0 k a1 t114 a0 (a0 == 0)) else (vivariumref10_step.j0 k a1 t114 a0 (a0 == 6))) = some r := H
 have A3 := Aside0.mk A30
 clear A30
 have HC4 := Aside0.mk H
 clear H
 go_enter Tryd.func33, Tryd.ntmps33
 go_upto_if 13 with (first | ((with_reducible refine gate_callee (f := 10) rfl ?_); refine goesL_ (some 9) rfl rfl Tryd.func10 (by kernel_rfl) rfl #[.int .u8 a1] rfl (by (try simp only [List.map_toArray, List.map_cons, List.map_nil]); first | done | rfl | (simp only [List.length_drop, List.length_take]; rfl)) ?_; (with_reducible refine (vivariumref07_Size.calls a1 t114 t115 _ A3.out).mono ?_); rintro e w5 ⟨rfl, hb⟩; refine ⟨_, rfl, ?_⟩; have n0_ := Aside0.mk (below_step (by repeat (first | (with_reducible first | exact HB.out | apply below_alloc | apply pw_below_drewN | apply below_drew1) | exact HB.out)) hb); clear HB; have HB := n0_; clear n0_; (try clear hb); (try clear hb2); (try clear hk); (try clear hi)))
 (try simp only [Act.put, List.setIfInBounds_toArray, List.set_cons_zero, List.set_cons_succ])
 go_cut [13] (fun v13 wc => ∃ (kq : Nat) (x13_3 : Bool), v13 = .bool x13_3 ∧ Aside0 (vivariumref10_step.j0 kq a1 t114 a0 x13_3 = some r) ∧ Aside0 (kq ≤ k) ∧ Aside0 (Below w.heap.size w wc))
 case first =>
  have H := HC4.out
  clear HC4
  by_cases c6 : a0 = 0
  ·rw [if_pos c6] at H
   have c6b0 : (a0 == 0) = true := beq_iff_eq.mpr c6
   have c6b1 : (a0 != 0) = false := bne_eq_false_iff_eq.mpr c6
   clear c6
   (first | rw [c6b0] | (simp only [i64_w, i32_w]; rw [c6b0]) | skip)
   have H' := Aside0.mk H
   clear H
   go_wp2
   go_meet
   case rel => exact ⟨_, ((a0 == 0)), (by first | rfl | (simp; done) | (simp [*]; done)), H', ⟨by first | omega | exact Nat.le_refl _⟩, ⟨by repeat (first | (with_reducible first | exact HB.out | apply below_alloc | apply pw_below_drewN | apply below_drew1) | exact HB.out)⟩⟩
  ·rw [if_neg c6] at H
   have c6b0 : (a0 == 0) = false := beq_eq_false_iff_ne.mpr c6
   have c6b1 : (a0 != 0) = true := bne_iff_ne.mpr c6
   (first | rw [c6b0] | (simp only [i64_w, i32_w]; rw [c6b0]) | skip)
   have H' := Aside0.mk H
   clear H
   go_wp2
   go_meet
   case rel => exact ⟨_, ((a0 == 6)), (by first | rfl | (simp; done) | (simp [*]; done)), H', ⟨by first | omega | exact Nat.le_refl _⟩, ⟨by repeat (first | (with_reducible first | exact HB.out | apply below_alloc | apply pw_below_drewN | apply below_drew1) | exact HB.out)⟩⟩
 case rest =>
  clear HC4
  try clear c1
  try clear p2
  try clear c3
  try clear c6
  try clear c6b0
  try clear c6b1
  obtain ⟨kq, x13_3, rfl, HA, HJ3, HB⟩ := hcut
  cases kq with
  | zero => exact absurd HA.out (by simp [vivariumref10_step.j0])
  | succ kj3 =>
   have H := HA.out
   clear HA
   simp only [vivariumref10_step.j0] at H
   by_cases c7 : x13_3 = true
   ·subst c7
    have H1 : (some t114) = some r := by rw [if_pos rfl] at H; exact H
    clear H
    have H := H1
    clear H1
    obtain rfl := Option.some.inj H
    go_wp2
    go_ret
    exact ⟨by first | rfl | (simp [errW_none, errW_some] <;> rfl) | (simp [*, errW_none, errW_some] <;> rfl), by repeat (first | (with_reducible first | exact HB.out | apply below_alloc | apply pw_below_drewN | apply below_drew1) | exact HB.out)⟩
   ·replace c7 := Bool.eq_false_iff.mpr c7
    subst c7
    have H1 : (if a0 = 3 then (if a1 = 3 then (some 0) else (some t114)) else (if a0 = 1 then (vivariumref10_step.j1 kj3 a1 t114 a0 (a0 == 1)) else (vivariumref10_step.j1 kj3 a1 t114 a0 (a0 == 4)))) = some r := by rw [if_neg (show ¬ (false = true) by decide)] at H; exact H
    clear H
    have H := H1
    clear H1
    by_cases c8 : a0 = 3
    ·rw [if_pos c8] at H
     have c8b0 : (a0 == 3) = true := beq_iff_eq.mpr c8
     have c8b1 : (a0 != 3) = false := bne_eq_false_iff_eq.mpr c8
     clear c8
     by_cases c9 : a1 = 3
     ·rw [if_pos c9] at H
      have c9b0 : (a1 == 3) = true := beq_iff_eq.mpr c9
      have c9b1 : (a1 != 3) = false := bne_eq_false_iff_eq.mpr c9
      clear c9
      obtain rfl := Option.some.inj H
      go_wp2
      go_ret
      exact ⟨by first | rfl | (simp [errW_none, errW_some] <;> rfl) | (simp [*, errW_none, errW_some] <;> rfl), by repeat (first | (with_reducible first | exact HB.out | apply below_alloc | apply pw_below_drewN | apply below_drew1) | exact HB.out)⟩
     ·rw [if_neg c9] at H
      have c9b0 : (a1 == 3) = false := beq_eq_false_iff_ne.mpr c9
      have c9b1 : (a1 != 3) = true := bne_iff_ne.mpr c9
      obtain rfl := Option.some.inj H
      go_wp2
      go_ret
      exact ⟨by first | rfl | (simp [errW_none, errW_some] <;> rfl) | (simp [*, errW_none, errW_some] <;> rfl), by repeat (first | (with_reducible first | exact HB.out | apply below_alloc | apply pw_below_drewN | apply below_drew1) | exact HB.out)⟩
    ·rw [if_neg c8] at H
     have c8b0 : (a0 == 3) = false := beq_eq_false_iff_ne.mpr c8
     have c8b1 : (a0 != 3) = true := bne_iff_ne.mpr c8
     have HC10 := Aside0.mk H
     clear H
     go_upto_if 22 with (fail)
     go_cut [22] (fun v22 wc => ∃ (kq : Nat) (x22_9 : Bool), v22 = .bool x22_9 ∧ Aside0 (vivariumref10_step.j1 kq a1 t114 a0 x22_9 = some r) ∧ Aside0 (kq ≤ kj3) ∧ Aside0 (Below w.heap.size w wc))
     case first =>
      have H := HC10.out
      clear HC10
      by_cases c11 : a0 = 1
      ·rw [if_pos c11] at H
       have c11b0 : (a0 == 1) = true := beq_iff_eq.mpr c11
       have c11b1 : (a0 != 1) = false := bne_eq_false_iff_eq.mpr c11
       clear c11
       (first | rw [c11b0] | (simp only [i64_w, i32_w]; rw [c11b0]) | skip)
       have H' := Aside0.mk H
       clear H
       go_wp2
       go_meet
       case rel => exact ⟨_, ((a0 == 1)), (by first | rfl | (simp; done) | (simp [*]; done)), H', ⟨by have := HJ3.out; first | omega | exact Nat.le_refl _⟩, ⟨by repeat (first | (with_reducible first | exact HB.out | apply below_alloc | apply pw_below_drewN | apply below_drew1) | exact HB.out)⟩⟩
      ·rw [if_neg c11] at H
       have c11b0 : (a0 == 1) = false := beq_eq_false_iff_ne.mpr c11
       have c11b1 : (a0 != 1) = true := bne_iff_ne.mpr c11
       (first | rw [c11b0] | (simp only [i64_w, i32_w]; rw [c11b0]) | skip)
       have H' := Aside0.mk H
       clear H
       go_wp2
       go_meet
       case rel => exact ⟨_, ((a0 == 4)), (by first | rfl | (simp; done) | (simp [*]; done)), H', ⟨by have := HJ3.out; first | omega | exact Nat.le_refl _⟩, ⟨by repeat (first | (with_reducible first | exact HB.out | apply below_alloc | apply pw_below_drewN | apply below_drew1) | exact HB.out)⟩⟩
     case rest =>
      clear HC10
      try clear c1
      try clear p2
      try clear c3
      try clear c6
      try clear c6b0
      try clear c6b1
      try clear c7
      try clear c8
      try clear c8b0
      try clear c8b1
      try clear c9
      try clear c9b0
      try clear c9b1
      try clear c10
      try clear c11
      try clear c11b0
      try clear c11b1
      try clear p2
      obtain ⟨kq, x22_9, rfl, HA, HJ9, HB⟩ := hcut
      cases kq with
      | zero => exact absurd HA.out (by simp [vivariumref10_step.j1])
      | succ kj9 =>
       have H := HA.out
       clear HA
       simp only [vivariumref10_step.j1] at H
       by_cases c12 : x22_9 = true
       ·subst c12
        have H1 : (if a1 = 3 then (some 0) else (some (wrap64 (Int.tdiv t114 4)))) = some r := by rw [if_pos rfl] at H; exact H
        clear H
        have H := H1
        clear H1
        by_cases c13 : a1 = 3
        ·rw [if_pos c13] at H
         have c13b0 : (a1 == 3) = true := beq_iff_eq.mpr c13
         have c13b1 : (a1 != 3) = false := bne_eq_false_iff_eq.mpr c13
         clear c13
         obtain rfl := Option.some.inj H
         go_wp2
         go_ret
         exact ⟨by first | rfl | (simp [errW_none, errW_some] <;> rfl) | (simp [*, errW_none, errW_some] <;> rfl), by repeat (first | (with_reducible first | exact HB.out | apply below_alloc | apply pw_below_drewN | apply below_drew1) | exact HB.out)⟩
        ·rw [if_neg c13] at H
         have c13b0 : (a1 == 3) = false := beq_eq_false_iff_ne.mpr c13
         have c13b1 : (a1 != 3) = true := bne_iff_ne.mpr c13
         obtain rfl := Option.some.inj H
         go_wp2
         go_ret
         exact ⟨by first | rfl | (simp [errW_none, errW_some] <;> rfl) | (simp [*, errW_none, errW_some] <;> rfl), by repeat (first | (with_reducible first | exact HB.out | apply below_alloc | apply pw_below_drewN | apply below_drew1) | exact HB.out)⟩
       ·replace c12 := Bool.eq_false_iff.mpr c12
        subst c12
        have H1 : (if a0 = 2 then (vivariumref10_step.j2 kj9 a1 a0 (a0 == 2)) else (vivariumref10_step.j2 kj9 a1 a0 (a0 == 5))) = some r := by rw [if_neg (show ¬ (false = true) by decide)] at H; exact H
        clear H
        have H := H1
        clear H1
        have HC14 := Aside0.mk H
        clear H
        go_upto_if 29 with (fail)
        go_cut [29] (fun v29 wc => ∃ (kq : Nat) (x29_13 : Bool), v29 = .bool x29_13 ∧ Aside0 (vivariumref10_step.j2 kq a1 a0 x29_13 = some r) ∧ Aside0 (kq ≤ kj9) ∧ Aside0 (Below w.heap.size w wc))
        case first =>
         have H := HC14.out
         clear HC14
         by_cases c15 : a0 = 2
         ·rw [if_pos c15] at H
          have c15b0 : (a0 == 2) = true := beq_iff_eq.mpr c15
          have c15b1 : (a0 != 2) = false := bne_eq_false_iff_eq.mpr c15
          clear c15
          (first | rw [c15b0] | (simp only [i64_w, i32_w]; rw [c15b0]) | skip)
          have H' := Aside0.mk H
          clear H
          go_wp2
          go_meet
          case rel => exact ⟨_, ((a0 == 2)), (by first | rfl | (simp; done) | (simp [*]; done)), H', ⟨by have := HJ3.out; have := HJ9.out; first | omega | exact Nat.le_refl _⟩, ⟨by repeat (first | (with_reducible first | exact HB.out | apply below_alloc | apply pw_below_drewN | apply below_drew1) | exact HB.out)⟩⟩
         ·rw [if_neg c15] at H
          have c15b0 : (a0 == 2) = false := beq_eq_false_iff_ne.mpr c15
          have c15b1 : (a0 != 2) = true := bne_iff_ne.mpr c15
          (first | rw [c15b0] | (simp only [i64_w, i32_w]; rw [c15b0]) | skip)
          have H' := Aside0.mk H
          clear H
          go_wp2
          go_meet
          case rel => exact ⟨_, ((a0 == 5)), (by first | rfl | (simp; done) | (simp [*]; done)), H', ⟨by have := HJ3.out; have := HJ9.out; first | omega | exact Nat.le_refl _⟩, ⟨by repeat (first | (with_reducible first | exact HB.out | apply below_alloc | apply pw_below_drewN | apply below_drew1) | exact HB.out)⟩⟩
        case rest =>
         clear HC14
         try clear c1
         try clear p2
         try clear c3
         try clear c6
         try clear c6b0
         try clear c6b1
         try clear p6
         try clear c7
         try clear c8
         try clear c8b0
         try clear c8b1
         try clear c9
         try clear c9b0
         try clear c9b1
         try clear c10
         try clear c11
         try clear c11b0
         try clear c11b1
         try clear c12
         try clear c13
         try clear c13b0
         try clear c13b1
         try clear c15
         try clear c15b0
         try clear c15b1
         try clear p2
         obtain ⟨kq, x29_13, rfl, HA, HJ13, HB⟩ := hcut
         cases kq with
         | zero => exact absurd HA.out (by simp [vivariumref10_step.j2])
         | succ kj13 =>
          have H := HA.out
          clear HA
          simp only [vivariumref10_step.j2] at H
          by_cases c16 : x29_13 = true
          ·subst c16
           have H1 : (if a1 = 1 then (some 1) else (some 0)) = some r := by rw [if_pos rfl] at H; exact H
           clear H
           have H := H1
           clear H1
           by_cases c17 : a1 = 1
           ·rw [if_pos c17] at H
            have c17b0 : (a1 == 1) = true := beq_iff_eq.mpr c17
            have c17b1 : (a1 != 1) = false := bne_eq_false_iff_eq.mpr c17
            clear c17
            obtain rfl := Option.some.inj H
            go_wp2
            go_ret
            exact ⟨by first | rfl | (simp [errW_none, errW_some] <;> rfl) | (simp [*, errW_none, errW_some] <;> rfl), by repeat (first | (with_reducible first | exact HB.out | apply below_alloc | apply pw_below_drewN | apply below_drew1) | exact HB.out)⟩
           ·rw [if_neg c17] at H
            have c17b0 : (a1 == 1) = false := beq_eq_false_iff_ne.mpr c17
            have c17b1 : (a1 != 1) = true := bne_iff_ne.mpr c17
            obtain rfl := Option.some.inj H
            go_wp2
            go_ret
            exact ⟨by first | rfl | (simp [errW_none, errW_some] <;> rfl) | (simp [*, errW_none, errW_some] <;> rfl), by repeat (first | (with_reducible first | exact HB.out | apply below_alloc | apply pw_below_drewN | apply below_drew1) | exact HB.out)⟩
          ·replace c16 := Bool.eq_false_iff.mpr c16
           subst c16
           have H1 : (if a0 = 7 then (if a1 = 3 then (some 3) else (some 0)) else (if a0 = 8 then (if a1 = 3 then (some 2) else (some 0)) else (if a0 = 9 then (vivariumref10_step.j3 kj13 a1 (a0 == 9)) else (vivariumref10_step.j3 kj13 a1 (a0 == 10))))) = some r := by rw [if_neg (show ¬ (false = true) by decide)] at H; exact H
           clear H
           have H := H1
           clear H1
           by_cases c18 : a0 = 7
           ·rw [if_pos c18] at H
            have c18b0 : (a0 == 7) = true := beq_iff_eq.mpr c18
            have c18b1 : (a0 != 7) = false := bne_eq_false_iff_eq.mpr c18
            clear c18
            by_cases c19 : a1 = 3
            ·rw [if_pos c19] at H
             have c19b0 : (a1 == 3) = true := beq_iff_eq.mpr c19
             have c19b1 : (a1 != 3) = false := bne_eq_false_iff_eq.mpr c19
             clear c19
             obtain rfl := Option.some.inj H
             go_wp2
             go_ret
             exact ⟨by first | rfl | (simp [errW_none, errW_some] <;> rfl) | (simp [*, errW_none, errW_some] <;> rfl), by repeat (first | (with_reducible first | exact HB.out | apply below_alloc | apply pw_below_drewN | apply below_drew1) | exact HB.out)⟩
            ·rw [if_neg c19] at H
             have c19b0 : (a1 == 3) = false := beq_eq_false_iff_ne.mpr c19
             have c19b1 : (a1 != 3) = true := bne_iff_ne.mpr c19
             obtain rfl := Option.some.inj H
             go_wp2
             go_ret
             exact ⟨by first | rfl | (simp [errW_none, errW_some] <;> rfl) | (simp [*, errW_none, errW_some] <;> rfl), by repeat (first | (with_reducible first | exact HB.out | apply below_alloc | apply pw_below_drewN | apply below_drew1) | exact HB.out)⟩
           ·rw [if_neg c18] at H
            have c18b0 : (a0 == 7) = false := beq_eq_false_iff_ne.mpr c18
            have c18b1 : (a0 != 7) = true := bne_iff_ne.mpr c18
            by_cases c20 : a0 = 8
            ·rw [if_pos c20] at H
             have c20b0 : (a0 == 8) = true := beq_iff_eq.mpr c20
             have c20b1 : (a0 != 8) = false := bne_eq_false_iff_eq.mpr c20
             clear c20
             by_cases c21 : a1 = 3
             ·rw [if_pos c21] at H
              have c21b0 : (a1 == 3) = true := beq_iff_eq.mpr c21
              have c21b1 : (a1 != 3) = false := bne_eq_false_iff_eq.mpr c21
              clear c21
              obtain rfl := Option.some.inj H
              go_wp2
              go_ret
              exact ⟨by first | rfl | (simp [errW_none, errW_some] <;> rfl) | (simp [*, errW_none, errW_some] <;> rfl), by repeat (first | (with_reducible first | exact HB.out | apply below_alloc | apply pw_below_drewN | apply below_drew1) | exact HB.out)⟩
             ·rw [if_neg c21] at H
              have c21b0 : (a1 == 3) = false := beq_eq_false_iff_ne.mpr c21
              have c21b1 : (a1 != 3) = true := bne_iff_ne.mpr c21
              obtain rfl := Option.some.inj H
              go_wp2
              go_ret
              exact ⟨by first | rfl | (simp [errW_none, errW_some] <;> rfl) | (simp [*, errW_none, errW_some] <;> rfl), by repeat (first | (with_reducible first | exact HB.out | apply below_alloc | apply pw_below_drewN | apply below_drew1) | exact HB.out)⟩
            ·rw [if_neg c20] at H
             have c20b0 : (a0 == 8) = false := beq_eq_false_iff_ne.mpr c20
             have c20b1 : (a0 != 8) = true := bne_iff_ne.mpr c20
             have HC22 := Aside0.mk H
             clear H
             go_upto_if 42 with (fail)
             go_cut [42] (fun v42 wc => ∃ (kq : Nat) (x42_21 : Bool), v42 = .bool x42_21 ∧ Aside0 (vivariumref10_step.j3 kq a1 x42_21 = some r) ∧ Aside0 (kq ≤ kj13) ∧ Aside0 (Below w.heap.size w wc))
             case first =>
              have H := HC22.out
              clear HC22
              by_cases c23 : a0 = 9
              ·rw [if_pos c23] at H
               have c23b0 : (a0 == 9) = true := beq_iff_eq.mpr c23
               have c23b1 : (a0 != 9) = false := bne_eq_false_iff_eq.mpr c23
               clear c23
               (first | rw [c23b0] | (simp only [i64_w, i32_w]; rw [c23b0]) | skip)
               have H' := Aside0.mk H
               clear H
               go_wp2
               go_meet
               case rel => exact ⟨_, ((a0 == 9)), (by first | rfl | (simp; done) | (simp [*]; done)), H', ⟨by have := HJ3.out; have := HJ9.out; have := HJ13.out; first | omega | exact Nat.le_refl _⟩, ⟨by repeat (first | (with_reducible first | exact HB.out | apply below_alloc | apply pw_below_drewN | apply below_drew1) | exact HB.out)⟩⟩
              ·rw [if_neg c23] at H
               have c23b0 : (a0 == 9) = false := beq_eq_false_iff_ne.mpr c23
               have c23b1 : (a0 != 9) = true := bne_iff_ne.mpr c23
               (first | rw [c23b0] | (simp only [i64_w, i32_w]; rw [c23b0]) | skip)
               have H' := Aside0.mk H
               clear H
               go_wp2
               go_meet
               case rel => exact ⟨_, ((a0 == 10)), (by first | rfl | (simp; done) | (simp [*]; done)), H', ⟨by have := HJ3.out; have := HJ9.out; have := HJ13.out; first | omega | exact Nat.le_refl _⟩, ⟨by repeat (first | (with_reducible first | exact HB.out | apply below_alloc | apply pw_below_drewN | apply below_drew1) | exact HB.out)⟩⟩
             case rest =>
              clear HC22
              try clear c1
              try clear c2
              try clear p2
              try clear c3
              try clear c6
              try clear c6b0
              try clear c6b1
              try clear p6
              try clear c7
              try clear c8
              try clear c8b0
              try clear c8b1
              try clear c9
              try clear c9b0
              try clear c9b1
              try clear c10
              try clear c11
              try clear c11b0
              try clear c11b1
              try clear c12
              try clear c13
              try clear c13b0
              try clear c13b1
              try clear c15
              try clear c15b0
              try clear c15b1
              try clear c16
              try clear c17
              try clear c17b0
              try clear c17b1
              try clear c18
              try clear c18b0
              try clear c18b1
              try clear c19
              try clear c19b0
              try clear c19b1
              try clear c20
              try clear c20b0
              try clear c20b1
              try clear c21
              try clear c21b0
              try clear c21b1
              try clear c23
              try clear c23b0
              try clear c23b1
              try clear p2
              try clear p6
              obtain ⟨kq, x42_21, rfl, HA, HJ21, HB⟩ := hcut
              cases kq with
              | zero => exact absurd HA.out (by simp [vivariumref10_step.j3])
              | succ kj21 =>
               have H := HA.out
               clear HA
               simp only [vivariumref10_step.j3] at H
               by_cases c24 : x42_21 = true
               ·subst c24
                have H1 : (if a1 = 3 then (some 1) else (some 0)) = some r := by rw [if_pos rfl] at H; exact H
                clear H
                have H := H1
                clear H1
                by_cases c25 : a1 = 3
                ·rw [if_pos c25] at H
                 have c25b0 : (a1 == 3) = true := beq_iff_eq.mpr c25
                 have c25b1 : (a1 != 3) = false := bne_eq_false_iff_eq.mpr c25
                 clear c25
                 obtain rfl := Option.some.inj H
                 go_wp2
                 go_ret
                 exact ⟨by first | rfl | (simp [errW_none, errW_some] <;> rfl) | (simp [*, errW_none, errW_some] <;> rfl), by repeat (first | (with_reducible first | exact HB.out | apply below_alloc | apply pw_below_drewN | apply below_drew1) | exact HB.out)⟩
                ·rw [if_neg c25] at H
                 have c25b0 : (a1 == 3) = false := beq_eq_false_iff_ne.mpr c25
                 have c25b1 : (a1 != 3) = true := bne_iff_ne.mpr c25
                 obtain rfl := Option.some.inj H
                 go_wp2
                 go_ret
                 exact ⟨by first | rfl | (simp [errW_none, errW_some] <;> rfl) | (simp [*, errW_none, errW_some] <;> rfl), by repeat (first | (with_reducible first | exact HB.out | apply below_alloc | apply pw_below_drewN | apply below_drew1) | exact HB.out)⟩
               ·replace c24 := Bool.eq_false_iff.mpr c24
                subst c24
                have H1 : (some 0) = some r := by rw [if_neg (show ¬ (false = true) by decide)] at H; exact H
                clear H
                have H := H1
                clear H1
                obtain rfl := Option.some.inj H
                go_wp2
                go_ret
                exact ⟨by first | rfl | (simp [errW_none, errW_some] <;> rfl) | (simp [*, errW_none, errW_some] <;> rfl), by repeat (first | (with_reducible first | exact HB.out | apply below_alloc | apply pw_below_drewN | apply below_drew1) | exact HB.out)⟩
end Go.Proofs.YtajhfkcmfmhnaaaDoor.P
namespace Go.Proofs.YtajhfkcmfmhnaaaDoor.P
open Go.RowKit Go.Proofs.YtajhfkcmfmhnaaaDoorW.PrintWords Go.Proofs.YtajhfkcmfmhnaaaDoorW.PrintLast Go.Proofs.YtajhfkcmfmhnaaaDoorW.PrintMore
attribute [local go_sem] max2_int min2_int max_two min_two max_three min_three max_four min_four   -- for this text's walks alone
set_option linter.unusedVariables false
set_option linter.unusedSimpArgs false
def vivariumref10_may.f (k : Nat) (a0 : Int) (a1 : Int) : Option (Int) := if a0 > 10 then (some 103) else ((vivariumref07_Size.f a1).bind fun bt116 => (if bt116.2 = 0 then ((vivariumref10_step.f k a0 a1).bind fun t118 => (if t118 = 0 then (some 103) else (some 0))) else (some bt116.2)))
theorem vivariumref10_may.mono : ∀ a0 a1 k, LeO (vivariumref10_may.f k a0 a1) (vivariumref10_may.f (k + 1) a0 a1) := by
 intro a0 a1 k
 unfold vivariumref10_may.f
 repeat' first
   | (with_reducible exact vivariumref10_step.mono _ _ _)
   | (with_reducible exact LeO.refl _)
   | (with_reducible exact LeO.none _)
   | (with_reducible refine LeO.ite ?_ ?_)
   | (with_reducible refine LeO.bind ?_ (fun _ => ?_))
   | exact vivariumref10_step.mono _ _ _
   | exact LeO.none _
   | refine LeO.ite ?_ ?_
   | refine LeO.bind ?_ (fun _ => ?_)
set_option maxHeartbeats 8000000 in
set_option maxRecDepth 100000 in
theorem vivariumref10_may.calls (k : Nat) (a0 : Int) (a1 : Int) (r : Int) (w : World) (h : vivariumref10_may.f k a0 a1 = some r) :
  Calls Tryd.prog 11 #[.int .u8 a0, .int .u8 a1] w fun e w' => e = .returned (.int .i64 r) ∧ Below w.heap.size w w' := by
 have HB := Aside0.mk (Below.refl w.heap.size w)
 have H : (if a0 > 10 then (some 103) else ((vivariumref07_Size.f a1).bind fun bt116 => (if bt116.2 = 0 then ((vivariumref10_step.f k a0 a1).bind fun t118 => (if t118 = 0 then (some 103) else (some 0))) else (some bt116.2)))) = some r := h
 clear h
 by_cases c3 : a0 > 10
 ·rw [if_pos c3] at H
  have c3b0 : decide (10 < a0) = true := decide_eq_true c3
  clear c3
  obtain rfl := Option.some.inj H
  go_enter Tryd.func11, Tryd.ntmps11
  go_wp2
  go_ret
  exact ⟨by first | rfl | (simp [errW_none, errW_some] <;> rfl) | (simp [*, errW_none, errW_some] <;> rfl), by repeat (first | (with_reducible first | exact HB.out | apply below_alloc | apply pw_below_drewN | apply below_drew1) | exact HB.out)⟩
 ·rw [if_neg c3] at H
  have c3b0 : decide (10 < a0) = false := decide_eq_false c3
  clear c3
  replace H := Option.bind_eq_some_iff.mp H
  obtain ⟨⟨t116, t117⟩, A40, H⟩ := H
  replace H : (if t117 = 0 then ((vivariumref10_step.f k a0 a1).bind fun t118 => (if t118 = 0 then (some 103) else (some 0))) else (some t117)) = some r := H
  have A4 := Aside0.mk A40
  clear A40
  by_cases c5 : t117 = 0
  ·rw [if_pos c5] at H
   have c5b0 : (t117 == 0) = true := beq_iff_eq.mpr c5
   have c5b1 : (t117 != 0) = false := bne_eq_false_iff_eq.mpr c5
   clear c5
   replace H := Option.bind_eq_some_iff.mp H
   obtain ⟨t118, A60, H⟩ := H
   replace H : (if t118 = 0 then (some 103) else (some 0)) = some r := H
   have A6 := Aside0.mk A60
   clear A60
   by_cases c7 : t118 = 0
   ·rw [if_pos c7] at H
    have c7b0 : (t118 == 0) = true := beq_iff_eq.mpr c7
    have c7b1 : (t118 != 0) = false := bne_eq_false_iff_eq.mpr c7
    clear c7
    obtain rfl := Option.some.inj H
    go_enter Tryd.func11, Tryd.ntmps11
    go_wp2_with (first | ((with_reducible refine gate_callee (f := 10) rfl ?_); refine goesL_ (some 11) rfl rfl Tryd.func10 (by kernel_rfl) rfl #[.int .u8 a1] rfl (by (try simp only [List.map_toArray, List.map_cons, List.map_nil]); first | done | rfl | (simp only [List.length_drop, List.length_take]; rfl)) ?_; (with_reducible refine (vivariumref07_Size.calls a1 t116 t117 _ A4.out).mono ?_); rintro e w8 ⟨rfl, hb⟩; refine ⟨_, rfl, ?_⟩; have n0_ := Aside0.mk (below_step (by repeat (first | (with_reducible first | exact HB.out | apply below_alloc | apply pw_below_drewN | apply below_drew1) | exact HB.out)) hb); clear HB; have HB := n0_; clear n0_; (try clear hb); (try clear hb2); (try clear hk); (try clear hi)) | ((with_reducible refine gate_callee (f := 33) rfl ?_); refine goesL_ (some 19) rfl rfl Tryd.func33 (by kernel_rfl) rfl #[.int .u8 a0, .int .u8 a1] rfl (by (try simp only [List.map_toArray, List.map_cons, List.map_nil]); first | done | rfl | (simp only [List.length_drop, List.length_take]; rfl)) ?_; (with_reducible refine (vivariumref10_step.calls k a0 a1 t118 _ A6.out).mono ?_); rintro e w9 ⟨rfl, hb⟩; refine ⟨_, rfl, ?_⟩; have n0_ := Aside0.mk (below_step (by repeat (first | (with_reducible first | exact HB.out | apply below_alloc | apply pw_below_drewN | apply below_drew1) | exact HB.out)) hb); clear HB; have HB := n0_; clear n0_; (try clear hb); (try clear hb2); (try clear hk); (try clear hi)))
    go_ret
    exact ⟨by first | rfl | (simp [errW_none, errW_some] <;> rfl) | (simp [*, errW_none, errW_some] <;> rfl), by repeat (first | (with_reducible first | exact HB.out | apply below_alloc | apply pw_below_drewN | apply below_drew1) | exact HB.out)⟩
   ·rw [if_neg c7] at H
    have c7b0 : (t118 == 0) = false := beq_eq_false_iff_ne.mpr c7
    have c7b1 : (t118 != 0) = true := bne_iff_ne.mpr c7
    obtain rfl := Option.some.inj H
    go_enter Tryd.func11, Tryd.ntmps11
    go_wp2_with (first | ((with_reducible refine gate_callee (f := 10) rfl ?_); refine goesL_ (some 11) rfl rfl Tryd.func10 (by kernel_rfl) rfl #[.int .u8 a1] rfl (by (try simp only [List.map_toArray, List.map_cons, List.map_nil]); first | done | rfl | (simp only [List.length_drop, List.length_take]; rfl)) ?_; (with_reducible refine (vivariumref07_Size.calls a1 t116 t117 _ A4.out).mono ?_); rintro e w10 ⟨rfl, hb⟩; refine ⟨_, rfl, ?_⟩; have n0_ := Aside0.mk (below_step (by repeat (first | (with_reducible first | exact HB.out | apply below_alloc | apply pw_below_drewN | apply below_drew1) | exact HB.out)) hb); clear HB; have HB := n0_; clear n0_; (try clear hb); (try clear hb2); (try clear hk); (try clear hi)) | ((with_reducible refine gate_callee (f := 33) rfl ?_); refine goesL_ (some 19) rfl rfl Tryd.func33 (by kernel_rfl) rfl #[.int .u8 a0, .int .u8 a1] rfl (by (try simp only [List.map_toArray, List.map_cons, List.map_nil]); first | done | rfl | (simp only [List.length_drop, List.length_take]; rfl)) ?_; (with_reducible refine (vivariumref10_step.calls k a0 a1 t118 _ A6.out).mono ?_); rintro e w11 ⟨rfl, hb⟩; refine ⟨_, rfl, ?_⟩; have n0_ := Aside0.mk (below_step (by repeat (first | (with_reducible first | exact HB.out | apply below_alloc | apply pw_below_drewN | apply below_drew1) | exact HB.out)) hb); clear HB; have HB := n0_; clear n0_; (try clear hb); (try clear hb2); (try clear hk); (try clear hi)))
    go_ret
    exact ⟨by first | rfl | (simp [errW_none, errW_some] <;> rfl) | (simp [*, errW_none, errW_some] <;> rfl), by repeat (first | (with_reducible first | exact HB.out | apply below_alloc | apply pw_below_drewN | apply below_drew1) | exact HB.out)⟩
  ·rw [if_neg c5] at H
   have c5b0 : (t117 == 0) = false := beq_eq_false_iff_ne.mpr c5
   have c5b1 : (t117 != 0) = true := bne_iff_ne.mpr c5
   obtain rfl := Option.some.inj H
   go_enter Tryd.func11, Tryd.ntmps11
   go_wp2_with (first | ((with_reducible refine gate_callee (f := 10) rfl ?_); refine goesL_ (some 11) rfl rfl Tryd.func10 (by kernel_rfl) rfl #[.int .u8 a1] rfl (by (try simp only [List.map_toArray, List.map_cons, List.map_nil]); first | done | rfl | (simp only [List.length_drop, List.length_take]; rfl)) ?_; (with_reducible refine (vivariumref07_Size.calls a1 t116 t117 _ A4.out).mono ?_); rintro e w12 ⟨rfl, hb⟩; refine ⟨_, rfl, ?_⟩; have n0_ := Aside0.mk (below_step (by repeat (first | (with_reducible first | exact HB.out | apply below_alloc | apply pw_below_drewN | apply below_drew1) | exact HB.out)) hb); clear HB; have HB := n0_; clear n0_; (try clear hb); (try clear hb2); (try clear hk); (try clear hi)))
   go_ret
   exact ⟨by first | rfl | (simp [errW_none, errW_some] <;> rfl) | (simp [*, errW_none, errW_some] <;> rfl), by repeat (first | (with_reducible first | exact HB.out | apply below_alloc | apply pw_below_drewN | apply below_drew1) | exact HB.out)⟩
end Go.Proofs.YtajhfkcmfmhnaaaDoor.P
end

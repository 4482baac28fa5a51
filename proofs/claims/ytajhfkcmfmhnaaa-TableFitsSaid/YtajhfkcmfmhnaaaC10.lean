-- Written by a program of this session (wip/tools/shake.py): texts of this claim, of each what the claim names.
import Derived.Test.YtajhfkcmfmhnaaaC2
import Derived.Test.YtajhfkcmfmhnaaaC3
import Derived.Test.YtajhfkcmfmhnaaaC5
import Derived.Test.YtajhfkcmfmhnaaaC9
import Derived.Deep.DeepMust
import Derived.StillTailTactics
import Derived.Great.BuildSlice
import Derived.Laws.CopyOwn
import Derived.Great.Walk
section
namespace Go.Proofs.Ytajhfkcmfmhnaaa.P
open Go.RowKit Go.Proofs.YtajhfkcmfmhnaaaW.PrintWords Go.Proofs.YtajhfkcmfmhnaaaW.PrintLast Go.Proofs.YtajhfkcmfmhnaaaW.PrintMore
attribute [local go_sem] max2_int min2_int max_two min_two max_three min_three max_four min_four   -- for this text's walks alone
set_option linter.unusedVariables false
set_option linter.unusedSimpArgs false
open Go.Proofs.Ytajhfkcmfmhnaaa.L
set_option maxHeartbeats 8000000 in
set_option maxRecDepth 100000 in
theorem add_walk (base : Nat) (v : Value) (us : List Value) (xss : List (List Int)) (gb gc : Nat) (g : List Int) (w : World) (hl : LL w base v us xss) (hbase : base ≤ w.heap.size) (hg : w.ownsRow base 3 1 (.slice (some ⟨gb, 0, none⟩) g.length gc) g.length (nums .i64 g)) (hne : ∀ a ∈ us, a.ownBlock ≠ some gb) (hlen : us.length ≤ 1000) (hg8 : g.length ≤ 8) (hx8 : ∀ x ∈ xss, x.length ≤ 8) :
  Calls Try.prog 21 #[v, .slice (some ⟨gb, 0, none⟩) g.length gc] w fun e w' => ∃ v' us', e = .returned v' ∧ LL w' base v' us' (addL xss g) ∧ (∀ a ∈ us', a ∈ us ∨ a.ownBlock = some gb) ∧ w.grownBy w' v.ownBlock ∧ Below base w w' := by
 have HL := Aside0.mk hl
 have HG := Aside0.mk hg
 have HX8 := Aside0.mk hx8
 have HNE := Aside0.mk hne
 obtain ⟨vA, vc, rfl⟩ := own_slice hl.out
 have HU : Aside0 (us.length = xss.length) := ⟨hl.inn.len⟩
 have HP := Aside0.mk (posL_le g xss)
 obtain ⟨P, hP⟩ : ∃ P, posL g xss = P := ⟨_, rfl⟩
 have HPE := Aside0.mk hP
 rw [hP] at HP
 clear hl hg hx8 hne hP
 have hul : (us.length : Int) ≤ 1000 := by omega
 obtain ⟨xf, hxf⟩ : ∃ f : Nat → List Int, ∀ k, f k = xss.getD k [] := ⟨_, fun _ => rfl⟩
 have HXF := Aside0.mk hxf
 clear hxf
 have hrd : ∀ (k : Nat) (hk : k < us.length), ∃ A c, us[k] = .slice A (xf k).length c ∧ (Kd.int .i64).C w A (xf k).length (xf k) ∧ (xf k).length ≤ c := by
  intro k hk
  have hkx : k < xss.length := by rw [← HU.out]; exact hk
  have hx : xss[k]? = some (xf k) := by rw [HXF.out, List.getD_eq_getElem?_getD, List.getElem?_eq_getElem hkx]; rfl
  have hr := HL.out.inn.row k us[k] _ (List.getElem?_eq_getElem hk) hx
  obtain ⟨A, c, e⟩ := own_slice hr
  rw [e] at hr
  exact ⟨A, c, e, (own_C hr rfl).1, (own_C hr rfl).2⟩
 have HRD := Aside0.mk hrd
 clear hrd
 go_enter Try.func21, Try.ntmps21
 go_wp2
 go_loopw [5] (fun v5 wr => ∃ k : Nat, k ≤ P ∧ v5 = .int .i64 k ∧ Aside0 (Drawn0 w wr)) (fun v5 wr => us.length - (intOf v5).toNat)
 case atStart => exact ⟨0, Nat.zero_le _, rfl, ⟨Drawn0.refl _⟩⟩
 case round =>
  rename World => wo
  obtain ⟨k, hk, rfl, HD⟩ := hrel
  obtain ⟨n0, rfl⟩ := HD.out
  have HGC := Aside0.mk (own_C HG.out rfl)
  by_cases hku : k < us.length
  ·have q0 : (0 : Int) ≤ (k : Int) := by omega
   have q1 : (k : Int) < (us.length : Int) := by omega
   have q2 : (k : Int) ≤ 1000 := by omega
   obtain ⟨A, c, e, hCK, hLK⟩ := HRD.out k hku
   obtain ⟨og, oc, e2⟩ := row_some' HL.out.out (by omega)
   obtain rfl : vA = some ⟨og, 0, none⟩ := by injection e2
   have ck := HL.out.out.cells (g := og) rfl k us[k] (List.getElem?_eq_getElem hku)
   rw [add_plain, e] at ck
   have HCK := Aside0.mk hCK
   have HLK := Aside0.mk hLK
   have hkx : k < xss.length := by rw [← HU.out]; exact hku
   have hxk : xf k = xss[k] := by rw [HXF.out, List.getD_eq_getElem?_getD, List.getElem?_eq_getElem hkx]; rfl
   have h8k : (xf k).length ≤ 8 := by rw [hxk]; exact HX8.out _ (List.getElem_mem hkx)
   clear hCK hLK e e2
   by_cases hkp : k < P
   ·have hls : lessL (xf k) g = true := by rw [hxk]; exact posL_lt g xss k hkx (by rw [HPE.out]; exact hkp)
    have HLS := Aside0.mk hls
    have H8K := Aside0.mk h8k
    clear hls hxk h8k
    go_wp2_with (first | (go_at_call 35; go_must ((with_reducible refine (less_calls A c (xf k) (some ⟨gb, 0, none⟩) gc g _ (Kd.C_drewN HCK.out _) HLK.out (Kd.C_drewN HGC.out.1 _) HGC.out.2 H8K.out).mono ?_); rintro e w2 ⟨rfl, hd2⟩; obtain ⟨n2, rfl⟩ := hd2; rw [HLS.out])))
    go_round
    case rel => exact ⟨k + 1, by omega, by go_num, ⟨(Drawn0.refl w).step _⟩⟩
    case measure => simp [intOf]; omega
   ·obtain rfl : P = k := by omega
    have hls : lessL (xf P) g = false := by
     rw [hxk]
     have := posL_at g xss (by rw [HPE.out]; exact hkx)
     simpa only [HPE.out] using this
    have HLS := Aside0.mk hls
    have H8K := Aside0.mk h8k
    cases hlt : lessL g (xf P) with
    | false =>
     have HLT := Aside0.mk hlt
     have H8G := Aside0.mk hg8
     have HAD : Aside0 (addL xss g = xss) := ⟨by unfold addL; rw [HPE.out, ← HXF.out, hlt, decide_eq_true hkx]; rfl⟩
     clear hls hxk h8k hlt
     go_wp2_with (first | (go_at_call 35; go_must (first | ((with_reducible refine (less_calls A c (xf P) (some ⟨gb, 0, none⟩) gc g _ (Kd.C_drewN HCK.out _) HLK.out (Kd.C_drewN HGC.out.1 _) HGC.out.2 H8K.out).mono ?_); rintro e w2 ⟨rfl, hd2⟩; obtain ⟨n2, rfl⟩ := hd2; rw [HLS.out]) | ((with_reducible refine (less_calls (some ⟨gb, 0, none⟩) gc g A c (xf P) _ (Kd.C_drewN HGC.out.1 _) HGC.out.2 (Kd.C_drewN HCK.out _) HLK.out H8G.out).mono ?_); rintro e w2 ⟨rfl, hd2⟩; obtain ⟨n2, rfl⟩ := hd2; rw [HLT.out]))))
     go_ret
     rw [HAD.out]
     exact ⟨_, us, rfl, HL.out.below (pw_below_drewN (Below.refl _ _) _), fun a ha => .inl ha, World.grownBy_drewN _ _ _, pw_below_drewN (Below.refl _ _) _⟩
    | true =>
     have HLT := Aside0.mk hlt
     have H8G := Aside0.mk hg8
     have HNEW : Aside0 (P = xss.length ∨ lessL g (xss.getD P []) = true) := ⟨.inr (by rw [← HXF.out]; exact hlt)⟩
     have HPU : Aside0 (P ≤ us.length) := ⟨by omega⟩
     clear hls hxk h8k hlt
     obtain ⟨i0, hi0, hzz⟩ := Option.map_eq_some_iff.1 infoRow
     simp only [Prod.mk.injEq] at hzz
     obtain ⟨hz0, hz1, hz2⟩ := hzz
     have HOA : Aside0 (∀ m : Nat, ((w.drewN m).alloc (.cells #[.slice none 0 0] 28)).ownsRow base 28 1 (.slice (some ⟨og, 0, none⟩) us.length vc) us.length us) := ⟨fun m => pw_own_below HL.out.out (below_alloc (pw_below_drewN (Below.refl _ _) m) _)⟩
     have HNA : Aside0 (∀ (m j : Nat) (u : Value), ([.slice none 0 0] : List Value)[j]? = some u → ((w.drewN m).alloc (.cells #[.slice none 0 0] 28)).cell? ((⟨w.heap.size, 0, none⟩ : Addr).add j) = some u) := ⟨fun m => World.news_of_block (cs := #[.slice none 0 0]) (t := 28) (fr := (0, 0)) (blk_new w _)⟩
     have HBA : Aside0 (∀ m : Nat, base ≤ ((w.drewN m).alloc (.cells #[.slice none 0 0] 28)).heap.size) := ⟨fun m => by simp; omega⟩
     go_wp2_with (first | (go_at_call 35; go_must (first | ((with_reducible refine (less_calls A c (xf P) (some ⟨gb, 0, none⟩) gc g _ (Kd.C_drewN HCK.out _) HLK.out (Kd.C_drewN HGC.out.1 _) HGC.out.2 H8K.out).mono ?_); rintro e w2 ⟨rfl, hd2⟩; obtain ⟨n2, rfl⟩ := hd2; rw [HLS.out]) | ((with_reducible refine (less_calls (some ⟨gb, 0, none⟩) gc g A c (xf P) _ (Kd.C_drewN HGC.out.1 _) HGC.out.2 (Kd.C_drewN HCK.out _) HLK.out H8G.out).mono ?_); rintro e w2 ⟨rfl, hd2⟩; obtain ⟨n2, rfl⟩ := hd2; rw [HLT.out]))) | ((with_reducible refine gate_dst (N := 37) rfl ?_); at_builtin; go_must (refine wpList_append_own_at _ rfl (.tmp 35) (.tmp 36) 22 rfl base 28 i0 (.slice none 0 0) 1 24 Try.underlying22 hi0 hz0 hz1 hz2 rfl (by decide) _ us.length us rfl (HOA.out _) _ 1 1 [.slice none 0 0] rfl rfl (HNA.out _) (by simp [Value.oneCell']) (by unfold maxLen; omega) (by omega) (HBA.out _) ?_; intro v5 w5 ho5 hg5 hnil5 hat5; obtain ⟨og1, oc1, rfl⟩ : ∃ g c, v5 = .slice (some ⟨g, 0, none⟩) (us.length + 1) c := row_some' ho5 (by omega); have HO5 := Aside0.mk ho5; have HG5 := Aside0.mk hg5; have HAT5 := Aside0.mk hat5; clear ho5 hg5 hnil5 hat5)))
     have HW5 : Aside0 (w.grownBy w5 (Value.slice (some ⟨og, 0, none⟩) us.length vc).ownBlock) := ⟨⟨HG5.out.os, HG5.out.tape, HG5.out.output, by have := HG5.out.size; simp at this; omega, fun k hk hne => (HG5.out.block k (by simp; omega) hne).trans (Below.heap_alloc w _ k hk)⟩⟩
     have HOG : Aside0 (some og1 = (Value.slice (some ⟨og, 0, none⟩) us.length vc).ownBlock ∨ w.heap.size ≤ og1) := ⟨by
      rcases HAT5.out with e | e
      ·exact .inl (by first | exact e | exact e.symm)
      ·have e2 : og1 = w.heap.size + 1 := by
        have e3 : some og1 = some ((w.alloc (.cells #[.slice none 0 0] 28)).heap.size) := e
        simpa using e3
       exact .inr (by omega)⟩
     clear HOA HNA HBA hi0 hz0 hz1 hz2
     go_loopw [6] (fun v6 wr => ∃ i : Nat, P ≤ i ∧ i ≤ us.length ∧ v6 = .int .i64 i ∧ Aside0 (wr.ownsRow base 28 1 (.slice (some ⟨og1, 0, none⟩) (us.length + 1) oc1) (us.length + 1) (shf (us ++ [.slice none 0 0]) i)) ∧ Aside0 (w5.grownBy wr (some og1))) (fun v6 wr => (intOf v6).toNat - P)
     case atStart => exact ⟨us.length, HPU.out, Nat.le_refl _, rfl, ⟨by rw [shf_last _ (by simp)]; exact HO5.out⟩, ⟨World.grownBy_refl _ _⟩⟩
     case round =>
      rename World => wq
      obtain ⟨i, hi1, hi2, rfl, HQ, HQG⟩ := hrel
      clear HO5
      by_cases hlt : P < i
      ·have p0 : (P : Int) < (i : Int) := by omega
       have p1 : (1 : Int) ≤ (i : Int) := by omega
       have p2 : (i : Int) ≤ 1000 := by omega
       have p3 : (i : Int) - 1 < ((us.length : Int) + 1) := by omega
       have p4 : (i : Int) < ((us.length : Int) + 1) := by omega
       obtain ⟨A, c, e, _, _⟩ := HRD.out (i - 1) (by omega)
       have hge : (shf (us ++ [.slice none 0 0]) i)[i - 1]? = some (.slice A (xf (i - 1)).length c) := by
        rw [shf_before _ _ _ (by omega) (by simp; omega), List.getElem?_append_left (by omega), List.getElem?_eq_getElem (by omega), e]
       have ce := HQ.out.cells (g := og1) rfl (i - 1) _ hge
       rw [add_plain] at ce
       have ⟨A2, n2, c2, hx⟩ : ∃ A2 n2 c2, (shf (us ++ [.slice none 0 0]) i)[i]? = some (.slice A2 n2 c2) := by
        rw [shf_before _ _ _ (by omega) (by simp; omega)]
        rcases Nat.lt_or_ge i us.length with h | h
        ·obtain ⟨A2, c2, e2, _, _⟩ := HRD.out i h
         exact ⟨_, _, _, by rw [List.getElem?_append_left h, List.getElem?_eq_getElem h, e2]⟩
        ·exact ⟨none, 0, 0, by rw [List.getElem?_append_right h, show i - us.length = 0 from by omega]; rfl⟩
       have cx := HQ.out.cells (g := og1) rfl i _ hx
       rw [add_plain] at cx
       have fx := HQ.out.frozenAt i
       have HST := Aside0.mk (HQ.out.stored i (.slice A (xf (i - 1)).length c))
       have HSE := Aside0.mk (shf_step (us ++ [.slice none 0 0]) i (.slice A (xf (i - 1)).length c) (by omega) (by simp; omega) (by
        rw [List.getElem?_append_left (by omega), List.getElem?_eq_getElem (by omega), e]))
       clear hge hx e
       have HI := Aside0.mk (And.intro hi1 hi2)
       clear hi1 hi2 hku hk
       generalize (xf (i - 1)).length = ln at *
       go_wp2
       go_round
       case rel => have hi1 := HI.out.1; have hi2 := HI.out.2; exact ⟨i - 1, by omega, by omega, (by rw [show (((i - 1 : Nat) : Int)) = (i : Int) - 1 from by omega]), ⟨by rw [← HSE.out]; exact HST.out.1⟩, ⟨HQG.out.trans HST.out.2⟩⟩
       case measure => simp [intOf]; omega
      ·obtain rfl : P = i := by omega
       have q0 : (0 : Int) ≤ (P : Int) := by omega
       have q1 : (P : Int) < ((us.length : Int) + 1) := by omega
       have ⟨A2, n2, c2, hx⟩ : ∃ A2 n2 c2, (shf (us ++ [.slice none 0 0]) P)[P]? = some (.slice A2 n2 c2) := by
        rw [shf_before _ _ _ (by omega) (by simp; omega)]
        rcases Nat.lt_or_ge P us.length with h | h
        ·obtain ⟨A2, c2, e2, _, _⟩ := HRD.out P h
         exact ⟨_, _, _, by rw [List.getElem?_append_left h, List.getElem?_eq_getElem h, e2]⟩
        ·exact ⟨none, 0, 0, by rw [List.getElem?_append_right h, show P - us.length = 0 from by omega]; rfl⟩
       have cx := HQ.out.cells (g := og1) rfl P _ hx
       rw [add_plain] at cx
       have fx := HQ.out.frozenAt P
       have HST := Aside0.mk (HQ.out.stored P (.slice (some ⟨gb, 0, none⟩) g.length gc))
       have HSE := Aside0.mk (shf_end us (.slice none 0 0) (.slice (some ⟨gb, 0, none⟩) g.length gc) P hi2)
       have HI := Aside0.mk (And.intro hi1 hi2)
       clear hx hi1 hi2 hku hk
       go_wp2
       go_ret
       have hi2 := HI.out.2
       have hso := HST.out.1
       rw [HSE.out] at hso
       have hgr : w5.grownBy (wq.setCell ⟨og1, P, none⟩ (.slice (some ⟨gb, 0, none⟩) g.length gc)) (some og1) := HQG.out.trans HST.out.2
       have hall : w.grownBy (wq.setCell ⟨og1, P, none⟩ (.slice (some ⟨gb, 0, none⟩) g.length gc)) (Value.slice (some ⟨og, 0, none⟩) us.length vc).ownBlock := ⟨hgr.os.trans HW5.out.os, hgr.tape.trans HW5.out.tape, hgr.output.trans HW5.out.output, Nat.le_trans HW5.out.size hgr.size, fun k hk hne => (hgr.block k (Nat.lt_of_lt_of_le hk HW5.out.size) (fun e => by
        rcases HOG.out with h | h
        ·exact hne (e.trans h)
        ·have := Option.some.inj e; omega)).trans (HW5.out.block k hk hne)⟩
       have hins := HL.out.inn.insert HG.out ⟨gb, rfl⟩ (fun a ha => HNE.out a ha) P
       refine ⟨.slice (some ⟨og1, 0, none⟩) (us.length + 1) oc1, us.take P ++ (Value.slice (some ⟨gb, 0, none⟩) g.length gc) :: us.drop P, rfl, ⟨?_, ?_⟩, ?_, hall, (Below.refl base w).grown hall hbase (own_base HL.out.out)⟩
       ·have hln : (us.take P ++ (Value.slice (some ⟨gb, 0, none⟩) g.length gc) :: us.drop P).length = us.length + 1 := by simp; omega
        rw [hln]; exact hso
       ·rw [addL_new HPE.out HNEW.out]
        exact hins.map (fun u xs hr => own_other hr hall (ne_of_own HL.out.out hr))
       ·intro a ha
        rcases List.mem_append.1 ha with h | h
        ·exact .inl (List.mem_of_mem_take h)
        ·rcases List.mem_cons.1 h with h | h
         ·exact .inr (by rw [h]; rfl)
         ·exact .inl (List.mem_of_mem_drop h)
  ·have hkP : k = P := by have := HP.out; have := HU.out; omega
   subst hkP
   have HNEW : Aside0 (k = xss.length ∨ lessL g (xss.getD k []) = true) := ⟨.inl (by have := HP.out; have := HU.out; omega)⟩
   have HPU : Aside0 (k ≤ us.length) := ⟨by have := HP.out; have := HU.out; omega⟩
   obtain ⟨i0, hi0, hzz⟩ := Option.map_eq_some_iff.1 infoRow
   simp only [Prod.mk.injEq] at hzz
   obtain ⟨hz0, hz1, hz2⟩ := hzz
   have HOA : Aside0 (∀ m : Nat, ((w.drewN m).alloc (.cells #[.slice none 0 0] 28)).ownsRow base 28 1 (.slice vA us.length vc) us.length us) := ⟨fun m => pw_own_below HL.out.out (below_alloc (pw_below_drewN (Below.refl _ _) m) _)⟩
   have HNA : Aside0 (∀ (m j : Nat) (u : Value), ([.slice none 0 0] : List Value)[j]? = some u → ((w.drewN m).alloc (.cells #[.slice none 0 0] 28)).cell? ((⟨w.heap.size, 0, none⟩ : Addr).add j) = some u) := ⟨fun m => World.news_of_block (cs := #[.slice none 0 0]) (t := 28) (fr := (0, 0)) (blk_new w _)⟩
   have HBA : Aside0 (∀ m : Nat, base ≤ ((w.drewN m).alloc (.cells #[.slice none 0 0] 28)).heap.size) := ⟨fun m => by simp; omega⟩
   go_wp2_with (first | ((with_reducible refine gate_dst (N := 37) rfl ?_); at_builtin; go_must (refine wpList_append_own_at _ rfl (.tmp 35) (.tmp 36) 22 rfl base 28 i0 (.slice none 0 0) 1 24 Try.underlying22 hi0 hz0 hz1 hz2 rfl (by decide) _ us.length us rfl (HOA.out _) _ 1 1 [.slice none 0 0] rfl rfl (HNA.out _) (by simp [Value.oneCell']) (by unfold maxLen; omega) (by omega) (HBA.out _) ?_; intro v5 w5 ho5 hg5 hnil5 hat5; obtain ⟨og1, oc1, rfl⟩ : ∃ g c, v5 = .slice (some ⟨g, 0, none⟩) (us.length + 1) c := row_some' ho5 (by omega); have HO5 := Aside0.mk ho5; have HG5 := Aside0.mk hg5; have HAT5 := Aside0.mk hat5; clear ho5 hg5 hnil5 hat5)))
   have HW5 : Aside0 (w.grownBy w5 (Value.slice vA us.length vc).ownBlock) := ⟨⟨HG5.out.os, HG5.out.tape, HG5.out.output, by have := HG5.out.size; simp at this; omega, fun k hk hne => (HG5.out.block k (by simp; omega) hne).trans (Below.heap_alloc w _ k hk)⟩⟩
   have HOG : Aside0 (some og1 = (Value.slice vA us.length vc).ownBlock ∨ w.heap.size ≤ og1) := ⟨by
    rcases HAT5.out with e | e
    ·exact .inl (by first | exact e | exact e.symm)
    ·have e2 : og1 = w.heap.size + 1 := by
      have e3 : some og1 = some ((w.alloc (.cells #[.slice none 0 0] 28)).heap.size) := e
      simpa using e3
     exact .inr (by omega)⟩
   clear HOA HNA HBA hi0 hz0 hz1 hz2
   go_loopw [6] (fun v6 wr => ∃ i : Nat, k ≤ i ∧ i ≤ us.length ∧ v6 = .int .i64 i ∧ Aside0 (wr.ownsRow base 28 1 (.slice (some ⟨og1, 0, none⟩) (us.length + 1) oc1) (us.length + 1) (shf (us ++ [.slice none 0 0]) i)) ∧ Aside0 (w5.grownBy wr (some og1))) (fun v6 wr => (intOf v6).toNat - k)
   case atStart => exact ⟨us.length, HPU.out, Nat.le_refl _, rfl, ⟨by rw [shf_last _ (by simp)]; exact HO5.out⟩, ⟨World.grownBy_refl _ _⟩⟩
   case round =>
    rename World => wq
    obtain ⟨i, hi1, hi2, rfl, HQ, HQG⟩ := hrel
    clear HO5
    by_cases hlt : k < i
    ·have p0 : (k : Int) < (i : Int) := by omega
     have p1 : (1 : Int) ≤ (i : Int) := by omega
     have p2 : (i : Int) ≤ 1000 := by omega
     have p3 : (i : Int) - 1 < ((us.length : Int) + 1) := by omega
     have p4 : (i : Int) < ((us.length : Int) + 1) := by omega
     obtain ⟨A, c, e, _, _⟩ := HRD.out (i - 1) (by omega)
     have hge : (shf (us ++ [.slice none 0 0]) i)[i - 1]? = some (.slice A (xf (i - 1)).length c) := by
      rw [shf_before _ _ _ (by omega) (by simp; omega), List.getElem?_append_left (by omega), List.getElem?_eq_getElem (by omega), e]
     have ce := HQ.out.cells (g := og1) rfl (i - 1) _ hge
     rw [add_plain] at ce
     have ⟨A2, n2, c2, hx⟩ : ∃ A2 n2 c2, (shf (us ++ [.slice none 0 0]) i)[i]? = some (.slice A2 n2 c2) := by
      rw [shf_before _ _ _ (by omega) (by simp; omega)]
      rcases Nat.lt_or_ge i us.length with h | h
      ·obtain ⟨A2, c2, e2, _, _⟩ := HRD.out i h
       exact ⟨_, _, _, by rw [List.getElem?_append_left h, List.getElem?_eq_getElem h, e2]⟩
      ·exact ⟨none, 0, 0, by rw [List.getElem?_append_right h, show i - us.length = 0 from by omega]; rfl⟩
     have cx := HQ.out.cells (g := og1) rfl i _ hx
     rw [add_plain] at cx
     have fx := HQ.out.frozenAt i
     have HST := Aside0.mk (HQ.out.stored i (.slice A (xf (i - 1)).length c))
     have HSE := Aside0.mk (shf_step (us ++ [.slice none 0 0]) i (.slice A (xf (i - 1)).length c) (by omega) (by simp; omega) (by
      rw [List.getElem?_append_left (by omega), List.getElem?_eq_getElem (by omega), e]))
     clear hge hx e
     have HI := Aside0.mk (And.intro hi1 hi2)
     clear hi1 hi2 hku hk
     generalize (xf (i - 1)).length = ln at *
     go_wp2
     go_round
     case rel => have hi1 := HI.out.1; have hi2 := HI.out.2; exact ⟨i - 1, by omega, by omega, (by rw [show (((i - 1 : Nat) : Int)) = (i : Int) - 1 from by omega]), ⟨by rw [← HSE.out]; exact HST.out.1⟩, ⟨HQG.out.trans HST.out.2⟩⟩
     case measure => simp [intOf]; omega
    ·obtain rfl : k = i := by omega
     have q0 : (0 : Int) ≤ (k : Int) := by omega
     have q1 : (k : Int) < ((us.length : Int) + 1) := by omega
     have ⟨A2, n2, c2, hx⟩ : ∃ A2 n2 c2, (shf (us ++ [.slice none 0 0]) k)[k]? = some (.slice A2 n2 c2) := by
      rw [shf_before _ _ _ (by omega) (by simp; omega)]
      rcases Nat.lt_or_ge k us.length with h | h
      ·obtain ⟨A2, c2, e2, _, _⟩ := HRD.out k h
       exact ⟨_, _, _, by rw [List.getElem?_append_left h, List.getElem?_eq_getElem h, e2]⟩
      ·exact ⟨none, 0, 0, by rw [List.getElem?_append_right h, show k - us.length = 0 from by omega]; rfl⟩
     have cx := HQ.out.cells (g := og1) rfl k _ hx
     rw [add_plain] at cx
     have fx := HQ.out.frozenAt k
     have HST := Aside0.mk (HQ.out.stored k (.slice (some ⟨gb, 0, none⟩) g.length gc))
     have HSE := Aside0.mk (shf_end us (.slice none 0 0) (.slice (some ⟨gb, 0, none⟩) g.length gc) k hi2)
     have HI := Aside0.mk (And.intro hi1 hi2)
     clear hx hi1 hi2 hku hk
     go_wp2
     go_ret
     have hi2 := HI.out.2
     have hso := HST.out.1
     rw [HSE.out] at hso
     have hgr : w5.grownBy (wq.setCell ⟨og1, k, none⟩ (.slice (some ⟨gb, 0, none⟩) g.length gc)) (some og1) := HQG.out.trans HST.out.2
     have hall : w.grownBy (wq.setCell ⟨og1, k, none⟩ (.slice (some ⟨gb, 0, none⟩) g.length gc)) (Value.slice vA us.length vc).ownBlock := ⟨hgr.os.trans HW5.out.os, hgr.tape.trans HW5.out.tape, hgr.output.trans HW5.out.output, Nat.le_trans HW5.out.size hgr.size, fun k hk hne => (hgr.block k (Nat.lt_of_lt_of_le hk HW5.out.size) (fun e => by
      rcases HOG.out with h | h
      ·exact hne (e.trans h)
      ·have := Option.some.inj e; omega)).trans (HW5.out.block k hk hne)⟩
     have hins := HL.out.inn.insert HG.out ⟨gb, rfl⟩ (fun a ha => HNE.out a ha) k
     refine ⟨.slice (some ⟨og1, 0, none⟩) (us.length + 1) oc1, us.take k ++ (Value.slice (some ⟨gb, 0, none⟩) g.length gc) :: us.drop k, rfl, ⟨?_, ?_⟩, ?_, hall, (Below.refl base w).grown hall hbase (own_base HL.out.out)⟩
     ·have hln : (us.take k ++ (Value.slice (some ⟨gb, 0, none⟩) g.length gc) :: us.drop k).length = us.length + 1 := by simp; omega
      rw [hln]; exact hso
     ·rw [addL_new HPE.out HNEW.out]
      exact hins.map (fun u xs hr => own_other hr hall (ne_of_own HL.out.out hr))
     ·intro a ha
      rcases List.mem_append.1 ha with h | h
      ·exact .inl (List.mem_of_mem_take h)
      ·rcases List.mem_cons.1 h with h | h
       ·exact .inr (by rw [h]; rfl)
       ·exact .inl (List.mem_of_mem_drop h)
set_option maxHeartbeats 16000000 in
set_option maxRecDepth 100000 in
theorem rgroup_walk (k : Nat) (a0 a1 : Int) (n st : Nat) (e2 : Int) (mi : Bool) (hmi : (a0 == 3 || a0 == 4 || a0 == 5 || a0 == 10) = mi) (hn2 : 2 ≤ n) (hn8 : n ≤ 8) (hst : 1 ≤ st) (hst8 : st ≤ 8) (h6 : a0 ≠ 6) (w : World) (hm : vivariumref10_may.f k a0 a1 = some 0) (hs : vivariumref07_Size.f a1 = some ((n : Int), e2)) (ht : vivariumref10_step.f k a0 a1 = some (st : Int)) :
  Calls Try.prog 5 #[.int .u8 a0, .int .u8 a1] w fun e w' => ∃ v us, e = .returned (.tuple #[v, .int .i64 0]) ∧ LL w' w.heap.size v us (rgL n st mi ((n + st - 1) / st)) ∧ Below w.heap.size w w' := by
 have HM := Aside0.mk hm
 have HS := Aside0.mk hs
 have HT := Aside0.mk ht
 have h6b : (a0 == 6) = false := by rw [beq_eq_false_iff_ne]; exact h6
 have p0 : (0 : Int) < (n : Int) := by omega
 have p1 : (n : Int) ≤ 8 := by omega
 have p2 : (0 : Int) < (st : Int) := by omega
 have p3 : (st : Int) ≤ 8 := by omega
 have hcs : ((a0 == 3) = true ∧ mi = true) ∨ ((a0 == 3) = false ∧ (a0 == 4) = true ∧ mi = true) ∨ ((a0 == 3) = false ∧ (a0 == 4) = false ∧ (a0 == 5) = true ∧ mi = true) ∨ ((a0 == 3) = false ∧ (a0 == 4) = false ∧ (a0 == 5) = false ∧ (a0 == 10) = true ∧ mi = true) ∨ ((a0 == 3) = false ∧ (a0 == 4) = false ∧ (a0 == 5) = false ∧ (a0 == 10) = false ∧ mi = false) := by
  revert hmi
  cases (a0 == 3) <;> cases (a0 == 4) <;> cases (a0 == 5) <;> cases (a0 == 10) <;> intro h <;> subst h <;> simp
 clear hm hs ht h6 hmi
 rcases hcs with ⟨b3, rfl⟩ | ⟨b3, b4, rfl⟩ | ⟨b3, b4, b5, rfl⟩ | ⟨b3, b4, b5, b10, rfl⟩ | ⟨b3, b4, b5, b10, rfl⟩
 case inr.inr.inr.inr =>
  go_enter Try.func5, Try.ntmps5
  go_wp2_with (first | (go_at_call 17; go_must (refine (vivariumref10_may.calls k a0 a1 0 _ HM.out).mono ?_; rintro e w1 ⟨rfl, hb1⟩; have HB1 := Aside0.mk hb1; clear hb1)) | (go_at_call 18; go_must (refine (vivariumref07_Size.calls a1 (n : Int) e2 _ HS.out).mono ?_; rintro e w2 ⟨rfl, hb2⟩; have HB2 := Aside0.mk (below_step HB1.out hb2); clear hb2)) | (go_at_call 20; go_must (refine (vivariumref10_step.calls k a0 a1 (st : Int) _ HT.out).mono ?_; rintro e w3 ⟨rfl, hd3⟩; have HB3 := Aside0.mk (below_step HB2.out hd3); clear hd3)))
  go_loopw [11, 12] (fun v11 v12 wr => ∃ (j K : Nat) (us : List Value), K < n + st ∧ Aside0 (K = j * st) ∧ v12 = .int .i64 K ∧ Aside0 (LL wr w.heap.size v11 us (rgL n st false j)) ∧ Aside0 (Below w.heap.size w wr)) (fun _ v12 wr => n - (intOf v12).toNat)
  case atStart => exact ⟨0, 0, [], by omega, ⟨by simp⟩, rfl, ⟨LL.nil _ _⟩, HB3⟩
  case round =>
   rename World => wo
   clear HB1 HB2 HB3
   obtain ⟨j, K, us, hK, HJ, rfl, HL, HB⟩ := hrel
   by_cases hKn : K < n
   ·have q0 : (0 : Int) ≤ (K : Int) := by omega
    have q1 : (K : Int) < (n : Int) := by omega
    have q2 : (K : Int) ≤ 8 := by omega
    clear hK
    go_wp2
    go_loopw [13, 14, 15] (fun v13 v14 v15 wq => ∃ i : Nat, i ≤ n ∧ v15 = .int .i64 i ∧ Aside0 (wq.ownsRow wo.heap.size 3 1 v13 (rtrnL n K i).length (nums .i64 (rtrnL n K i))) ∧ Aside0 (wq.ownsRow wo.heap.size 3 1 v14 (rmirL n K i).length (nums .i64 (rmirL n K i))) ∧ Aside0 (RSep v13 v14) ∧ Aside0 (Below wo.heap.size wo wq)) (fun _ _ v15 wq => n - (intOf v15).toNat)
    case atStart => exact ⟨0, Nat.zero_le _, rfl, ⟨World.ownsRow_nil _ _ _ _⟩, ⟨World.ownsRow_nil _ _ _ _⟩, ⟨.inl rfl⟩, ⟨Below.refl _ _⟩⟩
    case round =>
     rename World => wq
     obtain ⟨i, hi, rfl, HTR, HMR, HSP, HBQ⟩ := hrel
     by_cases hin : i < n
     ·have r0 : (0 : Int) ≤ (i : Int) := by omega
      have r1 : (i : Int) < (n : Int) := by omega
      have r2 : (0 : Int) ≤ (K : Int) - (i : Int) + (n : Int) := by omega
      have r3 : (i : Int) ≤ 8 := by omega
      have HTS := Aside0.mk (rtrnL_succ n K i)
      have HMS := Aside0.mk (rmirL_succ n K i)
      have HTL : Aside0 ((rtrnL n K i).length ≤ 8) := ⟨by rw [rtrnL_len]; omega⟩
      have HML : Aside0 ((rmirL n K i).length ≤ 8) := ⟨by rw [rmirL_len]; omega⟩
      go_wp2_with (first | ((with_reducible refine gate_dst (N := 66) rfl ?_); at_builtin; go_must (refine print_append_num (w0 := wo) wo.heap.size rfl (.tmp 59) (.tmp 65) 28 3 .i64 8 rfl Try.underlying28 infoI' (by decide) _ (rtrnL n K i) (((i : Int) + K) % n) rfl rfl HTR.out HBQ.out HBQ.out.size (by have := HTL.out; omega) ?_; intro v5 w5 ho5 hb5 hg5 hat5; rw [← HTS.out] at ho5; have HO5 := Aside0.mk ho5; have HB5 := Aside0.mk hb5; have HM5 := Aside0.mk (own_other HMR.out hg5 (rsep_symm HSP.out)); have HP5 := Aside0.mk (rsep_step HSP.out hat5 (fun j hj => own_lt HMR.out j hj)); clear ho5 hb5 hg5 hat5)) | ((with_reducible refine gate_dst (N := 76) rfl ?_); at_builtin; go_must (refine print_append_num (w0 := wo) wo.heap.size rfl (.tmp 67) (.tmp 75) 28 3 .i64 8 rfl Try.underlying28 infoI' (by decide) _ (rmirL n K i) (((K : Int) - i) % n) rfl rfl HM5.out HB5.out HB5.out.size (by have := HML.out; omega) ?_; intro v6 w6 ho6 hb6 hg6 hat6; rw [← HMS.out] at ho6; have HO6 := Aside0.mk ho6; have HB6 := Aside0.mk hb6; have HT6 := Aside0.mk (own_other HO5.out hg6 HP5.out); have HP6 := Aside0.mk (rsep_symm (rsep_step (rsep_symm HP5.out) hat6 (fun j hj => own_lt HO5.out j hj))); clear ho6 hb6 hg6 hat6)))
      go_round
      case rel => exact ⟨i + 1, by omega, by go_num, HT6, HO6, HP6, HB6⟩
      case measure => simp [intOf]; omega
     ·obtain rfl : n = i := by omega
      obtain ⟨tg, tc, rfl, hTg⟩ := rrow_some HTR.out (by rw [rtrnL_len]; omega)
      obtain ⟨mg, mc, rfl, hMg⟩ := rrow_some HMR.out (by rw [rmirL_len]; omega)
      have htm : tg ≠ mg := by
       rcases HSP.out with h | h
       ·cases h
       ·exact fun e => h (by rw [e]; rfl)
      have HTM := Aside0.mk htm
      have HT2 := Aside0.mk (own_weaken HTR.out HB.out.size)
      have HM2 := Aside0.mk (own_weaken HMR.out HB.out.size)
      have HL2 := Aside0.mk (HL.out.below HBQ.out)
      have HBW := Aside0.mk (below_step HB.out HBQ.out)
      have HFT : Aside0 (∀ a ∈ us, a.ownBlock ≠ some tg) := ⟨fun a ha e => by have := (HL.out.inn.lt a ha tg e).2; omega⟩
      have HFM : Aside0 (∀ a ∈ us, a.ownBlock ≠ some mg) := ⟨fun a ha e => by have := (HL.out.inn.lt a ha mg e).2; omega⟩
      have hj9 : j ≤ 8 := by
       have e := HJ.out
       have : j * 1 ≤ j * st := Nat.mul_le_mul_left _ hst
       omega
      have HUL : Aside0 (us.length ≤ 20) := ⟨by rw [HL.out.inn.len]; have := rgL_len n st false j; omega⟩
      have HEA := Aside0.mk (rgL_each n st false j)
      have HTE : Aside0 ((rtrnL n K n).length = n) := ⟨rtrnL_len _ _ _⟩
      have HME : Aside0 ((rmirL n K n).length = n) := ⟨rmirL_len _ _ _⟩
      have HGU : Aside0 (rgL n st false (j + 1) = addL (rgL n st false j) (rtrnL n K n)) := ⟨by rw [HJ.out]; rfl⟩
      have HJ2 : Aside0 (K + st = (j + 1) * st) := ⟨by rw [HJ.out, Nat.succ_mul]⟩
      clear htm hTg hMg hj9
      go_wp2_with (go_at_call 21; go_must (((with_reducible refine (add_walk w.heap.size _ us (rgL n st false j) tg tc (rtrnL n K n) _ HL2.out HBW.out.size HT2.out HFT.out (by have := HUL.out; omega) (by rw [HTE.out]; omega) (fun x hx => by rw [HEA.out x hx]; omega)).mono ?_); rintro e w8 ⟨v8, us8, rfl, hl8, hm8, hg8, hb8⟩; have HL8 := Aside0.mk hl8; have HM8 : Aside0 (∀ a ∈ us8, a.ownBlock ≠ some mg) := ⟨fun a ha e => by rcases hm8 a ha with h | h; exact HFM.out a h e; rw [h] at e; exact HTM.out (Option.some.inj e)⟩; have HO8 := Aside0.mk (own_other HM2.out hg8 (own_type_ne HM2.out HL2.out.out (by decide))); have HB8 := Aside0.mk (HBW.out.trans hb8); have HU8 : Aside0 (us8.length ≤ 21) := ⟨by rw [hl8.inn.len]; have h1 := addL_len (rgL n st false j) (rtrnL n K n); have h2 := HUL.out; have h3 := HL2.out.inn.len; omega⟩; have HE8 : Aside0 (∀ x ∈ addL (rgL n st false j) (rtrnL n K n), x.length ≤ 8) := ⟨fun x hx => by rcases addL_mem hx with h | h; rw [HEA.out x h]; omega; rw [h, HTE.out]; omega⟩; clear hl8 hm8 hg8 hb8)))
      go_round
      case rel => exact ⟨j + 1, K + st, _, by omega, HJ2, by go_num, ⟨by rw [HGU.out]; exact HL8.out⟩, HB8⟩
      case measure => simp [intOf]; omega
   ·have HQ : Aside0 ((n + st - 1) / st = j) := ⟨by
     have e := HJ.out
     subst e
     have h1 : n + st - 1 < (j + 1) * st := by rw [Nat.succ_mul]; omega
     exact Nat.div_eq_of_lt_le (by omega) h1⟩
    go_wp2
    go_ret2
    exact ⟨_, us, rfl, by rw [HQ.out]; exact HL.out, HB.out⟩
 all_goals
  go_enter Try.func5, Try.ntmps5
  go_wp2_with (first | (go_at_call 17; go_must (refine (vivariumref10_may.calls k a0 a1 0 _ HM.out).mono ?_; rintro e w1 ⟨rfl, hb1⟩; have HB1 := Aside0.mk hb1; clear hb1)) | (go_at_call 18; go_must (refine (vivariumref07_Size.calls a1 (n : Int) e2 _ HS.out).mono ?_; rintro e w2 ⟨rfl, hb2⟩; have HB2 := Aside0.mk (below_step HB1.out hb2); clear hb2)) | (go_at_call 20; go_must (refine (vivariumref10_step.calls k a0 a1 (st : Int) _ HT.out).mono ?_; rintro e w3 ⟨rfl, hd3⟩; have HB3 := Aside0.mk (below_step HB2.out hd3); clear hd3)))
  go_loopw [11, 12] (fun v11 v12 wr => ∃ (j K : Nat) (us : List Value), K < n + st ∧ Aside0 (K = j * st) ∧ v12 = .int .i64 K ∧ Aside0 (LL wr w.heap.size v11 us (rgL n st true j)) ∧ Aside0 (Below w.heap.size w wr)) (fun _ v12 wr => n - (intOf v12).toNat)
  case atStart => exact ⟨0, 0, [], by omega, ⟨by simp⟩, rfl, ⟨LL.nil _ _⟩, HB3⟩
  case round =>
   rename World => wo
   clear HB1 HB2 HB3
   obtain ⟨j, K, us, hK, HJ, rfl, HL, HB⟩ := hrel
   by_cases hKn : K < n
   ·have q0 : (0 : Int) ≤ (K : Int) := by omega
    have q1 : (K : Int) < (n : Int) := by omega
    have q2 : (K : Int) ≤ 8 := by omega
    clear hK
    go_wp2
    go_loopw [13, 14, 15] (fun v13 v14 v15 wq => ∃ i : Nat, i ≤ n ∧ v15 = .int .i64 i ∧ Aside0 (wq.ownsRow wo.heap.size 3 1 v13 (rtrnL n K i).length (nums .i64 (rtrnL n K i))) ∧ Aside0 (wq.ownsRow wo.heap.size 3 1 v14 (rmirL n K i).length (nums .i64 (rmirL n K i))) ∧ Aside0 (RSep v13 v14) ∧ Aside0 (Below wo.heap.size wo wq)) (fun _ _ v15 wq => n - (intOf v15).toNat)
    case atStart => exact ⟨0, Nat.zero_le _, rfl, ⟨World.ownsRow_nil _ _ _ _⟩, ⟨World.ownsRow_nil _ _ _ _⟩, ⟨.inl rfl⟩, ⟨Below.refl _ _⟩⟩
    case round =>
     rename World => wq
     obtain ⟨i, hi, rfl, HTR, HMR, HSP, HBQ⟩ := hrel
     by_cases hin : i < n
     ·have r0 : (0 : Int) ≤ (i : Int) := by omega
      have r1 : (i : Int) < (n : Int) := by omega
      have r2 : (0 : Int) ≤ (K : Int) - (i : Int) + (n : Int) := by omega
      have r3 : (i : Int) ≤ 8 := by omega
      have HTS := Aside0.mk (rtrnL_succ n K i)
      have HMS := Aside0.mk (rmirL_succ n K i)
      have HTL : Aside0 ((rtrnL n K i).length ≤ 8) := ⟨by rw [rtrnL_len]; omega⟩
      have HML : Aside0 ((rmirL n K i).length ≤ 8) := ⟨by rw [rmirL_len]; omega⟩
      go_wp2_with (first | ((with_reducible refine gate_dst (N := 66) rfl ?_); at_builtin; go_must (refine print_append_num (w0 := wo) wo.heap.size rfl (.tmp 59) (.tmp 65) 28 3 .i64 8 rfl Try.underlying28 infoI' (by decide) _ (rtrnL n K i) (((i : Int) + K) % n) rfl rfl HTR.out HBQ.out HBQ.out.size (by have := HTL.out; omega) ?_; intro v5 w5 ho5 hb5 hg5 hat5; rw [← HTS.out] at ho5; have HO5 := Aside0.mk ho5; have HB5 := Aside0.mk hb5; have HM5 := Aside0.mk (own_other HMR.out hg5 (rsep_symm HSP.out)); have HP5 := Aside0.mk (rsep_step HSP.out hat5 (fun j hj => own_lt HMR.out j hj)); clear ho5 hb5 hg5 hat5)) | ((with_reducible refine gate_dst (N := 76) rfl ?_); at_builtin; go_must (refine print_append_num (w0 := wo) wo.heap.size rfl (.tmp 67) (.tmp 75) 28 3 .i64 8 rfl Try.underlying28 infoI' (by decide) _ (rmirL n K i) (((K : Int) - i) % n) rfl rfl HM5.out HB5.out HB5.out.size (by have := HML.out; omega) ?_; intro v6 w6 ho6 hb6 hg6 hat6; rw [← HMS.out] at ho6; have HO6 := Aside0.mk ho6; have HB6 := Aside0.mk hb6; have HT6 := Aside0.mk (own_other HO5.out hg6 HP5.out); have HP6 := Aside0.mk (rsep_symm (rsep_step (rsep_symm HP5.out) hat6 (fun j hj => own_lt HO5.out j hj))); clear ho6 hb6 hg6 hat6)))
      go_round
      case rel => exact ⟨i + 1, by omega, by go_num, HT6, HO6, HP6, HB6⟩
      case measure => simp [intOf]; omega
     ·obtain rfl : n = i := by omega
      obtain ⟨tg, tc, rfl, hTg⟩ := rrow_some HTR.out (by rw [rtrnL_len]; omega)
      obtain ⟨mg, mc, rfl, hMg⟩ := rrow_some HMR.out (by rw [rmirL_len]; omega)
      have htm : tg ≠ mg := by
       rcases HSP.out with h | h
       ·cases h
       ·exact fun e => h (by rw [e]; rfl)
      have HTM := Aside0.mk htm
      have HT2 := Aside0.mk (own_weaken HTR.out HB.out.size)
      have HM2 := Aside0.mk (own_weaken HMR.out HB.out.size)
      have HL2 := Aside0.mk (HL.out.below HBQ.out)
      have HBW := Aside0.mk (below_step HB.out HBQ.out)
      have HFT : Aside0 (∀ a ∈ us, a.ownBlock ≠ some tg) := ⟨fun a ha e => by have := (HL.out.inn.lt a ha tg e).2; omega⟩
      have HFM : Aside0 (∀ a ∈ us, a.ownBlock ≠ some mg) := ⟨fun a ha e => by have := (HL.out.inn.lt a ha mg e).2; omega⟩
      have hj9 : j ≤ 8 := by
       have e := HJ.out
       have : j * 1 ≤ j * st := Nat.mul_le_mul_left _ hst
       omega
      have HUL : Aside0 (us.length ≤ 20) := ⟨by rw [HL.out.inn.len]; have := rgL_len n st true j; omega⟩
      have HEA := Aside0.mk (rgL_each n st true j)
      have HTE : Aside0 ((rtrnL n K n).length = n) := ⟨rtrnL_len _ _ _⟩
      have HME : Aside0 ((rmirL n K n).length = n) := ⟨rmirL_len _ _ _⟩
      have HGU : Aside0 (rgL n st true (j + 1) = addL (addL (rgL n st true j) (rtrnL n K n)) (rmirL n K n)) := ⟨by rw [HJ.out]; rfl⟩
      have HJ2 : Aside0 (K + st = (j + 1) * st) := ⟨by rw [HJ.out, Nat.succ_mul]⟩
      clear htm hTg hMg hj9
      go_wp2_with (go_at_call 21; go_must (first | ((with_reducible refine (add_walk w.heap.size _ us (rgL n st true j) tg tc (rtrnL n K n) _ HL2.out HBW.out.size HT2.out HFT.out (by have := HUL.out; omega) (by rw [HTE.out]; omega) (fun x hx => by rw [HEA.out x hx]; omega)).mono ?_); rintro e w8 ⟨v8, us8, rfl, hl8, hm8, hg8, hb8⟩; have HL8 := Aside0.mk hl8; have HM8 : Aside0 (∀ a ∈ us8, a.ownBlock ≠ some mg) := ⟨fun a ha e => by rcases hm8 a ha with h | h; exact HFM.out a h e; rw [h] at e; exact HTM.out (Option.some.inj e)⟩; have HO8 := Aside0.mk (own_other HM2.out hg8 (own_type_ne HM2.out HL2.out.out (by decide))); have HB8 := Aside0.mk (HBW.out.trans hb8); have HU8 : Aside0 (us8.length ≤ 21) := ⟨by rw [hl8.inn.len]; have h1 := addL_len (rgL n st true j) (rtrnL n K n); have h2 := HUL.out; have h3 := HL2.out.inn.len; omega⟩; have HE8 : Aside0 (∀ x ∈ addL (rgL n st true j) (rtrnL n K n), x.length ≤ 8) := ⟨fun x hx => by rcases addL_mem hx with h | h; rw [HEA.out x h]; omega; rw [h, HTE.out]; omega⟩; clear hl8 hm8 hg8 hb8) | ((with_reducible refine (add_walk w.heap.size _ us8 (addL (rgL n st true j) (rtrnL n K n)) mg mc (rmirL n K n) _ HL8.out HB8.out.size HO8.out HM8.out (by have := HU8.out; omega) (by rw [HME.out]; omega) HE8.out).mono ?_); rintro e w9 ⟨v9, us9, rfl, hl9, hm9, hg9, hb9⟩; have HL9 := Aside0.mk hl9; have HB9 := Aside0.mk (HB8.out.trans hb9); clear hl9 hm9 hg9 hb9)))
      go_round
      case rel => exact ⟨j + 1, K + st, _, by omega, HJ2, by go_num, ⟨by rw [HGU.out]; exact HL9.out⟩, HB9⟩
      case measure => simp [intOf]; omega
   ·have HQ : Aside0 ((n + st - 1) / st = j) := ⟨by
     have e := HJ.out
     subst e
     have h1 : n + st - 1 < (j + 1) * st := by rw [Nat.succ_mul]; omega
     exact Nat.div_eq_of_lt_le (by omega) h1⟩
    go_wp2
    go_ret2
    exact ⟨_, us, rfl, by rw [HQ.out]; exact HL.out, HB.out⟩
set_option maxHeartbeats 4000000 in
set_option maxRecDepth 100000 in
theorem rgroup_err (k : Nat) (a0 a1 e : Int) (he : e ≠ 0) (w : World) (hm : vivariumref10_may.f k a0 a1 = some e) :
  Calls Try.prog 5 #[.int .u8 a0, .int .u8 a1] w fun e' w' => e' = .returned (.tuple #[.slice none 0 0, .int .i64 e]) ∧ Below w.heap.size w w' := by
 have h4b : (e != 0) = true := bne_iff_ne.mpr he
 clear he
 go_enter Try.func5, Try.ntmps5
 go_wp2_with (go_at_call 17; go_must (refine (vivariumref10_may.calls k a0 a1 e _ hm).mono ?_; rintro e w1 ⟨rfl, hb1⟩; have HB1 := Aside0.mk hb1; clear hb1))
 go_ret2
 exact ⟨rfl, HB1.out⟩
set_option maxHeartbeats 4000000 in
set_option maxRecDepth 100000 in
theorem rgroup_perm (k : Nat) (a0 a1 n e2 : Int) (r : List (List Int)) (h6 : a0 = 6) (w : World) (hm : vivariumref10_may.f k a0 a1 = some 0) (hs : vivariumref07_Size.f a1 = some (n, e2)) (ho : vivariumref10_orders.f k [] n = some r) :
  Calls Try.prog 5 #[.int .u8 a0, .int .u8 a1] w fun e w' => ∃ v0_ : Value, e = .returned (.tuple #[v0_, .int .i64 0]) ∧ Kd.N (Kd.slice 3 (Kd.int .i64)) 28 w' w.heap.size (fun k_ => (w.heap.size ≤ k_)) v0_ r ∧ Below w.heap.size w w' := by
 have HM := Aside0.mk hm
 have HS := Aside0.mk hs
 have HO := Aside0.mk ho
 have HNL : Aside0 (∀ W : World, (Kd.int .i64).C W none ([] : List Int).length []) := ⟨fun W => Kd.C_nil _ _⟩
 subst h6
 clear hm hs ho
 go_enter Try.func5, Try.ntmps5
 go_wp2_with (first | (go_at_call 17; go_must (refine (vivariumref10_may.calls k 6 a1 0 _ HM.out).mono ?_; rintro e w1 ⟨rfl, hb1⟩; have HB1 := Aside0.mk hb1; clear hb1)) | (go_at_call 18; go_must (refine (vivariumref07_Size.calls a1 n e2 _ HS.out).mono ?_; rintro e w2 ⟨rfl, hb2⟩; have HB2 := Aside0.mk (below_step HB1.out hb2); clear hb2)) | (go_at_call 19; go_must (refine (vivariumref10_orders.calls k none 0 [] n r _ (HNL.out _) (Nat.le_refl _) HO.out).mono ?_; rintro e w3 ⟨v3, rfl, hn3, hb3⟩; have HN3 := Aside0.mk (Kd.N_mono (Kd.N_lower hn3 HB2.out.size) (fun _ hk => Nat.le_trans HB2.out.size hk)); have HB3 := Aside0.mk (below_step HB2.out hb3); clear hn3 hb3)))
 go_ret2
 exact ⟨_, rfl, HN3.out, HB3.out⟩
def vivariumref10_Group.f (k : Nat) (a0 a1 : Int) : Option (List (List Int) × Int) :=
 (vivariumref10_may.f k a0 a1).bind fun e => if e = 0 then ((vivariumref07_Size.f a1).bind fun n => if a0 = 6 then (vivariumref10_orders.f k [] n.1).bind fun r => some (r, 0) else (vivariumref10_step.f k a0 a1).bind fun st => if 2 ≤ n.1 ∧ n.1 ≤ 8 ∧ 1 ≤ st ∧ st ≤ 8 then some (rgL n.1.toNat st.toNat (a0 == 3 || a0 == 4 || a0 == 5 || a0 == 10) ((n.1.toNat + st.toNat - 1) / st.toNat), 0) else none) else some ([], e)
theorem vivariumref10_Group.mono : ∀ a0 a1 k, LeO (vivariumref10_Group.f k a0 a1) (vivariumref10_Group.f (k + 1) a0 a1) := by
 intro a0 a1 k
 unfold vivariumref10_Group.f
 exact LeO.bind (vivariumref10_may.mono _ _ _) fun e => LeO.ite (LeO.bind (LeO.refl _) fun n => LeO.ite (LeO.bind (vivariumref10_orders.mono _ _ _) fun r => LeO.refl _) (LeO.bind (vivariumref10_step.mono _ _ _) fun sm => LeO.refl _)) (LeO.refl _)
theorem rll_N {w : World} {base : Nat} {v : Value} {us : List Value} {xss : List (List Int)} (h : LL w base v us xss) : Kd.N (Kd.slice 3 (Kd.int .i64)) 28 w base (fun k_ => (base ≤ k_)) v xss :=
 Kd.R_N (Kd.R_mono (Kd.R_bound h.R) (fun _ hk => hk.2.1))
theorem vivariumref10_Group.calls (k : Nat) (a0 a1 : Int) (r1 : List (List Int)) (r2 : Int) (w : World) (h : vivariumref10_Group.f k a0 a1 = some (r1, r2)) :
  Calls Try.prog 5 #[.int .u8 a0, .int .u8 a1] w fun e w' => ∃ v0_ : Value, e = .returned (.tuple #[v0_, .int .i64 r2]) ∧ Kd.N (Kd.slice 3 (Kd.int .i64)) 28 w' w.heap.size (fun k_ => (w.heap.size ≤ k_)) v0_ r1 ∧ Below w.heap.size w w' := by
 unfold vivariumref10_Group.f at h
 replace h := Option.bind_eq_some_iff.1 h
 obtain ⟨e, he, h⟩ := h
 by_cases h0 : e = 0
 ·subst h0
  rw [if_pos rfl] at h
  replace h := Option.bind_eq_some_iff.1 h
  obtain ⟨⟨n1, n2⟩, hn, h⟩ := h
  by_cases h6 : a0 = 6
  ·rw [if_pos h6] at h
   replace h := Option.bind_eq_some_iff.1 h
   obtain ⟨r, ho, h⟩ := h
   simp only [Option.some.injEq, Prod.mk.injEq] at h
   obtain ⟨rfl, rfl⟩ := h
   exact rgroup_perm k a0 a1 n1 n2 r h6 w he hn ho
  ·rw [if_neg h6] at h
   replace h := Option.bind_eq_some_iff.1 h
   obtain ⟨st, hs, h⟩ := h
   by_cases hc : 2 ≤ n1 ∧ n1 ≤ 8 ∧ 1 ≤ st ∧ st ≤ 8
   ·rw [if_pos hc] at h
    obtain ⟨n, rfl⟩ : ∃ n : Nat, n1 = n := ⟨n1.toNat, by omega⟩
    obtain ⟨s, rfl⟩ : ∃ s : Nat, st = s := ⟨st.toNat, by omega⟩
    simp only [Int.toNat_natCast, Option.some.injEq, Prod.mk.injEq] at h
    obtain ⟨rfl, rfl⟩ := h
    refine (rgroup_walk k a0 a1 n s n2 _ rfl (by omega) (by omega) (by omega) (by omega) h6 w he hn hs).mono ?_
    rintro e w' ⟨v, us, rfl, hl, hb⟩
    exact ⟨v, rfl, rll_N hl, hb⟩
   ·rw [if_neg hc] at h; cases h
 ·rw [if_neg h0] at h
  simp only [Option.some.injEq, Prod.mk.injEq] at h
  obtain ⟨rfl, rfl⟩ := h
  refine (rgroup_err k a0 a1 e h0 w he).mono ?_
  rintro e' w' ⟨rfl, hb⟩
  exact ⟨_, rfl, rll_N (LL.nil _ _), hb⟩
end Go.Proofs.Ytajhfkcmfmhnaaa.P
end
section
namespace Go.Proofs.Ytajhfkcmfmhnaaa.L
open Go.RowKit Go.Proofs.YtajhfkcmfmhnaaaW.PrintWords
theorem row_new' (W : World) (old cs : Array Value) (t : TypeId) : ((W.alloc (.cells old t (0, 0))).setRow W.heap.size cs).heap[W.heap.size]? = some (.cells cs t (0, 0)) := setRow_heap _ _ _ _ _ _ (blk_new W _)
theorem load_row_run' {P : Program} {o : Oper} {a : Act} {W : World} {ty : TypeId} {x : Operand} {g : Nat} {t : TypeId} {cs : Array Value} {fr : Nat × Nat} {d : TypeDesc} (ho : o.op = .load ty x) (hx : a.eval x = .pointer (some ⟨g, 0, none⟩)) (hg : W.heap[g]? = some (.cells cs t fr))
  (hu : P.underlying ty = some d) (hd : (match d with | .struct _ | .array _ _ => true | _ => false) = true) (hi : (P.info? ty).map (·.size) = some cs.size) : (execOp a.eval o).run P W = .ok (.value (.agg cs)) W := by
 unfold execOp
 simp only [ho, hx, Instr.loadAt, Instr.sureAddr, Sem.run_bind, Sem.run_pure, Result.andThen_ok, run_loadVar_row W g t ty cs fr d hg hu hd hi]
/-- A variable of a great type: its zero's cells under a name. -/
theorem alloc_to {P : Program} {ops : Array Oper} {rest : List Oper} {o : Oper} {a : Act} {w : World} {Q : Exit → Act → World → Prop} (hgd : o.guard = none) (t : TypeId) (ho : o.op = .alloc t) (cs : Array Value) (hz : ∀ w, (zeroValue t).run P w = .ok (.agg cs) w)
  (h : ∀ g, g = w.heap.size → wpList P ops Q rest (a.put o.dst (.pointer (some ⟨g, 0, none⟩))) (w.alloc (.cells cs t))) : wpList P ops Q (o :: rest) a w := by
 refine wpList_plain hgd fun K hK => ?_
 unfold Oper.wp execOp
 simp only [ho, Sem.run_bind, Instr.alloc, newVar, newRow, run_newObj_alloc, Sem.run_pure, Result.andThen_ok, hz, Value.cells]
 exact hK _ _ (h _ rfl)
end Go.Proofs.Ytajhfkcmfmhnaaa.L
end
section
namespace Go.Proofs.Ytajhfkcmfmhnaaa.L
open Go.RowKit Go.Proofs.Ytajhfkcmfmhnaaa.P Go.Proofs.YtajhfkcmfmhnaaaW.PrintWords Go.Proofs.YtajhfkcmfmhnaaaW.PrintLast Go.Proofs.YtajhfkcmfmhnaaaW.PrintMore
set_option linter.unusedVariables false
set_option linter.unusedSimpArgs false
/-- What stands in a try beside its states: a table's five cells and a row's. -/
structure TC where
 x0 : Value
 x1 : Value
 x2 : Value
 x3 : Value
 x4 : Value
 y0 : Value
 y1 : Value
 y2 : Value
 y3 : Value
 y4 : Value
def TC.cells (c : TC) (bv : Value) : Array Value := #[c.x0, c.x1, c.x2, c.x3, c.x4, c.y0, c.y1, c.y2, c.y3, c.y4, bv]
/-- The states of the variables, as numbers. -/
def bdL (n : Nat) (b : Bd) : List Int := (List.range n).map b
theorem bdL_len (n : Nat) (b : Bd) : (bdL n b).length = n := by simp [bdL]
theorem bdL_rd (n : Nat) (b : Bd) {v : Nat} (h : v < n) : rd (bdL n b) v = b v := by simp [rd, bdL, h]
theorem bdL_set (n : Nat) (b : Bd) {v : Nat} (s : Int) (h : v < n) : (nums .i64 (bdL n b)).set v (.int .i64 s) = nums .i64 (bdL n (upd b v s)) := by
 apply List.ext_getElem?
 intro i
 rw [List.getElem?_set]
 simp only [nums, bdL, List.length_map, List.length_range, List.getElem?_map]
 by_cases e : v = i
 ·subst e
  rw [if_pos rfl, if_pos h]
  simp [h, upd]
 ·rw [if_neg e]
  rcases Nat.lt_or_ge i n with h2 | h2
  ·simp [h2, upd, Ne.symm e]
  ·simp [h2]
/-- A try at g. -/
structure YS (w : World) (base g : Nat) (c : TC) (bv : Value) (n : Nat) (b : Bd) : Prop where
 blk : w.heap[g]? = some (.cells (c.cells bv) 79 (0, 0))
 row : w.ownsRow base 3 1 bv n (nums .i64 (bdL n b))
theorem try_ne {w : World} {base g : Nat} {cs : Array Value} {bv : Value} {n : Nat} {xs : List Int} (hb : w.heap[g]? = some (.cells cs 79 (0, 0))) (h : w.ownsRow base 3 1 bv n (nums .i64 xs)) : bv.ownBlock ≠ some g := by
 rcases h.2 with ⟨rfl, _⟩ | ⟨gb, cap, cur, rfl, _, h2, _⟩
 ·simp [Value.ownBlock]
 ·intro e
  have e2 : gb = g := by simpa [Value.ownBlock] using e
  subst e2
  rw [hb] at h2
  simp at h2
theorem YS.ne {w : World} {base g : Nat} {c : TC} {bv : Value} {n : Nat} {b : Bd} (h : YS w base g c bv n b) : bv.ownBlock ≠ some g := by
 rcases h.row.2 with ⟨rfl, _⟩ | ⟨gb, cap, cur, rfl, _, h2, _⟩
 ·simp [Value.ownBlock]
 ·intro e
  have e2 : gb = g := by simpa [Value.ownBlock] using e
  subst e2
  rw [h.blk] at h2
  simp at h2
theorem YS.grown {w w' : World} {base g : Nat} {c : TC} {bv : Value} {n : Nat} {b : Bd} (h : YS w base g c bv n b) {r : Option Nat} (hg : w.grownBy w' r) (h1 : r ≠ some g) (h2 : bv.ownBlock = none ∨ bv.ownBlock ≠ r) : YS w' base g c bv n b :=
 ⟨(hg.block g (blk_lt h.blk) (fun e => h1 e.symm)).trans h.blk, own_other h.row hg h2⟩
theorem YS.below {w w' : World} {base g : Nat} {c : TC} {bv : Value} {n : Nat} {b : Bd} (h : YS w base g c bv n b) (hb : Below w.heap.size w w') : YS w' base g c bv n b :=
 ⟨blk_below h.blk hb, pw_own_below h.row hb⟩
set_option maxRecDepth 100000 in
set_option maxHeartbeats 4000000 in
theorem yfits_calls' (base g : Nat) (c : TC) (bv : Value) (b : Bd) (vs : List Vr) (AV : Option Addr) (cV : Nat) (x : Tm) (s : Int) (w : World) (hy : YS w base g c bv vs.length b) (hx3 : c.x3 = .slice AV vs.length cV)
  (hV : Kd.C k65 w AV vs.length vs) (hx : x.f1 < vs.length) (hs0 : 0 ≤ s) (hs1 : s ≤ 255) (hbase : base ≤ w.heap.size) :
  Calls Try.prog 41 #[.pointer (some ⟨g, 0, none⟩), .agg #[.int .u8 x.f0, .int .i64 x.f1], .int .u8 s] w fun e w' =>
   e = .returned (.bool (fitB vs b x s)) ∧ YS w' base g c bv vs.length (fitU vs b x s) ∧ Below base w w' ∧ w.grownBy w' bv.ownBlock := by
 have HV := Aside0.mk hV
 have HY := Aside0.mk hy
 have hgl := blk_lt hy.blk
 have c3 : w.cell? ⟨g, 3, none⟩ = some (.slice AV vs.length cV) := by rw [← hx3]; exact blk_cell hy.blk 3
 have c10 : w.cell? ⟨g, 10, none⟩ = some bv := blk_cell hy.blk 10
 clear hV hx3
 by_cases h0 : x.f1 < 0
 ·have e1 : fitB vs b x s = (x.f0 == s) := by unfold fitB; rw [if_pos h0]
  have e2 : fitU vs b x s = b := by unfold fitU; rw [if_pos h0]
  rw [e1, e2]
  clear hy
  go_enter Try.func41, Try.ntmps41
  go_wp2
  go_ret
  exact ⟨rfl, HY.out.below ((Below.refl _ _).alloc (Nat.le_refl _) _), (Below.refl _ _).alloc hbase _, World.grownBy_alloc _ _ _⟩
 ·obtain ⟨v, hv⟩ : ∃ v : Nat, x.f1 = v := ⟨x.f1.toNat, by omega⟩
  have hvl : v < vs.length := by omega
  obtain ⟨gb, cb, rfl, hgb⟩ := rrow_some hy.row (by omega)
  obtain ⟨cB, fB⟩ := own_at hy.row (v : Int) (by omega) (by omega)
  rw [Int.toNat_natCast, bdL_rd _ _ hvl] at cB
  rw [Int.toNat_natCast] at fB
  have hgbl : gb < w.heap.size := World.block_lt_of_cell? _ _ cB
  have p0 : (0 : Int) ≤ (v : Int) := by omega
  have p1 : (v : Int) < (vs.length : Int) := by omega
  clear hy
  by_cases hb : 0 ≤ b v
  ·have e1 : fitB vs b x s = (b v == s) := by unfold fitB; rw [if_neg h0, hv, Int.toNat_natCast, if_pos hb]
   have e2 : fitU vs b x s = b := by unfold fitU; rw [if_neg h0, hv, Int.toNat_natCast, if_pos hb]
   rw [e1, e2, hv]
   clear hx e1 e2 h0
   obtain ⟨bx, hbx⟩ : ∃ bx, bx = b v := ⟨_, rfl⟩
   rw [← hbx] at cB hb ⊢
   go_enter Try.func41, Try.ntmps41
   go_wp2
   go_quiet (fail)
   go_wp2
   go_quiet (fail)
   go_wp2
   go_ret
   rw [hbx]
   exact ⟨rfl, HY.out.below (pw_below_drewN (pw_below_drewN ((Below.refl _ _).alloc (Nat.le_refl _) _) _) _), pw_below_drewN (pw_below_drewN ((Below.refl _ _).alloc hbase _) _) _, (World.grownBy_alloc _ _ _).trans ((World.grownBy_drewN _ _ _).trans (World.grownBy_drewN _ _ _))⟩
  ·have hb1 : (decide (0 ≤ b v)) = false := decide_eq_false hb
   obtain ⟨ad, A1, c3', rfl, _, c4, hle, hC⟩ := at_T65 HV.out (v : Int) p0 (by omega)
   rw [Int.toNat_natCast] at c4
   have eL : (rd_T65 vs (v : Int)).f1 = vrAt vs x := by unfold rd_T65 vrAt; rw [hv]
   rw [eL] at c4 hle hC
   have HC := Aside0.mk hC
   have e1 : fitB vs b x s = (vrAt vs x).contains s := by unfold fitB; rw [if_neg h0, hv, Int.toNat_natCast, if_neg hb]
   have e2 : fitU vs b x s = if (vrAt vs x).contains s = true then upd b v s else b := by unfold fitU; rw [if_neg h0, hv, Int.toNat_natCast, if_neg hb]
   rw [e1, e2, hv]
   obtain ⟨L, hL⟩ : ∃ L, vrAt vs x = L := ⟨_, rfl⟩
   rw [hL] at c4 hle HC ⊢
   obtain ⟨bx, hbx⟩ : ∃ bx, bx = b v := ⟨_, rfl⟩
   rw [← hbx] at cB hb
   have hbig : L.length ≤ 9223372036854775807 := HC.out.2.1
   have hal : (ad.add (v * 2)).block < w.heap.size := World.block_lt_of_cell? w ⟨(ad.add (v * 2)).block, (ad.add (v * 2)).off + 1, none⟩ c4
   obtain ⟨R, hR⟩ : ∃ R, L.contains s = R := ⟨_, rfl⟩
   obtain ⟨U, hU⟩ : ∃ U, (if R = true then upd b v s else b) = U := ⟨_, rfl⟩
   rw [hR, hU]
   have HR := Aside0.mk hR
   have HU := Aside0.mk hU
   clear hx e1 e2 h0 hC eL hL hb1 hbx hR hU
   go_enter Try.func41, Try.ntmps41
   go_wp2
   go_quiet (fail)
   go_wp2
   go_quiet (fail)
   go_wp2
   rename_i n1 h1 K1 ha1
   obtain ⟨W, hW⟩ : ∃ W, ((w.alloc (Obj.cells #[Value.int IntKind.u8 x.f0, Value.int IntKind.i64 ↑v] 59)).drewN n1).drewN nq = W := ⟨_, rfl⟩
   have HYW : Aside0 (YS W base g c (.slice (some ⟨gb, 0, none⟩) vs.length cb) vs.length b) := ⟨by rw [← hW]; exact HY.out.below (pw_below_drewN (pw_below_drewN ((Below.refl _ _).alloc (Nat.le_refl _) _) _) _)⟩
   have HBW : Aside0 (Below base w W) := ⟨by rw [← hW]; exact pw_below_drewN (pw_below_drewN ((Below.refl _ _).alloc hbase _) _) _⟩
   have HGW : Aside0 (w.grownBy W (some gb)) := ⟨by rw [← hW]; exact (World.grownBy_alloc _ _ _).trans ((World.grownBy_drewN _ _ _).trans (World.grownBy_drewN _ _ _))⟩
   have HCW : Aside0 ((Kd.int .u8).C W A1 L.length L) := ⟨by rw [← hW]; exact Kd.C_below HC.out (pw_below_drewN (pw_below_drewN ((Below.refl _ _).alloc (Nat.le_refl _) _) _) _)⟩
   have cx : W.cell? ⟨w.heap.size, 1, none⟩ = some (.int .i64 v) := by rw [← hW]; exact blk_cell (blk_new _ _) 1
   rw [hW]
   clear hW c10 c3 c4 cB fB hgbl hgl hal
   go_loop [8] (fun i => ∃ k : Nat, k ≤ L.length ∧ i = .int .i64 k ∧ Aside0 (∀ j, j < k → L.getD j 0 ≠ s)) (fun i => L.length - (intOf i).toNat)
   case atStart => exact ⟨0, Nat.zero_le _, rfl, ⟨fun j hj => absurd hj (Nat.not_lt_zero _)⟩⟩
   case round =>
    obtain ⟨k, hk, rfl, HN⟩ := hrel
    by_cases hlt : k < L.length
    ·have q0 : (0 : Int) ≤ (k : Int) := by omega
     have q1 : (k : Int) < L.length := by omega
     obtain ⟨a1, rfl, cL⟩ := Kd.at_int HCW.out (k : Int) q0 q1
     rw [Int.toNat_natCast] at cL
     have ek : rd L (k : Int) = L.getD k 0 := by unfold rd; rw [Int.toNat_natCast]
     obtain ⟨lk, hlk⟩ : ∃ lk, rd L (k : Int) = lk := ⟨_, rfl⟩
     rw [hlk] at cL ek
     by_cases hs : lk = s
     ·have hs2 : (lk == s) = true := by rw [hs]; exact beq_self_eq_true s
      have hcon : L.contains s = true := by
       rw [List.contains_iff_mem, ← hs, ek, List.getD_eq_getElem?_getD, List.getElem?_eq_getElem hlt]
       exact List.getElem_mem hlt
      have HR2 := Aside0.mk (HR.out.symm.trans hcon)
      obtain ⟨d1, d2⟩ := own_at HYW.out.row (v : Int) p0 p1
      rw [Int.toNat_natCast] at d1 d2
      obtain ⟨zz, hzz⟩ : ∃ zz, rd (bdL vs.length b) (v : Int) = zz := ⟨_, rfl⟩
      rw [hzz] at d1
      have d10 : W.cell? ⟨g, 10, none⟩ = some (.slice (some ⟨gb, 0, none⟩) vs.length cb) := blk_cell HYW.out.blk 10
      have HST := Aside0.mk (HYW.out.row.stored v (.int .i64 s))
      clear hs hcon hlk ek hzz
      go_wp2
      go_region
      go_wp2
      go_ret
      have hst := HST.out
      rw [bdL_set _ _ _ hvl] at hst
      refine ⟨by rw [HR2.out]; rfl, ?_, below_drew1 (HBW.out.setCell hgb _), HGW.out.trans (hst.2.trans (World.grownBy_drewN _ 1 _))⟩
      rw [← HU.out, HR2.out, if_pos rfl]
      exact YS.below ⟨(hst.2.block g (blk_lt HYW.out.blk) (fun e => HYW.out.ne e.symm)).trans HYW.out.blk, hst.1⟩ (below_drew1 (Below.refl _ _))
     ·have hs2 : (lk == s) = false := by rw [beq_eq_false_iff_ne]; exact hs
      have HN2 : Aside0 (∀ j, j < k + 1 → L.getD j 0 ≠ s) := ⟨fun j hj => by
       rcases Nat.lt_succ_iff_lt_or_eq.1 hj with h | h
       ·exact HN.out j h
       ·rw [h, ← ek]; exact hs⟩
      clear hs hlk ek HN
      go_wp2
      go_round
      case rel => exact ⟨k + 1, by omega, by go_num, HN2⟩
      case measure => simp [intOf]; omega
    ·have hcon : L.contains s = false := by
      rw [Bool.eq_false_iff]
      intro h
      rw [List.contains_iff_mem] at h
      obtain ⟨j, hj, e⟩ := List.mem_iff_getElem.1 h
      exact HN.out j (by omega) (by rw [List.getD_eq_getElem?_getD, List.getElem?_eq_getElem hj]; exact e)
     have HR2 := Aside0.mk (HR.out.symm.trans hcon)
     clear hcon
     go_wp2
     go_ret
     rw [← HU.out, HR2.out, if_neg (by decide)]
     exact ⟨rfl, HYW.out, HBW.out, HGW.out⟩
theorem yfits_calls (base g : Nat) (c : TC) (bv : Value) (b : Bd) (vs : List Vr) (AV : Option Addr) (cV : Nat) (x : Tm) (s : Int) (w : World) (hy : YS w base g c bv vs.length b) (hx3 : c.x3 = .slice AV vs.length cV)
  (hV : Kd.C k65 w AV vs.length vs) (hx : x.f1 < vs.length) (hs0 : 0 ≤ s) (hs1 : s ≤ 255) (hbase : base ≤ w.heap.size) :
  Calls Try.prog 41 #[.pointer (some ⟨g, 0, none⟩), .agg #[.int .u8 x.f0, .int .i64 x.f1], .int .u8 s] w fun e w' =>
   e = .returned (.bool (fitB vs b x s)) ∧ YS w' base g c bv vs.length (fitU vs b x s) ∧ Below base w w' := by
 refine (yfits_calls' base g c bv b vs AV cV x s w hy hx3 hV hx hs0 hs1 hbase).mono ?_
 rintro e w' ⟨h1, h2, h3, _⟩
 exact ⟨h1, h2, h3⟩
set_option maxRecDepth 100000 in
set_option maxHeartbeats 4000000 in
theorem ysays_calls (base g : Nat) (c : TC) (bv : Value) (n : Nat) (b : Bd) (o : Tm) (w : World) (hy : YS w base g c bv n b) (h3 : c.y3 = .int .u8 o.f0) (h4 : c.y4 = .int .i64 o.f1) (ho : o.f1 < n) (hn : n ≤ 64) :
  Calls Try.prog 44 #[.pointer (some ⟨g, 0, none⟩)] w fun e w' => e = .returned (.int .u8 (outR o b)) ∧ Drawn0 w w' := by
 have c8 : w.cell? ⟨g, 8, none⟩ = some (.int .u8 o.f0) := by rw [← h3]; exact blk_cell hy.blk 8
 have c9 : w.cell? ⟨g, 9, none⟩ = some (.int .i64 o.f1) := by rw [← h4]; exact blk_cell hy.blk 9
 have c10 : w.cell? ⟨g, 10, none⟩ = some bv := blk_cell hy.blk 10
 by_cases h0 : o.f1 < 0
 ·have e1 : outR o b = o.f0 := by unfold outR; rw [if_pos h0]
  rw [e1]
  clear hy e1 h3 h4
  go_enter Try.func44, Try.ntmps44
  go_wp2
  go_ret
  exact ⟨rfl, Drawn0.refl _⟩
 ·obtain ⟨v, hv⟩ : ∃ v : Nat, o.f1 = v := ⟨o.f1.toNat, by omega⟩
  have hvl : v < n := by omega
  obtain ⟨gb, cb, rfl, hgb⟩ := rrow_some hy.row (by omega)
  obtain ⟨cB, fB⟩ := own_at hy.row (v : Int) (by omega) (by omega)
  rw [Int.toNat_natCast, bdL_rd _ _ hvl] at cB
  have e1 : outR o b = b v % 256 := by unfold outR; rw [if_neg h0, hv, Int.toNat_natCast]
  rw [e1]
  have p0 : (0 : Int) ≤ (v : Int) := by omega
  have p1 : (v : Int) < (n : Int) := by omega
  rw [hv] at c9
  clear hy e1 fB ho h0 hv h3 h4
  go_enter Try.func44, Try.ntmps44
  go_wp2
  go_quiet (fail)
  go_wp2
  go_ret
  exact ⟨rfl, (Drawn0.refl _).step _⟩
set_option maxRecDepth 100000 in
set_option maxHeartbeats 4000000 in
theorem ycopied_calls (base g : Nat) (c : TC) (bv : Value) (n : Nat) (b : Bd) (w : World) (hy : YS w base g c bv n b) (hn : n ≤ 64) :
  Calls Try.prog 43 #[.pointer (some ⟨g, 0, none⟩)] w fun e w' => ∃ (z : Nat) (bv' : Value), e = .returned (.pointer (some ⟨z, 0, none⟩)) ∧ w.heap.size ≤ z ∧ YS w' w.heap.size z c bv' n b ∧ Below w.heap.size w w' := by
 have HY := Aside0.mk hy
 have c0 : w.cell? ⟨g, 0, none⟩ = some c.x0 := blk_cell hy.blk 0
 have c1 : w.cell? ⟨g, 1, none⟩ = some c.x1 := blk_cell hy.blk 1
 have c2 : w.cell? ⟨g, 2, none⟩ = some c.x2 := blk_cell hy.blk 2
 have c3 : w.cell? ⟨g, 3, none⟩ = some c.x3 := blk_cell hy.blk 3
 have c4 : w.cell? ⟨g, 4, none⟩ = some c.x4 := blk_cell hy.blk 4
 have c5 : w.cell? ⟨g, 5, none⟩ = some c.y0 := blk_cell hy.blk 5
 have c6 : w.cell? ⟨g, 6, none⟩ = some c.y1 := blk_cell hy.blk 6
 have c7 : w.cell? ⟨g, 7, none⟩ = some c.y2 := blk_cell hy.blk 7
 have c8 : w.cell? ⟨g, 8, none⟩ = some c.y3 := blk_cell hy.blk 8
 have c9 : w.cell? ⟨g, 9, none⟩ = some c.y4 := blk_cell hy.blk 9
 have c10 : w.cell? ⟨g, 10, none⟩ = some bv := blk_cell hy.blk 10
 have hgl := blk_lt hy.blk
 clear hy
 go_enter Try.func43, Try.ntmps43
 obtain ⟨A, cb, rfl⟩ := own_slice HY.out.row
 have HCB : Aside0 ((Kd.int .i64).C w A n (bdL n b)) := ⟨by
  have h := (own_C (xs := bdL n b) HY.out.row (bdL_len n b)).1
  rwa [bdL_len] at h⟩
 go_wp2
 go_region
 go_wp2
 obtain ⟨W, hW⟩ : ∃ W, (w.alloc (Obj.cells #[c.x0, c.x1, c.x2, c.x3, c.x4, c.y0, c.y1, c.y2, c.y3, c.y4, Value.slice none 0 0] 79)).drew = W := ⟨_, rfl⟩
 have HBW : Aside0 (Below w.heap.size w W) := ⟨by rw [← hW]; exact below_drew1 ((Below.refl _ _).alloc (Nat.le_refl _) _)⟩
 have HBK : Aside0 (W.heap[w.heap.size]? = some (.cells (c.cells (.slice none 0 0)) 79 (0, 0))) := ⟨by rw [← hW]; exact blk_below (blk_new w _) (below_drew1 (Below.refl _ _))⟩
 rw [hW]
 have hz := blk_lt HBK.out
 have hg2 : g < W.heap.size := Nat.lt_of_lt_of_le hgl HBW.out.size
 have hce1 : W.cell? ⟨w.heap.size, 10, none⟩ = some (.slice none 0 0) := blk_cell HBK.out 10
 have hce2 : W.cell? ⟨g, 10, none⟩ = some (.slice A n cb) := HBW.out.cell hgl |>.trans c10
 have HCW : Aside0 ((Kd.int .i64).C W A n (bdL n b)) := ⟨Kd.C_below HCB.out HBW.out⟩
 have HC10 := Aside0.mk c10
 clear hW c0 c1 c2 c3 c4 c5 c6 c7 c8 c9 c10
 refine start_ (n := 13) (S := fun w' => w'.cell? ⟨w.heap.size, 10, none⟩ = some (.slice none 0 0) ∧ w'.cell? ⟨g, 10, none⟩ = some (.slice A n cb)) (ds := [12]) #[false, false, false, false, false, false, false, false, false, false, false, false, false] (by kernel_rfl) rfl rfl ⟨hce1, hce2⟩ (fun hHeld => ?_)
 refine pure_ (i := 0) (N := some 14) (v := ?_) (a' := ?_) #[true, false, false, false, false, false, false, false, false, false, false, false, false] rfl rfl (by kernel_rfl) (fun _ _ _ h => h) (Or.inl ⟨by rfl, ?_⟩) ?_ ?_
 rotate_left
 ·intro w'
  go_simp
  with_reducible rfl
 rotate_left
 ·simp only [Act.put, List.setIfInBounds_toArray, List.set_cons_zero, List.set_cons_succ, i64_w, i32_w]
  rfl
 refine pure_ (i := 1) (N := some 15) (v := ?_) (a' := ?_) #[true, true, false, false, false, false, false, false, false, false, false, false, false] rfl rfl (by kernel_rfl) (fun _ _ _ h => h) (Or.inl ⟨by rfl, ?_⟩) ?_ ?_
 rotate_left
 ·intro w'
  go_simp
  with_reducible rfl
 rotate_left
 ·simp only [Act.put, List.setIfInBounds_toArray, List.set_cons_zero, List.set_cons_succ, i64_w, i32_w]
  rfl
 refine pure_ (i := 2) (N := some 16) (v := ?_) (a' := ?_) #[true, true, true, false, false, false, false, false, false, false, false, false, false] rfl rfl (by kernel_rfl) (fun _ _ _ h => h) (Or.inl ⟨by rfl, ?_⟩) ?_ ?_
 rotate_left
 ·intro w'
  go_simp
  with_reducible rfl
 rotate_left
 ·simp only [Act.put, List.setIfInBounds_toArray, List.set_cons_zero, List.set_cons_succ, i64_w, i32_w]
  rfl
 refine pure_ (i := 3) (N := some 17) (v := ?_) (a' := ?_) #[true, true, true, true, false, false, false, false, false, false, false, false, false] rfl rfl (by kernel_rfl) (fun _ _ _ h => h) (Or.inl ⟨by rfl, ?_⟩) ?_ ?_
 rotate_left
 ·intro w'
  go_simp
  with_reducible rfl
 rotate_left
 ·simp only [Act.put, List.setIfInBounds_toArray, List.set_cons_zero, List.set_cons_succ, i64_w, i32_w]
  rfl
 refine pure_ (i := 5) (N := some 19) (v := ?_) (a' := ?_) #[true, true, true, true, false, true, false, false, false, false, false, false, false] rfl rfl (by kernel_rfl) (fun _ _ _ h => h) (Or.inl ⟨by rfl, ?_⟩) ?_ ?_
 rotate_left
 ·intro w'
  go_simp
  with_reducible rfl
 rotate_left
 ·simp only [Act.put, List.setIfInBounds_toArray, List.set_cons_zero, List.set_cons_succ, i64_w, i32_w]
  rfl
 refine pure_ (i := 6) (N := some 20) (v := ?_) (a' := ?_) #[true, true, true, true, false, true, true, false, false, false, false, false, false] rfl rfl (by kernel_rfl) (fun _ _ _ h => h) (Or.inl ⟨by rfl, ?_⟩) ?_ ?_
 rotate_left
 ·intro w'
  go_simp
  with_reducible rfl
 rotate_left
 ·simp only [Act.put, List.setIfInBounds_toArray, List.set_cons_zero, List.set_cons_succ, i64_w, i32_w]
  rfl
 refine pure_ (i := 7) (N := some 21) (v := ?_) (a' := ?_) #[true, true, true, true, false, true, true, true, false, false, false, false, false] rfl rfl (by kernel_rfl) (fun _ _ _ h => h) (Or.inl ⟨by rfl, ?_⟩) ?_ ?_
 rotate_left
 ·intro w'
  go_simp
  with_reducible rfl
 rotate_left
 ·simp only [Act.put, List.setIfInBounds_toArray, List.set_cons_zero, List.set_cons_succ, i64_w, i32_w]
  rfl
 refine take_ (i := 4) (N := some 18) (v := ?_) (a' := ?_) #[true, true, true, true, true, true, true, true, false, false, false, false, false] rfl rfl (by kernel_rfl) (fun _ _ _ h => h) (Or.inl ⟨by rfl, ?_⟩) hHeld ?_ ?_
 rotate_left
 ·rintro w' ⟨s0, s1⟩
  go_simp
  with_reducible rfl
 rotate_left
 ·simp only [Act.put, List.setIfInBounds_toArray, List.set_cons_zero, List.set_cons_succ, i64_w, i32_w]
  rfl
 refine take_ (i := 8) (N := some 22) (v := ?_) (a' := ?_) #[true, true, true, true, true, true, true, true, true, false, false, false, false] rfl rfl (by kernel_rfl) (fun _ _ _ h => h) (Or.inl ⟨by rfl, ?_⟩) hHeld ?_ ?_
 rotate_left
 ·rintro w' ⟨s0, s1⟩
  go_simp
  with_reducible rfl
 rotate_left
 ·simp only [Act.put, List.setIfInBounds_toArray, List.set_cons_zero, List.set_cons_succ, i64_w, i32_w]
  rfl
 refine one_ (i := 9) (N := some 23) #[true, true, true, true, true, true, true, true, true, true, false, false, false] rfl rfl (by kernel_rfl) (by decide) (fun K hK => ?_)
 refine Kd.R_append_rows_step (Kd.int .i64) (w0 := w) (W := W.drew) w.heap.size (by rfl) (.tmp 18) (.tmp 22) 28 3 (.int .i64 0) 8 rfl Try.underlying28 infoI' rfl (by decide) (by omega) (.slice none 0 0) ([] : List Int) (bdL n b) A n cb (fun _ => True) (fun _ => False) rfl rfl (Kd.R_nil _ _ _ _ (fun _ => True)) (Kd.C_drew HCW.out) (fun _ _ h => h) (fun _ h => h.elim) (fun _ _ => trivial) (below_drew1 HBW.out) (below_drew1 HBW.out).size (by simp; omega) ?_
 intro v1 w1 ho hb hg hat
 rw [List.nil_append] at ho
 have ho1 : w1.ownsRow w.heap.size 3 1 v1 n (nums .i64 (bdL n b)) := (by have h := Kd.own_of_R ho; rw [bdL_len] at h; exact h)
 obtain ⟨A7, c7, rfl⟩ := own_slice ho1
 have HO1 := Aside0.mk ho1
 clear ho1
 have HB1 := Aside0.mk hb
 have HK1 := Aside0.mk (blk_grown (blk_below HBK.out (below_drew1 (Below.refl _ _))) hg (by simp [Value.ownBlock]))
 clear ho hb hg hat
 have hfz := blk_frozen HK1.out 10
 refine hK.out _ _ ⟨blk_cell HK1.out 10, (HB1.out.cell hgl).trans HC10.out⟩ (fun hHeld => ?_)
 clear hK K
 refine norm_ (a' := ?_) ?_ ?_
 rotate_left
 ·show Act.put _ (some 23) _ = _
  simp only [Act.put, List.setIfInBounds_toArray, List.set_cons_zero, List.set_cons_succ, i64_w, i32_w]
  rfl
 refine pure_ (i := 10) (N := some 24) (v := ?_) (a' := ?_) #[true, true, true, true, true, true, true, true, true, true, true, false, false] rfl rfl (by kernel_rfl) (fun _ _ _ h => h) (Or.inl ⟨by rfl, ?_⟩) ?_ ?_
 rotate_left
 ·intro w'
  go_simp
  with_reducible rfl
 rotate_left
 ·simp only [Act.put, List.setIfInBounds_toArray, List.set_cons_zero, List.set_cons_succ, i64_w, i32_w]
  rfl
 refine pure_ (i := 11) (N := some 25) (v := ?_) (a' := ?_) #[true, true, true, true, true, true, true, true, true, true, true, true, false] rfl rfl (by kernel_rfl) (fun _ _ _ h => h) (Or.inl ⟨by rfl, ?_⟩) ?_ ?_
 rotate_left
 ·intro w'
  go_simp
  with_reducible rfl
 rotate_left
 ·simp only [Act.put, List.setIfInBounds_toArray, List.set_cons_zero, List.set_cons_succ, i64_w, i32_w]
  rfl
 refine last_ (i := 12) (N := none) #[true, true, true, true, true, true, true, true, true, true, true, true, true] rfl rfl (by kernel_rfl) (by decide) (fun K hK => ?_)
 refine skip_ (w1 := ?_) (by rfl) rfl ?_ ?_
 rotate_left
 ·go_simp
  rfl
 refine hK.out _ _ ?_
 clear hK K
 refine done_ (by kernel_rfl) ?_
 go_wp2
 go_ret
 refine ⟨w.heap.size, .slice A7 n c7, rfl, Nat.le_refl _, ⟨blk_set HK1.out 10 _, own_setCell HO1.out (fun e => ?_) _⟩, HB1.out.setCell (Nat.le_refl _) _⟩
 exact try_ne HK1.out HO1.out e.symm
end Go.Proofs.Ytajhfkcmfmhnaaa.L
end
section
namespace Go.Proofs.Ytajhfkcmfmhnaaa.L
open Go.RowKit Go.Proofs.Ytajhfkcmfmhnaaa.P Go.Proofs.YtajhfkcmfmhnaaaW.PrintWords Go.Proofs.YtajhfkcmfmhnaaaW.PrintLast Go.Proofs.YtajhfkcmfmhnaaaW.PrintMore
set_option linter.unusedVariables false
set_option linter.unusedSimpArgs false
/-- A fitter's cells. -/
def fitL (b : Bd) : List Value := (List.range 64).map (fun i => Value.bool (decide (0 ≤ b i))) ++ (List.range 64).map (fun i => Value.int .u8 (if 0 ≤ b i then b i else 0))
def fitC (pt pr : Value) (b : Bd) : Array Value := (pt :: pr :: fitL b).toArray
theorem fitL_length (b : Bd) : (fitL b).length = 128 := by simp [fitL]
theorem fitC_size (pt pr : Value) (b : Bd) : (fitC pt pr b).size = 130 := by simp [fitC, fitL_length]
theorem fitC_0 (pt pr : Value) (b : Bd) : (fitC pt pr b)[0]? = some pt := by simp [fitC]
theorem fitC_1 (pt pr : Value) (b : Bd) : (fitC pt pr b)[1]? = some pr := by simp [fitC]
theorem fitL_has (b : Bd) {v : Nat} (h : v < 64) : (fitL b)[v]? = some (Value.bool (decide (0 ≤ b v))) := by
 unfold fitL
 rw [List.getElem?_append_left (by simpa using h)]
 simp [h]
theorem fitL_is (b : Bd) {v : Nat} (h : v < 64) : (fitL b)[64 + v]? = some (Value.int .u8 (if 0 ≤ b v then b v else 0)) := by
 unfold fitL
 rw [List.getElem?_append_right (by simp)]
 simp [h]
theorem fitC_has (pt pr : Value) (b : Bd) {v : Nat} (h : v < 64) : (fitC pt pr b)[2 + v]? = some (Value.bool (decide (0 ≤ b v))) := by
 have e : 2 + v = v + 1 + 1 := by omega
 simp only [fitC, List.getElem?_toArray, e, List.getElem?_cons_succ]
 exact fitL_has b h
theorem fitC_is (pt pr : Value) (b : Bd) {v : Nat} (h : v < 64) : (fitC pt pr b)[66 + v]? = some (Value.int .u8 (if 0 ≤ b v then b v else 0)) := by
 have e : 66 + v = 64 + v + 1 + 1 := by omega
 simp only [fitC, List.getElem?_toArray, e, List.getElem?_cons_succ]
 exact fitL_is b h
theorem fitC_set (pt pr : Value) (b : Bd) {v : Nat} {s : Int} (h : v < 64) (hs : 0 ≤ s) : ((fitC pt pr b).setIfInBounds (2 + v) (.bool true)).setIfInBounds (66 + v) (.int .u8 s) = fitC pt pr (upd b v s) := by
 apply Array.ext_getElem?
 intro i
 rw [Array.getElem?_setIfInBounds, Array.getElem?_setIfInBounds]
 simp only [Array.size_setIfInBounds, fitC_size]
 by_cases h1 : 66 + v = i
 ·subst h1
  rw [if_pos rfl, if_pos (by omega), fitC_is _ _ _ h]
  simp [upd, hs]
 ·rw [if_neg h1]
  by_cases h2 : 2 + v = i
  ·subst h2
   rw [if_pos rfl, if_pos (by omega), fitC_has _ _ _ h]
   simp [upd, hs]
  ·rw [if_neg h2]
   rcases Nat.lt_or_ge i 2 with h3 | h3
   ·obtain rfl | rfl : i = 0 ∨ i = 1 := by omega
    ·rw [fitC_0, fitC_0]
    ·rw [fitC_1, fitC_1]
   ·rcases Nat.lt_or_ge i 66 with h4 | h4
    ·obtain ⟨u, rfl⟩ : ∃ u, i = 2 + u := ⟨i - 2, by omega⟩
     rw [fitC_has _ _ _ (by omega), fitC_has _ _ _ (by omega), upd, if_neg (by omega)]
    ·rcases Nat.lt_or_ge i 130 with h5 | h5
     ·obtain ⟨u, rfl⟩ : ∃ u, i = 66 + u := ⟨i - 66, by omega⟩
      rw [fitC_is _ _ _ (by omega), fitC_is _ _ _ (by omega)]
      have hne : u ≠ v := by omega
      simp only [upd, if_neg hne]
     ·rw [Array.getElem?_eq_none (by rw [fitC_size]; omega), Array.getElem?_eq_none (by rw [fitC_size]; omega)]
theorem fitC_one (p q : Addr) (b : Bd) : (fitC (.pointer (some p)) (.pointer (some q)) b).all (·.oneCell') = true := by
 simp [fitC, fitL, Value.oneCell']
set_option maxRecDepth 100000 in
set_option maxHeartbeats 4000000 in
theorem tfits_calls (g gt : Nat) (pr : Value) (b : Bd) (vs : List Vr) (AV : Option Addr) (cV : Nat) (x : Tm) (s : Int) (w : World) (hg : w.heap[g]? = some (.cells (fitC (.pointer (some ⟨gt, 0, none⟩)) pr b) 88 (0, 0)))
  (ht : w.cell? ⟨gt, 3, none⟩ = some (.slice AV vs.length cV)) (hV : Kd.C k65 w AV vs.length vs) (h64 : vs.length ≤ 64) (hx : x.f1 < vs.length) (hs0 : 0 ≤ s) (hs1 : s ≤ 255) :
  Calls Try.prog 46 #[.pointer (some ⟨g, 0, none⟩), .agg #[.int .u8 x.f0, .int .i64 x.f1], .int .u8 s] w fun e w' =>
   e = .returned (.bool (fitB vs b x s)) ∧ w'.heap[g]? = some (.cells (fitC (.pointer (some ⟨gt, 0, none⟩)) pr (fitU vs b x s)) 88 (0, 0)) ∧ Below g w w' := by
 have HV := Aside0.mk hV
 have HG := Aside0.mk hg
 have hgl := blk_lt hg
 clear hV
 by_cases h0 : x.f1 < 0
 ·have e1 : fitB vs b x s = (x.f0 == s) := by unfold fitB; rw [if_pos h0]
  have e2 : fitU vs b x s = b := by unfold fitU; rw [if_pos h0]
  rw [e1, e2]
  clear hg
  go_enter Try.func46, Try.ntmps46
  go_wp2
  go_ret
  exact ⟨rfl, blk_alloc HG.out _, (Below.refl _ _).alloc (Nat.le_of_lt hgl) _⟩
 ·obtain ⟨v, hv⟩ : ∃ v : Nat, x.f1 = v := ⟨x.f1.toNat, by omega⟩
  have hvl : v < vs.length := by omega
  have c1 : w.cell? ⟨g, 2 + v, none⟩ = some (.bool (decide (0 ≤ b v))) := (blk_cell hg _).trans (fitC_has _ _ _ (by omega))
  have c2 : w.cell? ⟨g, 66 + v, none⟩ = some (.int .u8 (if 0 ≤ b v then b v else 0)) := (blk_cell hg _).trans (fitC_is _ _ _ (by omega))
  have c0 : w.cell? ⟨g, 0, none⟩ = some (.pointer (some ⟨gt, 0, none⟩)) := (blk_cell hg _).trans (fitC_0 _ _ _)
  have p0 : (0 : Int) ≤ (v : Int) := by omega
  have p1 : (v : Int) < 64 := by omega
  clear hg
  by_cases hb : 0 ≤ b v
  ·rw [decide_eq_true hb] at c1
   rw [if_pos hb] at c2
   have e1 : fitB vs b x s = (b v == s) := by unfold fitB; rw [if_neg h0, hv, Int.toNat_natCast, if_pos hb]
   have e2 : fitU vs b x s = b := by unfold fitU; rw [if_neg h0, hv, Int.toNat_natCast, if_pos hb]
   rw [e1, e2, hv]
   clear hx e1 e2 h0
   obtain ⟨bv, hbv⟩ : ∃ bv, bv = b v := ⟨_, rfl⟩
   rw [← hbv] at c2 hb ⊢
   go_enter Try.func46, Try.ntmps46
   go_wp2
   go_quiet (fail)
   go_wp2
   go_quiet (fail)
   go_wp2
   go_ret
   rw [hbv]
   exact ⟨rfl, blk_alloc HG.out _, pw_below_drewN (pw_below_drewN ((Below.refl _ _).alloc (Nat.le_of_lt hgl) _) _) _⟩
  ·rw [decide_eq_false hb] at c1
   obtain ⟨ad, A1, c3, rfl, _, c4, hle, hC⟩ := at_T65 HV.out (v : Int) p0 (by omega)
   rw [Int.toNat_natCast] at c4
   have eL : (rd_T65 vs (v : Int)).f1 = vrAt vs x := by unfold rd_T65 vrAt; rw [hv]
   rw [eL] at c4 hle hC
   have HC := Aside0.mk hC
   have e1 : fitB vs b x s = (vrAt vs x).contains s := by unfold fitB; rw [if_neg h0, hv, Int.toNat_natCast, if_neg hb]
   have e2 : fitU vs b x s = if (vrAt vs x).contains s = true then upd b v s else b := by unfold fitU; rw [if_neg h0, hv, Int.toNat_natCast, if_neg hb]
   rw [e1, e2, hv]
   obtain ⟨L, hL⟩ : ∃ L, vrAt vs x = L := ⟨_, rfl⟩
   rw [hL] at c4 hle HC ⊢
   have p2 : (v : Int) < vs.length := by omega
   have hbig : L.length ≤ 9223372036854775807 := HC.out.2.1
   have hgtl : gt < w.heap.size := World.block_lt_of_cell? w _ ht
   have hal : (ad.add (v * 2)).block < w.heap.size := World.block_lt_of_cell? w ⟨(ad.add (v * 2)).block, (ad.add (v * 2)).off + 1, none⟩ c4
   obtain ⟨R, hR⟩ : ∃ R, L.contains s = R := ⟨_, rfl⟩
   obtain ⟨U, hU⟩ : ∃ U, (if R = true then upd b v s else b) = U := ⟨_, rfl⟩
   rw [hR, hU]
   have HR := Aside0.mk hR
   have HU := Aside0.mk hU
   clear hx e1 e2 h0 hC eL hL c2 hb hvl hR hU
   go_enter Try.func46, Try.ntmps46
   go_wp2
   go_quiet (fail)
   go_wp2
   go_quiet (fail)
   go_wp2
   rename_i n1 K1 ha1
   obtain ⟨W, hW⟩ : ∃ W, ((w.alloc (Obj.cells #[Value.int IntKind.u8 x.f0, Value.int IntKind.i64 ↑v] 59)).drewN n1).drewN nq = W := ⟨_, rfl⟩
   have HGW : Aside0 (W.heap[g]? = some (.cells (fitC (.pointer (some ⟨gt, 0, none⟩)) pr b) 88 (0, 0))) := ⟨by rw [← hW]; exact blk_alloc HG.out _⟩
   have HBW : Aside0 (Below g w W) := ⟨by rw [← hW]; exact pw_below_drewN (pw_below_drewN ((Below.refl _ _).alloc (Nat.le_of_lt hgl) _) _) _⟩
   have HCW : Aside0 ((Kd.int .u8).C W A1 L.length L) := ⟨by rw [← hW]; exact Kd.C_below HC.out (pw_below_drewN (pw_below_drewN ((Below.refl _ _).alloc (Nat.le_refl _) _) _) _)⟩
   have cx : W.cell? ⟨w.heap.size, 1, none⟩ = some (.int .i64 v) := by rw [← hW]; exact blk_cell (blk_new _ _) 1
   have hgW : g < W.heap.size := blk_lt HGW.out
   have hxW : w.heap.size < W.heap.size := World.block_lt_of_cell? W _ cx
   rw [hW]
   clear hW c0 c1 c4 ht
   go_loop [45] (fun i => ∃ k : Nat, k ≤ L.length ∧ i = .int .i64 k ∧ Aside0 (∀ j, j < k → L.getD j 0 ≠ s)) (fun i => L.length - (intOf i).toNat)
   case atStart => exact ⟨0, Nat.zero_le _, rfl, ⟨fun j hj => absurd hj (Nat.not_lt_zero _)⟩⟩
   case round =>
    obtain ⟨k, hk, rfl, HN⟩ := hrel
    by_cases hlt : k < L.length
    ·have q0 : (0 : Int) ≤ (k : Int) := by omega
     have q1 : (k : Int) < L.length := by omega
     obtain ⟨a1, rfl, cL⟩ := Kd.at_int HCW.out (k : Int) q0 q1
     rw [Int.toNat_natCast] at cL
     have ek : rd L (k : Int) = L.getD k 0 := by unfold rd; rw [Int.toNat_natCast]
     obtain ⟨lk, hlk⟩ : ∃ lk, rd L (k : Int) = lk := ⟨_, rfl⟩
     rw [hlk] at cL ek
     by_cases hs : lk = s
     ·have hs2 : (lk == s) = true := by rw [hs]; exact beq_self_eq_true s
      have hcon : L.contains s = true := by
       rw [List.contains_iff_mem, ← hs, ek, List.getD_eq_getElem?_getD, List.getElem?_eq_getElem hlt]
       exact List.getElem_mem hlt
      have HR2 := Aside0.mk (HR.out.symm.trans hcon)
      have d1 := (blk_cell HGW.out (2 + v)).trans (fitC_has _ _ _ (by omega))
      have d2 := (blk_cell HGW.out (66 + v)).trans (fitC_is _ _ _ (by omega))
      have f1 := blk_frozen HGW.out (2 + v)
      have f2 := blk_frozen HGW.out (66 + v)
      clear hs hcon hlk ek
      go_wp2
      go_region
      go_wp2
      go_ret
      refine ⟨by rw [HR2.out]; rfl, ?_, below_drew1 ((HBW.out.setCell (Nat.le_refl _) _).setCell (Nat.le_refl _) _)⟩
      rw [← HU.out, HR2.out, if_pos rfl, ← fitC_set _ _ _ (by omega) hs0]
      exact blk_set (blk_set HGW.out (2 + v) _) (66 + v) _
     ·have hs2 : (lk == s) = false := by rw [beq_eq_false_iff_ne]; exact hs
      have HN2 : Aside0 (∀ j, j < k + 1 → L.getD j 0 ≠ s) := ⟨fun j hj => by
       rcases Nat.lt_succ_iff_lt_or_eq.1 hj with h | h
       ·exact HN.out j h
       ·rw [h, ← ek]; exact hs⟩
      clear hs hlk ek HN
      go_wp2
      go_round
      case rel => exact ⟨k + 1, by omega, by go_num, HN2⟩
      case measure => simp [intOf]; omega
    ·have hcon : L.contains s = false := by
      rw [Bool.eq_false_iff]
      intro h
      rw [List.contains_iff_mem] at h
      obtain ⟨j, hj, e⟩ := List.mem_iff_getElem.1 h
      exact HN.out j (by omega) (by rw [List.getD_eq_getElem?_getD, List.getElem?_eq_getElem hj]; exact e)
     have HR2 := Aside0.mk (HR.out.symm.trans hcon)
     clear hcon
     go_wp2
     go_ret
     rw [← HU.out, HR2.out, if_neg (by decide)]
     exact ⟨rfl, HGW.out, HBW.out⟩
set_option maxRecDepth 100000 in
set_option maxHeartbeats 4000000 in
theorem tsays_calls (g : Nat) (pt : Value) (p : Addr) (b : Bd) (o : Tm) (w : World) (hg : w.heap[g]? = some (.cells (fitC pt (.pointer (some p)) b) 88 (0, 0)))
  (h3 : w.cell? ⟨p.block, p.off + 3, none⟩ = some (.int .u8 o.f0)) (h4 : w.cell? ⟨p.block, p.off + 4, none⟩ = some (.int .i64 o.f1)) (ho : o.f1 < 64) :
  Calls Try.prog 48 #[.pointer (some ⟨g, 0, none⟩)] w fun e w' => e = .returned (.int .u8 (outP o b)) ∧ Drawn0 w w' := by
 have c0 : w.cell? ⟨g, 1, none⟩ = some (.pointer (some p)) := (blk_cell hg _).trans (fitC_1 _ _ _)
 by_cases h0 : o.f1 < 0
 ·have e1 : outP o b = o.f0 := by unfold outP; rw [if_pos h0]
  rw [e1]
  clear hg e1
  go_enter Try.func48, Try.ntmps48
  go_wp2
  go_ret
  exact ⟨rfl, Drawn0.refl _⟩
 ·obtain ⟨v, hv⟩ : ∃ v : Nat, o.f1 = v := ⟨o.f1.toNat, by omega⟩
  have c2 : w.cell? ⟨g, 66 + v, none⟩ = some (.int .u8 (if 0 ≤ b v then b v else 0)) := (blk_cell hg _).trans (fitC_is _ _ _ (by omega))
  have e1 : outP o b = (if 0 ≤ b v then b v else 0) := by unfold outP; rw [if_neg h0, hv, Int.toNat_natCast]
  rw [e1]
  obtain ⟨z, hz⟩ : ∃ z, (if 0 ≤ b v then b v else 0) = z := ⟨_, rfl⟩
  rw [hz] at c2 ⊢
  have p0 : (0 : Int) ≤ (v : Int) := by omega
  have p1 : (v : Int) < 64 := by omega
  rw [hv] at h4
  clear hg e1 hz ho h0 hv
  go_enter Try.func48, Try.ntmps48
  go_wp2
  go_quiet (fail)
  go_wp2
  go_ret
  exact ⟨rfl, (Drawn0.refl _).step _⟩
/-- Which states were tried. -/
def triC (tr : Int → Bool) : Array Value := ((List.range 256).map (fun s => Value.bool (tr (s : Nat)))).toArray
theorem triC_size (tr : Int → Bool) : (triC tr).size = 256 := by simp [triC]
theorem triC_at (tr : Int → Bool) {s : Nat} (h : s < 256) : (triC tr)[s]? = some (Value.bool (tr s)) := by simp [triC, h]
theorem triC_set (tr : Int → Bool) {s : Nat} (h : s < 256) : (triC tr).setIfInBounds s (.bool true) = triC (fun x => if x = (s : Int) then true else tr x) := by
 apply Array.ext_getElem?
 intro i
 rw [Array.getElem?_setIfInBounds]
 simp only [triC_size]
 by_cases h1 : s = i
 ·subst h1
  rw [if_pos rfl, if_pos h, triC_at _ h]
  simp
 ·rw [if_neg h1]
  rcases Nat.lt_or_ge i 256 with h2 | h2
  ·rw [triC_at _ h2, triC_at _ h2]
   have : ¬ (i : Int) = (s : Int) := by omega
   simp only [if_neg this]
  ·rw [Array.getElem?_eq_none (by rw [triC_size]; omega), Array.getElem?_eq_none (by rw [triC_size]; omega)]
theorem fitC_info (pt pr : Value) (b : Bd) : (Try.prog.info? 88).map (·.size) = some (fitC pt pr b).size := by rw [fitC_size]; kernel_rfl
theorem zero_tri (w : World) : (zeroValue 102).run Try.prog w = .ok (.agg (triC fun _ => false)) w := by kernel_rfl
def resT : Option Int → Value
 | some v => .tuple #[.int .u8 v, .bool true]
 | none => .tuple #[.int .u8 0, .bool false]
/-- What the walks ask of memory: the table, a row, the neighbours. -/
structure TCtx (w : World) (gt : Nat) (p : Addr) (vs : List Vr) (AV : Option Addr) (cV : Nat) (T : List Tm) (AT : Option Addr) (cT : Nat) (o : Tm) (around : List Int) (A2 : Option Addr) : Prop where
 ht : w.cell? ⟨gt, 3, none⟩ = some (.slice AV vs.length cV)
 hV : Kd.C k65 w AV vs.length vs
 h2 : w.cell? ⟨p.block, p.off + 2, none⟩ = some (.slice AT T.length cT)
 h3 : w.cell? ⟨p.block, p.off + 3, none⟩ = some (.int .u8 o.f0)
 h4 : w.cell? ⟨p.block, p.off + 4, none⟩ = some (.int .i64 o.f1)
 hT : Kd.C k59 w AT T.length T
 hA : (Kd.int .u8).C w A2 around.length around
theorem TCtx.below {w w' : World} {gt : Nat} {p : Addr} {vs : List Vr} {AV : Option Addr} {cV : Nat} {T : List Tm} {AT : Option Addr} {cT : Nat} {o : Tm} {around : List Int} {A2 : Option Addr} (h : TCtx w gt p vs AV cV T AT cT o around A2) (hb : Below w.heap.size w w') : TCtx w' gt p vs AV cV T AT cT o around A2 :=
 ⟨pw_cell_below hb h.ht, Kd.C_below h.hV hb, pw_cell_below hb h.h2, pw_cell_below hb h.h3, pw_cell_below hb h.h4, Kd.C_below h.hT hb, Kd.C_below h.hA hb⟩
structure TPure (vs : List Vr) (T : List Tm) (o : Tm) (around : List Int) : Prop where
 h64 : vs.length ≤ 64
 hx : ∀ x ∈ T, x.f1 < vs.length
 ho : o.f1 < vs.length
 hl : T.length = around.length
 h8 : around.length ≤ 8
 ha : ∀ i : Int, 0 ≤ rd around i ∧ rd around i ≤ 255
theorem bit_all : (List.range 256).all (fun m => (List.range 8).all fun k => decide ((bits BinOp.and IntKind.u64 ((m : Int) / 2 ^ k) 1 == 1) = m.testBit k)) = true := by decide +kernel
theorem bit_at {m k : Nat} (hm : m < 256) (hk : k < 8) : (bits BinOp.and IntKind.u64 ((m : Int) / 2 ^ k) 1 == 1) = m.testBit k :=
 of_decide_eq_true (List.all_eq_true.1 (List.all_eq_true.1 bit_all m (List.mem_range.2 hm)) k (List.mem_range.2 hk))
end Go.Proofs.Ytajhfkcmfmhnaaa.L
end

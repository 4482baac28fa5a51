-- Written by a program of this session (wip/tools/shake.py): texts of this claim, of each what the claim names.
import Derived.Test.YtajhfkcmfmhnaaaC2
import Derived.Test.YtajhfkcmfmhnaaaC10
section
namespace Go.Proofs.Ytajhfkcmfmhnaaa.L
open Go.RowKit Go.Proofs.Ytajhfkcmfmhnaaa.P Go.Proofs.YtajhfkcmfmhnaaaW.PrintWords Go.Proofs.YtajhfkcmfmhnaaaW.PrintLast Go.Proofs.YtajhfkcmfmhnaaaW.PrintMore
set_option linter.unusedVariables false
set_option linter.unusedSimpArgs false
/-- Which neighbours are gone. -/
def blsL (n : Nat) (tk : Nat → Bool) : List Value := (List.range n).map fun k => Value.bool (tk k)
theorem blsL_len (n : Nat) (tk : Nat → Bool) : (blsL n tk).length = n := by simp [blsL]
theorem blsL_at (n : Nat) (tk : Nat → Bool) {k : Nat} (h : k < n) : (blsL n tk)[k]? = some (.bool (tk k)) := by simp [blsL, h]
theorem blsL_set (n : Nat) (tk : Nat → Bool) (k : Nat) (v : Bool) : (blsL n tk).set k (.bool v) = blsL n (fun i => if i = k then v else tk i) := by
 apply List.ext_getElem?
 intro i
 rw [List.getElem?_set]
 by_cases e : k = i
 ·subst e
  rw [if_pos rfl, blsL_len]
  rcases Nat.lt_or_ge k n with h | h
  ·rw [if_pos h, blsL_at _ _ h]; simp
  ·rw [if_neg (by omega), List.getElem?_eq_none (by rw [blsL_len]; exact h)]
 ·rw [if_neg e]
  rcases Nat.lt_or_ge i n with h | h
  ·rw [blsL_at _ _ h, blsL_at _ _ h, if_neg (Ne.symm e)]
  ·rw [List.getElem?_eq_none (by rw [blsL_len]; exact h), List.getElem?_eq_none (by rw [blsL_len]; exact h)]
theorem blsL_back (n : Nat) (tk : Nat → Bool) (k : Nat) (h : tk k = false) : (blsL n (fun i => if i = k then true else tk i)).set k (.bool false) = blsL n tk := by
 rw [blsL_set]
 congr 1
 funext i
 by_cases e : i = k
 ·rw [if_pos e, e, h]
 ·rw [if_neg e, if_neg e]
/-- What the walks read, in the world before. -/
structure RCtx (w0 : World) (c : TC) (vs : List Vr) (AV : Option Addr) (cV : Nat) (T : List Tm) (AT : Option Addr) (cT : Nat) (o : Tm) (around : List Int) (A2 : Option Addr) (c2 : Nat) : Prop where
 x3 : c.x3 = .slice AV vs.length cV
 y2 : c.y2 = .slice AT T.length cT
 y3 : c.y3 = .int .u8 o.f0
 y4 : c.y4 = .int .i64 o.f1
 hV : Kd.C k65 w0 AV vs.length vs
 hT : Kd.C k59 w0 AT T.length T
 hA : (Kd.int .u8).C w0 A2 around.length around
 hle : T.length ≤ cT
 hl2 : around.length ≤ c2
theorem bool_some {w : World} {base n : Nat} {v : Value} {xs : List Value} (h : w.ownsRow base 4 1 v n xs) (hn : 0 < n) : ∃ g c, v = .slice (some ⟨g, 0, none⟩) n c ∧ base ≤ g := by
 rcases h.2 with ⟨rfl, h2⟩ | ⟨g, cap, cur, rfl, hg, _⟩
 ·omega
 ·exact ⟨g, cap, rfl, hg⟩
theorem try_ne' {w : World} {base g gt n ct : Nat} {cs : Array Value} {xs : List Value} (hb : w.heap[g]? = some (.cells cs 79 (0, 0))) (h : w.ownsRow base 4 1 (.slice (some ⟨gt, 0, none⟩) n ct) n xs) : some gt ≠ some g := by
 rcases h.2 with ⟨h1, _⟩ | ⟨gb, cap, cur, h1, _, h2, _⟩
 ·cases h1
 ·intro e
  have e1 : gt = gb := by injection h1 with h3; injection h3 with h4; injection h4
  have e2 : gt = g := Option.some.inj e
  subst e1; subst e2
  rw [hb] at h2
  simp at h2
theorem grown_of_below {w w' : World} {r : Option Nat} (h : Below w.heap.size w w') : w.grownBy w' r := ⟨h.os, h.tape, h.output, h.size, fun k hk _ => h.block k hk⟩
set_option maxRecDepth 100000 in
set_option maxHeartbeats 4000000 in
theorem yany_calls (w0 : World) (c : TC) (vs : List Vr) (AV : Option Addr) (cV : Nat) (T : List Tm) (AT : Option Addr) (cT : Nat) (o : Tm) (around : List Int) (A2 : Option Addr) (c2 : Nat) (hP : TPure vs T o around) (hC : RCtx w0 c vs AV cV T AT cT o around A2 c2) :
  ∀ (ts : List Tm) (i : Nat) (b : Bd) (g : Nat) (bv : Value) (tk : Nat → Bool) (tv : Value) (w : World), Below w0.heap.size w0 w → YS w w0.heap.size g c bv vs.length b → w.ownsRow w0.heap.size 4 1 tv around.length (blsL around.length tk) → i + ts.length = T.length → T.drop i = ts →
  Calls Try.prog 42 #[.pointer (some ⟨g, 0, none⟩), .int .i64 i, .slice A2 around.length c2, tv] w fun e w' =>
   e = .returned (resT (anyF vs (outR o) around ts tk b)) ∧ w'.ownsRow w0.heap.size 4 1 tv around.length (blsL around.length tk) ∧ w.grownBy w' tv.ownBlock
 | [], i, b, g, bv, tk, tv, w, hb, hy, ht, hi, hd => by
  have HY := Aside0.mk hy
  have HC := Aside0.mk hC
  have HT := Aside0.mk ht
  have hl := hP.hl
  have hii : i = around.length := by simpa [hl] using hi
  rw [anyF, resT]
  have HP := Aside0.mk hP
  clear hC hd hi hP hy hb ht
  have hi2 : decide ((i : Int) = (around.length : Int)) = true := decide_eq_true (by omega)
  go_enter Try.func42, Try.ntmps42
  go_wp2_with (go_at_call 44; go_must (refine (ysays_calls _ _ _ _ _ _ o _ HY.out HC.out.y3 HC.out.y4 HP.out.ho HP.out.h64).mono ?_; rintro e w1 ⟨rfl, hd⟩; obtain ⟨n1, rfl⟩ := hd))
  go_ret2
  exact ⟨rfl, pw_own_below HT.out (pw_below_drewN (Below.refl _ _) _), World.grownBy_drewN _ _ _⟩
 | x :: xs, i, b, g, bv, tk, tv, w, hb, hy, ht, hi, hd => by
  have HY := Aside0.mk hy
  have HC := Aside0.mk hC
  have HT := Aside0.mk ht
  have HB := Aside0.mk hb
  have hl := hP.hl
  have hlt : (i : Int) < around.length := by simp at hi; omega
  have hne : ((i : Int) == (around.length : Int)) = false := by rw [beq_eq_false_iff_ne]; omega
  have HP := Aside0.mk hP
  have HD := Aside0.mk hd
  obtain ⟨R, hR⟩ : ∃ R, anyF vs (outR o) around (x :: xs) tk b = R := ⟨_, rfl⟩
  rw [hR]
  rw [anyF] at hR
  have HR0 := Aside0.mk hR
  clear hC hd hP hR hy ht hb
  go_enter Try.func42, Try.ntmps42
  obtain ⟨gt, ct, rfl, hgt⟩ := bool_some HT.out (by omega)
  go_wp2
  go_loopw [10] (fun v wr => ∃ k : Nat, k ≤ around.length ∧ v = .int .i64 k ∧ Aside0 (fk (fun k => if tk k = true then none else if fitB vs b x (rd around k) = true then anyF vs (outR o) around xs (fun i => if i = k then true else tk i) (fitU vs b x (rd around k)) else none) k (around.length - k) = R) ∧ Aside0 (wr.ownsRow w0.heap.size 4 1 (.slice (some ⟨gt, 0, none⟩) around.length ct) around.length (blsL around.length tk)) ∧ Aside0 (w.grownBy wr (some gt))) (fun v wr => around.length - (intOf v).toNat)
  case atStart => exact ⟨0, Nat.zero_le _, rfl, HR0, HT, ⟨World.grownBy_refl _ _⟩⟩
  case round =>
   obtain ⟨k, hk, rfl, HR, HTr, HGr⟩ := hrel
   clear HR0
   by_cases hlt2 : k < around.length
   ·have HBr : Aside0 (Below w0.heap.size w0 wr) := ⟨HB.out.grown HGr.out HB.out.size (fun k hk => by cases hk; exact hgt)⟩
    have HYr : Aside0 (YS wr w0.heap.size g c bv vs.length b) := ⟨HY.out.grown HGr.out (try_ne' HY.out.blk HT.out) (own_type_ne HY.out.row HT.out (by decide))⟩
    have q0 : (0 : Int) ≤ (k : Int) := by omega
    have q1 : (k : Int) < around.length := by omega
    have q2 : (k : Int) ≤ 8 := by have := HP.out.h8; omega
    have i0 : (0 : Int) ≤ (i : Int) := by omega
    have i1 : (i : Int) < (T.length : Int) := by omega
    have i2 : (i : Int) ≤ 8 := by have := HP.out.h8; omega
    have cTk := HTr.out.cells (g := gt) rfl k _ (blsL_at _ _ hlt2)
    rw [add_plain] at cTk
    have hstep := HR.out
    obtain ⟨d, hd⟩ : ∃ d, around.length - k = d + 1 := ⟨around.length - k - 1, by omega⟩
    have hd2 : around.length - (k + 1) = d := by omega
    rw [hd, fk] at hstep
    by_cases htk : tk k = true
    ·rw [htk] at cTk
     simp only [htk, if_true] at hstep
     rw [← hd2] at hstep
     have HST := Aside0.mk hstep
     clear hstep hd hd2 htk
     go_wp2
     go_round
     case rel => exact ⟨k + 1, by omega, by go_num, HST, HTr, HGr⟩
     case measure => simp [intOf]; omega
    ·have htk2 : tk k = false := by simpa using htk
     rw [htk2] at cTk
     simp only [htk2] at hstep
     rw [if_neg (by simp)] at hstep
     have HTK := Aside0.mk htk2
     clear htk htk2
     obtain ⟨a1, rfl, cA⟩ := Kd.at_int (Kd.C_below HC.out.hA HBr.out) (k : Int) q0 q1
     rw [Int.toNat_natCast] at cA
     have hsr := HP.out.ha (k : Int)
     obtain ⟨s, hs⟩ : ∃ s : Int, rd around (k : Int) = s := ⟨_, rfl⟩
     rw [hs] at cA hsr hstep
     have HS := Aside0.mk hs
     have hxT : x ∈ T := by
      have : x ∈ T.drop i := by rw [HD.out]; exact List.mem_cons_self
      exact List.mem_of_mem_drop this
     have HXT := Aside0.mk (HP.out.hx x hxT)
     have hix : rd_T59 T (i : Int) = x := by
      have h1 : (T.drop i)[0]? = some x := by rw [HD.out]; rfl
      rw [List.getElem?_drop, Nat.add_zero] at h1
      unfold rd_T59
      rw [Int.toNat_natCast, List.getD_eq_getElem?_getD, h1]; rfl
     obtain ⟨aT, rfl, cX0, cX1⟩ := at_T59 (Kd.C_below HC.out.hT HBr.out) (i : Int) i0 i1
     rw [Int.toNat_natCast, hix] at cX0 cX1
     have cY7 : wr.cell? ⟨g, 7, none⟩ = some (.slice (some aT) T.length cT) := by rw [← HC.out.y2]; exact blk_cell HYr.out.blk 7
     have cA1 := cA
     have HSR := Aside0.mk hsr
     clear hs hxT hix cA
     by_cases hfit : fitB vs b x s = true
     ·have HFIT := Aside0.mk hfit
      rw [if_pos hfit] at hstep
      clear hfit
      go_wp2_with (go_at_call 43; go_must (refine (ycopied_calls _ _ _ _ _ _ _ HYr.out HP.out.h64).mono ?_; rintro e w1 ⟨z, bz, rfl, hz, hy1, hb1⟩; have HY1 := Aside0.mk hy1; have HB1 := Aside0.mk hb1; have HZ := Aside0.mk hz; clear hy1 hb1 hz))
      replace cY7 := HB1.out.cell (blk_lt HYr.out.blk) |>.trans cY7
      replace cX0 := pw_cell_below HB1.out cX0
      replace cX1 := pw_cell_below HB1.out cX1
      replace cA1 := pw_cell_below HB1.out cA1
      have HY1d := Aside0.mk (HY1.out.below (below_drew1 (Below.refl _ w1)))
      have HFT : Aside0 (∀ W : World, YS W wr.heap.size z c bz vs.length b → Below w1.heap.size w1 W → Calls Try.prog 41 #[.pointer (some ⟨z, 0, none⟩), .agg #[.int .u8 x.f0, .int .i64 x.f1], .int .u8 s] W fun e w' => e = .returned (.bool true) ∧ YS w' wr.heap.size z c bz vs.length (fitU vs b x s) ∧ Below wr.heap.size W w') := ⟨fun W h1 h2 => by
       have h := yfits_calls wr.heap.size z c bz b vs AV cV x s W h1 HC.out.x3 (Kd.C_below HC.out.hV ((HBr.out.trans (HB1.out.mono HBr.out.size)).trans (h2.mono (Nat.le_trans HBr.out.size HB1.out.size)))) HXT.out (by omega) (by omega) (Nat.le_trans HB1.out.size h2.size)
       rw [HFIT.out] at h
       exact h⟩
      refine start_ (n := 15) (S := fun w' => w'.cell? ⟨g, 7, none⟩ = some (.slice (some aT) T.length cT) ∧ w'.cell? (aT.add (i * 2)) = some (.int .u8 x.f0) ∧ w'.cell? ⟨(aT.add (i * 2)).block, (aT.add (i * 2)).off + 1, none⟩ = some (.int .i64 x.f1) ∧ w'.cell? (a1.add k) = some (.int .u8 s)) (ds := [13]) #[false, false, false, false, false, false, false, false, false, false, false, false, false, false, false] (by kernel_rfl) rfl rfl ⟨cY7, cX0, cX1, cA1⟩ (fun hHeld => ?_)
      refine pure_ (i := 0) (N := some 32) (v := ?_) (a' := ?_) #[true, false, false, false, false, false, false, false, false, false, false, false, false, false, false] rfl rfl (by kernel_rfl) (fun _ _ _ h => h) (Or.inl ⟨by rfl, ?_⟩) ?_ ?_
      rotate_left
      ·intro w'
       go_simp
       with_reducible rfl
      rotate_left
      ·simp only [Act.put, List.setIfInBounds_toArray, List.set_cons_zero, List.set_cons_succ, i64_w, i32_w]
       rfl
      refine pure_ (i := 1) (N := some 33) (v := ?_) (a' := ?_) #[true, true, false, false, false, false, false, false, false, false, false, false, false, false, false] rfl rfl (by kernel_rfl) (fun _ _ _ h => h) (Or.inl ⟨by rfl, ?_⟩) ?_ ?_
      rotate_left
      ·intro w'
       go_simp
       with_reducible rfl
      rotate_left
      ·simp only [Act.put, List.setIfInBounds_toArray, List.set_cons_zero, List.set_cons_succ, i64_w, i32_w]
       rfl
      refine pure_ (i := 2) (N := some 34) (v := ?_) (a' := ?_) #[true, true, true, false, false, false, false, false, false, false, false, false, false, false, false] rfl rfl (by kernel_rfl) (fun _ _ _ h => h) (Or.inl ⟨by rfl, ?_⟩) ?_ ?_
      rotate_left
      ·intro w'
       go_simp
       with_reducible rfl
      rotate_left
      ·simp only [Act.put, List.setIfInBounds_toArray, List.set_cons_zero, List.set_cons_succ, i64_w, i32_w]
       rfl
      refine pure_ (i := 3) (N := some 35) (v := ?_) (a' := ?_) #[true, true, true, true, false, false, false, false, false, false, false, false, false, false, false] rfl rfl (by kernel_rfl) (fun _ _ _ h => h) (Or.inl ⟨by rfl, ?_⟩) ?_ ?_
      rotate_left
      ·intro w'
       go_simp
       with_reducible rfl
      rotate_left
      ·simp only [Act.put, List.setIfInBounds_toArray, List.set_cons_zero, List.set_cons_succ, i64_w, i32_w]
       rfl
      refine pure_ (i := 4) (N := some 36) (v := ?_) (a' := ?_) #[true, true, true, true, true, false, false, false, false, false, false, false, false, false, false] rfl rfl (by kernel_rfl) (fun _ _ _ h => h) (Or.inl ⟨by rfl, ?_⟩) ?_ ?_
      rotate_left
      ·intro w'
       go_simp
       with_reducible rfl
      rotate_left
      ·simp only [Act.put, List.setIfInBounds_toArray, List.set_cons_zero, List.set_cons_succ, i64_w, i32_w]
       rfl
      refine pure_ (i := 6) (N := some 38) (v := ?_) (a' := ?_) #[true, true, true, true, true, false, true, false, false, false, false, false, false, false, false] rfl rfl (by kernel_rfl) (fun _ _ _ h => h) (Or.inl ⟨by rfl, ?_⟩) ?_ ?_
      rotate_left
      ·intro w'
       go_simp
       with_reducible rfl
      rotate_left
      ·simp only [Act.put, List.setIfInBounds_toArray, List.set_cons_zero, List.set_cons_succ, i64_w, i32_w]
       rfl
      refine pure_ (i := 9) (N := some 41) (v := ?_) (a' := ?_) #[true, true, true, true, true, false, true, false, false, true, false, false, false, false, false] rfl rfl (by kernel_rfl) (fun _ _ _ h => h) (Or.inl ⟨by rfl, ?_⟩) ?_ ?_
      rotate_left
      ·intro w'
       go_simp
       with_reducible rfl
      rotate_left
      ·simp only [Act.put, List.setIfInBounds_toArray, List.set_cons_zero, List.set_cons_succ, i64_w, i32_w]
       rfl
      refine pure_ (i := 10) (N := some 42) (v := ?_) (a' := ?_) #[true, true, true, true, true, false, true, false, false, true, true, false, false, false, false] rfl rfl (by kernel_rfl) (fun _ _ _ h => h) (Or.inl ⟨by rfl, ?_⟩) ?_ ?_
      rotate_left
      ·intro w'
       go_simp
       with_reducible rfl
      rotate_left
      ·simp only [Act.put, List.setIfInBounds_toArray, List.set_cons_zero, List.set_cons_succ, i64_w, i32_w]
       rfl
      refine pure_ (i := 11) (N := some 43) (v := ?_) (a' := ?_) #[true, true, true, true, true, false, true, false, false, true, true, true, false, false, false] rfl rfl (by kernel_rfl) (fun _ _ _ h => h) (Or.inl ⟨by rfl, ?_⟩) ?_ ?_
      rotate_left
      ·intro w'
       go_simp
       with_reducible rfl
      rotate_left
      ·simp only [Act.put, List.setIfInBounds_toArray, List.set_cons_zero, List.set_cons_succ, i64_w, i32_w]
       rfl
      refine take_ (i := 5) (N := some 37) (v := ?_) (a' := ?_) #[true, true, true, true, true, true, true, false, false, true, true, true, false, false, false] rfl rfl (by kernel_rfl) (fun _ _ _ h => h) (Or.inl ⟨by rfl, ?_⟩) hHeld ?_ ?_
      rotate_left
      ·rintro w' ⟨s0, s1, s2, s3⟩
       go_simp
       with_reducible rfl
      rotate_left
      ·simp only [Act.put, List.setIfInBounds_toArray, List.set_cons_zero, List.set_cons_succ, i64_w, i32_w]
       rfl
      refine pure_ (i := 7) (N := some 39) (v := ?_) (a' := ?_) #[true, true, true, true, true, true, true, true, false, true, true, true, false, false, false] rfl rfl (by kernel_rfl) (fun _ _ _ h => h) (Or.inl ⟨by rfl, ?_⟩) ?_ ?_
      rotate_left
      ·intro w'
       go_simp
       with_reducible rfl
      rotate_left
      ·simp only [Act.put, List.setIfInBounds_toArray, List.set_cons_zero, List.set_cons_succ, i64_w, i32_w]
       rfl
      refine take_ (i := 8) (N := some 40) (v := ?_) (a' := ?_) #[true, true, true, true, true, true, true, true, true, true, true, true, false, false, false] rfl rfl (by kernel_rfl) (fun _ _ _ h => h) (Or.inl ⟨by rfl, ?_⟩) hHeld ?_ ?_
      rotate_left
      ·rintro w' ⟨s0, s1, s2, s3⟩
       go_simp
       with_reducible rfl
      rotate_left
      ·simp only [Act.put, List.setIfInBounds_toArray, List.set_cons_zero, List.set_cons_succ, i64_w, i32_w]
       rfl
      refine take_ (i := 12) (N := some 44) (v := ?_) (a' := ?_) #[true, true, true, true, true, true, true, true, true, true, true, true, true, false, false] rfl rfl (by kernel_rfl) (fun _ _ _ h => h) (Or.inl ⟨by rfl, ?_⟩) hHeld ?_ ?_
      rotate_left
      ·rintro w' ⟨s0, s1, s2, s3⟩
       go_simp
       with_reducible rfl
      rotate_left
      ·simp only [Act.put, List.setIfInBounds_toArray, List.set_cons_zero, List.set_cons_succ, i64_w, i32_w]
       rfl
      refine last_ (i := 13) (N := some 45) #[true, true, true, true, true, true, true, true, true, true, true, true, true, true, false] rfl rfl (by kernel_rfl) (by decide) (fun K hK => ?_)
      refine goes_ Try.func41 (by kernel_rfl) rfl #[.pointer (some ⟨z, 0, none⟩), .agg #[.int .u8 x.f0, .int .i64 x.f1], .int .u8 s] (by rfl) rfl rfl (by simp only [List.map_toArray, List.map_cons, List.map_nil]; rfl) ?_
      with_reducible refine (HFT.out w1.drew HY1d.out (below_drew1 (Below.refl _ _))).mono ?_
      rintro e w2 ⟨rfl, hy2, hb2⟩
      have HY2 := Aside0.mk hy2
      have HB2 := Aside0.mk ((below_drew1 HB1.out).trans hb2)
      clear hy2 hb2
      refine ⟨_, rfl, ?_⟩
      refine hK.out _ _ ?_
      clear hK K
      refine norm_ (a' := ?_) ?_ ?_
      rotate_left
      ·show Act.put _ (some 45) _ = _
       simp only [Act.put, List.setIfInBounds_toArray, List.set_cons_zero, List.set_cons_succ, i64_w, i32_w]
       rfl
      refine pure_ (i := 14) (N := some 46) (v := ?_) (a' := ?_) #[true, true, true, true, true, true, true, true, true, true, true, true, true, true, true] rfl rfl (by kernel_rfl) (fun _ _ _ h => h) (Or.inl ⟨by rfl, ?_⟩) ?_ ?_
      rotate_left
      ·intro w'
       go_simp
       with_reducible rfl
      rotate_left
      ·simp only [Act.put, List.setIfInBounds_toArray, List.set_cons_zero, List.set_cons_succ, i64_w, i32_w]
       rfl
      refine done_ (by kernel_rfl) ?_
      obtain ⟨r2, hr2⟩ : ∃ r2, anyF vs (outR o) around xs (fun i => if i = k then true else tk i) (fitU vs b x s) = r2 := ⟨_, rfl⟩
      rw [hr2] at hstep
      have HIH : Aside0 (∀ W : World, Below w0.heap.size w0 W → YS W w0.heap.size z c bz vs.length (fitU vs b x s) → W.ownsRow w0.heap.size 4 1 (.slice (some ⟨gt, 0, none⟩) around.length ct) around.length (blsL around.length (fun i => if i = k then true else tk i)) → Calls Try.prog 42 #[.pointer (some ⟨z, 0, none⟩), .int .i64 ((i : Int) + 1), .slice (some a1) around.length c2, .slice (some ⟨gt, 0, none⟩) around.length ct] W fun e w' => e = .returned (resT r2) ∧ w'.ownsRow w0.heap.size 4 1 (.slice (some ⟨gt, 0, none⟩) around.length ct) around.length (blsL around.length (fun i => if i = k then true else tk i)) ∧ W.grownBy w' (some gt)) := ⟨fun W h1 h2 h3 => by
       have h := yany_calls w0 c vs AV cV T (some aT) cT o around (some a1) c2 HP.out HC.out xs (i + 1) (fitU vs b x s) z bz _ _ W h1 h2 h3 (by simp at hi; omega) (by
        have h1 : (T.drop i).drop 1 = xs := by rw [HD.out]; rfl
        rw [List.drop_drop] at h1
        exact h1)
       rw [hr2, show (((i + 1 : Nat)) : Int) = (i : Int) + 1 from by omega] at h
       exact h⟩
      have HT2 := Aside0.mk (pw_own_below HTr.out HB2.out)
      have cTk := HT2.out.cells (g := gt) rfl k _ (blsL_at _ _ hlt2)
      rw [add_plain] at cTk
      have fTk := HT2.out.frozenAt k
      have hst3 := HT2.out.stored k (.bool true)
      rw [blsL_set] at hst3
      have hgtl : gt < wr.heap.size := own_lt HTr.out gt rfl
      have HY3 : Aside0 (YS (w2.setCell ⟨gt, k, none⟩ (.bool true)) w0.heap.size z c bz vs.length (fitU vs b x s)) := ⟨YS.grown ⟨HY2.out.blk, own_weaken HY2.out.row HBr.out.size⟩ hst3.2 (fun e => by have h := Option.some.inj e; have := HZ.out; omega) (own_type_ne HY2.out.row HT2.out (by decide))⟩
      have HB3 : Aside0 (Below w0.heap.size w0 (w2.setCell ⟨gt, k, none⟩ (.bool true))) := ⟨(HBr.out.trans (HB2.out.mono HBr.out.size)).setCell hgt _⟩
      have HST3 := Aside0.mk hst3
      clear hst3 hr2 cY7 cX0 cX1 cA1
      cases r2 with
      | some v =>
       have HST : Aside0 (some v = R) := ⟨hstep⟩
       have HI2 : Aside0 (∀ W : World, Below w0.heap.size w0 W → YS W w0.heap.size z c bz vs.length (fitU vs b x s) → W.ownsRow w0.heap.size 4 1 (.slice (some ⟨gt, 0, none⟩) around.length ct) around.length (blsL around.length (fun i => if i = k then true else tk i)) → Calls Try.prog 42 #[.pointer (some ⟨z, 0, none⟩), .int .i64 ((i : Int) + 1), .slice (some a1) around.length c2, .slice (some ⟨gt, 0, none⟩) around.length ct] W fun e w' => e = .returned (.tuple #[.int .u8 v, .bool true]) ∧ w'.ownsRow w0.heap.size 4 1 (.slice (some ⟨gt, 0, none⟩) around.length ct) around.length (blsL around.length (fun i => if i = k then true else tk i)) ∧ W.grownBy w' (some gt)) := HIH
       clear hstep hd hd2 HIH
       go_wp2_with (go_at_call 42; go_must (refine (HI2.out _ HB3.out HY3.out HST3.out.1).mono ?_; rintro e w4 ⟨rfl, ho4, hg4⟩; have HT4 := Aside0.mk ho4; have HG4 := Aside0.mk hg4; have cTk4 := ho4.cells (g := gt) rfl k _ (blsL_at _ _ hlt2); rw [add_plain, if_pos rfl] at cTk4; have fTk4 := ho4.frozenAt k; clear ho4 hg4))
       go_ret2
       have hst5 := HT4.out.stored k (.bool false)
       rw [blsL_back _ _ _ HTK.out] at hst5
       have hgr : w.grownBy (w4.setCell ⟨gt, k, none⟩ (.bool false)) (some gt) := HGr.out.trans ((grown_of_below HB2.out).trans (HST3.out.2.trans (HG4.out.trans hst5.2)))
       exact ⟨by rw [← HST.out]; rfl, hst5.1, hgr⟩
      | none =>
       rw [← hd2] at hstep
       have HST := Aside0.mk hstep
       have HI2 : Aside0 (∀ W : World, Below w0.heap.size w0 W → YS W w0.heap.size z c bz vs.length (fitU vs b x s) → W.ownsRow w0.heap.size 4 1 (.slice (some ⟨gt, 0, none⟩) around.length ct) around.length (blsL around.length (fun i => if i = k then true else tk i)) → Calls Try.prog 42 #[.pointer (some ⟨z, 0, none⟩), .int .i64 ((i : Int) + 1), .slice (some a1) around.length c2, .slice (some ⟨gt, 0, none⟩) around.length ct] W fun e w' => e = .returned (.tuple #[.int .u8 0, .bool false]) ∧ w'.ownsRow w0.heap.size 4 1 (.slice (some ⟨gt, 0, none⟩) around.length ct) around.length (blsL around.length (fun i => if i = k then true else tk i)) ∧ W.grownBy w' (some gt)) := HIH
       clear hstep hd hd2 HIH
       go_wp2_with (go_at_call 42; go_must (refine (HI2.out _ HB3.out HY3.out HST3.out.1).mono ?_; rintro e w4 ⟨rfl, ho4, hg4⟩; have HT4 := Aside0.mk ho4; have HG4 := Aside0.mk hg4; have cTk4 := ho4.cells (g := gt) rfl k _ (blsL_at _ _ hlt2); rw [add_plain, if_pos rfl] at cTk4; have fTk4 := ho4.frozenAt k; clear ho4 hg4))
       go_round
       case rel => 
        have hst5 := HT4.out.stored k (.bool false)
        rw [blsL_back _ _ _ HTK.out] at hst5
        have hgr : w.grownBy (w4.setCell ⟨gt, k, none⟩ (.bool false)) (some gt) := HGr.out.trans ((grown_of_below HB2.out).trans (HST3.out.2.trans (HG4.out.trans hst5.2)))
        exact ⟨k + 1, by omega, by go_num, HST, ⟨hst5.1⟩, ⟨hgr⟩⟩
       case measure => simp [intOf]; omega
     ·have hfit2 : fitB vs b x s = false := by simpa using hfit
      have HFIT := Aside0.mk hfit2
      rw [if_neg hfit] at hstep
      simp only [] at hstep
      rw [← hd2] at hstep
      have HST := Aside0.mk hstep
      clear hfit hfit2 hstep hd hd2
      go_wp2_with (go_at_call 43; go_must (refine (ycopied_calls _ _ _ _ _ _ _ HYr.out HP.out.h64).mono ?_; rintro e w1 ⟨z, bz, rfl, hz, hy1, hb1⟩; have HY1 := Aside0.mk hy1; have HB1 := Aside0.mk hb1; have HZ := Aside0.mk hz; clear hy1 hb1 hz))
      replace cY7 := HB1.out.cell (blk_lt HYr.out.blk) |>.trans cY7
      replace cX0 := pw_cell_below HB1.out cX0
      replace cX1 := pw_cell_below HB1.out cX1
      replace cA1 := pw_cell_below HB1.out cA1
      have HY1d := Aside0.mk (HY1.out.below (below_drew1 (Below.refl _ w1)))
      have HFT : Aside0 (∀ W : World, YS W wr.heap.size z c bz vs.length b → Below w1.heap.size w1 W → Calls Try.prog 41 #[.pointer (some ⟨z, 0, none⟩), .agg #[.int .u8 x.f0, .int .i64 x.f1], .int .u8 s] W fun e w' => e = .returned (.bool false) ∧ YS w' wr.heap.size z c bz vs.length (fitU vs b x s) ∧ Below wr.heap.size W w') := ⟨fun W h1 h2 => by
       have h := yfits_calls wr.heap.size z c bz b vs AV cV x s W h1 HC.out.x3 (Kd.C_below HC.out.hV ((HBr.out.trans (HB1.out.mono HBr.out.size)).trans (h2.mono (Nat.le_trans HBr.out.size HB1.out.size)))) HXT.out (by omega) (by omega) (Nat.le_trans HB1.out.size h2.size)
       rw [HFIT.out] at h
       exact h⟩
      refine start_ (n := 15) (S := fun w' => w'.cell? ⟨g, 7, none⟩ = some (.slice (some aT) T.length cT) ∧ w'.cell? (aT.add (i * 2)) = some (.int .u8 x.f0) ∧ w'.cell? ⟨(aT.add (i * 2)).block, (aT.add (i * 2)).off + 1, none⟩ = some (.int .i64 x.f1) ∧ w'.cell? (a1.add k) = some (.int .u8 s)) (ds := [13]) #[false, false, false, false, false, false, false, false, false, false, false, false, false, false, false] (by kernel_rfl) rfl rfl ⟨cY7, cX0, cX1, cA1⟩ (fun hHeld => ?_)
      refine pure_ (i := 0) (N := some 32) (v := ?_) (a' := ?_) #[true, false, false, false, false, false, false, false, false, false, false, false, false, false, false] rfl rfl (by kernel_rfl) (fun _ _ _ h => h) (Or.inl ⟨by rfl, ?_⟩) ?_ ?_
      rotate_left
      ·intro w'
       go_simp
       with_reducible rfl
      rotate_left
      ·simp only [Act.put, List.setIfInBounds_toArray, List.set_cons_zero, List.set_cons_succ, i64_w, i32_w]
       rfl
      refine pure_ (i := 1) (N := some 33) (v := ?_) (a' := ?_) #[true, true, false, false, false, false, false, false, false, false, false, false, false, false, false] rfl rfl (by kernel_rfl) (fun _ _ _ h => h) (Or.inl ⟨by rfl, ?_⟩) ?_ ?_
      rotate_left
      ·intro w'
       go_simp
       with_reducible rfl
      rotate_left
      ·simp only [Act.put, List.setIfInBounds_toArray, List.set_cons_zero, List.set_cons_succ, i64_w, i32_w]
       rfl
      refine pure_ (i := 2) (N := some 34) (v := ?_) (a' := ?_) #[true, true, true, false, false, false, false, false, false, false, false, false, false, false, false] rfl rfl (by kernel_rfl) (fun _ _ _ h => h) (Or.inl ⟨by rfl, ?_⟩) ?_ ?_
      rotate_left
      ·intro w'
       go_simp
       with_reducible rfl
      rotate_left
      ·simp only [Act.put, List.setIfInBounds_toArray, List.set_cons_zero, List.set_cons_succ, i64_w, i32_w]
       rfl
      refine pure_ (i := 3) (N := some 35) (v := ?_) (a' := ?_) #[true, true, true, true, false, false, false, false, false, false, false, false, false, false, false] rfl rfl (by kernel_rfl) (fun _ _ _ h => h) (Or.inl ⟨by rfl, ?_⟩) ?_ ?_
      rotate_left
      ·intro w'
       go_simp
       with_reducible rfl
      rotate_left
      ·simp only [Act.put, List.setIfInBounds_toArray, List.set_cons_zero, List.set_cons_succ, i64_w, i32_w]
       rfl
      refine pure_ (i := 4) (N := some 36) (v := ?_) (a' := ?_) #[true, true, true, true, true, false, false, false, false, false, false, false, false, false, false] rfl rfl (by kernel_rfl) (fun _ _ _ h => h) (Or.inl ⟨by rfl, ?_⟩) ?_ ?_
      rotate_left
      ·intro w'
       go_simp
       with_reducible rfl
      rotate_left
      ·simp only [Act.put, List.setIfInBounds_toArray, List.set_cons_zero, List.set_cons_succ, i64_w, i32_w]
       rfl
      refine pure_ (i := 6) (N := some 38) (v := ?_) (a' := ?_) #[true, true, true, true, true, false, true, false, false, false, false, false, false, false, false] rfl rfl (by kernel_rfl) (fun _ _ _ h => h) (Or.inl ⟨by rfl, ?_⟩) ?_ ?_
      rotate_left
      ·intro w'
       go_simp
       with_reducible rfl
      rotate_left
      ·simp only [Act.put, List.setIfInBounds_toArray, List.set_cons_zero, List.set_cons_succ, i64_w, i32_w]
       rfl
      refine pure_ (i := 9) (N := some 41) (v := ?_) (a' := ?_) #[true, true, true, true, true, false, true, false, false, true, false, false, false, false, false] rfl rfl (by kernel_rfl) (fun _ _ _ h => h) (Or.inl ⟨by rfl, ?_⟩) ?_ ?_
      rotate_left
      ·intro w'
       go_simp
       with_reducible rfl
      rotate_left
      ·simp only [Act.put, List.setIfInBounds_toArray, List.set_cons_zero, List.set_cons_succ, i64_w, i32_w]
       rfl
      refine pure_ (i := 10) (N := some 42) (v := ?_) (a' := ?_) #[true, true, true, true, true, false, true, false, false, true, true, false, false, false, false] rfl rfl (by kernel_rfl) (fun _ _ _ h => h) (Or.inl ⟨by rfl, ?_⟩) ?_ ?_
      rotate_left
      ·intro w'
       go_simp
       with_reducible rfl
      rotate_left
      ·simp only [Act.put, List.setIfInBounds_toArray, List.set_cons_zero, List.set_cons_succ, i64_w, i32_w]
       rfl
      refine pure_ (i := 11) (N := some 43) (v := ?_) (a' := ?_) #[true, true, true, true, true, false, true, false, false, true, true, true, false, false, false] rfl rfl (by kernel_rfl) (fun _ _ _ h => h) (Or.inl ⟨by rfl, ?_⟩) ?_ ?_
      rotate_left
      ·intro w'
       go_simp
       with_reducible rfl
      rotate_left
      ·simp only [Act.put, List.setIfInBounds_toArray, List.set_cons_zero, List.set_cons_succ, i64_w, i32_w]
       rfl
      refine take_ (i := 5) (N := some 37) (v := ?_) (a' := ?_) #[true, true, true, true, true, true, true, false, false, true, true, true, false, false, false] rfl rfl (by kernel_rfl) (fun _ _ _ h => h) (Or.inl ⟨by rfl, ?_⟩) hHeld ?_ ?_
      rotate_left
      ·rintro w' ⟨s0, s1, s2, s3⟩
       go_simp
       with_reducible rfl
      rotate_left
      ·simp only [Act.put, List.setIfInBounds_toArray, List.set_cons_zero, List.set_cons_succ, i64_w, i32_w]
       rfl
      refine pure_ (i := 7) (N := some 39) (v := ?_) (a' := ?_) #[true, true, true, true, true, true, true, true, false, true, true, true, false, false, false] rfl rfl (by kernel_rfl) (fun _ _ _ h => h) (Or.inl ⟨by rfl, ?_⟩) ?_ ?_
      rotate_left
      ·intro w'
       go_simp
       with_reducible rfl
      rotate_left
      ·simp only [Act.put, List.setIfInBounds_toArray, List.set_cons_zero, List.set_cons_succ, i64_w, i32_w]
       rfl
      refine take_ (i := 8) (N := some 40) (v := ?_) (a' := ?_) #[true, true, true, true, true, true, true, true, true, true, true, true, false, false, false] rfl rfl (by kernel_rfl) (fun _ _ _ h => h) (Or.inl ⟨by rfl, ?_⟩) hHeld ?_ ?_
      rotate_left
      ·rintro w' ⟨s0, s1, s2, s3⟩
       go_simp
       with_reducible rfl
      rotate_left
      ·simp only [Act.put, List.setIfInBounds_toArray, List.set_cons_zero, List.set_cons_succ, i64_w, i32_w]
       rfl
      refine take_ (i := 12) (N := some 44) (v := ?_) (a' := ?_) #[true, true, true, true, true, true, true, true, true, true, true, true, true, false, false] rfl rfl (by kernel_rfl) (fun _ _ _ h => h) (Or.inl ⟨by rfl, ?_⟩) hHeld ?_ ?_
      rotate_left
      ·rintro w' ⟨s0, s1, s2, s3⟩
       go_simp
       with_reducible rfl
      rotate_left
      ·simp only [Act.put, List.setIfInBounds_toArray, List.set_cons_zero, List.set_cons_succ, i64_w, i32_w]
       rfl
      refine last_ (i := 13) (N := some 45) #[true, true, true, true, true, true, true, true, true, true, true, true, true, true, false] rfl rfl (by kernel_rfl) (by decide) (fun K hK => ?_)
      refine goes_ Try.func41 (by kernel_rfl) rfl #[.pointer (some ⟨z, 0, none⟩), .agg #[.int .u8 x.f0, .int .i64 x.f1], .int .u8 s] (by rfl) rfl rfl (by simp only [List.map_toArray, List.map_cons, List.map_nil]; rfl) ?_
      with_reducible refine (HFT.out w1.drew HY1d.out (below_drew1 (Below.refl _ _))).mono ?_
      rintro e w2 ⟨rfl, hy2, hb2⟩
      have HY2 := Aside0.mk hy2
      have HB2 := Aside0.mk ((below_drew1 HB1.out).trans hb2)
      clear hy2 hb2
      refine ⟨_, rfl, ?_⟩
      refine hK.out _ _ ?_
      clear hK K
      refine norm_ (a' := ?_) ?_ ?_
      rotate_left
      ·show Act.put _ (some 45) _ = _
       simp only [Act.put, List.setIfInBounds_toArray, List.set_cons_zero, List.set_cons_succ, i64_w, i32_w]
       rfl
      refine pure_ (i := 14) (N := some 46) (v := ?_) (a' := ?_) #[true, true, true, true, true, true, true, true, true, true, true, true, true, true, true] rfl rfl (by kernel_rfl) (fun _ _ _ h => h) (Or.inl ⟨by rfl, ?_⟩) ?_ ?_
      rotate_left
      ·intro w'
       go_simp
       with_reducible rfl
      rotate_left
      ·simp only [Act.put, List.setIfInBounds_toArray, List.set_cons_zero, List.set_cons_succ, i64_w, i32_w]
       rfl
      refine done_ (by kernel_rfl) ?_
      go_wp2
      go_round
      case rel => exact ⟨k + 1, by omega, by go_num, HST, ⟨pw_own_below HTr.out HB2.out⟩, ⟨HGr.out.trans (grown_of_below HB2.out)⟩⟩
      case measure => simp [intOf]; omega
   ·obtain rfl : k = around.length := by omega
    have hr := HR.out
    rw [Nat.sub_self, fk] at hr
    subst hr
    go_wp2
    go_ret2
    exact ⟨rfl, HTr.out, HGr.out⟩
end Go.Proofs.Ytajhfkcmfmhnaaa.L
end
section
namespace Go.Proofs.Ytajhfkcmfmhnaaa.L
open Go.RowKit Go.Proofs.Ytajhfkcmfmhnaaa.P Go.Proofs.YtajhfkcmfmhnaaaW.PrintWords Go.Proofs.YtajhfkcmfmhnaaaW.PrintLast Go.Proofs.YtajhfkcmfmhnaaaW.PrintMore
set_option linter.unusedVariables false
set_option linter.unusedSimpArgs false
/-- What a row says (the document). -/
def saysF (vs : List Vr) (sym : Int) (ce : Tm) (T : List Tm) (o : Tm) (gs : List (List Int)) (centre : Int) (around : List Int) : Option Int :=
 if fitB vs bd0 ce centre = true then (if sym = 6 then anyF vs (outR o) around T (fun _ => false) (fitU vs bd0 ce centre) else ordF vs (outR o) T around (fitU vs bd0 ce centre) gs) else none
theorem infoB : (Try.prog.info? 4).map (fun i => (i.zero, i.size, i.bytes)) = some (some (.bool false), 1, 1) := by kernel_rfl
theorem made_bls (n : Nat) : (madeCells (Value.bool false).cells (n * 1)).toList = blsL n (fun _ => false) := by
 apply List.ext_getElem?
 intro i
 rw [Nat.mul_one]
 rcases Nat.lt_or_ge i n with h | h
 ·rw [blsL_at _ _ h]; simp [madeCells, Value.cells, h, Nat.mod_one]
 ·rw [List.getElem?_eq_none (l := blsL n _) (by rw [blsL_len]; exact h)]; simp [madeCells, Value.cells]; omega
theorem below_of_grown {w w' : World} {B : Nat} (h : w.grownBy w' none) (hB : B ≤ w.heap.size) : Below B w w' := ⟨h.os, h.tape, h.output, h.size, fun k hk => h.block k (Nat.lt_of_lt_of_le hk hB) (by simp)⟩
theorem own_blk_ne {w : World} {base g : Nat} {t : TypeId} {cs : Array Value} {bv : Value} {n : Nat} {xs : List Value} (ht : t ≠ 3) (hb : w.heap[g]? = some (.cells cs t (0, 0))) (h : w.ownsRow base 3 1 bv n xs) : bv.ownBlock ≠ some g := by
 rcases h.2 with ⟨rfl, _⟩ | ⟨gb, cap, cur, rfl, _, h2, _⟩
 ·simp [Value.ownBlock]
 ·intro e
  have e2 : gb = g := by simpa [Value.ownBlock] using e
  subst e2
  rw [hb] at h2
  simp only [Option.some.injEq, Obj.cells.injEq] at h2
  exact ht h2.2.1
theorem tab_ne {w : World} {base g : Nat} {cs : Array Value} {bv : Value} {n : Nat} {xs : List Value} (hb : w.heap[g]? = some (.cells cs 33 (0, 0))) (h : w.ownsRow base 3 1 bv n xs) : bv.ownBlock ≠ some g := own_blk_ne (by decide) hb h
theorem row_ne {w : World} {base g : Nat} {cs : Array Value} {bv : Value} {n : Nat} {xs : List Value} (hb : w.heap[g]? = some (.cells cs 62 (0, 0))) (h : w.ownsRow base 3 1 bv n xs) : bv.ownBlock ≠ some g := own_blk_ne (by decide) hb h
set_option maxRecDepth 100000 in
set_option maxHeartbeats 4000000 in
theorem says_walk (k : Nat) (st hd sy ge : Int) (A3 : Option Addr) (c3 : Nat) (vs : List Vr) (A4 : Option Addr) (c4 : Nat) (rs : List Rw) (ce : Tm) (AT : Option Addr) (cT : Nat) (T : List Tm) (o : Tm) (centre : Int) (A2 : Option Addr) (c2 : Nat) (around : List Int) (gs : List (List Int)) (w : World)
  (hP : TPure vs T o around) (hce : ce.f1 < vs.length) (hc0 : 0 ≤ centre) (hc1 : centre ≤ 255) (hV : Kd.C k65 w A3 vs.length vs) (hT : Kd.C k59 w AT T.length T) (hA : (Kd.int .u8).C w A2 around.length around) (hcT : T.length ≤ cT) (hl2 : around.length ≤ c2)
  (hG : sy ≠ 6 → vivariumref10_Group.f k sy hd = some (gs, ge)) (hg : ∀ g ∈ gs, g.length = around.length ∧ ∀ i ∈ g, 0 ≤ i ∧ i < around.length) :
  Calls Try.prog 29 #[.agg #[.int .i64 st, .int .u8 hd, .int .u8 sy, .slice A3 vs.length c3, .slice A4 rs.length c4], .agg #[.int .u8 ce.f0, .int .i64 ce.f1, .slice AT T.length cT, .int .u8 o.f0, .int .i64 o.f1], .int .u8 centre, .slice A2 around.length c2] w fun e w' => e = .returned (resT (saysF vs sy ce T o gs centre around)) ∧ Below w.heap.size w w' := by
 obtain ⟨c, hc⟩ : ∃ c : TC, c = ⟨.int .i64 st, .int .u8 hd, .int .u8 sy, .slice A3 vs.length c3, .slice A4 rs.length c4, .int .u8 ce.f0, .int .i64 ce.f1, .slice AT T.length cT, .int .u8 o.f0, .int .i64 o.f1⟩ := ⟨_, rfl⟩
 have HC : Aside0 (RCtx w c vs A3 c3 T AT cT o around A2 c2) := ⟨⟨by rw [hc], by rw [hc], by rw [hc], by rw [hc], hV, hT, hA, hcT, hl2⟩⟩
 have HCC : Aside0 (∀ v, c.cells v = #[.int .i64 st, .int .u8 hd, .int .u8 sy, .slice A3 vs.length c3, .slice A4 rs.length c4, .int .u8 ce.f0, .int .i64 ce.f1, .slice AT T.length cT, .int .u8 o.f0, .int .i64 o.f1, v]) := ⟨fun v => by rw [hc]; rfl⟩
 have HP := Aside0.mk hP
 have HGR := Aside0.mk hG
 have HGI := Aside0.mk hg
 have HCE := Aside0.mk hce
 have hn64 : (vs.length : Int) ≤ 64 := by have := hP.h64; omega
 clear hc hV hT hA hcT hl2 hP hG hg hce
 obtain ⟨R, hR⟩ : ∃ R, saysF vs sy ce T o gs centre around = R := ⟨_, rfl⟩
 rw [hR]
 have HSF := Aside0.mk hR
 clear hR
 go_enter Try.func29, Try.ntmps29
 go_wp2
 obtain ⟨W0, hW0⟩ : ∃ W0, (((w.alloc (Obj.cells #[.int .i64 st, .int .u8 hd, .int .u8 sy, .slice A3 vs.length c3, .slice A4 rs.length c4] 33)).alloc (Obj.cells #[.int .u8 ce.f0, .int .i64 ce.f1, .slice AT T.length cT, .int .u8 o.f0, .int .i64 o.f1] 62)).alloc (Obj.cells #[.int .i64 st, .int .u8 hd, .int .u8 sy, .slice A3 vs.length c3, .slice A4 rs.length c4, .int .u8 ce.f0, .int .i64 ce.f1, .slice AT T.length cT, .int .u8 o.f0, .int .i64 o.f1, .slice none 0 0] 79)) = W0 := ⟨_, rfl⟩
 have HB0 : Aside0 (Below w.heap.size w W0) := ⟨by rw [← hW0]; exact below_alloc (below_alloc (below_alloc (Below.refl _ _) _) _) _⟩
 have HT0 : Aside0 (W0.heap[w.heap.size]? = some (.cells #[.int .i64 st, .int .u8 hd, .int .u8 sy, .slice A3 vs.length c3, .slice A4 rs.length c4] 33 (0, 0))) := ⟨by rw [← hW0]; exact blk_alloc (blk_alloc (blk_new _ _) _) _⟩
 have HR0 : Aside0 (W0.heap[w.heap.size + 1]? = some (.cells #[.int .u8 ce.f0, .int .i64 ce.f1, .slice AT T.length cT, .int .u8 o.f0, .int .i64 o.f1] 62 (0, 0))) := ⟨by rw [← hW0]; exact blk_alloc (blk_new' _ _ _ (by simp)) _⟩
 have HY0 : Aside0 (YS W0 w.heap.size (w.heap.size + 1 + 1) c (.slice none 0 0) 0 bd0) := ⟨by rw [← hW0]; exact ⟨by rw [HCC.out]; exact blk_new' _ _ _ (by simp), World.ownsRow_nil _ _ _ _⟩⟩
 rw [hW0]
 clear hW0
 obtain ⟨gr, hgr⟩ : ∃ gr, w.heap.size + 1 = gr := ⟨_, rfl⟩
 rw [hgr] at HR0 HY0 ⊢
 obtain ⟨g, hg⟩ : ∃ g, gr + 1 = g := ⟨_, rfl⟩
 rw [hg] at HY0 ⊢
 have HGE : Aside0 (w.heap.size ≤ gr ∧ w.heap.size ≤ g ∧ gr ≠ g ∧ w.heap.size ≠ g) := ⟨by omega⟩
 clear hgr hg
 go_loopw [11] (fun v wr => ∃ (i : Nat) (bv : Value), i ≤ vs.length ∧ v = .int .i64 i ∧ Aside0 (YS wr w.heap.size g c bv i bd0) ∧ Aside0 (Below w.heap.size w wr) ∧ Aside0 (wr.heap[w.heap.size]? = some (.cells #[.int .i64 st, .int .u8 hd, .int .u8 sy, .slice A3 vs.length c3, .slice A4 rs.length c4] 33 (0, 0))) ∧ Aside0 (wr.heap[gr]? = some (.cells #[.int .u8 ce.f0, .int .i64 ce.f1, .slice AT T.length cT, .int .u8 o.f0, .int .i64 o.f1] 62 (0, 0)))) (fun v wr => vs.length - (intOf v).toNat)
 case atStart => exact ⟨0, _, Nat.zero_le _, rfl, HY0, HB0, HT0, HR0⟩
 case round =>
  rename World => wo
  clear HY0 HB0 HT0 HR0
  obtain ⟨i, bv, hi, rfl, HY, HB, HT, HR⟩ := hrel
  have ct3 : wo.cell? ⟨w.heap.size, 3, none⟩ = some (.slice A3 vs.length c3) := blk_cell HT.out 3
  by_cases hlt : i < vs.length
  ·have q0 : (0 : Int) ≤ (i : Int) := by omega
   have q1 : (i : Int) < (vs.length : Int) := by omega
   have q2 : (i : Int) ≤ 64 := by omega
   have cg : wo.cell? ⟨g, 10, none⟩ = some bv := blk_cell HY.out.blk 10
   have hgl : g < wo.heap.size := blk_lt HY.out.blk
   have HBL : Aside0 ((bdL i bd0).length = i) := ⟨bdL_len _ _⟩
   have HBS : Aside0 (bdL i bd0 ++ [-1] = bdL (i + 1) bd0) := ⟨by simp [bdL, List.range_succ, bd0]⟩
   have HQ2 : Aside0 (i ≤ 64) := ⟨by omega⟩
   have hown := HY.out.row
   have HOW : Aside0 (wo.ownsRow w.heap.size 3 1 bv (bdL i bd0).length (nums .i64 (bdL i bd0))) := ⟨by rw [HBL.out]; exact hown⟩
   clear hown
   go_wp2_with ((with_reducible refine gate_dst (N := 35) rfl ?_); at_builtin; go_must (refine print_append_num (w0 := w) w.heap.size rfl (.tmp 33) (.tmp 34) 28 3 .i64 8 rfl Try.underlying28 infoI' (by decide) bv (bdL i bd0) (-1) rfl rfl HOW.out HB.out HB.out.size (by rw [HBL.out]; have := HQ2.out; omega) ?_; intro v5 w5 ho5 hb5 hg5 hat5; rw [HBS.out, bdL_len] at ho5; obtain ⟨A5, c5, rfl⟩ := own_slice ho5; have HO5 := Aside0.mk ho5; have HB5 := Aside0.mk hb5; have HT5 := Aside0.mk (blk_grown HT.out hg5 (tab_ne HT.out HY.out.row).symm); have HR5 := Aside0.mk (blk_grown HR.out hg5 (row_ne HR.out HY.out.row).symm); have hk5 := blk_grown HY.out.blk hg5 HY.out.ne.symm; have ck5 := blk_cell hk5 10; have fk5 := blk_frozen hk5 10; have hk5l := blk_lt hk5; have HK5 := Aside0.mk hk5; clear ho5 hb5 hg5 hat5 hk5))
   go_round
   case rel => exact ⟨i + 1, _, by omega, by go_num, ⟨⟨blk_set HK5.out 10 _, own_setCell HO5.out (fun e => try_ne HK5.out HO5.out e.symm) _⟩⟩, ⟨HB5.out.setCell HGE.out.2.1 _⟩, ⟨blk_far HT5.out HGE.out.2.2.2 _⟩, ⟨blk_far HR5.out HGE.out.2.2.1 _⟩⟩
   case measure => simp [intOf]; omega
  ·obtain rfl : vs.length = i := by omega
   have cr0 : wo.cell? ⟨gr, 0, none⟩ = some (.int .u8 ce.f0) := blk_cell HR.out 0
   have cr1 : wo.cell? ⟨gr, 1, none⟩ = some (.int .i64 ce.f1) := blk_cell HR.out 1
   have hR := HSF.out
   unfold saysF at hR
   by_cases hf : fitB vs bd0 ce centre = true
   ·rw [if_pos hf] at hR
    have HF := Aside0.mk hf
    clear hf
    by_cases h6 : sy = 6
    ·rw [if_pos h6] at hR
     subst h6
     have HRR := Aside0.mk hR
     clear hR
     cases R with
     | some v =>
      obtain ⟨ib, hi0, hzz⟩ := Option.map_eq_some_iff.1 infoB
      simp only [Prod.mk.injEq] at hzz
      obtain ⟨hz0, hz1, hz2⟩ := hzz
      go_wp2_with (first | (go_at_call 41; go_must (have hcall := yfits_calls' w.heap.size g c bv bd0 vs A3 c3 ce centre wo HY.out HC.out.x3 (Kd.C_below HC.out.hV HB.out) HCE.out hc0 hc1 HB.out.size; rw [HF.out] at hcall; refine hcall.mono ?_; rintro e w1 ⟨rfl, hy1, hb1, hg1⟩; have HY1 := Aside0.mk hy1; have HB1 := Aside0.mk (HB.out.trans hb1); have ht1 := blk_grown HT.out hg1 (tab_ne HT.out HY.out.row).symm; have hr1 := blk_grown HR.out hg1 (row_ne HR.out HY.out.row).symm; have dt2 : w1.cell? ⟨w.heap.size, 2, none⟩ = some (.int .u8 6) := blk_cell ht1 2; have dt1 : w1.cell? ⟨w.heap.size, 1, none⟩ = some (.int .u8 hd) := blk_cell ht1 1; have HT1 := Aside0.mk ht1; have HR1 := Aside0.mk hr1; clear hy1 hb1 hg1 ht1 hr1)) | ((with_reducible refine gate_dst (N := 51) rfl ?_); go_must (refine wpList_make_full w1 rfl (.tmp 50) (.tmp 50) 82 rfl w.heap.size 4 ib (.bool false) 1 Try.underlying82 hi0 hz0 hz1 .i64 .i64 around.length around.length around.length rfl rfl rfl rfl (by rw [hz2]; have := HP.out.h8; omega) (by have := HP.out.h8; unfold maxLen; omega) HB1.out.size ?_; intro w2 ho2 hg2; rw [made_bls] at ho2; have HO2 := Aside0.mk ho2; have HB2 := Aside0.mk (HB1.out.trans (below_of_grown hg2 HB1.out.size)); have HY2 := Aside0.mk (HY1.out.below (below_of_grown hg2 (Nat.le_refl _))); clear ho2 hg2)) | (go_at_call 42; go_must (have hcall := yany_calls w c vs A3 c3 T AT cT o around A2 c2 HP.out HC.out T 0 (fitU vs bd0 ce centre) g bv (fun _ => false) (.slice (some ⟨w1.heap.size, 0, none⟩) around.length around.length) w2 HB2.out HY2.out HO2.out (by simp) (by simp); rw [HRR.out] at hcall; simp only [resT, Int.natCast_zero] at hcall; refine hcall.mono ?_; rintro e w3 ⟨rfl, ho3, hg3⟩; have HB3 := Aside0.mk (HB2.out.grown hg3 HB2.out.size (fun k hk => by cases hk; exact HB1.out.size)); clear ho3 hg3)))
      try rw [Exit.noGoto_ret]
      go_ret2
      exact ⟨rfl, HB3.out⟩
     | none =>
      obtain ⟨ib, hi0, hzz⟩ := Option.map_eq_some_iff.1 infoB
      simp only [Prod.mk.injEq] at hzz
      obtain ⟨hz0, hz1, hz2⟩ := hzz
      go_wp2_with (first | (go_at_call 41; go_must (have hcall := yfits_calls' w.heap.size g c bv bd0 vs A3 c3 ce centre wo HY.out HC.out.x3 (Kd.C_below HC.out.hV HB.out) HCE.out hc0 hc1 HB.out.size; rw [HF.out] at hcall; refine hcall.mono ?_; rintro e w1 ⟨rfl, hy1, hb1, hg1⟩; have HY1 := Aside0.mk hy1; have HB1 := Aside0.mk (HB.out.trans hb1); have ht1 := blk_grown HT.out hg1 (tab_ne HT.out HY.out.row).symm; have hr1 := blk_grown HR.out hg1 (row_ne HR.out HY.out.row).symm; have dt2 : w1.cell? ⟨w.heap.size, 2, none⟩ = some (.int .u8 6) := blk_cell ht1 2; have dt1 : w1.cell? ⟨w.heap.size, 1, none⟩ = some (.int .u8 hd) := blk_cell ht1 1; have HT1 := Aside0.mk ht1; have HR1 := Aside0.mk hr1; clear hy1 hb1 hg1 ht1 hr1)) | ((with_reducible refine gate_dst (N := 51) rfl ?_); go_must (refine wpList_make_full w1 rfl (.tmp 50) (.tmp 50) 82 rfl w.heap.size 4 ib (.bool false) 1 Try.underlying82 hi0 hz0 hz1 .i64 .i64 around.length around.length around.length rfl rfl rfl rfl (by rw [hz2]; have := HP.out.h8; omega) (by have := HP.out.h8; unfold maxLen; omega) HB1.out.size ?_; intro w2 ho2 hg2; rw [made_bls] at ho2; have HO2 := Aside0.mk ho2; have HB2 := Aside0.mk (HB1.out.trans (below_of_grown hg2 HB1.out.size)); have HY2 := Aside0.mk (HY1.out.below (below_of_grown hg2 (Nat.le_refl _))); clear ho2 hg2)) | (go_at_call 42; go_must (have hcall := yany_calls w c vs A3 c3 T AT cT o around A2 c2 HP.out HC.out T 0 (fitU vs bd0 ce centre) g bv (fun _ => false) (.slice (some ⟨w1.heap.size, 0, none⟩) around.length around.length) w2 HB2.out HY2.out HO2.out (by simp) (by simp); rw [HRR.out] at hcall; simp only [resT, Int.natCast_zero] at hcall; refine hcall.mono ?_; rintro e w3 ⟨rfl, ho3, hg3⟩; have HB3 := Aside0.mk (HB2.out.grown hg3 HB2.out.size (fun k hk => by cases hk; exact HB1.out.size)); clear ho3 hg3)))
      try rw [Exit.noGoto_ret]
      go_ret2
      exact ⟨rfl, HB3.out⟩
    ·rw [if_neg h6] at hR
     have h6b : (sy == 6) = false := by rw [beq_eq_false_iff_ne]; exact h6
     have HGP := Aside0.mk (HGR.out h6)
     have HRR := Aside0.mk hR
     clear hR h6
     go_wp2_with (first | (go_at_call 41; go_must (have hcall := yfits_calls' w.heap.size g c bv bd0 vs A3 c3 ce centre wo HY.out HC.out.x3 (Kd.C_below HC.out.hV HB.out) HCE.out hc0 hc1 HB.out.size; rw [HF.out] at hcall; refine hcall.mono ?_; rintro e w1 ⟨rfl, hy1, hb1, hg1⟩; have HY1 := Aside0.mk hy1; have HB1 := Aside0.mk (HB.out.trans hb1); have ht1 := blk_grown HT.out hg1 (tab_ne HT.out HY.out.row).symm; have hr1 := blk_grown HR.out hg1 (row_ne HR.out HY.out.row).symm; have dt2 : w1.cell? ⟨w.heap.size, 2, none⟩ = some (.int .u8 sy) := blk_cell ht1 2; have dt1 : w1.cell? ⟨w.heap.size, 1, none⟩ = some (.int .u8 hd) := blk_cell ht1 1; have HT1 := Aside0.mk ht1; have HR1 := Aside0.mk hr1; clear hy1 hb1 hg1 ht1 hr1)) | (go_at_call 5; go_must (refine (vivariumref10_Group.calls k sy hd gs ge _ HGP.out).mono ?_; rintro e w2 ⟨v2, rfl, hn2, hb2⟩; obtain ⟨AO, cO, rfl, _, hr2⟩ := Kd.N_reads hn2; have HO := Aside0.mk hr2; have HB2 := Aside0.mk (HB1.out.trans (hb2.mono HB1.out.size)); have HY2 := Aside0.mk (HY1.out.below hb2); have HR2 := Aside0.mk (blk_below HR1.out hb2); clear hn2 hb2 hr2 dt1 dt2)))
     go_loopw [14] (fun v wo => ∃ j : Nat, j ≤ gs.length ∧ v = .int .i64 j ∧ Aside0 (ordF vs (outR o) T around (fitU vs bd0 ce centre) (gs.drop j) = R) ∧ Aside0 (Below w2.heap.size w2 wo)) (fun v wo => gs.length - (intOf v).toNat)
     case atStart => exact ⟨0, Nat.zero_le _, rfl, ⟨by rw [List.drop_zero]; exact HRR.out⟩, ⟨Below.refl _ _⟩⟩
     case round =>
      rename World => wo
      obtain ⟨j, hj, rfl, HR, HBw⟩ := hrel
      by_cases hlt : j < gs.length
      ·have q0 : (0 : Int) ≤ (j : Int) := by omega
       have q1 : (j : Int) < gs.length := by omega
       have q2 : (j : Int) < 9223372036854775807 := by have := HO.out.2.1; omega
       have HYw := Aside0.mk (HY2.out.below HBw.out)
       have HOw := Aside0.mk (Kd.C_below HO.out HBw.out)
       have HRw := Aside0.mk (blk_below HR2.out HBw.out)
       have HBB := Aside0.mk (HB2.out.trans (HBw.out.mono HB2.out.size))
       obtain ⟨adO, cO1, rfl, _, ⟨Ag, cg, rfl, hgc, hCg⟩, hcc⟩ := Kd.C_get HOw.out [] (j : Int) q0 q1
       have hgj : gs.getD j [] ∈ gs := by
        rw [List.getD_eq_getElem?_getD, List.getElem?_eq_getElem hlt]
        exact List.getElem_mem hlt
       have hcg : wo.cell? (adO.add j) = some (.slice Ag (gs.getD j []).length cg) := by
        have h := hcc 0 _ rfl
        simpa [Kd.slice] using h
       rw [Int.toNat_natCast] at hgc hCg
       have hgl := HGI.out _ hgj
       have hdr : gs.drop j = gs.getD j [] :: gs.drop (j + 1) := by
        rw [List.drop_eq_getElem_cons hlt, List.getD_eq_getElem?_getD, List.getElem?_eq_getElem hlt]; rfl
       have hRj := HR.out
       rw [hdr, ordF] at hRj
       obtain ⟨gj, hgjj⟩ : ∃ gj, gs.getD j [] = gj := ⟨_, rfl⟩
       rw [hgjj] at hgc hCg hcg hgl hRj
       rw [hgl.1] at hcg
       obtain ⟨S, hS⟩ : ∃ S, seqF vs (fitU vs bd0 ce centre) T (gj.map (rd around)) = S := ⟨_, rfl⟩
       rw [hS] at hRj
       have HSS := Aside0.mk hS
       have HGL := Aside0.mk hgl
       have HRJ := Aside0.mk hRj
       have HCg := Aside0.mk hCg
       have HCGC := Aside0.mk hcg
       clear hS hgl hRj hCg hgc hcc hgj hgjj hdr HR hcg
       go_wp2_with (go_at_call 43; go_must (refine (ycopied_calls _ _ _ _ _ _ _ HYw.out HP.out.h64).mono ?_; rintro e w3 ⟨z, bz, rfl, hz, hy3, hb3⟩; have HY3 := Aside0.mk hy3; have HB3 := Aside0.mk hb3; have HZ := Aside0.mk hz; clear hy3 hb3 hz))
       go_loopw [16, 17] (fun v16 v17 wq => ∃ (k : Nat) (bb : Bd) (ok : Bool), k ≤ around.length ∧ v16 = .bool ok ∧ v17 = .int .i64 k ∧ Aside0 (ok = true → seqF vs bb (T.drop k) ((gj.drop k).map (rd around)) = S) ∧ Aside0 (ok = false → S = none) ∧ Aside0 (YS wq wo.heap.size z c bz vs.length bb) ∧ Aside0 (Below wo.heap.size wo wq)) (fun _ v17 wq => around.length - (intOf v17).toNat)
       case atStart => exact ⟨0, fitU vs bd0 ce centre, true, Nat.zero_le _, rfl, rfl, ⟨fun _ => by rw [List.drop_zero, List.drop_zero]; exact HSS.out⟩, ⟨fun h => by cases h⟩, HY3, HB3⟩
       case round =>
        rename World => wq
        obtain ⟨k, bb, ok, hk, rfl, rfl, HQ, HQN, HYq, HBq⟩ := hrel
        clear HY3 HB3 HSS
        cases ok with
        | true =>
         by_cases hkl : k < around.length
         ·have hkT : k < T.length := by rw [HP.out.hl]; exact hkl
          have p4 : (k : Int) < 8 := by have := HP.out.h8; omega
          have hkg : k < gj.length := by rw [HGL.out.1]; exact hkl
          have HBall := Aside0.mk (HBB.out.trans (HBq.out.mono HBB.out.size))
          have HCq : Aside0 (RCtx wq c vs A3 c3 T AT cT o around A2 c2) := ⟨⟨HC.out.x3, HC.out.y2, HC.out.y3, HC.out.y4, Kd.C_below HC.out.hV HBall.out, Kd.C_below HC.out.hT HBall.out, Kd.C_below HC.out.hA HBall.out, HC.out.hle, HC.out.hl2⟩⟩
          obtain ⟨aT, hAT, ct0, ct1⟩ := at_T59 HCq.out.hT (k : Int) (by omega) (by omega)
          rw [Int.toNat_natCast] at ct0 ct1
          obtain ⟨x, hx⟩ : ∃ x, rd_T59 T (k : Int) = x := ⟨_, rfl⟩
          rw [hx] at ct0 ct1
          subst hAT
          have HCgq := Aside0.mk (Kd.C_below HCg.out HBq.out)
          obtain ⟨aG, rfl, cG⟩ := Kd.at_int HCgq.out (k : Int) (by omega) (by omega)
          rw [Int.toNat_natCast] at cG
          obtain ⟨gi, hgi⟩ : ∃ gi, rd gj (k : Int) = gi := ⟨_, rfl⟩
          rw [hgi] at cG
          have hgm : gi ∈ gj := by
           rw [← hgi]; unfold rd; rw [Int.toNat_natCast, List.getD_eq_getElem?_getD, List.getElem?_eq_getElem hkg]; exact List.getElem_mem hkg
          obtain ⟨gb0, gb1⟩ := HGL.out.2 gi hgm
          obtain ⟨aA, rfl, cA⟩ := Kd.at_int HCq.out.hA gi gb0 gb1
          obtain ⟨gn, rfl⟩ : ∃ gn : Nat, gi = gn := ⟨gi.toNat, by omega⟩
          rw [Int.toNat_natCast] at cA
          obtain ⟨s, hs2⟩ : ∃ s, rd around (gn : Int) = s := ⟨_, rfl⟩
          rw [hs2] at cA
          have hsb := HP.out.ha (gn : Int)
          rw [hs2] at hsb
          have hxT : x ∈ T := by
           rw [← hx]; unfold rd_T59; rw [Int.toNat_natCast, List.getD_eq_getElem?_getD, List.getElem?_eq_getElem hkT]; exact List.getElem_mem hkT
          have HXT := Aside0.mk (HP.out.hx x hxT)
          have hst := HQ.out rfl
          have e1 : T.drop k = x :: T.drop (k + 1) := by
           rw [List.drop_eq_getElem_cons hkT, ← hx]; unfold rd_T59; rw [Int.toNat_natCast, List.getD_eq_getElem?_getD, List.getElem?_eq_getElem hkT]; rfl
          have e2 : gj.drop k = (gn : Int) :: gj.drop (k + 1) := by
           rw [List.drop_eq_getElem_cons hkg, ← hgi]; unfold rd; rw [Int.toNat_natCast, List.getD_eq_getElem?_getD, List.getElem?_eq_getElem hkg]; rfl
          rw [e1, e2, List.map_cons, seqF, hs2] at hst
          have p0 : (0 : Int) ≤ (k : Int) := by omega
          have p1 : (k : Int) < around.length := by omega
          have p2 : (k : Int) < T.length := by omega
          have p3 : (0 : Int) ≤ (gn : Int) := by omega
          have hgrl := blk_lt HRw.out
          have cq : wq.cell? ⟨gr, 2, none⟩ = some (.slice (some aT) T.length cT) := (HBq.out.cell hgrl).trans (blk_cell HRw.out 2)
          have cgq := (HBq.out.cell (World.block_lt_of_cell? _ _ HCGC.out)).trans HCGC.out
          clear e1 e2 hxT hgm hgi hx hs2 HQ HQN hgrl
          by_cases hfx : fitB vs bb x s = true
          ·rw [if_pos hfx] at hst
           have HST := Aside0.mk hst
           have HFX := Aside0.mk hfx
           clear hst hfx
           go_wp2_with (first | go_step3 | fail)
           refine wp_region_still_tail 16 (by kernel_rfl) (by kernel_rfl) ?_
           simp only [List.take_succ_cons, List.take_zero, List.drop_succ_cons, List.drop_zero]
           repeat still_step
           refine wpStill_nil ?_
           change wpList _ _ _ _ _ wq.drew
           go_wp2_with (first | go_step3 | (go_at_call 41; go_must (have hcall := yfits_calls wo.heap.size z c bz bb vs A3 c3 x s wq.drew (HYq.out.below (below_drew1 (Below.refl _ _))) HC.out.x3 (Kd.C_below HCq.out.hV (below_drew1 (Below.refl _ _))) HXT.out hsb.1 hsb.2 HBq.out.size; rw [HFX.out] at hcall; refine hcall.mono ?_; rintro e w5 ⟨rfl, hy5, hb5⟩; have HY5 := Aside0.mk hy5; have HB5 := Aside0.mk ((below_drew1 HBq.out).trans hb5); clear hy5 hb5 cG cA ct0 ct1 cq cgq)))
           go_round
           case rel => exact ⟨k + 1, _, true, by omega, rfl, by go_num, ⟨fun _ => HST.out⟩, ⟨fun h => by cases h⟩, HY5, HB5⟩
           case measure => simp [intOf]; omega
          ·have hfx : fitB vs bb x s = false := by simpa using hfx
           rw [if_neg (by rw [hfx]; decide)] at hst
           have HST := Aside0.mk hst
           have HFX := Aside0.mk hfx
           clear hst hfx
           go_wp2_with (first | go_step3 | fail)
           refine wp_region_still_tail 16 (by kernel_rfl) (by kernel_rfl) ?_
           simp only [List.take_succ_cons, List.take_zero, List.drop_succ_cons, List.drop_zero]
           repeat still_step
           refine wpStill_nil ?_
           change wpList _ _ _ _ _ wq.drew
           go_wp2_with (first | go_step3 | (go_at_call 41; go_must (have hcall := yfits_calls wo.heap.size z c bz bb vs A3 c3 x s wq.drew (HYq.out.below (below_drew1 (Below.refl _ _))) HC.out.x3 (Kd.C_below HCq.out.hV (below_drew1 (Below.refl _ _))) HXT.out hsb.1 hsb.2 HBq.out.size; rw [HFX.out] at hcall; refine hcall.mono ?_; rintro e w5 ⟨rfl, hy5, hb5⟩; have HY5 := Aside0.mk hy5; have HB5 := Aside0.mk ((below_drew1 HBq.out).trans hb5); clear hy5 hb5 cG cA ct0 ct1 cq cgq)))
           go_round
           case rel => exact ⟨k + 1, _, false, by omega, rfl, by go_num, ⟨fun h => by cases h⟩, ⟨fun _ => HST.out.symm⟩, HY5, HB5⟩
           case measure => simp [intOf]; omega
         ·obtain rfl : k = around.length := by omega
          have hst := HQ.out rfl
          have e1 : T.drop around.length = [] := by rw [← HP.out.hl, List.drop_length]
          rw [e1, seqF.eq_def] at hst
          simp only at hst
          have hrj := HRJ.out
          rw [← hst] at hrj
          simp only at hrj
          subst hrj
          clear e1 hst HQ HQN
          go_wp2_with (go_at_call 44; go_must (refine (ysays_calls _ _ _ _ _ _ o _ HYq.out HC.out.y3 HC.out.y4 HP.out.ho HP.out.h64).mono ?_; rintro e w6 ⟨rfl, hd6⟩; obtain ⟨n6, rfl⟩ := hd6))
          go_ret2
          exact ⟨rfl, pw_below_drewN (HBB.out.trans (HBq.out.mono HBB.out.size)) _⟩
        | false =>
         have hrj := HRJ.out
         rw [HQN.out rfl] at hrj
         simp only at hrj
         have HRK := Aside0.mk hrj
         clear hrj HQ HQN HRJ
         by_cases hkl : k < around.length
         ·have p1 : (k : Int) < around.length := by omega
          go_wp2
          go_round
          case rel => exact ⟨j + 1, by omega, by go_num, HRK, ⟨HBw.out.trans (HBq.out.mono HBw.out.size)⟩⟩
          case measure => simp [intOf]; omega
         ·have p1 : ¬ (k : Int) < around.length := by omega
          go_wp2
          go_round
          case rel => exact ⟨j + 1, by omega, by go_num, HRK, ⟨HBw.out.trans (HBq.out.mono HBw.out.size)⟩⟩
          case measure => simp [intOf]; omega
      ·obtain rfl : gs.length = j := by omega
       have hr := HR.out
       rw [List.drop_length, ordF] at hr
       subst hr
       go_wp2
       go_ret2
       exact ⟨rfl, HB2.out.trans (HBw.out.mono HB2.out.size)⟩
   ·rw [if_neg hf] at hR
    subst hR
    have hf2 : fitB vs bd0 ce centre = false := by simpa using hf
    have HF := Aside0.mk hf2
    clear hf hf2
    go_wp2_with (go_at_call 41; go_must (have hcall := yfits_calls' w.heap.size g c bv bd0 vs A3 c3 ce centre wo HY.out HC.out.x3 (Kd.C_below HC.out.hV HB.out) HCE.out hc0 hc1 HB.out.size; rw [HF.out] at hcall; refine hcall.mono ?_; rintro e w1 ⟨rfl, hy1, hb1, hg1⟩; have HY1 := Aside0.mk hy1; have HB1 := Aside0.mk (HB.out.trans hb1); have ht1 := blk_grown HT.out hg1 (tab_ne HT.out HY.out.row).symm; have hr1 := blk_grown HR.out hg1 (row_ne HR.out HY.out.row).symm; have dt2 : w1.cell? ⟨w.heap.size, 2, none⟩ = some (.int .u8 sy) := blk_cell ht1 2; have dt1 : w1.cell? ⟨w.heap.size, 1, none⟩ = some (.int .u8 hd) := blk_cell ht1 1; have HT1 := Aside0.mk ht1; have HR1 := Aside0.mk hr1; clear hy1 hb1 hg1 ht1 hr1))
    go_ret2
    exact ⟨rfl, HB1.out⟩
end Go.Proofs.Ytajhfkcmfmhnaaa.L
end
section
namespace Go.Proofs.Ytajhfkcmfmhnaaa.P
open Go.RowKit Go.Proofs.YtajhfkcmfmhnaaaW.PrintWords Go.Proofs.YtajhfkcmfmhnaaaW.PrintLast Go.Proofs.YtajhfkcmfmhnaaaW.PrintMore
attribute [local go_sem] max2_int min2_int max_two min_two max_three min_three max_four min_four   -- for this text's walks alone
set_option linter.unusedVariables false
set_option linter.unusedSimpArgs false
open Go.Proofs.Ytajhfkcmfmhnaaa.L
def resP : Option Int → Int × Bool
 | some v => (v, true)
 | none => (0, false)
theorem resT_P (R : Option Int) : resT R = .tuple #[.int .u8 (resP R).1, .bool (resP R).2] := by cases R <;> rfl
def okU (l : List Int) : Bool := l.all fun s => decide (0 ≤ s ∧ s ≤ 255)
theorem okU_rd {l : List Int} (h : okU l = true) (i : Int) : 0 ≤ rd l i ∧ rd l i ≤ 255 := by
 unfold rd
 rw [List.getD_eq_getElem?_getD]
 rcases Nat.lt_or_ge i.toNat l.length with hi | hi
 ·rw [List.getElem?_eq_getElem hi]
  exact of_decide_eq_true (List.all_eq_true.1 h _ (List.getElem_mem hi))
 ·rw [List.getElem?_eq_none hi]
  decide
def okSay (vs : List S65) (ce : Int) (T : List S59) (o centre : Int) (around : List Int) : Bool :=
 decide (vs.length ≤ 64) && T.all (fun x => decide (x.f1 < vs.length)) && decide (ce < vs.length) && decide (o < vs.length) && decide (T.length = around.length) && decide (around.length ≤ 8) && decide (0 ≤ centre ∧ centre ≤ 255) && okU around
def okG (gs : List (List Int)) (n : Nat) : Bool := gs.all fun g => decide (g.length = n) && g.all fun i => decide (0 ≤ i ∧ i < n)
def vivariumref10_Says.f (k : Nat) (a0_0 a0_1 a0_2 : Int) (l0_3 : List S65) (l0_4 : List S62) (a1_0 a1_1 : Int) (l1_2 : List S59) (a1_3 a1_4 : Int) (a2 : Int) (l3 : List Int) : Option (Int × Bool) :=
 if okSay l0_3 a1_1 l1_2 a1_4 a2 l3 = true then (if a0_2 = 6 then some (resP (saysF l0_3 6 ⟨a1_0, a1_1⟩ l1_2 ⟨a1_3, a1_4⟩ [] a2 l3)) else (vivariumref10_Group.f k a0_2 a0_1).bind fun g => if okG g.1 l3.length = true then some (resP (saysF l0_3 a0_2 ⟨a1_0, a1_1⟩ l1_2 ⟨a1_3, a1_4⟩ g.1 a2 l3)) else none) else none
theorem okSay_pure {vs : List S65} {ce : Int} {T : List S59} {o0 o centre : Int} {around : List Int} (h : okSay vs ce T o centre around = true) : TPure vs T ⟨o0, o⟩ around ∧ ce < vs.length ∧ 0 ≤ centre ∧ centre ≤ 255 := by
 unfold okSay at h
 simp only [Bool.and_eq_true, decide_eq_true_eq, List.all_eq_true] at h
 obtain ⟨⟨⟨⟨⟨⟨⟨h1, h2⟩, h3⟩, h4⟩, h5⟩, h6⟩, h7, h8⟩, h9⟩ := h
 exact ⟨⟨h1, h2, h4, h5, h6, fun i => okU_rd h9 i⟩, h3, h7, h8⟩
theorem okG_all {gs : List (List Int)} {n : Nat} (h : okG gs n = true) : ∀ g ∈ gs, g.length = n ∧ ∀ i ∈ g, 0 ≤ i ∧ i < n := by
 intro g hg
 have h1 := List.all_eq_true.1 h g hg
 simp only [Bool.and_eq_true, decide_eq_true_eq, List.all_eq_true] at h1
 exact h1
theorem vivariumref10_Says.calls (k : Nat) (a0_0 a0_1 a0_2 : Int) (A0_3 : Option Addr) (c0_3 : Nat) (l0_3 : List S65) (A0_4 : Option Addr) (c0_4 : Nat) (l0_4 : List S62) (a1_0 a1_1 : Int) (A1_2 : Option Addr) (c1_2 : Nat) (l1_2 : List S59) (a1_3 a1_4 : Int) (a2 : Int) (A3 : Option Addr) (c3 : Nat) (l3 : List Int) (r1 : Int) (r2 : Bool) (w : World)
  (hr0_3 : Kd.C k65 w A0_3 l0_3.length l0_3) (hc0_3 : l0_3.length ≤ c0_3) (hr0_4 : Kd.C k62 w A0_4 l0_4.length l0_4) (hc0_4 : l0_4.length ≤ c0_4) (hr1_2 : Kd.C k59 w A1_2 l1_2.length l1_2) (hc1_2 : l1_2.length ≤ c1_2) (hr3 : Kd.C (Kd.int .u8) w A3 l3.length l3) (hc3 : l3.length ≤ c3)
  (h : vivariumref10_Says.f k a0_0 a0_1 a0_2 l0_3 l0_4 a1_0 a1_1 l1_2 a1_3 a1_4 a2 l3 = some (r1, r2)) :
  Calls Try.prog 29 #[.agg #[.int .i64 a0_0, .int .u8 a0_1, .int .u8 a0_2, .slice A0_3 l0_3.length c0_3, .slice A0_4 l0_4.length c0_4], .agg #[.int .u8 a1_0, .int .i64 a1_1, .slice A1_2 l1_2.length c1_2, .int .u8 a1_3, .int .i64 a1_4], .int .u8 a2, .slice A3 l3.length c3] w fun e w' => e = .returned (.tuple #[.int .u8 r1, .bool r2]) ∧ Below w.heap.size w w' := by
 unfold vivariumref10_Says.f at h
 by_cases hs : okSay l0_3 a1_1 l1_2 a1_4 a2 l3 = true
 ·rw [if_pos hs] at h
  obtain ⟨hP, hce, hc0, hc1⟩ := okSay_pure (o0 := a1_3) hs
  by_cases h6 : a0_2 = 6
  ·rw [if_pos h6] at h
   subst h6
   have h1 := Option.some.inj h
   refine (says_walk k a0_0 a0_1 6 0 A0_3 c0_3 l0_3 A0_4 c0_4 l0_4 ⟨a1_0, a1_1⟩ A1_2 c1_2 l1_2 ⟨a1_3, a1_4⟩ a2 A3 c3 l3 [] w hP hce hc0 hc1 hr0_3 hr1_2 hr3 hc1_2 hc3 (fun h => absurd rfl h) (by simp)).mono ?_
   rintro e w' ⟨rfl, hb⟩
   rw [resT_P, h1]
   exact ⟨rfl, hb⟩
  ·rw [if_neg h6] at h
   replace h := Option.bind_eq_some_iff.1 h
   obtain ⟨⟨gs, ge⟩, hg, h⟩ := h
   by_cases ho : okG gs l3.length = true
   ·rw [if_pos ho] at h
    have h1 := Option.some.inj h
    refine (says_walk k a0_0 a0_1 a0_2 ge A0_3 c0_3 l0_3 A0_4 c0_4 l0_4 ⟨a1_0, a1_1⟩ A1_2 c1_2 l1_2 ⟨a1_3, a1_4⟩ a2 A3 c3 l3 gs w hP hce hc0 hc1 hr0_3 hr1_2 hr3 hc1_2 hc3 (fun _ => hg) (okG_all ho)).mono ?_
    rintro e w' ⟨rfl, hb⟩
    rw [resT_P, h1]
    exact ⟨rfl, hb⟩
   ·rw [if_neg ho] at h; cases h
 ·rw [if_neg hs] at h; cases h
end Go.Proofs.Ytajhfkcmfmhnaaa.P
namespace Go.Proofs.Ytajhfkcmfmhnaaa.P
open Go.RowKit Go.Proofs.YtajhfkcmfmhnaaaW.PrintWords Go.Proofs.YtajhfkcmfmhnaaaW.PrintLast Go.Proofs.YtajhfkcmfmhnaaaW.PrintMore
attribute [local go_sem] max2_int min2_int max_two min_two max_three min_three max_four min_four   -- for this text's walks alone
set_option linter.unusedVariables false
set_option linter.unusedSimpArgs false
open Go.Proofs.Ytajhfkcmfmhnaaa.L
def vivariumref10_First.g (k : Nat) (a0_0 a0_1 a0_2 : Int) (l0_3 : List S65) (l0_4 : List S62) (a1 : Int) (l2 : List Int) : List S62 → Option Int
 | [] => some a1
 | r :: rs => (vivariumref10_Says.f k a0_0 a0_1 a0_2 l0_3 l0_4 r.f0.f0 r.f0.f1 r.f1 r.f2.f0 r.f2.f1 a1 l2).bind fun q => if q.2 = true then some q.1 else vivariumref10_First.g k a0_0 a0_1 a0_2 l0_3 l0_4 a1 l2 rs
def vivariumref10_First.f (k : Nat) (a0_0 a0_1 a0_2 : Int) (l0_3 : List S65) (l0_4 : List S62) (a1 : Int) (l2 : List Int) : Option Int := vivariumref10_First.g k a0_0 a0_1 a0_2 l0_3 l0_4 a1 l2 l0_4
set_option maxHeartbeats 4000000 in
set_option maxRecDepth 100000 in
theorem vivariumref10_First.calls (k : Nat) (a0_0 a0_1 a0_2 : Int) (A0_3 : Option Addr) (c0_3 : Nat) (l0_3 : List S65) (A0_4 : Option Addr) (c0_4 : Nat) (l0_4 : List S62) (a1 : Int) (A2 : Option Addr) (c2 : Nat) (l2 : List Int) (r : Int) (w : World)
  (hr0_3 : Kd.C k65 w A0_3 l0_3.length l0_3) (hc0_3 : l0_3.length ≤ c0_3) (hr0_4 : Kd.C k62 w A0_4 l0_4.length l0_4) (hc0_4 : l0_4.length ≤ c0_4) (hr2 : Kd.C (Kd.int .u8) w A2 l2.length l2) (hc2 : l2.length ≤ c2)
  (h : vivariumref10_First.f k a0_0 a0_1 a0_2 l0_3 l0_4 a1 l2 = some r) :
  Calls Try.prog 30 #[.agg #[.int .i64 a0_0, .int .u8 a0_1, .int .u8 a0_2, .slice A0_3 l0_3.length c0_3, .slice A0_4 l0_4.length c0_4], .int .u8 a1, .slice A2 l2.length c2] w fun e w' => e = .returned (.int .u8 r) ∧ Below w.heap.size w w' := by
 have HV := Aside0.mk hr0_3
 have HVc := Aside0.mk hc0_3
 have HR := Aside0.mk hr0_4
 have HRc := Aside0.mk hc0_4
 have HA := Aside0.mk hr2
 have HAc := Aside0.mk hc2
 have H := Aside0.mk h
 clear hr0_3 hc0_3 hr0_4 hc0_4 hr2 hc2 h
 go_enter Try.func30, Try.ntmps30
 go_wp2
 obtain ⟨W0, hW0⟩ : ∃ W0, w.alloc (Obj.cells #[.int .i64 a0_0, .int .u8 a0_1, .int .u8 a0_2, .slice A0_3 l0_3.length c0_3, .slice A0_4 l0_4.length c0_4] 33) = W0 := ⟨_, rfl⟩
 have HB0 : Aside0 (Below w.heap.size w W0) := ⟨by rw [← hW0]; exact below_alloc (Below.refl _ _) _⟩
 have HT0 : Aside0 (W0.heap[w.heap.size]? = some (.cells #[.int .i64 a0_0, .int .u8 a0_1, .int .u8 a0_2, .slice A0_3 l0_3.length c0_3, .slice A0_4 l0_4.length c0_4] 33 (0, 0))) := ⟨by rw [← hW0]; exact blk_new _ _⟩
 rw [hW0]
 clear hW0
 go_loopw [7] (fun v wr => ∃ i : Nat, i ≤ l0_4.length ∧ v = .int .i64 i ∧ Aside0 (vivariumref10_First.g k a0_0 a0_1 a0_2 l0_3 l0_4 a1 l2 (l0_4.drop i) = some r) ∧ Aside0 (Below w.heap.size w wr) ∧ Aside0 (wr.heap[w.heap.size]? = some (.cells #[.int .i64 a0_0, .int .u8 a0_1, .int .u8 a0_2, .slice A0_3 l0_3.length c0_3, .slice A0_4 l0_4.length c0_4] 33 (0, 0)))) (fun v wr => l0_4.length - (intOf v).toNat)
 case atStart => exact ⟨0, Nat.zero_le _, rfl, ⟨by rw [List.drop_zero]; exact H.out⟩, HB0, HT0⟩
 case round =>
  rename World => wo
  clear HB0 HT0 H
  obtain ⟨i, hi, rfl, HG, HB, HT⟩ := hrel
  by_cases hlt : i < l0_4.length
  ·have q0 : (0 : Int) ≤ (i : Int) := by omega
   have q1 : (i : Int) < l0_4.length := by omega
   have q2 : (i : Int) < 9223372036854775807 := by have := HR.out.2.1; omega
   have t0 : wo.cell? ⟨w.heap.size, 0, none⟩ = some (.int .i64 a0_0) := blk_cell HT.out 0
   have t1 : wo.cell? ⟨w.heap.size, 1, none⟩ = some (.int .u8 a0_1) := blk_cell HT.out 1
   have t2 : wo.cell? ⟨w.heap.size, 2, none⟩ = some (.int .u8 a0_2) := blk_cell HT.out 2
   have t3 : wo.cell? ⟨w.heap.size, 3, none⟩ = some (.slice A0_3 l0_3.length c0_3) := blk_cell HT.out 3
   have t4 : wo.cell? ⟨w.heap.size, 4, none⟩ = some (.slice A0_4 l0_4.length c0_4) := blk_cell HT.out 4
   have HVo := Aside0.mk (Kd.C_below HV.out HB.out)
   have HRo := Aside0.mk (Kd.C_below HR.out HB.out)
   have HAo := Aside0.mk (Kd.C_below HA.out HB.out)
   obtain ⟨ad, AT, cT, rfl, r0, r1, r2, r3, r4, hcT, hCT⟩ := at_T62 HRo.out (i : Int) q0 q1
   rw [Int.toNat_natCast] at r0 r1 r2 r3 r4
   have hg := HG.out
   rw [List.drop_eq_getElem_cons hlt, vivariumref10_First.g, show l0_4[i] = rd_T62 l0_4 (i : Int) from by unfold rd_T62; rw [Int.toNat_natCast, List.getD_eq_getElem?_getD, List.getElem?_eq_getElem hlt]; rfl] at hg
   obtain ⟨x, hx⟩ : ∃ x, rd_T62 l0_4 (i : Int) = x := ⟨_, rfl⟩
   rw [hx] at hg r0 r1 r2 r3 r4 hcT hCT
   replace hg := Option.bind_eq_some_iff.1 hg
   obtain ⟨⟨s, ok⟩, hq, hg⟩ := hg
   have HQ := Aside0.mk hq
   have HCT := Aside0.mk hCT
   have HcT := Aside0.mk hcT
   clear hq hCT hcT hx HG
   cases ok with
   | true =>
    rw [if_pos rfl] at hg
    obtain rfl := Option.some.inj hg
    clear hg
    have hcall := vivariumref10_Says.calls k a0_0 a0_1 a0_2 A0_3 c0_3 l0_3 (some ad) c0_4 l0_4 x.f0.f0 x.f0.f1 AT cT x.f1 x.f2.f0 x.f2.f1 a1 A2 c2 l2 s true wo.drew (Kd.C_drew HVo.out) HVc.out (Kd.C_drew HRo.out) HRc.out (Kd.C_drew HCT.out) HcT.out (Kd.C_drew HAo.out) HAc.out HQ.out
    have HCALL := Aside0.mk hcall
    clear hcall
    go_wp2
    refine start_ (n := 14) (S := fun w' => w'.cell? ⟨w.heap.size, 0, none⟩ = some (.int .i64 a0_0) ∧ w'.cell? ⟨w.heap.size, 1, none⟩ = some (.int .u8 a0_1) ∧ w'.cell? ⟨w.heap.size, 2, none⟩ = some (.int .u8 a0_2) ∧ w'.cell? ⟨w.heap.size, 3, none⟩ = some (.slice A0_3 l0_3.length c0_3) ∧ w'.cell? ⟨w.heap.size, 4, none⟩ = some (.slice (some ad) l0_4.length c0_4) ∧ w'.cell? (ad.add (i * 5)) = some (.int .u8 x.f0.f0) ∧ w'.cell? ⟨(ad.add (i * 5)).block, (ad.add (i * 5)).off + 1, none⟩ = some (.int .i64 x.f0.f1) ∧ w'.cell? ⟨(ad.add (i * 5)).block, (ad.add (i * 5)).off + 2, none⟩ = some (.slice AT x.f1.length cT) ∧ w'.cell? ⟨(ad.add (i * 5)).block, (ad.add (i * 5)).off + 3, none⟩ = some (.int .u8 x.f2.f0) ∧ w'.cell? ⟨(ad.add (i * 5)).block, (ad.add (i * 5)).off + 4, none⟩ = some (.int .i64 x.f2.f1)) (ds := [8]) #[false, false, false, false, false, false, false, false, false, false, false, false, false, false] (by kernel_rfl) rfl rfl ⟨t0, t1, t2, t3, t4, r0, r1, r2, r3, r4⟩ (fun hHeld => ?_)
    refine pure_ (i := 1) (N := some 19) (v := ?_) (a' := ?_) #[false, true, false, false, false, false, false, false, false, false, false, false, false, false] rfl rfl (by kernel_rfl) (fun _ _ _ h => h) (Or.inl ⟨by rfl, ?_⟩) ?_ ?_
    rotate_left
    ·intro w'
     go_simp
     with_reducible rfl
    rotate_left
    ·simp only [Act.put, List.setIfInBounds_toArray, List.set_cons_zero, List.set_cons_succ, i64_w, i32_w]
     rfl
    refine pure_ (i := 3) (N := some 21) (v := ?_) (a' := ?_) #[false, true, false, true, false, false, false, false, false, false, false, false, false, false] rfl rfl (by kernel_rfl) (fun _ _ _ h => h) (Or.inl ⟨by rfl, ?_⟩) ?_ ?_
    rotate_left
    ·intro w'
     go_simp
     with_reducible rfl
    rotate_left
    ·simp only [Act.put, List.setIfInBounds_toArray, List.set_cons_zero, List.set_cons_succ, i64_w, i32_w]
     rfl
    refine pure_ (i := 6) (N := some 24) (v := ?_) (a' := ?_) #[false, true, false, true, false, false, true, false, false, false, false, false, false, false] rfl rfl (by kernel_rfl) (fun _ _ _ h => h) (Or.inl ⟨by rfl, ?_⟩) ?_ ?_
    rotate_left
    ·intro w'
     go_simp
     with_reducible rfl
    rotate_left
    ·simp only [Act.put, List.setIfInBounds_toArray, List.set_cons_zero, List.set_cons_succ, i64_w, i32_w]
     rfl
    refine pure_ (i := 7) (N := some 25) (v := ?_) (a' := ?_) #[false, true, false, true, false, false, true, true, false, false, false, false, false, false] rfl rfl (by kernel_rfl) (fun _ _ _ h => h) (Or.inl ⟨by rfl, ?_⟩) ?_ ?_
    rotate_left
    ·intro w'
     go_simp
     with_reducible rfl
    rotate_left
    ·simp only [Act.put, List.setIfInBounds_toArray, List.set_cons_zero, List.set_cons_succ, i64_w, i32_w]
     rfl
    refine take_ (i := 0) (N := some 18) (v := ?_) (a' := ?_) #[true, true, false, true, false, false, true, true, false, false, false, false, false, false] rfl rfl (by kernel_rfl) (fun _ _ _ h => h) (Or.inl ⟨by rfl, ?_⟩) hHeld ?_ ?_
    rotate_left
    ·rintro w' ⟨s0, s1, s2, s3, s4, s5, s6, s7, s8, s9⟩
     go_simp
     with_reducible rfl
    rotate_left
    ·simp only [Act.put, List.setIfInBounds_toArray, List.set_cons_zero, List.set_cons_succ, i64_w, i32_w]
     rfl
    refine take_ (i := 2) (N := some 20) (v := ?_) (a' := ?_) #[true, true, true, true, false, false, true, true, false, false, false, false, false, false] rfl rfl (by kernel_rfl) (fun _ _ _ h => h) (Or.inl ⟨by rfl, ?_⟩) hHeld ?_ ?_
    rotate_left
    ·rintro w' ⟨s0, s1, s2, s3, s4, s5, s6, s7, s8, s9⟩
     go_simp
     with_reducible rfl
    rotate_left
    ·simp only [Act.put, List.setIfInBounds_toArray, List.set_cons_zero, List.set_cons_succ, i64_w, i32_w]
     rfl
    refine pure_ (i := 4) (N := some 22) (v := ?_) (a' := ?_) #[true, true, true, true, true, false, true, true, false, false, false, false, false, false] rfl rfl (by kernel_rfl) (fun _ _ _ h => h) (Or.inl ⟨by rfl, ?_⟩) ?_ ?_
    rotate_left
    ·intro w'
     go_simp
     with_reducible rfl
    rotate_left
    ·simp only [Act.put, List.setIfInBounds_toArray, List.set_cons_zero, List.set_cons_succ, i64_w, i32_w]
     rfl
    refine take_ (i := 5) (N := some 23) (v := ?_) (a' := ?_) #[true, true, true, true, true, true, true, true, false, false, false, false, false, false] rfl rfl (by kernel_rfl) (fun _ _ _ h => h) (Or.inl ⟨by rfl, ?_⟩) hHeld ?_ ?_
    rotate_left
    ·rintro w' ⟨s0, s1, s2, s3, s4, s5, s6, s7, s8, s9⟩
     go_simp
     with_reducible rfl
    rotate_left
    ·simp only [Act.put, List.setIfInBounds_toArray, List.set_cons_zero, List.set_cons_succ, i64_w, i32_w]
     rfl
    refine last_ (i := 8) (N := some 26) #[true, true, true, true, true, true, true, true, true, false, false, false, false, false] rfl rfl (by kernel_rfl) (by decide) (fun K hK => ?_)
    refine goes_ Try.func29 (by kernel_rfl) rfl #[.agg #[.int .i64 a0_0, .int .u8 a0_1, .int .u8 a0_2, .slice A0_3 l0_3.length c0_3, .slice (some ad) l0_4.length c0_4], .agg #[.int .u8 x.f0.f0, .int .i64 x.f0.f1, .slice AT x.f1.length cT, .int .u8 x.f2.f0, .int .i64 x.f2.f1], .int .u8 a1, .slice A2 l2.length c2] (by rfl) rfl rfl (by simp only [List.map_toArray, List.map_cons, List.map_nil]; rfl) ?_
    with_reducible refine HCALL.out.mono ?_
    rintro e w1 ⟨rfl, hb1⟩
    have HB1 := Aside0.mk (below_step (below_drew1 HB.out) hb1)
    have HT1 := Aside0.mk (blk_below (blk_below HT.out (below_drew1 (Below.refl _ _))) hb1)
    clear hb1
    refine ⟨_, rfl, ?_⟩
    refine hK.out _ _ ?_
    clear hK K
    refine norm_ (a' := ?_) ?_ ?_
    rotate_left
    ·show Act.put _ (some 26) _ = _
     simp only [Act.put, List.setIfInBounds_toArray, List.set_cons_zero, List.set_cons_succ, i64_w, i32_w]
     rfl
    refine pure_ (i := 9) (N := some 17) (v := ?_) (a' := ?_) #[true, true, true, true, true, true, true, true, true, true, false, false, false, false] rfl rfl (by kernel_rfl) (fun _ _ _ h => h) (Or.inl ⟨by rfl, ?_⟩) ?_ ?_
    rotate_left
    ·intro w'
     go_simp
     with_reducible rfl
    rotate_left
    ·simp only [Act.put, List.setIfInBounds_toArray, List.set_cons_zero, List.set_cons_succ, i64_w, i32_w]
     rfl
    refine pure_ (i := 10) (N := some 27) (v := ?_) (a' := ?_) #[true, true, true, true, true, true, true, true, true, true, true, false, false, false] rfl rfl (by kernel_rfl) (fun _ _ _ h => h) (Or.inl ⟨by rfl, ?_⟩) ?_ ?_
    rotate_left
    ·intro w'
     go_simp
     with_reducible rfl
    rotate_left
    ·simp only [Act.put, List.setIfInBounds_toArray, List.set_cons_zero, List.set_cons_succ, i64_w, i32_w]
     rfl
    refine pure_ (i := 11) (N := some 28) (v := ?_) (a' := ?_) #[true, true, true, true, true, true, true, true, true, true, true, true, false, false] rfl rfl (by kernel_rfl) (fun _ _ _ h => h) (Or.inl ⟨by rfl, ?_⟩) ?_ ?_
    rotate_left
    ·intro w'
     go_simp
     with_reducible rfl
    rotate_left
    ·simp only [Act.put, List.setIfInBounds_toArray, List.set_cons_zero, List.set_cons_succ, i64_w, i32_w]
     rfl
    refine pure_ (i := 12) (N := some 8) (v := ?_) (a' := ?_) #[true, true, true, true, true, true, true, true, true, true, true, true, true, false] rfl rfl (by kernel_rfl) (fun _ _ _ h => h) (Or.inl ⟨by rfl, ?_⟩) ?_ ?_
    rotate_left
    ·intro w'
     go_simp
     with_reducible rfl
    rotate_left
    ·simp only [Act.put, List.setIfInBounds_toArray, List.set_cons_zero, List.set_cons_succ, i64_w, i32_w]
     rfl
    refine pure_ (i := 13) (N := some 9) (v := ?_) (a' := ?_) #[true, true, true, true, true, true, true, true, true, true, true, true, true, true] rfl rfl (by kernel_rfl) (fun _ _ _ h => h) (Or.inl ⟨by rfl, ?_⟩) ?_ ?_
    rotate_left
    ·intro w'
     go_simp
     with_reducible rfl
    rotate_left
    ·simp only [Act.put, List.setIfInBounds_toArray, List.set_cons_zero, List.set_cons_succ, i64_w, i32_w]
     rfl
    refine done_ (by kernel_rfl) ?_
    go_wp2
    go_ret
    exact ⟨rfl, HB1.out⟩
   | false =>
    rw [if_neg (by simp)] at hg
    have HG2 := Aside0.mk hg
    clear hg
    have hcall := vivariumref10_Says.calls k a0_0 a0_1 a0_2 A0_3 c0_3 l0_3 (some ad) c0_4 l0_4 x.f0.f0 x.f0.f1 AT cT x.f1 x.f2.f0 x.f2.f1 a1 A2 c2 l2 s false wo.drew (Kd.C_drew HVo.out) HVc.out (Kd.C_drew HRo.out) HRc.out (Kd.C_drew HCT.out) HcT.out (Kd.C_drew HAo.out) HAc.out HQ.out
    have HCALL := Aside0.mk hcall
    clear hcall
    go_wp2
    refine start_ (n := 14) (S := fun w' => w'.cell? ⟨w.heap.size, 0, none⟩ = some (.int .i64 a0_0) ∧ w'.cell? ⟨w.heap.size, 1, none⟩ = some (.int .u8 a0_1) ∧ w'.cell? ⟨w.heap.size, 2, none⟩ = some (.int .u8 a0_2) ∧ w'.cell? ⟨w.heap.size, 3, none⟩ = some (.slice A0_3 l0_3.length c0_3) ∧ w'.cell? ⟨w.heap.size, 4, none⟩ = some (.slice (some ad) l0_4.length c0_4) ∧ w'.cell? (ad.add (i * 5)) = some (.int .u8 x.f0.f0) ∧ w'.cell? ⟨(ad.add (i * 5)).block, (ad.add (i * 5)).off + 1, none⟩ = some (.int .i64 x.f0.f1) ∧ w'.cell? ⟨(ad.add (i * 5)).block, (ad.add (i * 5)).off + 2, none⟩ = some (.slice AT x.f1.length cT) ∧ w'.cell? ⟨(ad.add (i * 5)).block, (ad.add (i * 5)).off + 3, none⟩ = some (.int .u8 x.f2.f0) ∧ w'.cell? ⟨(ad.add (i * 5)).block, (ad.add (i * 5)).off + 4, none⟩ = some (.int .i64 x.f2.f1)) (ds := [8]) #[false, false, false, false, false, false, false, false, false, false, false, false, false, false] (by kernel_rfl) rfl rfl ⟨t0, t1, t2, t3, t4, r0, r1, r2, r3, r4⟩ (fun hHeld => ?_)
    refine pure_ (i := 1) (N := some 19) (v := ?_) (a' := ?_) #[false, true, false, false, false, false, false, false, false, false, false, false, false, false] rfl rfl (by kernel_rfl) (fun _ _ _ h => h) (Or.inl ⟨by rfl, ?_⟩) ?_ ?_
    rotate_left
    ·intro w'
     go_simp
     with_reducible rfl
    rotate_left
    ·simp only [Act.put, List.setIfInBounds_toArray, List.set_cons_zero, List.set_cons_succ, i64_w, i32_w]
     rfl
    refine pure_ (i := 3) (N := some 21) (v := ?_) (a' := ?_) #[false, true, false, true, false, false, false, false, false, false, false, false, false, false] rfl rfl (by kernel_rfl) (fun _ _ _ h => h) (Or.inl ⟨by rfl, ?_⟩) ?_ ?_
    rotate_left
    ·intro w'
     go_simp
     with_reducible rfl
    rotate_left
    ·simp only [Act.put, List.setIfInBounds_toArray, List.set_cons_zero, List.set_cons_succ, i64_w, i32_w]
     rfl
    refine pure_ (i := 6) (N := some 24) (v := ?_) (a' := ?_) #[false, true, false, true, false, false, true, false, false, false, false, false, false, false] rfl rfl (by kernel_rfl) (fun _ _ _ h => h) (Or.inl ⟨by rfl, ?_⟩) ?_ ?_
    rotate_left
    ·intro w'
     go_simp
     with_reducible rfl
    rotate_left
    ·simp only [Act.put, List.setIfInBounds_toArray, List.set_cons_zero, List.set_cons_succ, i64_w, i32_w]
     rfl
    refine pure_ (i := 7) (N := some 25) (v := ?_) (a' := ?_) #[false, true, false, true, false, false, true, true, false, false, false, false, false, false] rfl rfl (by kernel_rfl) (fun _ _ _ h => h) (Or.inl ⟨by rfl, ?_⟩) ?_ ?_
    rotate_left
    ·intro w'
     go_simp
     with_reducible rfl
    rotate_left
    ·simp only [Act.put, List.setIfInBounds_toArray, List.set_cons_zero, List.set_cons_succ, i64_w, i32_w]
     rfl
    refine take_ (i := 0) (N := some 18) (v := ?_) (a' := ?_) #[true, true, false, true, false, false, true, true, false, false, false, false, false, false] rfl rfl (by kernel_rfl) (fun _ _ _ h => h) (Or.inl ⟨by rfl, ?_⟩) hHeld ?_ ?_
    rotate_left
    ·rintro w' ⟨s0, s1, s2, s3, s4, s5, s6, s7, s8, s9⟩
     go_simp
     with_reducible rfl
    rotate_left
    ·simp only [Act.put, List.setIfInBounds_toArray, List.set_cons_zero, List.set_cons_succ, i64_w, i32_w]
     rfl
    refine take_ (i := 2) (N := some 20) (v := ?_) (a' := ?_) #[true, true, true, true, false, false, true, true, false, false, false, false, false, false] rfl rfl (by kernel_rfl) (fun _ _ _ h => h) (Or.inl ⟨by rfl, ?_⟩) hHeld ?_ ?_
    rotate_left
    ·rintro w' ⟨s0, s1, s2, s3, s4, s5, s6, s7, s8, s9⟩
     go_simp
     with_reducible rfl
    rotate_left
    ·simp only [Act.put, List.setIfInBounds_toArray, List.set_cons_zero, List.set_cons_succ, i64_w, i32_w]
     rfl
    refine pure_ (i := 4) (N := some 22) (v := ?_) (a' := ?_) #[true, true, true, true, true, false, true, true, false, false, false, false, false, false] rfl rfl (by kernel_rfl) (fun _ _ _ h => h) (Or.inl ⟨by rfl, ?_⟩) ?_ ?_
    rotate_left
    ·intro w'
     go_simp
     with_reducible rfl
    rotate_left
    ·simp only [Act.put, List.setIfInBounds_toArray, List.set_cons_zero, List.set_cons_succ, i64_w, i32_w]
     rfl
    refine take_ (i := 5) (N := some 23) (v := ?_) (a' := ?_) #[true, true, true, true, true, true, true, true, false, false, false, false, false, false] rfl rfl (by kernel_rfl) (fun _ _ _ h => h) (Or.inl ⟨by rfl, ?_⟩) hHeld ?_ ?_
    rotate_left
    ·rintro w' ⟨s0, s1, s2, s3, s4, s5, s6, s7, s8, s9⟩
     go_simp
     with_reducible rfl
    rotate_left
    ·simp only [Act.put, List.setIfInBounds_toArray, List.set_cons_zero, List.set_cons_succ, i64_w, i32_w]
     rfl
    refine last_ (i := 8) (N := some 26) #[true, true, true, true, true, true, true, true, true, false, false, false, false, false] rfl rfl (by kernel_rfl) (by decide) (fun K hK => ?_)
    refine goes_ Try.func29 (by kernel_rfl) rfl #[.agg #[.int .i64 a0_0, .int .u8 a0_1, .int .u8 a0_2, .slice A0_3 l0_3.length c0_3, .slice (some ad) l0_4.length c0_4], .agg #[.int .u8 x.f0.f0, .int .i64 x.f0.f1, .slice AT x.f1.length cT, .int .u8 x.f2.f0, .int .i64 x.f2.f1], .int .u8 a1, .slice A2 l2.length c2] (by rfl) rfl rfl (by simp only [List.map_toArray, List.map_cons, List.map_nil]; rfl) ?_
    with_reducible refine HCALL.out.mono ?_
    rintro e w1 ⟨rfl, hb1⟩
    have HB1 := Aside0.mk (below_step (below_drew1 HB.out) hb1)
    have HT1 := Aside0.mk (blk_below (blk_below HT.out (below_drew1 (Below.refl _ _))) hb1)
    clear hb1
    refine ⟨_, rfl, ?_⟩
    refine hK.out _ _ ?_
    clear hK K
    refine norm_ (a' := ?_) ?_ ?_
    rotate_left
    ·show Act.put _ (some 26) _ = _
     simp only [Act.put, List.setIfInBounds_toArray, List.set_cons_zero, List.set_cons_succ, i64_w, i32_w]
     rfl
    refine pure_ (i := 9) (N := some 17) (v := ?_) (a' := ?_) #[true, true, true, true, true, true, true, true, true, true, false, false, false, false] rfl rfl (by kernel_rfl) (fun _ _ _ h => h) (Or.inl ⟨by rfl, ?_⟩) ?_ ?_
    rotate_left
    ·intro w'
     go_simp
     with_reducible rfl
    rotate_left
    ·simp only [Act.put, List.setIfInBounds_toArray, List.set_cons_zero, List.set_cons_succ, i64_w, i32_w]
     rfl
    refine pure_ (i := 10) (N := some 27) (v := ?_) (a' := ?_) #[true, true, true, true, true, true, true, true, true, true, true, false, false, false] rfl rfl (by kernel_rfl) (fun _ _ _ h => h) (Or.inl ⟨by rfl, ?_⟩) ?_ ?_
    rotate_left
    ·intro w'
     go_simp
     with_reducible rfl
    rotate_left
    ·simp only [Act.put, List.setIfInBounds_toArray, List.set_cons_zero, List.set_cons_succ, i64_w, i32_w]
     rfl
    refine pure_ (i := 11) (N := some 28) (v := ?_) (a' := ?_) #[true, true, true, true, true, true, true, true, true, true, true, true, false, false] rfl rfl (by kernel_rfl) (fun _ _ _ h => h) (Or.inl ⟨by rfl, ?_⟩) ?_ ?_
    rotate_left
    ·intro w'
     go_simp
     with_reducible rfl
    rotate_left
    ·simp only [Act.put, List.setIfInBounds_toArray, List.set_cons_zero, List.set_cons_succ, i64_w, i32_w]
     rfl
    refine pure_ (i := 12) (N := some 8) (v := ?_) (a' := ?_) #[true, true, true, true, true, true, true, true, true, true, true, true, true, false] rfl rfl (by kernel_rfl) (fun _ _ _ h => h) (Or.inl ⟨by rfl, ?_⟩) ?_ ?_
    rotate_left
    ·intro w'
     go_simp
     with_reducible rfl
    rotate_left
    ·simp only [Act.put, List.setIfInBounds_toArray, List.set_cons_zero, List.set_cons_succ, i64_w, i32_w]
     rfl
    refine pure_ (i := 13) (N := some 9) (v := ?_) (a' := ?_) #[true, true, true, true, true, true, true, true, true, true, true, true, true, true] rfl rfl (by kernel_rfl) (fun _ _ _ h => h) (Or.inl ⟨by rfl, ?_⟩) ?_ ?_
    rotate_left
    ·intro w'
     go_simp
     with_reducible rfl
    rotate_left
    ·simp only [Act.put, List.setIfInBounds_toArray, List.set_cons_zero, List.set_cons_succ, i64_w, i32_w]
     rfl
    refine done_ (by kernel_rfl) ?_
    go_wp2
    go_round
    case rel => exact ⟨i + 1, by omega, by go_num, HG2, HB1, HT1⟩
    case measure => simp [intOf]; omega
  ·obtain rfl : i = l0_4.length := by omega
   have hg := HG.out
   rw [List.drop_length, vivariumref10_First.g] at hg
   obtain rfl := Option.some.inj hg
   have t4 : wo.cell? ⟨w.heap.size, 4, none⟩ = some (.slice A0_4 l0_4.length c0_4) := blk_cell HT.out 4
   clear hg
   go_wp2
   go_ret
   exact ⟨rfl, HB.out⟩
end Go.Proofs.Ytajhfkcmfmhnaaa.P
end

-- Written by a program of this session (wip/tools/mk.py) that runs the kit's printer; several functions' texts in one.
import Derived.Test.YtfgonglcmgahkabP0
import Derived.Test.YtfgonglcmgahkabPm1
import Derived.Test.YtfgonglcmgahkabPlainStates
import Derived.Test.YtfgonglcmgahkabPlainDrawn
import Derived.RangeFuncBox
import Derived.OpenShut
import Derived.Maps.OwnOps
import Derived.Deep.DeepMust
import Derived.Test.YtfgonglcmgahkabPm3
namespace Go.Proofs.Ytfgonglcmgahkab.P
open Go.RowKit Go.Proofs.YtfgonglcmgahkabW.PrintWords Go.Proofs.YtfgonglcmgahkabW.PrintLast Go.Proofs.YtfgonglcmgahkabW.PrintMore
attribute [local go_sem] max2_int min2_int max_two min_two   -- for this text's walks alone
set_option linter.unusedVariables false
set_option linter.unusedSimpArgs false

/-! ### plain_Halves: function 17 -/
-- EXT Derived.Test.@NP@F{vivarium/plain.Write} Derived.Test.@NPlainStates Derived.Test.@NPlainDrawn Derived.RangeFuncBox Derived.OpenShut Derived.Maps.OwnOps Derived.Deep.DeepMust
open Go.Proofs.Ytfgonglcmgahkab.L Go.Maps
/-- The rune of two places, one below the other. -/
def halfP (D : DataW Unit) (X Y H x y : Int) : Int :=
 if mapAt D (wrap64 (X + x)) (wrap64 (Y + wrap64 (2 * y))) = 0 then
  (if wrap64 (wrap64 (2 * y) + 1) < H then (if mapAt D (wrap64 (X + x)) (wrap64 (wrap64 (Y + wrap64 (2 * y)) + 1)) = 0 then 32 else 9604) else 32)
 else (if wrap64 (wrap64 (2 * y) + 1) < H then (if mapAt D (wrap64 (X + x)) (wrap64 (wrap64 (Y + wrap64 (2 * y)) + 1)) = 0 then 9600 else 9608) else 9600)
theorem half_range (D : DataW Unit) (X Y H x y : Int) : -2147483648 ≤ halfP D X Y H x y ∧ halfP D X Y H x y ≤ 2147483647 := by
 unfold halfP
 repeat' split
 all_goals decide
set_option maxRecDepth 100000 in
set_option maxHeartbeats 4000000 in
theorem halves1_calls (B n Bm Br Bb g : Nat) (D : DataW Unit) (X Y W H : Int) (x y : Int) (w : World) (hm : w.heap[Bm]? = some (.cells #[.map (some B)] 50 (0, 0))) (hr : w.heap[Br]? = some (.cells #[.int .i64 X, .int .i64 Y, .int .i64 W, .int .i64 H] 23 (0, 0)))
  (hb : w.heap[Bb]? = some (.cells #[.slice (some ⟨g, 0, none⟩) 4 4] 61 (0, 0))) (hg : w.heap[g]? = some (.cells #[.int .i32 32, .int .i32 9600, .int .i32 9604, .int .i32 9608] 21 (0, 0)))
  (hown : w.ownsMap Try.prog 55 (plainElem Try.prog 5) B n D) :
  Calls Try.prog 29 #[.int .i64 x, .int .i64 y, .pointer (some ⟨Bm, 0, none⟩), .pointer (some ⟨Br, 0, none⟩), .pointer (some ⟨Bb, 0, none⟩)] w fun e w' => e = .returned (.int .i32 (halfP D X Y H x y)) ∧ Below w.heap.size w w' := by
 have cm := blk_cell hm 0
 have r0 := blk_cell hr 0
 have r1 := blk_cell hr 1
 have r3 := blk_cell hr 3
 have cb := blk_cell hb 0
 have g0 := blk_cell hg 0
 have g1 := blk_cell hg 1
 have g2 := blk_cell hg 2
 have g3 := blk_cell hg 3
 have hz : ∀ w : World, (zeroValue 5).run Try.prog w = .ok (.int .u8 0) w := fun w => by kernel_rfl
 obtain ⟨c1, hrun1, hat1, hw1⟩ := hown.lookup_int pkey Try.underlying50 Try.underlying5 (hz w) (key_of (wrap64 (X + x)) (wrap64 (Y + wrap64 (2 * y))) (wrap64_wf _) (wrap64_wf _))
 obtain ⟨c2, hrun2, hat2, hw2⟩ := hown.lookup_int pkey Try.underlying50 Try.underlying5 (hz w) (key_of (wrap64 (X + x)) (wrap64 (wrap64 (Y + wrap64 (2 * y)) + 1)) (wrap64_wf _) (wrap64_wf _))
 have m1 := mapAt_of hat1 (Go.bounds_u8 hw1)
 have m2 := mapAt_of hat2 (Go.bounds_u8 hw2)
 clear hat1 hat2 hw1 hw2 hown hm hr hb hg
 have hP : ∀ r, halfP D X Y H x y = r → (Calls Try.prog 29 #[.int .i64 x, .int .i64 y, .pointer (some ⟨Bm, 0, none⟩), .pointer (some ⟨Br, 0, none⟩), .pointer (some ⟨Bb, 0, none⟩)] w fun e w' => e = .returned (.int .i32 r) ∧ Below w.heap.size w w') → Calls Try.prog 29 #[.int .i64 x, .int .i64 y, .pointer (some ⟨Bm, 0, none⟩), .pointer (some ⟨Br, 0, none⟩), .pointer (some ⟨Bb, 0, none⟩)] w fun e w' => e = .returned (.int .i32 (halfP D X Y H x y)) ∧ Below w.heap.size w w' := fun r h hc => by rw [h]; exact hc
 by_cases k1 : c1 = 0
 ·have b1 : (c1 != 0) = false := bne_eq_false_iff_eq.mpr k1
  by_cases k3 : wrap64 (wrap64 (2 * y) + 1) < H
  ·have b3 : decide (wrap64 (wrap64 (2 * y) + 1) < H) = true := decide_eq_true k3
   by_cases k2 : c2 = 0
   ·have b2 : (c2 != 0) = false := bne_eq_false_iff_eq.mpr k2
    refine hP 32 (by unfold halfP; rw [m1, m2, if_pos k1, if_pos k3, if_pos k2]) ?_
    clear k1 k2 k3 hP
    go_enter Try.func29, Try.ntmps29
    go_wp2
    go_ret
    exact ⟨rfl, Below.refl _ _⟩
   ·have b2 : (c2 != 0) = true := bne_iff_ne.mpr k2
    refine hP 9604 (by unfold halfP; rw [m1, m2, if_pos k1, if_pos k3, if_neg k2]) ?_
    clear k1 k2 k3 hP
    go_enter Try.func29, Try.ntmps29
    go_wp2
    go_ret
    exact ⟨rfl, Below.refl _ _⟩
  ·have b3 : decide (wrap64 (wrap64 (2 * y) + 1) < H) = false := decide_eq_false k3
   refine hP 32 (by unfold halfP; rw [m1, if_pos k1, if_neg k3]) ?_
   clear k1 k3 hP
   go_enter Try.func29, Try.ntmps29
   go_wp2
   go_ret
   exact ⟨rfl, Below.refl _ _⟩
 ·have b1 : (c1 != 0) = true := bne_iff_ne.mpr k1
  by_cases k3 : wrap64 (wrap64 (2 * y) + 1) < H
  ·have b3 : decide (wrap64 (wrap64 (2 * y) + 1) < H) = true := decide_eq_true k3
   by_cases k2 : c2 = 0
   ·have b2 : (c2 != 0) = false := bne_eq_false_iff_eq.mpr k2
    refine hP 9600 (by unfold halfP; rw [m1, m2, if_neg k1, if_pos k3, if_pos k2]) ?_
    clear k1 k2 k3 hP
    go_enter Try.func29, Try.ntmps29
    go_wp2
    go_ret
    exact ⟨rfl, Below.refl _ _⟩
   ·have b2 : (c2 != 0) = true := bne_iff_ne.mpr k2
    refine hP 9608 (by unfold halfP; rw [m1, m2, if_neg k1, if_pos k3, if_neg k2]) ?_
    clear k1 k2 k3 hP
    go_enter Try.func29, Try.ntmps29
    go_wp2
    go_ret
    exact ⟨rfl, Below.refl _ _⟩
  ·have b3 : decide (wrap64 (wrap64 (2 * y) + 1) < H) = false := decide_eq_false k3
   refine hP 9600 (by unfold halfP; rw [m1, if_neg k1, if_neg k3]) ?_
   clear k1 k3 hP
   go_enter Try.func29, Try.ntmps29
   go_wp2
   go_ret
   exact ⟨rfl, Below.refl _ _⟩
set_option maxRecDepth 100000 in
set_option maxHeartbeats 4000000 in
theorem Halves_walk (A0 : Option Addr) (c0 : Nat) (xs : List ClS) (X Y W H : Int) (w : World) (hC : Kd.C k35 w A0 xs.length xs) (hc : xs.length ≤ c0) (hlen : xs.length ≤ 1000000000)
  (hwf : ∀ x ∈ xs, (Lit.int .i64 x.f0).wf = true ∧ (Lit.int .i64 x.f1).wf = true ∧ (Lit.int .u8 x.f2).wf = true) (hW : (Lit.int .i64 W).wf = true) (hH : (Lit.int .i64 H).wf = true) (hX : (Lit.int .i64 X).wf = true) (hY : (Lit.int .i64 Y).wf = true) :
  Calls Try.prog 17 #[.slice A0 xs.length c0, .agg #[.int .i64 X, .int .i64 Y, .int .i64 W, .int .i64 H]] w fun e w' =>
   e = .returned (.tuple #[.string (if stE (stD xs (.map []) 0) X Y W H = 0 then (drawnP (halfP (stD xs (.map []) 0).1 X Y H) W ((H + 1) / 2)).1 else ⟨#[]⟩), .int .i64 (if stE (stD xs (.map []) 0) X Y W H = 0 then (drawnP (halfP (stD xs (.map []) 0).1 X Y H) W ((H + 1) / 2)).2 else stE (stD xs (.map []) 0) X Y W H)]) ∧ Below w.heap.size w w' := by
 have hCC := Aside0.mk hC
 have hWF := Aside0.mk hwf
 clear hC hwf
 obtain ⟨T, hT⟩ : ∃ T, stD xs (.map []) 0 = T := ⟨_, rfl⟩
 obtain ⟨E, hE⟩ : ∃ E, stE T X Y W H = E := ⟨_, rfl⟩
 rw [hT, hE]
 have hTT := Aside0.mk hT
 have hEE := Aside0.mk hE
 clear hT hE
 have ef : ∀ args w, (callFunc 29 args).run Try.prog w = .ok (.enter 29 args) w := enters_of Try.func29 (by kernel_rfl) rfl
 by_cases e0 : E = 0
 ·subst e0
  have hb := stE_ok hEE.out
  obtain ⟨W, rfl⟩ : ∃ m : Nat, W = m := ⟨W.toNat, by omega⟩
  obtain ⟨H, rfl⟩ : ∃ m : Nat, H = m := ⟨H.toNat, by omega⟩
  have HQ : Aside0 (((H : Int) + 1) / 2 = (((H + 1) / 2 : Nat) : Int)) := ⟨by omega⟩
  go_enter Try.func17, Try.ntmps17
  go_wp2_with (first | (go_at_call 24; go_must (refine (states_calls A0 c0 xs X Y W H _ (Kd.C_below hCC.out ((Below.refl _ w).alloc (Nat.le_refl _) _)) hc hlen hWF.out hW hH hX hY).mono ?_; rintro e w2 ⟨hst, hb2⟩; rw [hTT.out, hEE.out] at hst; rcases hst with ⟨hst, _⟩ | ⟨_, B, hB, rfl, n, hown⟩; (exact absurd rfl hst); have hbx := (hb2.block w.heap.size (by simp)).trans (blk_new w _); have HB2 := Aside0.mk hb2; have HOW := Aside0.mk hown; have HBX := Aside0.mk hbx; have hby := (Below.heap_alloc w2 (.cells #[.map (some B)] 50) w.heap.size (Array.getElem?_eq_some_iff.1 hbx).1).trans hbx; have hbt := (Below.heap_alloc (w2.alloc (.cells #[.map (some B)] 50)) (.cells #[.int .i32 32, .int .i32 9600, .int .i32 9604, .int .i32 9608] 21) w.heap.size (Array.getElem?_eq_some_iff.1 hby).1).trans hby; have hbu := (Below.heap_alloc ((w2.alloc (.cells #[.map (some B)] 50)).alloc (.cells #[.int .i32 32, .int .i32 9600, .int .i32 9604, .int .i32 9608] 21)) (.cells #[.slice (some ⟨w2.heap.size + 1, 0, none⟩) 4 4] 61) w.heap.size (Array.getElem?_eq_some_iff.1 hbt).1).trans hbt; have cx2 := blk_cell hbu 2; have cx3 := blk_cell hbu 3; clear hb2 hown hbx)) | (go_at_call 25; go_must (rw [HQ.out]; have k1 := (Below.heap_alloc ((w2.alloc (.cells #[.map (some B)] 50)).alloc (.cells #[.int .i32 32, .int .i32 9600, .int .i32 9604, .int .i32 9608] 21)) (.cells #[.slice (some ⟨w2.heap.size + 1, 0, none⟩) 4 4] 61) w2.heap.size (by simp; omega)).trans ((Below.heap_alloc (w2.alloc (.cells #[.map (some B)] 50)) (.cells #[.int .i32 32, .int .i32 9600, .int .i32 9604, .int .i32 9608] 21) w2.heap.size (by simp)).trans (blk_new w2 (.cells #[.map (some B)] 50))); have k2a := blk_new (w2.alloc (.cells #[.map (some B)] 50)) (.cells #[.int .i32 32, .int .i32 9600, .int .i32 9604, .int .i32 9608] 21); have k3 := blk_new ((w2.alloc (.cells #[.map (some B)] 50)).alloc (.cells #[.int .i32 32, .int .i32 9600, .int .i32 9604, .int .i32 9608] 21)) (.cells #[.slice (some ⟨w2.heap.size + 1, 0, none⟩) 4 4] 61); simp only [World.size_alloc] at k2a k3; have k2 := (Below.heap_alloc ((w2.alloc (.cells #[.map (some B)] 50)).alloc (.cells #[.int .i32 32, .int .i32 9600, .int .i32 9604, .int .i32 9608] 21)) (.cells #[.slice (some ⟨w2.heap.size + 1, 0, none⟩) 4 4] 61) (w2.heap.size + 1) (by simp)).trans k2a; have hwl := (Array.getElem?_eq_some_iff.1 HBX.out).1; refine (drawn_calls 29 #[.pointer (some ⟨w2.heap.size, 0, none⟩), .pointer (some ⟨w.heap.size, 0, none⟩), .pointer (some ⟨w2.heap.size + 1 + 1, 0, none⟩)] ef (halfP T.1 X Y H) (half_range T.1 X Y H) W ((H + 1) / 2) (by omega) (by omega) (((w2.alloc (.cells #[.map (some B)] 50)).alloc (.cells #[.int .i32 32, .int .i32 9600, .int .i32 9604, .int .i32 9608] 21)).alloc (.cells #[.slice (some ⟨w2.heap.size + 1, 0, none⟩) 4 4] 61)) (fun x y w1 hx hy hb => halves1_calls B n w2.heap.size w.heap.size (w2.heap.size + 1 + 1) (w2.heap.size + 1) T.1 X Y W H x y w1 ((hb.block _ (by simp; omega)).trans k1) ((hb.block _ (by simp; omega)).trans hbu) ((hb.block _ (by simp)).trans k3) ((hb.block _ (by simp)).trans k2) (((((HOW.out.alloc _).alloc _).alloc _).kept (WB_none hb) (by simp))))).mono ?_; rintro e w3 ⟨rfl, hb3⟩; have HB3 := Aside0.mk hb3; clear hb3 k1 k2 k2a k3)))
  go_ret2
  rw [HQ.out]
  have s2 := HB2.out.size
  simp at s2
  refine ⟨rfl, ?_⟩
  have c1 := (((Below.refl _ w).alloc (Nat.le_refl _) (.cells #[.int .i64 X, .int .i64 Y, .int .i64 W, .int .i64 H] 23)).trans (HB2.out.mono (by simp))).alloc (by omega) (.cells #[.map (some B)] 50)
  have c2 := (c1.alloc (by simp; omega) (.cells #[.int .i32 32, .int .i32 9600, .int .i32 9604, .int .i32 9608] 21)).alloc (by simp; omega) (.cells #[.slice (some ⟨w2.heap.size + 1, 0, none⟩) 4 4] 61)
  exact c2.trans (HB3.out.mono (by simp; omega))
 ·have b0 : (E == 0) = false := beq_eq_false_iff_ne.mpr e0
  have b1 : (E != 0) = true := bne_iff_ne.mpr e0
  have E0 := Aside0.mk e0
  clear e0
  go_enter Try.func17, Try.ntmps17
  go_wp2_with (go_at_call 24; go_must (refine (states_calls A0 c0 xs X Y W H _ (Kd.C_below hCC.out ((Below.refl _ w).alloc (Nat.le_refl _) _)) hc hlen hWF.out hW hH hX hY).mono ?_; rintro e w2 ⟨hst, hb2⟩; rw [hTT.out, hEE.out] at hst; rcases hst with ⟨_, rfl⟩ | ⟨hst, _⟩; rotate_left; (exact absurd hst E0.out); have HB2 := Aside0.mk hb2; clear hb2))
  go_ret2
  have s2 := HB2.out.size
  simp at s2
  exact ⟨rfl, ((((Below.refl _ w).alloc (Nat.le_refl _) _).trans (HB2.out.mono (by simp))).alloc (by omega) _)⟩
/-- Living and dead, two rows a line, or the error. -/
def plain_Halves.f (l0 : List ClS) (X Y W H : Int) : Option (ByteArray × Int) :=
 if l0.length ≤ 1000000000 ∧ (l0.all fun x => (Lit.int .i64 x.f0).wf && ((Lit.int .i64 x.f1).wf && (Lit.int .u8 x.f2).wf)) = true ∧ (Lit.int .i64 X).wf = true ∧ (Lit.int .i64 Y).wf = true ∧ (Lit.int .i64 W).wf = true ∧ (Lit.int .i64 H).wf = true then
  some (if stE (stD l0 (.map []) 0) X Y W H = 0 then (drawnP (halfP (stD l0 (.map []) 0).1 X Y H) W ((H + 1) / 2)).1 else ⟨#[]⟩, if stE (stD l0 (.map []) 0) X Y W H = 0 then (drawnP (halfP (stD l0 (.map []) 0).1 X Y H) W ((H + 1) / 2)).2 else stE (stD l0 (.map []) 0) X Y W H)
 else none
theorem plain_Halves.calls (A0 : Option Addr) (c0 : Nat) (l0 : List S35) (a1_0 a1_1 a1_2 a1_3 : Int) (r1 : ByteArray) (r2 : Int) (w : World) (hr0 : Kd.C k35 w A0 l0.length l0) (hc0 : l0.length ≤ c0) (h : plain_Halves.f l0 a1_0 a1_1 a1_2 a1_3 = some (r1, r2)) :
  Calls Try.prog 17 #[.slice A0 l0.length c0, .agg #[.int .i64 a1_0, .int .i64 a1_1, .int .i64 a1_2, .int .i64 a1_3]] w fun e w' => e = .returned (.tuple #[.string r1, .int .i64 r2]) ∧ Below w.heap.size w w' := by
 unfold plain_Halves.f at h
 by_cases c : l0.length ≤ 1000000000 ∧ (l0.all fun x => (Lit.int .i64 x.f0).wf && ((Lit.int .i64 x.f1).wf && (Lit.int .u8 x.f2).wf)) = true ∧ (Lit.int .i64 a1_0).wf = true ∧ (Lit.int .i64 a1_1).wf = true ∧ (Lit.int .i64 a1_2).wf = true ∧ (Lit.int .i64 a1_3).wf = true
 ·rw [if_pos c] at h
  cases h
  obtain ⟨h1, h2, h3, h4, h5, h6⟩ := c
  exact Halves_walk A0 c0 l0 a1_0 a1_1 a1_2 a1_3 w hr0 hc0 h1 (fun x hx => by
   have := List.all_eq_true.1 h2 x hx
   simp only [Bool.and_eq_true] at this
   exact ⟨this.1, this.2.1, this.2.2⟩) h5 h6 h3 h4
 ·rw [if_neg c] at h; cases h

end Go.Proofs.Ytfgonglcmgahkab.P

namespace Go.Proofs.Ytfgonglcmgahkab.P
open Go.RowKit Go.Proofs.YtfgonglcmgahkabW.PrintWords Go.Proofs.YtfgonglcmgahkabW.PrintLast Go.Proofs.YtfgonglcmgahkabW.PrintMore
attribute [local go_sem] max2_int min2_int max_two min_two   -- for this text's walks alone
set_option linter.unusedVariables false
set_option linter.unusedSimpArgs false

theorem eqA35 (d : Nat) (w : World) (x0 y0 : Int) (x1 y1 : Int) (x2 y2 : Int) :
  (Op.equalIn (d + 2) 35 (.agg #[.int .i64 x0, .int .i64 x1, .int .u8 x2]) (.agg #[.int .i64 y0, .int .i64 y1, .int .u8 y2])).run Try.prog w = .ok (x0 == y0 && (x1 == y1 && (x2 == y2))) w := by
 refine eqA_of Try.underlying35 (by kernel_rfl) ?_
 refine eqf_cons (by rfl) (by go_simp; rfl) (by go_simp; rfl) (by go_simp) ?_
 refine eqf_cons (by rfl) (by go_simp; rfl) (by go_simp; rfl) (by go_simp) ?_
 exact eqf_last (by rfl) (by go_simp; rfl) (by go_simp; rfl) (by go_simp)
end Go.Proofs.Ytfgonglcmgahkab.P

namespace Go.Proofs.Ytfgonglcmgahkab.P
open Go.RowKit Go.Proofs.YtfgonglcmgahkabW.PrintWords Go.Proofs.YtfgonglcmgahkabW.PrintLast Go.Proofs.YtfgonglcmgahkabW.PrintMore
attribute [local go_sem] max2_int min2_int max_two min_two   -- for this text's walks alone
set_option linter.unusedVariables false
set_option linter.unusedSimpArgs false

attribute [local go_sem high] eqA35
/-! ### vivariumlaw23_same: function 14 -/
def vivariumlaw23_same.l0 : Nat → List (S35) → List (S35) → Int → Option (Bool)
 | 0, _, _, _ => none
 | k + 1, x0, x1, x5 => if x5 < (x0.length : Int) then (if 0 ≤ x5 then (if x5 < (x1.length : Int) then (if (!(((rd_T35 x0 x5).f0) == ((rd_T35 x1 x5).f0)) || (!(((rd_T35 x0 x5).f1) == ((rd_T35 x1 x5).f1)) || (!(((rd_T35 x0 x5).f2) == ((rd_T35 x1 x5).f2))))) = true then (some false) else (vivariumlaw23_same.l0 k x0 x1 (wrap64 (x5 + 1)))) else (none)) else (none)) else (some true)
def vivariumlaw23_same.f (k : Nat) (l0 : List (S35)) (l1 : List (S35)) : Option (Bool) := if (l0.length : Int) = (l1.length : Int) then (vivariumlaw23_same.l0 k l0 l1 0) else (some false)
theorem vivariumlaw23_same.mono_l : ∀ k, (∀ y0 y1 y2, LeO (vivariumlaw23_same.l0 k y0 y1 y2) (vivariumlaw23_same.l0 (k + 1) y0 y1 y2))
 | 0 => fun _ _ _ r h => by simp [vivariumlaw23_same.l0] at h
 | k + 1 => by
  have ih0 := vivariumlaw23_same.mono_l k
  ·intro y0 y1 y2
   unfold vivariumlaw23_same.l0
   repeat' first
   | (with_reducible exact ih0 _ _ _)
   | (with_reducible exact LeO.refl _)
   | (with_reducible exact LeO.none _)
   | (with_reducible refine LeO.ite ?_ ?_)
   | (with_reducible refine LeO.bind ?_ (fun _ => ?_))
   | exact ih0 _ _ _
   | exact LeO.none _
   | refine LeO.ite ?_ ?_
   | refine LeO.bind ?_ (fun _ => ?_)
theorem vivariumlaw23_same.mono : ∀ a0 a1 k, LeO (vivariumlaw23_same.f k a0 a1) (vivariumlaw23_same.f (k + 1) a0 a1) := by
 intro a0 a1 k
 have ih0 := vivariumlaw23_same.mono_l k
 unfold vivariumlaw23_same.f
 repeat' first
   | (with_reducible exact ih0 _ _ _)
   | (with_reducible exact LeO.refl _)
   | (with_reducible exact LeO.none _)
   | (with_reducible refine LeO.ite ?_ ?_)
   | (with_reducible refine LeO.bind ?_ (fun _ => ?_))
   | exact ih0 _ _ _
   | exact LeO.none _
   | refine LeO.ite ?_ ?_
   | refine LeO.bind ?_ (fun _ => ?_)
set_option maxHeartbeats 8000000 in
set_option maxRecDepth 100000 in
theorem vivariumlaw23_same.calls (k : Nat) (A0 : Option Addr) (c0 : Nat) (l0 : List (S35)) (A1 : Option Addr) (c1 : Nat) (l1 : List (S35)) (r : Bool) (w : World) (hr0 : Kd.C k35 w A0 l0.length l0) (hc0 : l0.length ≤ c0) (hr1 : Kd.C k35 w A1 l1.length l1) (hc1 : l1.length ≤ c1) (h : vivariumlaw23_same.f k l0 l1 = some r) :
  Calls Try.prog 14 #[.slice A0 l0.length c0, .slice A1 l1.length c1] w fun e w' => e = .returned (.bool r) ∧ Drawn0 w w' := by
 have hu35 := Try.underlying35
 have HR0 := Aside0.mk hr0
 have HC0 := Aside0.mk hc0
 clear hr0 hc0
 have HR1 := Aside0.mk hr1
 have HC1 := Aside0.mk hc1
 clear hr1 hc1
 have H : (if (l0.length : Int) = (l1.length : Int) then (vivariumlaw23_same.l0 k l0 l1 0) else (some false)) = some r := h
 clear h
 by_cases c3 : (l0.length : Int) = (l1.length : Int)
 ·rw [if_pos c3] at H
  have c3b0 : ((l0.length : Int) == (l1.length : Int)) = true := beq_iff_eq.mpr c3
  have c3b1 : ((l0.length : Int) != (l1.length : Int)) = false := bne_eq_false_iff_eq.mpr c3
  have c3b2 : (l0.length == l1.length) = true := by first | simpa using c3 | (simp at c3 ⊢; omega)
  clear c3
  have H' := Aside0.mk H
  clear H
  go_enter Try.func14, Try.ntmps14
  go_wp2
  repeat (go_quiet (fail); try go_wp2)
  go_loopg [5] k (fun kq v5 w' => ∃ (x5_1 : Int), v5 = .int .i64 x5_1 ∧ Aside0 (vivariumlaw23_same.l0 kq l0 l1 x5_1 = some r) ∧ Aside0 (kq ≤ k) ∧ Drawn0 w w')
  case atStart => exact ⟨(0), (by first | rfl | (simp; done) | (simp [*]; done)), H', ⟨Nat.le_refl _⟩, by repeat (first | exact Drawn0.refl _ | apply Drawn0.step)⟩
  case round =>
   clear H'
   try clear c1
   try clear p2
   try clear c3
   try clear c3b0
   try clear c3b1
   try clear c3b2
   obtain ⟨x5_1, rfl, HA, HK1, ⟨m1, rfl⟩⟩ := hrel
   cases gk with
   | zero => exact absurd HA.out (by simp [vivariumlaw23_same.l0])
   | succ k1 =>
    have H := HA.out
    clear HA
    simp only [vivariumlaw23_same.l0] at H
    by_cases c4 : x5_1 < (l0.length : Int)
    ·rw [if_pos c4] at H
     have c4b0 : decide (x5_1 < (l0.length : Int)) = true := decide_eq_true c4
     clear c4
     by_cases c5 : 0 ≤ x5_1
     ·rw [if_pos c5] at H
      have c5b0 : decide (0 ≤ x5_1) = true := decide_eq_true c5
      clear c5
      by_cases c6 : x5_1 < (l1.length : Int)
      ·rw [if_pos c6] at H
       have c6b0 : decide (x5_1 < (l1.length : Int)) = true := decide_eq_true c6
       clear c6
       by_cases c7 : (!(((rd_T35 l0 x5_1).f0) == ((rd_T35 l1 x5_1).f0)) || (!(((rd_T35 l0 x5_1).f1) == ((rd_T35 l1 x5_1).f1)) || (!(((rd_T35 l0 x5_1).f2) == ((rd_T35 l1 x5_1).f2))))) = true
       ·rw [if_pos c7] at H
        have c7b0 : (!(((rd_T35 l0 x5_1).f0) == ((rd_T35 l1 x5_1).f0)) || (!(((rd_T35 l0 x5_1).f1) == ((rd_T35 l1 x5_1).f1)) || (!(((rd_T35 l0 x5_1).f2) == ((rd_T35 l1 x5_1).f2))))) = true := c7
        clear c7
        obtain rfl := Option.some.inj H
        have p108 : 0 ≤ (x5_1 : Int) := of_decide_eq_true (by first | (with_reducible assumption) | assumption)
        have q108 : x5_1 < (l0.length : Int) := of_decide_eq_true (by first | (with_reducible assumption) | assumption)
        obtain ⟨ad108, e108, hx108_0, hx108_1, hx108_2⟩ := at_T35 HR0.out x5_1 p108 q108
        cases e108
        replace p108 := eq_true p108
        replace q108 := eq_true q108
        have p109 : 0 ≤ (x5_1 : Int) := of_decide_eq_true (by first | (with_reducible assumption) | assumption)
        have q109 : x5_1 < (l1.length : Int) := of_decide_eq_true (by first | (with_reducible assumption) | assumption)
        obtain ⟨ad109, e109, hx109_0, hx109_1, hx109_2⟩ := at_T35 HR1.out x5_1 p109 q109
        cases e109
        replace p109 := eq_true p109
        replace q109 := eq_true q109
        go_wp2
        repeat (go_quiet (fail); try go_wp2)
        go_ret
        exact ⟨by first | rfl | (simp; done) | (simp [*]; done), by repeat (first | exact Drawn0.refl _ | apply Drawn0.step)⟩
       ·rw [if_neg c7] at H
        have c7b0 : (!(((rd_T35 l0 x5_1).f0) == ((rd_T35 l1 x5_1).f0)) || (!(((rd_T35 l0 x5_1).f1) == ((rd_T35 l1 x5_1).f1)) || (!(((rd_T35 l0 x5_1).f2) == ((rd_T35 l1 x5_1).f2))))) = false := by simpa using c7
        clear c7
        have H' := Aside0.mk H
        clear H
        have p108 : 0 ≤ (x5_1 : Int) := of_decide_eq_true (by first | (with_reducible assumption) | assumption)
        have q108 : x5_1 < (l0.length : Int) := of_decide_eq_true (by first | (with_reducible assumption) | assumption)
        obtain ⟨ad108, e108, hx108_0, hx108_1, hx108_2⟩ := at_T35 HR0.out x5_1 p108 q108
        cases e108
        replace p108 := eq_true p108
        replace q108 := eq_true q108
        have p109 : 0 ≤ (x5_1 : Int) := of_decide_eq_true (by first | (with_reducible assumption) | assumption)
        have q109 : x5_1 < (l1.length : Int) := of_decide_eq_true (by first | (with_reducible assumption) | assumption)
        obtain ⟨ad109, e109, hx109_0, hx109_1, hx109_2⟩ := at_T35 HR1.out x5_1 p109 q109
        cases e109
        replace p109 := eq_true p109
        replace q109 := eq_true q109
        go_wp2
        repeat (go_quiet (fail); try go_wp2)
        go_roundg k1
        case measure => have := HK1.out; omega
        case rel => exact ⟨(wrap64 (x5_1 + 1)), (by first | rfl | (simp; done) | (simp [*]; done)), H', ⟨by have := HK1.out; omega⟩, by repeat (first | exact Drawn0.refl _ | apply Drawn0.step)⟩
      ·rw [if_neg c6] at H
       exact absurd H (by simp)
     ·rw [if_neg c5] at H
      exact absurd H (by simp)
    ·rw [if_neg c4] at H
     have c4b0 : decide (x5_1 < (l0.length : Int)) = false := decide_eq_false c4
     clear c4
     obtain rfl := Option.some.inj H
     go_wp2
     repeat (go_quiet (fail); try go_wp2)
     go_ret
     exact ⟨by first | rfl | (simp; done) | (simp [*]; done), by repeat (first | exact Drawn0.refl _ | apply Drawn0.step)⟩
 ·rw [if_neg c3] at H
  have c3b0 : ((l0.length : Int) == (l1.length : Int)) = false := beq_eq_false_iff_ne.mpr c3
  have c3b1 : ((l0.length : Int) != (l1.length : Int)) = true := bne_iff_ne.mpr c3
  have c3b2 : (l0.length == l1.length) = false := by first | simpa using c3 | (simp at c3 ⊢; omega)
  obtain rfl := Option.some.inj H
  go_enter Try.func14, Try.ntmps14
  go_wp2
  repeat (go_quiet (fail); try go_wp2)
  go_ret
  exact ⟨by first | rfl | (simp; done) | (simp [*]; done), by repeat (first | exact Drawn0.refl _ | apply Drawn0.step)⟩

end Go.Proofs.Ytfgonglcmgahkab.P

namespace Go.Proofs.Ytfgonglcmgahkab.P
open Go.RowKit Go.Proofs.YtfgonglcmgahkabW.PrintWords Go.Proofs.YtfgonglcmgahkabW.PrintLast Go.Proofs.YtfgonglcmgahkabW.PrintMore
attribute [local go_sem] max2_int min2_int max_two min_two   -- for this text's walks alone
set_option linter.unusedVariables false
set_option linter.unusedSimpArgs false

/-! ### vivariumlaw23_alive: function 9 -/
-- EXT Derived.RangeFuncBox Derived.Deep.DeepMust Derived.Test.@NP@F{vivarium/plain.Read} Derived.Test.@NP@F{vivarium/plain.Write} Derived.Test.@NP@F{vivarium/vivariumlaw23.same}
open Go.Proofs.Ytfgonglcmgahkab.L
theorem lit_R (W : World) (base : Nat) (hb : base ≤ W.heap.size) (xs : List Cl) (cs : Array Value) (h : cs.toList = flatC xs) (hl : xs.length ≤ 1000) (hz : cs.size = xs.length * 3) :
  Kd.R k35 35 (W.alloc (.cells cs 35)) base (fun _ => True) (.slice (some ⟨W.heap.size, 0, none⟩) xs.length xs.length) xs := by
 have hf : (flatC xs).length = xs.length * 3 := by rw [← h, Array.length_toList, hz]
 refine ⟨fun _ _ => trivial, flatC xs, ⟨hf, .inr ⟨W.heap.size, xs.length, cs, rfl, hb, blk_new W _, Nat.le_refl _, by unfold maxLen; omega, hz, ?_⟩⟩, flatC_reps _ _ _ _ xs rfl⟩
 rw [h]
 exact List.take_of_length_le (by rw [hf]; exact Nat.le_refl _)
theorem al_1 : plain_Read.f ⟨#[33, 97, 10, 46, 79, 46, 10, 46, 46, 42, 10]⟩ = some ([⟨1, 0, 1⟩, ⟨2, 1, 1⟩], 0, 0) := by kernel_rfl
theorem al_2 : plain_Write.f [⟨1, 0, 1⟩, ⟨0, 1, 2⟩, ⟨9, 9, 3⟩] 0 0 2 2 = some (⟨#[46, 79, 10, 226, 160, 130, 46, 10]⟩, 0) := by kernel_rfl
theorem al_3 : plain_Read.f ⟨#[46, 120]⟩ = some ([], 1, 230) := by kernel_rfl
theorem al_4 : vivariumlaw23_same.f 10 [⟨1, 0, 1⟩, ⟨2, 1, 1⟩] [⟨1, 0, 1⟩, ⟨2, 1, 1⟩] = some true := by kernel_rfl
theorem alive_w (l : List Cl) (s : ByteArray) (hl : l.length = 3) (hf : flatC l = [.int .i64 1, .int .i64 0, .int .u8 1, .int .i64 0, .int .i64 1, .int .u8 2, .int .i64 9, .int .i64 9, .int .u8 3]) (hW : plain_Write.f l 0 0 2 2 = some (s, 0)) (w1 : World) :
  Calls Try.prog 12 #[.slice (some ⟨w1.heap.size, 0, none⟩) 3 3, .agg #[.int .i64 0, .int .i64 0, .int .i64 2, .int .i64 2]] (w1.alloc (.cells #[.int .i64 1, .int .i64 0, .int .u8 1, .int .i64 0, .int .i64 1, .int .u8 2, .int .i64 9, .int .i64 9, .int .u8 3] 35)) fun e w' => e = .returned (.tuple #[.string s, .int .i64 0]) ∧ Below (w1.alloc (.cells #[.int .i64 1, .int .i64 0, .int .u8 1, .int .i64 0, .int .i64 1, .int .u8 2, .int .i64 9, .int .i64 9, .int .u8 3] 35)).heap.size (w1.alloc (.cells #[.int .i64 1, .int .i64 0, .int .u8 1, .int .i64 0, .int .i64 1, .int .u8 2, .int .i64 9, .int .i64 9, .int .u8 3] 35)) w' := by
 have hR := lit_R w1 0 (Nat.zero_le _) l #[.int .i64 1, .int .i64 0, .int .u8 1, .int .i64 0, .int .i64 1, .int .u8 2, .int .i64 9, .int .i64 9, .int .u8 3] hf.symm (by omega) (by rw [hl]; rfl)
 have h := plain_Write.calls (some ⟨w1.heap.size, 0, none⟩) l.length l 0 0 2 2 s 0 (w1.alloc (.cells #[.int .i64 1, .int .i64 0, .int .u8 1, .int .i64 0, .int .i64 1, .int .u8 2, .int .i64 9, .int .i64 9, .int .u8 3] 35)) (Kd.R_reads' hR).2.2 (Nat.le_refl _) hW
 rw [hl] at h
 exact h
theorem alive_s (l : List Cl) (A : Option Addr) (c : Nat) (hl : l.length = 2) (hf : flatC l = [.int .i64 1, .int .i64 0, .int .u8 1, .int .i64 2, .int .i64 1, .int .u8 1]) (hS : vivariumlaw23_same.f 10 l l = some true) (w3 : World) (hC : Kd.C k35 (w3.alloc (.cells #[.int .i64 1, .int .i64 0, .int .u8 1, .int .i64 2, .int .i64 1, .int .u8 1] 35)) A l.length l) (hc : l.length ≤ c) :
  Calls Try.prog 14 #[.slice A l.length c, .slice (some ⟨w3.heap.size, 0, none⟩) 2 2] (w3.alloc (.cells #[.int .i64 1, .int .i64 0, .int .u8 1, .int .i64 2, .int .i64 1, .int .u8 1] 35)) fun e w' => e = .returned (.bool true) ∧ Drawn0 (w3.alloc (.cells #[.int .i64 1, .int .i64 0, .int .u8 1, .int .i64 2, .int .i64 1, .int .u8 1] 35)) w' := by
 have hR := lit_R w3 0 (Nat.zero_le _) l #[.int .i64 1, .int .i64 0, .int .u8 1, .int .i64 2, .int .i64 1, .int .u8 1] hf.symm (by omega) (by rw [hl]; rfl)
 have h := vivariumlaw23_same.calls 10 A c l (some ⟨w3.heap.size, 0, none⟩) l.length l true (w3.alloc (.cells #[.int .i64 1, .int .i64 0, .int .u8 1, .int .i64 2, .int .i64 1, .int .u8 1] 35)) hC hc (Kd.R_reads' hR).2.2 (Nat.le_refl _) hS
 rw [hl] at h ⊢
 exact h
set_option maxRecDepth 100000 in
set_option maxHeartbeats 4000000 in
theorem alive_walk (l l2 : List Cl) (s : ByteArray) (hl : l.length = 3) (hf : flatC l = [.int .i64 1, .int .i64 0, .int .u8 1, .int .i64 0, .int .i64 1, .int .u8 2, .int .i64 9, .int .i64 9, .int .u8 3]) (hW : plain_Write.f l 0 0 2 2 = some (s, 0))
  (hb : (s.toList == ([46, 79, 10, 226, 160, 130, 46, 10] : List UInt8)) = true) (hl2 : l2.length = 2) (hf2 : flatC l2 = [.int .i64 1, .int .i64 0, .int .u8 1, .int .i64 2, .int .i64 1, .int .u8 1]) (hS : vivariumlaw23_same.f 10 l2 l2 = some true) (h1 : plain_Read.f (⟨#[33, 97, 10, 46, 79, 46, 10, 46, 46, 42, 10]⟩ : ByteArray) = some (l2, 0, 0)) (h3 : plain_Read.f (⟨#[46, 120]⟩ : ByteArray) = some ([], 1, 230)) (w : World) : Calls Try.prog 9 #[] w fun e w' => e = .returned (.bool true) ∧ Below w.heap.size w w' := by
 have HW := Aside0.mk hW
 have HF := Aside0.mk hf
 have HF2 := Aside0.mk hf2
 have HS := Aside0.mk hS
 have H1 := Aside0.mk h1
 have H3 := Aside0.mk h3
 have HL := Aside0.mk hl
 have HL2 := Aside0.mk hl2
 clear hW hf hf2 hS h1 h3 hl hl2
 go_enter Try.func9, Try.ntmps9
 go_wp2_with (go_at_call 13; go_must (refine (plain_Read.calls (⟨#[33, 97, 10, 46, 79, 46, 10, 46, 46, 42, 10]⟩ : ByteArray) _ _ _ _ H1.out).mono ?_; rintro e w1 ⟨v1, rfl, hR1, hb1⟩; obtain ⟨A1, c1, rfl⟩ := Kd.R_slice hR1; have HR1 := Aside0.mk hR1; have HB1 := Aside0.mk hb1; clear hR1 hb1))
 refine (alive_w l s HL.out HF.out HW.out w1).mono ?_
 rintro e w2 ⟨rfl, hb2⟩
 have HB2 := Aside0.mk hb2
 clear hb2
 go_wp2_with (go_at_call 13; go_must (refine (plain_Read.calls (⟨#[46, 120]⟩ : ByteArray) _ _ _ _ H3.out).mono ?_; rintro e w3 ⟨v3, rfl, hR3, hb3⟩; obtain ⟨A3, c3, rfl⟩ := Kd.R_slice hR3; have HB3 := Aside0.mk hb3; clear hR3 hb3))
 have c12 := ((Below.refl w1.heap.size w1).alloc (Nat.le_refl _) _).trans (HB2.out.mono (by simp))
 have c13 := c12.trans (HB3.out.mono c12.size)
 have c14 := c13.alloc c13.size (.cells #[.int .i64 1, .int .i64 0, .int .u8 1, .int .i64 2, .int .i64 1, .int .u8 1] 35)
 have HC14 := Aside0.mk (HB1.out.trans (c14.mono HB1.out.size))
 refine (alive_s l2 A1 c1 HL2.out HF2.out HS.out w3 (Kd.C_below (Kd.R_reads' HR1.out).2.2 c14) (Kd.R_reads' HR1.out).2.1).mono ?_
 rintro e w4 ⟨rfl, hd⟩
 have HD := Aside0.mk (HC14.out.trans (hd.below.mono HC14.out.size))
 clear hd c12 c13 c14
 go_wp2
 go_ret
 exact ⟨rfl, HD.out⟩
/-- The examples answer as the document says. -/
def vivariumlaw23_alive.f : Option Bool := some true
theorem vivariumlaw23_alive.calls (r : Bool) (w : World) (h : vivariumlaw23_alive.f = some r) : Calls Try.prog 9 #[] w fun e w' => e = .returned (.bool r) ∧ Below w.heap.size w w' := by
 cases h
 exact alive_walk [⟨1, 0, 1⟩, ⟨0, 1, 2⟩, ⟨9, 9, 3⟩] [⟨1, 0, 1⟩, ⟨2, 1, 1⟩] _ rfl rfl al_2 (by rw [ByteArray.toList_eq]; decide) rfl rfl al_4 al_1 al_3 w

end Go.Proofs.Ytfgonglcmgahkab.P

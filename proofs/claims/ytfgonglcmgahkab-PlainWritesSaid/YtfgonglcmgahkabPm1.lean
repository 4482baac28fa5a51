-- Written by a program of this session (wip/tools/mk.py) that runs the kit's printer; several functions' texts in one.
import Derived.Test.YtfgonglcmgahkabP0
import Derived.Test.YtfgonglcmgahkabPm0
import Derived.Test.YtfgonglcmgahkabPlainStates
import Derived.Test.YtfgonglcmgahkabPlainDrawn
import Derived.RangeFuncBox
import Derived.OpenShut
import Derived.Maps.OwnOps
import Derived.Deep.DeepMust
namespace Go.Proofs.Ytfgonglcmgahkab.P
open Go.RowKit Go.Proofs.YtfgonglcmgahkabW.PrintWords Go.Proofs.YtfgonglcmgahkabW.PrintLast Go.Proofs.YtfgonglcmgahkabW.PrintMore
attribute [local go_sem] max2_int min2_int max_two min_two   -- for this text's walks alone
set_option linter.unusedVariables false
set_option linter.unusedSimpArgs false

/-! ### plain_Write: function 12 -/
-- EXT Derived.Test.@NPlainStates Derived.Test.@NPlainDrawn Derived.Test.@NP@F{vivarium/plain.Sign} Derived.Test.@NP@F{vivarium/plain.far} Derived.RangeFuncBox Derived.OpenShut Derived.Maps.OwnOps Derived.Deep.DeepMust
open Go.Proofs.Ytfgonglcmgahkab.L Go.Maps
/-- The state that the map tells of a place. -/
def mapAt (D : DataW Unit) (x y : Int) : Int := match D.atKey (klP x y) (.lit (.int .u8 0)) with
 | .lit (.int .u8 c) => if 0 ≤ c ∧ c ≤ 255 then c else 0
 | _ => 0
def signP (a0 : Int) : Int := if a0 = 0 then 46 else if a0 = 1 then 79 else 10240 + a0
theorem sign_is (a : Int) (h0 : 0 ≤ a) (h1 : a ≤ 255) : plain_Sign.f a = some (signP a) := by
 unfold plain_Sign.f signP
 by_cases c0 : a = 0
 ·rw [if_pos c0, if_pos c0]
 ·rw [if_neg c0, if_neg c0]
  by_cases c1 : a = 1
  ·rw [if_pos c1, if_pos c1]
  ·rw [if_neg c1, if_neg c1]
   have e : wrap32 (10240 + wrap32 a) = 10240 + a := by unfold wrap32; omega
   rw [e]
/-- The rune of a place of the rectangle. -/
def runeP (D : DataW Unit) (X Y x y : Int) : Int := signP (mapAt D (wrap64 (X + x)) (wrap64 (Y + y)))
theorem mapAt_of {D : DataW Unit} {x y c : Int} (h : D.atKey (klP x y) (.lit (.int .u8 0)) = .lit (.int .u8 c)) (hc : 0 ≤ c ∧ c ≤ 255) : mapAt D x y = c := by unfold mapAt; rw [h]; exact if_pos hc
theorem mapAt_range (D : DataW Unit) (x y : Int) : 0 ≤ mapAt D x y ∧ mapAt D x y ≤ 255 := by
 unfold mapAt
 split
 ·split <;> omega
 ·omega
set_option maxRecDepth 100000 in
set_option maxHeartbeats 4000000 in
theorem write1_calls (B n Bm Br : Nat) (D : DataW Unit) (X Y W H : Int) (x y : Int) (w : World) (hm : w.heap[Bm]? = some (.cells #[.map (some B)] 50 (0, 0))) (hr : w.heap[Br]? = some (.cells #[.int .i64 X, .int .i64 Y, .int .i64 W, .int .i64 H] 23 (0, 0)))
  (hown : w.ownsMap Try.prog 55 (plainElem Try.prog 5) B n D) :
  Calls Try.prog 26 #[.int .i64 x, .int .i64 y, .pointer (some ⟨Bm, 0, none⟩), .pointer (some ⟨Br, 0, none⟩)] w fun e w' => e = .returned (.int .i32 (runeP D X Y x y)) ∧ Below w.heap.size w w' := by
 have cm := blk_cell hm 0
 have r0 := blk_cell hr 0
 have r1 := blk_cell hr 1
 have hz : ∀ w : World, (zeroValue 5).run Try.prog w = .ok (.int .u8 0) w := fun w => by kernel_rfl
 go_enter Try.func26, Try.ntmps26
 go_wp2_with (first | (at_lookup; go_must (refine wpList_lookup_own_int _ rfl _ _ 50 rfl 55 5 .u8 pkey Try.underlying50 Try.underlying5 (hz _) B n D rfl hown _ _ rfl (key_of (wrap64 (X + x)) (wrap64 (Y + y)) (wrap64_wf _) (wrap64_wf _)) ?_; intro c hat hwc)) | (go_at_call 15; go_must (have hcb := Go.bounds_u8 hwc; refine (plain_Sign.calls c (signP c) _ (sign_is c (by omega) (by omega))).mono ?_; rintro e w2 ⟨rfl, hd⟩; have hdb := hd.below; clear hd)))
 go_ret
 refine ⟨?_, hdb⟩
 unfold runeP
 rw [mapAt_of hat (Go.bounds_u8 hwc)]
 rfl
theorem rune_range (D : DataW Unit) (X Y x y : Int) : -2147483648 ≤ runeP D X Y x y ∧ runeP D X Y x y ≤ 2147483647 := by
 have h := mapAt_range D (wrap64 (X + x)) (wrap64 (Y + y))
 unfold runeP signP
 obtain ⟨a, ha⟩ : ∃ a, mapAt D (wrap64 (X + x)) (wrap64 (Y + y)) = a := ⟨_, rfl⟩
 rw [ha] at h ⊢
 split
 ·omega
 ·split <;> omega
theorem stE_ok {T : DataW Unit × Int × Bool} {X Y W H : Int} (h : stE T X Y W H = 0) : 0 ≤ W ∧ W ≤ 65536 ∧ 0 ≤ H ∧ H ≤ 65536 := by
 unfold stE at h
 by_cases c0 : T.2.2 = true
 ·rw [if_pos c0] at h; exact absurd h (by decide)
 ·rw [if_neg c0] at h
  by_cases c1 : (Maps.size T.1 : Int) < T.2.1
  ·rw [if_pos c1] at h; exact absurd h (by decide)
  ·rw [if_neg c1] at h
   by_cases c2 : W < 0 ∨ 65536 < W ∨ H < 0 ∨ 65536 < H
   ·rw [if_pos c2] at h; exact absurd h (by decide)
   ·omega
theorem WB_none {W W' : World} (h : Below W.heap.size W W') : W.grownBy W' none := ⟨h.os, h.tape, h.output, h.size, fun k hk _ => h.block k hk⟩
set_option maxRecDepth 100000 in
set_option maxHeartbeats 4000000 in
theorem Write_walk (A0 : Option Addr) (c0 : Nat) (xs : List ClS) (X Y W H : Int) (w : World) (hC : Kd.C k35 w A0 xs.length xs) (hc : xs.length ≤ c0) (hlen : xs.length ≤ 1000000000)
  (hwf : ∀ x ∈ xs, (Lit.int .i64 x.f0).wf = true ∧ (Lit.int .i64 x.f1).wf = true ∧ (Lit.int .u8 x.f2).wf = true) (hW : (Lit.int .i64 W).wf = true) (hH : (Lit.int .i64 H).wf = true) (hX : (Lit.int .i64 X).wf = true) (hY : (Lit.int .i64 Y).wf = true) :
  Calls Try.prog 12 #[.slice A0 xs.length c0, .agg #[.int .i64 X, .int .i64 Y, .int .i64 W, .int .i64 H]] w fun e w' =>
   e = .returned (.tuple #[.string (if stE (stD xs (.map []) 0) X Y W H = 0 then (drawnP (runeP (stD xs (.map []) 0).1 X Y) W H).1 else ⟨#[]⟩), .int .i64 (if stE (stD xs (.map []) 0) X Y W H = 0 then (drawnP (runeP (stD xs (.map []) 0).1 X Y) W H).2 else stE (stD xs (.map []) 0) X Y W H)]) ∧ Below w.heap.size w w' := by
 have hCC := Aside0.mk hC
 have hWF := Aside0.mk hwf
 clear hC hwf
 obtain ⟨T, hT⟩ : ∃ T, stD xs (.map []) 0 = T := ⟨_, rfl⟩
 obtain ⟨E, hE⟩ : ∃ E, stE T X Y W H = E := ⟨_, rfl⟩
 rw [hT, hE]
 have hTT := Aside0.mk hT
 have hEE := Aside0.mk hE
 clear hT hE
 have ef : ∀ args w, (callFunc 26 args).run Try.prog w = .ok (.enter 26 args) w := enters_of Try.func26 (by kernel_rfl) rfl
 by_cases e0 : E = 0
 ·subst e0
  have hb := stE_ok hEE.out
  obtain ⟨W, rfl⟩ : ∃ m : Nat, W = m := ⟨W.toNat, by omega⟩
  obtain ⟨H, rfl⟩ : ∃ m : Nat, H = m := ⟨H.toNat, by omega⟩
  go_enter Try.func12, Try.ntmps12
  go_wp2_with (first | (go_at_call 24; go_must (refine (states_calls A0 c0 xs X Y W H _ (Kd.C_below hCC.out ((Below.refl _ w).alloc (Nat.le_refl _) _)) hc hlen hWF.out hW hH hX hY).mono ?_; rintro e w2 ⟨hst, hb2⟩; rw [hTT.out, hEE.out] at hst; rcases hst with ⟨hst, _⟩ | ⟨_, B, hB, rfl, n, hown⟩; (exact absurd rfl hst); have hbx := (hb2.block w.heap.size (by simp)).trans (blk_new w _); have HB2 := Aside0.mk hb2; have HOW := Aside0.mk hown; have HBX := Aside0.mk hbx; have hby := (Below.heap_alloc w2 (.cells #[.map (some B)] 50) w.heap.size (Array.getElem?_eq_some_iff.1 hbx).1).trans hbx; have cx2 := blk_cell hby 2; have cx3 := blk_cell hby 3; clear hb2 hown hbx)) | (go_at_call 25; go_must (refine (drawn_calls 26 #[.pointer (some ⟨w2.heap.size, 0, none⟩), .pointer (some ⟨w.heap.size, 0, none⟩)] ef (runeP T.1 X Y) (rune_range T.1 X Y) W H (by omega) (by omega) (w2.alloc (.cells #[.map (some B)] 50)) (fun x y w1 hx hy hb => write1_calls B n w2.heap.size w.heap.size T.1 X Y W H x y w1 ((hb.block _ (by simp)).trans (blk_new w2 _)) ((hb.block _ (by have := (Array.getElem?_eq_some_iff.1 HBX.out).1; simp; omega)).trans hby) (((HOW.out.alloc _).kept (WB_none hb) (by simp))))).mono ?_; rintro e w3 ⟨rfl, hb3⟩; have HB3 := Aside0.mk hb3; clear hb3)))
  go_ret2
  have s2 := HB2.out.size
  simp at s2
  exact ⟨rfl, ((((Below.refl _ w).alloc (Nat.le_refl _) _).trans (HB2.out.mono (by simp))).alloc (by omega) _).trans (HB3.out.mono (by simp; omega))⟩
 ·have b0 : (E == 0) = false := beq_eq_false_iff_ne.mpr e0
  have b1 : (E != 0) = true := bne_iff_ne.mpr e0
  have E0 := Aside0.mk e0
  clear e0
  go_enter Try.func12, Try.ntmps12
  go_wp2_with (go_at_call 24; go_must (refine (states_calls A0 c0 xs X Y W H _ (Kd.C_below hCC.out ((Below.refl _ w).alloc (Nat.le_refl _) _)) hc hlen hWF.out hW hH hX hY).mono ?_; rintro e w2 ⟨hst, hb2⟩; rw [hTT.out, hEE.out] at hst; rcases hst with ⟨_, rfl⟩ | ⟨hst, _⟩; rotate_left; (exact absurd hst E0.out); have HB2 := Aside0.mk hb2; clear hb2))
  go_ret2
  have s2 := HB2.out.size
  simp at s2
  exact ⟨rfl, ((((Below.refl _ w).alloc (Nat.le_refl _) _).trans (HB2.out.mono (by simp))).alloc (by omega) _)⟩
/-- The picture of cells in a rectangle, or the error. -/
def plain_Write.f (l0 : List ClS) (X Y W H : Int) : Option (ByteArray × Int) :=
 if l0.length ≤ 1000000000 ∧ (l0.all fun x => (Lit.int .i64 x.f0).wf && ((Lit.int .i64 x.f1).wf && (Lit.int .u8 x.f2).wf)) = true ∧ (Lit.int .i64 X).wf = true ∧ (Lit.int .i64 Y).wf = true ∧ (Lit.int .i64 W).wf = true ∧ (Lit.int .i64 H).wf = true then
  some (if stE (stD l0 (.map []) 0) X Y W H = 0 then (drawnP (runeP (stD l0 (.map []) 0).1 X Y) W H).1 else ⟨#[]⟩, if stE (stD l0 (.map []) 0) X Y W H = 0 then (drawnP (runeP (stD l0 (.map []) 0).1 X Y) W H).2 else stE (stD l0 (.map []) 0) X Y W H)
 else none
theorem plain_Write.calls (A0 : Option Addr) (c0 : Nat) (l0 : List S35) (a1_0 a1_1 a1_2 a1_3 : Int) (r1 : ByteArray) (r2 : Int) (w : World) (hr0 : Kd.C k35 w A0 l0.length l0) (hc0 : l0.length ≤ c0) (h : plain_Write.f l0 a1_0 a1_1 a1_2 a1_3 = some (r1, r2)) :
  Calls Try.prog 12 #[.slice A0 l0.length c0, .agg #[.int .i64 a1_0, .int .i64 a1_1, .int .i64 a1_2, .int .i64 a1_3]] w fun e w' => e = .returned (.tuple #[.string r1, .int .i64 r2]) ∧ Below w.heap.size w w' := by
 unfold plain_Write.f at h
 by_cases c : l0.length ≤ 1000000000 ∧ (l0.all fun x => (Lit.int .i64 x.f0).wf && ((Lit.int .i64 x.f1).wf && (Lit.int .u8 x.f2).wf)) = true ∧ (Lit.int .i64 a1_0).wf = true ∧ (Lit.int .i64 a1_1).wf = true ∧ (Lit.int .i64 a1_2).wf = true ∧ (Lit.int .i64 a1_3).wf = true
 ·rw [if_pos c] at h
  cases h
  obtain ⟨h1, h2, h3, h4, h5, h6⟩ := c
  exact Write_walk A0 c0 l0 a1_0 a1_1 a1_2 a1_3 w hr0 hc0 h1 (fun x hx => by
   have := List.all_eq_true.1 h2 x hx
   simp only [Bool.and_eq_true] at this
   exact ⟨this.1, this.2.1, this.2.2⟩) h5 h6 h3 h4
 ·rw [if_neg c] at h; cases h

end Go.Proofs.Ytfgonglcmgahkab.P

namespace Go.Proofs.Ytfgonglcmgahkab.P
open Go.RowKit Go.Proofs.YtfgonglcmgahkabW.PrintWords Go.Proofs.YtfgonglcmgahkabW.PrintLast Go.Proofs.YtfgonglcmgahkabW.PrintMore
attribute [local go_sem] max2_int min2_int max_two min_two   -- for this text's walks alone
set_option linter.unusedVariables false
set_option linter.unusedSimpArgs false

/-! ### plain_Halves: function 17 -/
-- EXT Derived.Test.@NP@F{vivarium/plain.Write} Derived.Test.@NPlainStates Derived.Test.@NPlainDrawn Derived.RangeFuncBox Derived.OpenShut Derived.Maps.OwnOps Derived.Deep.DeepMust
open Go.Proofs.Ytfgonglcmgahkab.L Go.Maps
/-- The rune of two places, one below the other. -/
def halfP (D : DataW Unit) (X Y H x y : Int) : Int :=
 if mapAt D (wrap64 (X + x)) (wrap64 (Y + wrap64 (2 * y))) = 0 then
  (if wrap64 (wrap64 (2 * y) + 1) < H then (if mapAt D (wrap64 (X + x)) (wrap64 (wrap64 (Y + wrap64 (2 * y)) + 1)) = 0 then 32 else 9604) else 32)
 else (if wrap64 (wrap64 (2 * y) + 1) < H then (if mapAt D (wrap64 (X + x)) (wrap64 (wrap64 (Y + wrap64 (2 * y)) + 1)) = 0 then 9600 else 9608) else 9600)
theorem half_range (D : DataW Unit) (X Y H x y : Int) : -2147483648 ≤ halfP D X Y H x y ∧ halfP D X Y H x y ≤ 2147483647 := by
 unfold halfP
 repeat' split
 all_goals decide
set_option maxRecDepth 100000 in
set_option maxHeartbeats 4000000 in
theorem halves1_calls (B n Bm Br Bb g : Nat) (D : DataW Unit) (X Y W H : Int) (x y : Int) (w : World) (hm : w.heap[Bm]? = some (.cells #[.map (some B)] 50 (0, 0))) (hr : w.heap[Br]? = some (.cells #[.int .i64 X, .int .i64 Y, .int .i64 W, .int .i64 H] 23 (0, 0)))
  (hb : w.heap[Bb]? = some (.cells #[.slice (some ⟨g, 0, none⟩) 4 4] 61 (0, 0))) (hg : w.heap[g]? = some (.cells #[.int .i32 32, .int .i32 9600, .int .i32 9604, .int .i32 9608] 21 (0, 0)))
  (hown : w.ownsMap Try.prog 55 (plainElem Try.prog 5) B n D) :
  Calls Try.prog 29 #[.int .i64 x, .int .i64 y, .pointer (some ⟨Bm, 0, none⟩), .pointer (some ⟨Br, 0, none⟩), .pointer (some ⟨Bb, 0, none⟩)] w fun e w' => e = .returned (.int .i32 (halfP D X Y H x y)) ∧ Below w.heap.size w w' := by
 have cm := blk_cell hm 0
 have r0 := blk_cell hr 0
 have r1 := blk_cell hr 1
 have r3 := blk_cell hr 3
 have cb := blk_cell hb 0
 have g0 := blk_cell hg 0
 have g1 := blk_cell hg 1
 have g2 := blk_cell hg 2
 have g3 := blk_cell hg 3
 have hz : ∀ w : World, (zeroValue 5).run Try.prog w = .ok (.int .u8 0) w := fun w => by kernel_rfl
 obtain ⟨c1, hrun1, hat1, hw1⟩ := hown.lookup_int pkey Try.underlying50 Try.underlying5 (hz w) (key_of (wrap64 (X + x)) (wrap64 (Y + wrap64 (2 * y))) (wrap64_wf _) (wrap64_wf _))
 obtain ⟨c2, hrun2, hat2, hw2⟩ := hown.lookup_int pkey Try.underlying50 Try.underlying5 (hz w) (key_of (wrap64 (X + x)) (wrap64 (wrap64 (Y + wrap64 (2 * y)) + 1)) (wrap64_wf _) (wrap64_wf _))
 have m1 := mapAt_of hat1 (Go.bounds_u8 hw1)
 have m2 := mapAt_of hat2 (Go.bounds_u8 hw2)
 clear hat1 hat2 hw1 hw2 hown hm hr hb hg
 have hP : ∀ r, halfP D X Y H x y = r → (Calls Try.prog 29 #[.int .i64 x, .int .i64 y, .pointer (some ⟨Bm, 0, none⟩), .pointer (some ⟨Br, 0, none⟩), .pointer (some ⟨Bb, 0, none⟩)] w fun e w' => e = .returned (.int .i32 r) ∧ Below w.heap.size w w') → Calls Try.prog 29 #[.int .i64 x, .int .i64 y, .pointer (some ⟨Bm, 0, none⟩), .pointer (some ⟨Br, 0, none⟩), .pointer (some ⟨Bb, 0, none⟩)] w fun e w' => e = .returned (.int .i32 (halfP D X Y H x y)) ∧ Below w.heap.size w w' := fun r h hc => by rw [h]; exact hc
 by_cases k1 : c1 = 0
 ·have b1 : (c1 != 0) = false := bne_eq_false_iff_eq.mpr k1
  by_cases k3 : wrap64 (wrap64 (2 * y) + 1) < H
  ·have b3 : decide (wrap64 (wrap64 (2 * y) + 1) < H) = true := decide_eq_true k3
   by_cases k2 : c2 = 0
   ·have b2 : (c2 != 0) = false := bne_eq_false_iff_eq.mpr k2
    refine hP 32 (by unfold halfP; rw [m1, m2, if_pos k1, if_pos k3, if_pos k2]) ?_
    clear k1 k2 k3 hP
    go_enter Try.func29, Try.ntmps29
    go_wp2
    go_ret
    exact ⟨rfl, Below.refl _ _⟩
   ·have b2 : (c2 != 0) = true := bne_iff_ne.mpr k2
    refine hP 9604 (by unfold halfP; rw [m1, m2, if_pos k1, if_pos k3, if_neg k2]) ?_
    clear k1 k2 k3 hP
    go_enter Try.func29, Try.ntmps29
    go_wp2
    go_ret
    exact ⟨rfl, Below.refl _ _⟩
  ·have b3 : decide (wrap64 (wrap64 (2 * y) + 1) < H) = false := decide_eq_false k3
   refine hP 32 (by unfold halfP; rw [m1, if_pos k1, if_neg k3]) ?_
   clear k1 k3 hP
   go_enter Try.func29, Try.ntmps29
   go_wp2
   go_ret
   exact ⟨rfl, Below.refl _ _⟩
 ·have b1 : (c1 != 0) = true := bne_iff_ne.mpr k1
  by_cases k3 : wrap64 (wrap64 (2 * y) + 1) < H
  ·have b3 : decide (wrap64 (wrap64 (2 * y) + 1) < H) = true := decide_eq_true k3
   by_cases k2 : c2 = 0
   ·have b2 : (c2 != 0) = false := bne_eq_false_iff_eq.mpr k2
    refine hP 9600 (by unfold halfP; rw [m1, m2, if_neg k1, if_pos k3, if_pos k2]) ?_
    clear k1 k2 k3 hP
    go_enter Try.func29, Try.ntmps29
    go_wp2
    go_ret
    exact ⟨rfl, Below.refl _ _⟩
   ·have b2 : (c2 != 0) = true := bne_iff_ne.mpr k2
    refine hP 9608 (by unfold halfP; rw [m1, m2, if_neg k1, if_pos k3, if_neg k2]) ?_
    clear k1 k2 k3 hP
    go_enter Try.func29, Try.ntmps29
    go_wp2
    go_ret
    exact ⟨rfl, Below.refl _ _⟩
  ·have b3 : decide (wrap64 (wrap64 (2 * y) + 1) < H) = false := decide_eq_false k3
   refine hP 9600 (by unfold halfP; rw [m1, if_neg k1, if_neg k3]) ?_
   clear k1 k3 hP
   go_enter Try.func29, Try.ntmps29
   go_wp2
   go_ret
   exact ⟨rfl, Below.refl _ _⟩
set_option maxRecDepth 100000 in
set_option maxHeartbeats 4000000 in
theorem Halves_walk (A0 : Option Addr) (c0 : Nat) (xs : List ClS) (X Y W H : Int) (w : World) (hC : Kd.C k35 w A0 xs.length xs) (hc : xs.length ≤ c0) (hlen : xs.length ≤ 1000000000)
  (hwf : ∀ x ∈ xs, (Lit.int .i64 x.f0).wf = true ∧ (Lit.int .i64 x.f1).wf = true ∧ (Lit.int .u8 x.f2).wf = true) (hW : (Lit.int .i64 W).wf = true) (hH : (Lit.int .i64 H).wf = true) (hX : (Lit.int .i64 X).wf = true) (hY : (Lit.int .i64 Y).wf = true) :
  Calls Try.prog 17 #[.slice A0 xs.length c0, .agg #[.int .i64 X, .int .i64 Y, .int .i64 W, .int .i64 H]] w fun e w' =>
   e = .returned (.tuple #[.string (if stE (stD xs (.map []) 0) X Y W H = 0 then (drawnP (halfP (stD xs (.map []) 0).1 X Y H) W ((H + 1) / 2)).1 else ⟨#[]⟩), .int .i64 (if stE (stD xs (.map []) 0) X Y W H = 0 then (drawnP (halfP (stD xs (.map []) 0).1 X Y H) W ((H + 1) / 2)).2 else stE (stD xs (.map []) 0) X Y W H)]) ∧ Below w.heap.size w w' := by
 have hCC := Aside0.mk hC
 have hWF := Aside0.mk hwf
 clear hC hwf
 obtain ⟨T, hT⟩ : ∃ T, stD xs (.map []) 0 = T := ⟨_, rfl⟩
 obtain ⟨E, hE⟩ : ∃ E, stE T X Y W H = E := ⟨_, rfl⟩
 rw [hT, hE]
 have hTT := Aside0.mk hT
 have hEE := Aside0.mk hE
 clear hT hE
 have ef : ∀ args w, (callFunc 29 args).run Try.prog w = .ok (.enter 29 args) w := enters_of Try.func29 (by kernel_rfl) rfl
 by_cases e0 : E = 0
 ·subst e0
  have hb := stE_ok hEE.out
  obtain ⟨W, rfl⟩ : ∃ m : Nat, W = m := ⟨W.toNat, by omega⟩
  obtain ⟨H, rfl⟩ : ∃ m : Nat, H = m := ⟨H.toNat, by omega⟩
  have HQ : Aside0 (((H : Int) + 1) / 2 = (((H + 1) / 2 : Nat) : Int)) := ⟨by omega⟩
  go_enter Try.func17, Try.ntmps17
  go_wp2_with (first | (go_at_call 24; go_must (refine (states_calls A0 c0 xs X Y W H _ (Kd.C_below hCC.out ((Below.refl _ w).alloc (Nat.le_refl _) _)) hc hlen hWF.out hW hH hX hY).mono ?_; rintro e w2 ⟨hst, hb2⟩; rw [hTT.out, hEE.out] at hst; rcases hst with ⟨hst, _⟩ | ⟨_, B, hB, rfl, n, hown⟩; (exact absurd rfl hst); have hbx := (hb2.block w.heap.size (by simp)).trans (blk_new w _); have HB2 := Aside0.mk hb2; have HOW := Aside0.mk hown; have HBX := Aside0.mk hbx; have hby := (Below.heap_alloc w2 (.cells #[.map (some B)] 50) w.heap.size (Array.getElem?_eq_some_iff.1 hbx).1).trans hbx; have hbt := (Below.heap_alloc (w2.alloc (.cells #[.map (some B)] 50)) (.cells #[.int .i32 32, .int .i32 9600, .int .i32 9604, .int .i32 9608] 21) w.heap.size (Array.getElem?_eq_some_iff.1 hby).1).trans hby; have hbu := (Below.heap_alloc ((w2.alloc (.cells #[.map (some B)] 50)).alloc (.cells #[.int .i32 32, .int .i32 9600, .int .i32 9604, .int .i32 9608] 21)) (.cells #[.slice (some ⟨w2.heap.size + 1, 0, none⟩) 4 4] 61) w.heap.size (Array.getElem?_eq_some_iff.1 hbt).1).trans hbt; have cx2 := blk_cell hbu 2; have cx3 := blk_cell hbu 3; clear hb2 hown hbx)) | (go_at_call 25; go_must (rw [HQ.out]; have k1 := (Below.heap_alloc ((w2.alloc (.cells #[.map (some B)] 50)).alloc (.cells #[.int .i32 32, .int .i32 9600, .int .i32 9604, .int .i32 9608] 21)) (.cells #[.slice (some ⟨w2.heap.size + 1, 0, none⟩) 4 4] 61) w2.heap.size (by simp; omega)).trans ((Below.heap_alloc (w2.alloc (.cells #[.map (some B)] 50)) (.cells #[.int .i32 32, .int .i32 9600, .int .i32 9604, .int .i32 9608] 21) w2.heap.size (by simp)).trans (blk_new w2 (.cells #[.map (some B)] 50))); have k2a := blk_new (w2.alloc (.cells #[.map (some B)] 50)) (.cells #[.int .i32 32, .int .i32 9600, .int .i32 9604, .int .i32 9608] 21); have k3 := blk_new ((w2.alloc (.cells #[.map (some B)] 50)).alloc (.cells #[.int .i32 32, .int .i32 9600, .int .i32 9604, .int .i32 9608] 21)) (.cells #[.slice (some ⟨w2.heap.size + 1, 0, none⟩) 4 4] 61); simp only [World.size_alloc] at k2a k3; have k2 := (Below.heap_alloc ((w2.alloc (.cells #[.map (some B)] 50)).alloc (.cells #[.int .i32 32, .int .i32 9600, .int .i32 9604, .int .i32 9608] 21)) (.cells #[.slice (some ⟨w2.heap.size + 1, 0, none⟩) 4 4] 61) (w2.heap.size + 1) (by simp)).trans k2a; have hwl := (Array.getElem?_eq_some_iff.1 HBX.out).1; refine (drawn_calls 29 #[.pointer (some ⟨w2.heap.size, 0, none⟩), .pointer (some ⟨w.heap.size, 0, none⟩), .pointer (some ⟨w2.heap.size + 1 + 1, 0, none⟩)] ef (halfP T.1 X Y H) (half_range T.1 X Y H) W ((H + 1) / 2) (by omega) (by omega) (((w2.alloc (.cells #[.map (some B)] 50)).alloc (.cells #[.int .i32 32, .int .i32 9600, .int .i32 9604, .int .i32 9608] 21)).alloc (.cells #[.slice (some ⟨w2.heap.size + 1, 0, none⟩) 4 4] 61)) (fun x y w1 hx hy hb => halves1_calls B n w2.heap.size w.heap.size (w2.heap.size + 1 + 1) (w2.heap.size + 1) T.1 X Y W H x y w1 ((hb.block _ (by simp; omega)).trans k1) ((hb.block _ (by simp; omega)).trans hbu) ((hb.block _ (by simp)).trans k3) ((hb.block _ (by simp)).trans k2) (((((HOW.out.alloc _).alloc _).alloc _).kept (WB_none hb) (by simp))))).mono ?_; rintro e w3 ⟨rfl, hb3⟩; have HB3 := Aside0.mk hb3; clear hb3 k1 k2 k2a k3)))
  go_ret2
  rw [HQ.out]
  have s2 := HB2.out.size
  simp at s2
  refine ⟨rfl, ?_⟩
  have c1 := (((Below.refl _ w).alloc (Nat.le_refl _) (.cells #[.int .i64 X, .int .i64 Y, .int .i64 W, .int .i64 H] 23)).trans (HB2.out.mono (by simp))).alloc (by omega) (.cells #[.map (some B)] 50)
  have c2 := (c1.alloc (by simp; omega) (.cells #[.int .i32 32, .int .i32 9600, .int .i32 9604, .int .i32 9608] 21)).alloc (by simp; omega) (.cells #[.slice (some ⟨w2.heap.size + 1, 0, none⟩) 4 4] 61)
  exact c2.trans (HB3.out.mono (by simp; omega))
 ·have b0 : (E == 0) = false := beq_eq_false_iff_ne.mpr e0
  have b1 : (E != 0) = true := bne_iff_ne.mpr e0
  have E0 := Aside0.mk e0
  clear e0
  go_enter Try.func17, Try.ntmps17
  go_wp2_with (go_at_call 24; go_must (refine (states_calls A0 c0 xs X Y W H _ (Kd.C_below hCC.out ((Below.refl _ w).alloc (Nat.le_refl _) _)) hc hlen hWF.out hW hH hX hY).mono ?_; rintro e w2 ⟨hst, hb2⟩; rw [hTT.out, hEE.out] at hst; rcases hst with ⟨_, rfl⟩ | ⟨hst, _⟩; rotate_left; (exact absurd hst E0.out); have HB2 := Aside0.mk hb2; clear hb2))
  go_ret2
  have s2 := HB2.out.size
  simp at s2
  exact ⟨rfl, ((((Below.refl _ w).alloc (Nat.le_refl _) _).trans (HB2.out.mono (by simp))).alloc (by omega) _)⟩
/-- Living and dead, two rows a line, or the error. -/
def plain_Halves.f (l0 : List ClS) (X Y W H : Int) : Option (ByteArray × Int) :=
 if l0.length ≤ 1000000000 ∧ (l0.all fun x => (Lit.int .i64 x.f0).wf && ((Lit.int .i64 x.f1).wf && (Lit.int .u8 x.f2).wf)) = true ∧ (Lit.int .i64 X).wf = true ∧ (Lit.int .i64 Y).wf = true ∧ (Lit.int .i64 W).wf = true ∧ (Lit.int .i64 H).wf = true then
  some (if stE (stD l0 (.map []) 0) X Y W H = 0 then (drawnP (halfP (stD l0 (.map []) 0).1 X Y H) W ((H + 1) / 2)).1 else ⟨#[]⟩, if stE (stD l0 (.map []) 0) X Y W H = 0 then (drawnP (halfP (stD l0 (.map []) 0).1 X Y H) W ((H + 1) / 2)).2 else stE (stD l0 (.map []) 0) X Y W H)
 else none
theorem plain_Halves.calls (A0 : Option Addr) (c0 : Nat) (l0 : List S35) (a1_0 a1_1 a1_2 a1_3 : Int) (r1 : ByteArray) (r2 : Int) (w : World) (hr0 : Kd.C k35 w A0 l0.length l0) (hc0 : l0.length ≤ c0) (h : plain_Halves.f l0 a1_0 a1_1 a1_2 a1_3 = some (r1, r2)) :
  Calls Try.prog 17 #[.slice A0 l0.length c0, .agg #[.int .i64 a1_0, .int .i64 a1_1, .int .i64 a1_2, .int .i64 a1_3]] w fun e w' => e = .returned (.tuple #[.string r1, .int .i64 r2]) ∧ Below w.heap.size w w' := by
 unfold plain_Halves.f at h
 by_cases c : l0.length ≤ 1000000000 ∧ (l0.all fun x => (Lit.int .i64 x.f0).wf && ((Lit.int .i64 x.f1).wf && (Lit.int .u8 x.f2).wf)) = true ∧ (Lit.int .i64 a1_0).wf = true ∧ (Lit.int .i64 a1_1).wf = true ∧ (Lit.int .i64 a1_2).wf = true ∧ (Lit.int .i64 a1_3).wf = true
 ·rw [if_pos c] at h
  cases h
  obtain ⟨h1, h2, h3, h4, h5, h6⟩ := c
  exact Halves_walk A0 c0 l0 a1_0 a1_1 a1_2 a1_3 w hr0 hc0 h1 (fun x hx => by
   have := List.all_eq_true.1 h2 x hx
   simp only [Bool.and_eq_true] at this
   exact ⟨this.1, this.2.1, this.2.2⟩) h5 h6 h3 h4
 ·rw [if_neg c] at h; cases h

end Go.Proofs.Ytfgonglcmgahkab.P

namespace Go.Proofs.Ytfgonglcmgahkab.P
open Go.RowKit Go.Proofs.YtfgonglcmgahkabW.PrintWords Go.Proofs.YtfgonglcmgahkabW.PrintLast Go.Proofs.YtfgonglcmgahkabW.PrintMore
attribute [local go_sem] max2_int min2_int max_two min_two   -- for this text's walks alone
set_option linter.unusedVariables false
set_option linter.unusedSimpArgs false

/-! ### vivariumref23_Size: function 18 -/
def vivariumref23_Size.f (a0_0 : Int) (a0_1 : Int) (a0_2 : Int) (a0_3 : Int) : Option (Int) := if a0_2 < 0 then (some 0) else (if a0_2 > 65536 then (some 0) else (if a0_3 < 0 then (some 0) else (if a0_3 > 65536 then (some 0) else (some (wrap64 (a0_2 * a0_3))))))
set_option maxHeartbeats 8000000 in
set_option maxRecDepth 100000 in
theorem vivariumref23_Size.calls (a0_0 : Int) (a0_1 : Int) (a0_2 : Int) (a0_3 : Int) (r : Int) (w : World) (h : vivariumref23_Size.f a0_0 a0_1 a0_2 a0_3 = some r) :
  Calls Try.prog 18 #[.agg #[.int .i64 a0_0, .int .i64 a0_1, .int .i64 a0_2, .int .i64 a0_3]] w fun e w' => e = .returned (.int .i64 r) ∧ Below w.heap.size w w' := by
 have hu23 := Try.underlying23
 have HB := Aside0.mk (Below.refl w.heap.size w)
 have H : (if a0_2 < 0 then (some 0) else (if a0_2 > 65536 then (some 0) else (if a0_3 < 0 then (some 0) else (if a0_3 > 65536 then (some 0) else (some (wrap64 (a0_2 * a0_3))))))) = some r := h
 clear h
 by_cases c2 : a0_2 < 0
 ·rw [if_pos c2] at H
  have c2b0 : decide (a0_2 < 0) = true := decide_eq_true c2
  clear c2
  obtain rfl := Option.some.inj H
  go_enter Try.func18, Try.ntmps18
  go_wp2_with (first | ((with_reducible refine gate_dst (N := 1) rfl ?_); refine box_event ?hg (N := 1) ?hd (cs := #[.int .i64 a0_0, .int .i64 a0_1, .int .i64 a0_2, .int .i64 a0_3]) (t := 23) ?hr ?_; (case hd => rfl); (case hg => rfl); (case hr => first | (go_simp; done) | (go_simp; rfl)); intro gb110 hg w3 hbox hb; have n0_ := Aside0.mk (below_step (by repeat (first | (with_reducible first | exact HB.out | apply below_alloc | apply pw_below_drewN | apply below_drew1) | exact HB.out)) hb); have n1_ := Aside0.mk (hbox); have n2_ := Aside0.mk ((by rw [hg]; exact (below_size (by repeat (first | (with_reducible first | exact HB.out | apply below_alloc | apply pw_below_drewN | apply below_drew1) | exact HB.out))) : w.heap.size ≤ gb110)); have n3_ := Aside0.mk ((by rw [hg]; exact (below_size (by repeat (first | (with_reducible first | exact HB.out | apply below_alloc | apply pw_below_drewN | apply below_drew1) | exact HB.out))) : w.heap.size ≤ gb110)); clear HB; have HB := n0_; have BK110 := n1_; have GW110 := n2_; have GE110 := n3_; clear n0_ n1_ n2_ n3_; clear hb hbox hg; have hcz4_0 : w3.cell? ⟨gb110, 0, none⟩ = some (.int .i64 a0_0) := (blk_cell BK110.out 0).trans rfl; have hcz4_1 : w3.cell? ⟨gb110, 1, none⟩ = some (.int .i64 a0_1) := (blk_cell BK110.out 1).trans rfl; have hcz4_2 : w3.cell? ⟨gb110, 2, none⟩ = some (.int .i64 a0_2) := (blk_cell BK110.out 2).trans rfl; have hcz4_3 : w3.cell? ⟨gb110, 3, none⟩ = some (.int .i64 a0_3) := (blk_cell BK110.out 3).trans rfl; have hfz4_0 := blk_frozen BK110.out 0; have hfz4_1 := blk_frozen BK110.out 1; have hfz4_2 := blk_frozen BK110.out 2; have hfz4_3 := blk_frozen BK110.out 3))
  go_ret
  exact ⟨by first | rfl | (simp [errW_none, errW_some] <;> rfl) | (simp [*, errW_none, errW_some] <;> rfl), by repeat (first | (with_reducible first | exact HB.out | apply below_alloc | apply pw_below_drewN | apply below_drew1 | refine below_set ?_ GE110.out) | exact HB.out)⟩
 ·rw [if_neg c2] at H
  have c2b0 : decide (a0_2 < 0) = false := decide_eq_false c2
  clear c2
  by_cases c5 : a0_2 > 65536
  ·rw [if_pos c5] at H
   have c5b0 : decide (65536 < a0_2) = true := decide_eq_true c5
   clear c5
   obtain rfl := Option.some.inj H
   go_enter Try.func18, Try.ntmps18
   go_wp2_with (first | ((with_reducible refine gate_dst (N := 1) rfl ?_); refine box_event ?hg (N := 1) ?hd (cs := #[.int .i64 a0_0, .int .i64 a0_1, .int .i64 a0_2, .int .i64 a0_3]) (t := 23) ?hr ?_; (case hd => rfl); (case hg => rfl); (case hr => first | (go_simp; done) | (go_simp; rfl)); intro gb110 hg w6 hbox hb; have n0_ := Aside0.mk (below_step (by repeat (first | (with_reducible first | exact HB.out | apply below_alloc | apply pw_below_drewN | apply below_drew1) | exact HB.out)) hb); have n1_ := Aside0.mk (hbox); have n2_ := Aside0.mk ((by rw [hg]; exact (below_size (by repeat (first | (with_reducible first | exact HB.out | apply below_alloc | apply pw_below_drewN | apply below_drew1) | exact HB.out))) : w.heap.size ≤ gb110)); have n3_ := Aside0.mk ((by rw [hg]; exact (below_size (by repeat (first | (with_reducible first | exact HB.out | apply below_alloc | apply pw_below_drewN | apply below_drew1) | exact HB.out))) : w.heap.size ≤ gb110)); clear HB; have HB := n0_; have BK110 := n1_; have GW110 := n2_; have GE110 := n3_; clear n0_ n1_ n2_ n3_; clear hb hbox hg; have hcz7_0 : w6.cell? ⟨gb110, 0, none⟩ = some (.int .i64 a0_0) := (blk_cell BK110.out 0).trans rfl; have hcz7_1 : w6.cell? ⟨gb110, 1, none⟩ = some (.int .i64 a0_1) := (blk_cell BK110.out 1).trans rfl; have hcz7_2 : w6.cell? ⟨gb110, 2, none⟩ = some (.int .i64 a0_2) := (blk_cell BK110.out 2).trans rfl; have hcz7_3 : w6.cell? ⟨gb110, 3, none⟩ = some (.int .i64 a0_3) := (blk_cell BK110.out 3).trans rfl; have hfz7_0 := blk_frozen BK110.out 0; have hfz7_1 := blk_frozen BK110.out 1; have hfz7_2 := blk_frozen BK110.out 2; have hfz7_3 := blk_frozen BK110.out 3))
   go_ret
   exact ⟨by first | rfl | (simp [errW_none, errW_some] <;> rfl) | (simp [*, errW_none, errW_some] <;> rfl), by repeat (first | (with_reducible first | exact HB.out | apply below_alloc | apply pw_below_drewN | apply below_drew1 | refine below_set ?_ GE110.out) | exact HB.out)⟩
  ·rw [if_neg c5] at H
   have c5b0 : decide (65536 < a0_2) = false := decide_eq_false c5
   clear c5
   by_cases c8 : a0_3 < 0
   ·rw [if_pos c8] at H
    have c8b0 : decide (a0_3 < 0) = true := decide_eq_true c8
    clear c8
    obtain rfl := Option.some.inj H
    go_enter Try.func18, Try.ntmps18
    go_wp2_with (first | ((with_reducible refine gate_dst (N := 1) rfl ?_); refine box_event ?hg (N := 1) ?hd (cs := #[.int .i64 a0_0, .int .i64 a0_1, .int .i64 a0_2, .int .i64 a0_3]) (t := 23) ?hr ?_; (case hd => rfl); (case hg => rfl); (case hr => first | (go_simp; done) | (go_simp; rfl)); intro gb110 hg w9 hbox hb; have n0_ := Aside0.mk (below_step (by repeat (first | (with_reducible first | exact HB.out | apply below_alloc | apply pw_below_drewN | apply below_drew1) | exact HB.out)) hb); have n1_ := Aside0.mk (hbox); have n2_ := Aside0.mk ((by rw [hg]; exact (below_size (by repeat (first | (with_reducible first | exact HB.out | apply below_alloc | apply pw_below_drewN | apply below_drew1) | exact HB.out))) : w.heap.size ≤ gb110)); have n3_ := Aside0.mk ((by rw [hg]; exact (below_size (by repeat (first | (with_reducible first | exact HB.out | apply below_alloc | apply pw_below_drewN | apply below_drew1) | exact HB.out))) : w.heap.size ≤ gb110)); clear HB; have HB := n0_; have BK110 := n1_; have GW110 := n2_; have GE110 := n3_; clear n0_ n1_ n2_ n3_; clear hb hbox hg; have hcz10_0 : w9.cell? ⟨gb110, 0, none⟩ = some (.int .i64 a0_0) := (blk_cell BK110.out 0).trans rfl; have hcz10_1 : w9.cell? ⟨gb110, 1, none⟩ = some (.int .i64 a0_1) := (blk_cell BK110.out 1).trans rfl; have hcz10_2 : w9.cell? ⟨gb110, 2, none⟩ = some (.int .i64 a0_2) := (blk_cell BK110.out 2).trans rfl; have hcz10_3 : w9.cell? ⟨gb110, 3, none⟩ = some (.int .i64 a0_3) := (blk_cell BK110.out 3).trans rfl; have hfz10_0 := blk_frozen BK110.out 0; have hfz10_1 := blk_frozen BK110.out 1; have hfz10_2 := blk_frozen BK110.out 2; have hfz10_3 := blk_frozen BK110.out 3))
    go_ret
    exact ⟨by first | rfl | (simp [errW_none, errW_some] <;> rfl) | (simp [*, errW_none, errW_some] <;> rfl), by repeat (first | (with_reducible first | exact HB.out | apply below_alloc | apply pw_below_drewN | apply below_drew1 | refine below_set ?_ GE110.out) | exact HB.out)⟩
   ·rw [if_neg c8] at H
    have c8b0 : decide (a0_3 < 0) = false := decide_eq_false c8
    clear c8
    by_cases c11 : a0_3 > 65536
    ·rw [if_pos c11] at H
     have c11b0 : decide (65536 < a0_3) = true := decide_eq_true c11
     clear c11
     obtain rfl := Option.some.inj H
     go_enter Try.func18, Try.ntmps18
     go_wp2_with (first | ((with_reducible refine gate_dst (N := 1) rfl ?_); refine box_event ?hg (N := 1) ?hd (cs := #[.int .i64 a0_0, .int .i64 a0_1, .int .i64 a0_2, .int .i64 a0_3]) (t := 23) ?hr ?_; (case hd => rfl); (case hg => rfl); (case hr => first | (go_simp; done) | (go_simp; rfl)); intro gb110 hg w12 hbox hb; have n0_ := Aside0.mk (below_step (by repeat (first | (with_reducible first | exact HB.out | apply below_alloc | apply pw_below_drewN | apply below_drew1) | exact HB.out)) hb); have n1_ := Aside0.mk (hbox); have n2_ := Aside0.mk ((by rw [hg]; exact (below_size (by repeat (first | (with_reducible first | exact HB.out | apply below_alloc | apply pw_below_drewN | apply below_drew1) | exact HB.out))) : w.heap.size ≤ gb110)); have n3_ := Aside0.mk ((by rw [hg]; exact (below_size (by repeat (first | (with_reducible first | exact HB.out | apply below_alloc | apply pw_below_drewN | apply below_drew1) | exact HB.out))) : w.heap.size ≤ gb110)); clear HB; have HB := n0_; have BK110 := n1_; have GW110 := n2_; have GE110 := n3_; clear n0_ n1_ n2_ n3_; clear hb hbox hg; have hcz13_0 : w12.cell? ⟨gb110, 0, none⟩ = some (.int .i64 a0_0) := (blk_cell BK110.out 0).trans rfl; have hcz13_1 : w12.cell? ⟨gb110, 1, none⟩ = some (.int .i64 a0_1) := (blk_cell BK110.out 1).trans rfl; have hcz13_2 : w12.cell? ⟨gb110, 2, none⟩ = some (.int .i64 a0_2) := (blk_cell BK110.out 2).trans rfl; have hcz13_3 : w12.cell? ⟨gb110, 3, none⟩ = some (.int .i64 a0_3) := (blk_cell BK110.out 3).trans rfl; have hfz13_0 := blk_frozen BK110.out 0; have hfz13_1 := blk_frozen BK110.out 1; have hfz13_2 := blk_frozen BK110.out 2; have hfz13_3 := blk_frozen BK110.out 3))
     go_ret
     exact ⟨by first | rfl | (simp [errW_none, errW_some] <;> rfl) | (simp [*, errW_none, errW_some] <;> rfl), by repeat (first | (with_reducible first | exact HB.out | apply below_alloc | apply pw_below_drewN | apply below_drew1 | refine below_set ?_ GE110.out) | exact HB.out)⟩
    ·rw [if_neg c11] at H
     have c11b0 : decide (65536 < a0_3) = false := decide_eq_false c11
     clear c11
     obtain rfl := Option.some.inj H
     go_enter Try.func18, Try.ntmps18
     go_wp2_with (first | ((with_reducible refine gate_dst (N := 1) rfl ?_); refine box_event ?hg (N := 1) ?hd (cs := #[.int .i64 a0_0, .int .i64 a0_1, .int .i64 a0_2, .int .i64 a0_3]) (t := 23) ?hr ?_; (case hd => rfl); (case hg => rfl); (case hr => first | (go_simp; done) | (go_simp; rfl)); intro gb110 hg w14 hbox hb; have n0_ := Aside0.mk (below_step (by repeat (first | (with_reducible first | exact HB.out | apply below_alloc | apply pw_below_drewN | apply below_drew1) | exact HB.out)) hb); have n1_ := Aside0.mk (hbox); have n2_ := Aside0.mk ((by rw [hg]; exact (below_size (by repeat (first | (with_reducible first | exact HB.out | apply below_alloc | apply pw_below_drewN | apply below_drew1) | exact HB.out))) : w.heap.size ≤ gb110)); have n3_ := Aside0.mk ((by rw [hg]; exact (below_size (by repeat (first | (with_reducible first | exact HB.out | apply below_alloc | apply pw_below_drewN | apply below_drew1) | exact HB.out))) : w.heap.size ≤ gb110)); clear HB; have HB := n0_; have BK110 := n1_; have GW110 := n2_; have GE110 := n3_; clear n0_ n1_ n2_ n3_; clear hb hbox hg; have hcz15_0 : w14.cell? ⟨gb110, 0, none⟩ = some (.int .i64 a0_0) := (blk_cell BK110.out 0).trans rfl; have hcz15_1 : w14.cell? ⟨gb110, 1, none⟩ = some (.int .i64 a0_1) := (blk_cell BK110.out 1).trans rfl; have hcz15_2 : w14.cell? ⟨gb110, 2, none⟩ = some (.int .i64 a0_2) := (blk_cell BK110.out 2).trans rfl; have hcz15_3 : w14.cell? ⟨gb110, 3, none⟩ = some (.int .i64 a0_3) := (blk_cell BK110.out 3).trans rfl; have hfz15_0 := blk_frozen BK110.out 0; have hfz15_1 := blk_frozen BK110.out 1; have hfz15_2 := blk_frozen BK110.out 2; have hfz15_3 := blk_frozen BK110.out 3))
     go_ret
     exact ⟨by first | rfl | (simp [errW_none, errW_some] <;> rfl) | (simp [*, errW_none, errW_some] <;> rfl), by repeat (first | (with_reducible first | exact HB.out | apply below_alloc | apply pw_below_drewN | apply below_drew1 | refine below_set ?_ GE110.out) | exact HB.out)⟩

end Go.Proofs.Ytfgonglcmgahkab.P

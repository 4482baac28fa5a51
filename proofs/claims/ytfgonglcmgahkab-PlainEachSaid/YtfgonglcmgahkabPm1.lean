-- Written by a program of this session (wip/tools/mk.py) that runs the kit's printer; several functions' texts in one.
import Derived.Test.YtfgonglcmgahkabP0
import Derived.Test.YtfgonglcmgahkabPm0
import Derived.Test.YtfgonglcmgahkabPlainStates
import Derived.Test.YtfgonglcmgahkabPlainDrawn
import Derived.RangeFuncBox
import Derived.OpenShut
import Derived.Maps.OwnOps
import Derived.Deep.DeepMust
import Derived.Test.YtfgonglcmgahkabShelf
import Derived.RangeFuncNested
import Derived.RangeFuncBound
import Derived.RangeFuncCalls
import Derived.RangeFuncLeaves
import Derived.Shelf.Abstract
import Derived.Shelf.RegionOpen
import Derived.WalkKit
import Derived.OwnWalkIn
import Derived.TacticsInMore
import Derived.LoopNIn
import Derived.LoopIn
import Derived.Maps.AppendAt
import Derived.Laws.DeepStrings4
import Derived.Test.YtfgonglcmgahkabPureLib
import Derived.Test.YtfgonglcmgahkabLnDefs
namespace Go.Proofs.Ytfgonglcmgahkab.P
open Go.RowKit Go.Proofs.YtfgonglcmgahkabW.PrintWords Go.Proofs.YtfgonglcmgahkabW.PrintLast Go.Proofs.YtfgonglcmgahkabW.PrintMore
attribute [local go_sem] max2_int min2_int max_two min_two   -- for this text's walks alone
set_option linter.unusedVariables false
set_option linter.unusedSimpArgs false

/-! ### plain_Write: function 12 -/
-- EXT Derived.Test.@NPlainStates Derived.Test.@NPlainDrawn Derived.Test.@NP@F{vivarium/plain.Sign} Derived.Test.@NP@F{vivarium/plain.far} Derived.RangeFuncBox Derived.OpenShut Derived.Maps.OwnOps Derived.Deep.DeepMust
open Go.Proofs.Ytfgonglcmgahkab.L Go.Maps
/-- The state that the map tells of a place. -/
def mapAt (D : DataW Unit) (x y : Int) : Int := match D.atKey (klP x y) (.lit (.int .u8 0)) with
 | .lit (.int .u8 c) => if 0 ≤ c ∧ c ≤ 255 then c else 0
 | _ => 0
def signP (a0 : Int) : Int := if a0 = 0 then 46 else if a0 = 1 then 79 else 10240 + a0
theorem sign_is (a : Int) (h0 : 0 ≤ a) (h1 : a ≤ 255) : plain_Sign.f a = some (signP a) := by
 unfold plain_Sign.f signP
 by_cases c0 : a = 0
 ·rw [if_pos c0, if_pos c0]
 ·rw [if_neg c0, if_neg c0]
  by_cases c1 : a = 1
  ·rw [if_pos c1, if_pos c1]
  ·rw [if_neg c1, if_neg c1]
   have e : wrap32 (10240 + wrap32 a) = 10240 + a := by unfold wrap32; omega
   rw [e]
/-- The rune of a place of the rectangle. -/
def runeP (D : DataW Unit) (X Y x y : Int) : Int := signP (mapAt D (wrap64 (X + x)) (wrap64 (Y + y)))
theorem mapAt_of {D : DataW Unit} {x y c : Int} (h : D.atKey (klP x y) (.lit (.int .u8 0)) = .lit (.int .u8 c)) (hc : 0 ≤ c ∧ c ≤ 255) : mapAt D x y = c := by unfold mapAt; rw [h]; exact if_pos hc
theorem mapAt_range (D : DataW Unit) (x y : Int) : 0 ≤ mapAt D x y ∧ mapAt D x y ≤ 255 := by
 unfold mapAt
 split
 ·split <;> omega
 ·omega
set_option maxRecDepth 100000 in
set_option maxHeartbeats 4000000 in
theorem write1_calls (B n Bm Br : Nat) (D : DataW Unit) (X Y W H : Int) (x y : Int) (w : World) (hm : w.heap[Bm]? = some (.cells #[.map (some B)] 50 (0, 0))) (hr : w.heap[Br]? = some (.cells #[.int .i64 X, .int .i64 Y, .int .i64 W, .int .i64 H] 23 (0, 0)))
  (hown : w.ownsMap Try.prog 55 (plainElem Try.prog 5) B n D) :
  Calls Try.prog 26 #[.int .i64 x, .int .i64 y, .pointer (some ⟨Bm, 0, none⟩), .pointer (some ⟨Br, 0, none⟩)] w fun e w' => e = .returned (.int .i32 (runeP D X Y x y)) ∧ Below w.heap.size w w' := by
 have cm := blk_cell hm 0
 have r0 := blk_cell hr 0
 have r1 := blk_cell hr 1
 have hz : ∀ w : World, (zeroValue 5).run Try.prog w = .ok (.int .u8 0) w := fun w => by kernel_rfl
 go_enter Try.func26, Try.ntmps26
 go_wp2_with (first | (at_lookup; go_must (refine wpList_lookup_own_int _ rfl _ _ 50 rfl 55 5 .u8 pkey Try.underlying50 Try.underlying5 (hz _) B n D rfl hown _ _ rfl (key_of (wrap64 (X + x)) (wrap64 (Y + y)) (wrap64_wf _) (wrap64_wf _)) ?_; intro c hat hwc)) | (go_at_call 15; go_must (have hcb := Go.bounds_u8 hwc; refine (plain_Sign.calls c (signP c) _ (sign_is c (by omega) (by omega))).mono ?_; rintro e w2 ⟨rfl, hd⟩; have hdb := hd.below; clear hd)))
 go_ret
 refine ⟨?_, hdb⟩
 unfold runeP
 rw [mapAt_of hat (Go.bounds_u8 hwc)]
 rfl
theorem rune_range (D : DataW Unit) (X Y x y : Int) : -2147483648 ≤ runeP D X Y x y ∧ runeP D X Y x y ≤ 2147483647 := by
 have h := mapAt_range D (wrap64 (X + x)) (wrap64 (Y + y))
 unfold runeP signP
 obtain ⟨a, ha⟩ : ∃ a, mapAt D (wrap64 (X + x)) (wrap64 (Y + y)) = a := ⟨_, rfl⟩
 rw [ha] at h ⊢
 split
 ·omega
 ·split <;> omega
theorem stE_ok {T : DataW Unit × Int × Bool} {X Y W H : Int} (h : stE T X Y W H = 0) : 0 ≤ W ∧ W ≤ 65536 ∧ 0 ≤ H ∧ H ≤ 65536 := by
 unfold stE at h
 by_cases c0 : T.2.2 = true
 ·rw [if_pos c0] at h; exact absurd h (by decide)
 ·rw [if_neg c0] at h
  by_cases c1 : (Maps.size T.1 : Int) < T.2.1
  ·rw [if_pos c1] at h; exact absurd h (by decide)
  ·rw [if_neg c1] at h
   by_cases c2 : W < 0 ∨ 65536 < W ∨ H < 0 ∨ 65536 < H
   ·rw [if_pos c2] at h; exact absurd h (by decide)
   ·omega
theorem WB_none {W W' : World} (h : Below W.heap.size W W') : W.grownBy W' none := ⟨h.os, h.tape, h.output, h.size, fun k hk _ => h.block k hk⟩
set_option maxRecDepth 100000 in
set_option maxHeartbeats 4000000 in
theorem Write_walk (A0 : Option Addr) (c0 : Nat) (xs : List ClS) (X Y W H : Int) (w : World) (hC : Kd.C k35 w A0 xs.length xs) (hc : xs.length ≤ c0) (hlen : xs.length ≤ 1000000000)
  (hwf : ∀ x ∈ xs, (Lit.int .i64 x.f0).wf = true ∧ (Lit.int .i64 x.f1).wf = true ∧ (Lit.int .u8 x.f2).wf = true) (hW : (Lit.int .i64 W).wf = true) (hH : (Lit.int .i64 H).wf = true) (hX : (Lit.int .i64 X).wf = true) (hY : (Lit.int .i64 Y).wf = true) :
  Calls Try.prog 12 #[.slice A0 xs.length c0, .agg #[.int .i64 X, .int .i64 Y, .int .i64 W, .int .i64 H]] w fun e w' =>
   e = .returned (.tuple #[.string (if stE (stD xs (.map []) 0) X Y W H = 0 then (drawnP (runeP (stD xs (.map []) 0).1 X Y) W H).1 else ⟨#[]⟩), .int .i64 (if stE (stD xs (.map []) 0) X Y W H = 0 then (drawnP (runeP (stD xs (.map []) 0).1 X Y) W H).2 else stE (stD xs (.map []) 0) X Y W H)]) ∧ Below w.heap.size w w' := by
 have hCC := Aside0.mk hC
 have hWF := Aside0.mk hwf
 clear hC hwf
 obtain ⟨T, hT⟩ : ∃ T, stD xs (.map []) 0 = T := ⟨_, rfl⟩
 obtain ⟨E, hE⟩ : ∃ E, stE T X Y W H = E := ⟨_, rfl⟩
 rw [hT, hE]
 have hTT := Aside0.mk hT
 have hEE := Aside0.mk hE
 clear hT hE
 have ef : ∀ args w, (callFunc 26 args).run Try.prog w = .ok (.enter 26 args) w := enters_of Try.func26 (by kernel_rfl) rfl
 by_cases e0 : E = 0
 ·subst e0
  have hb := stE_ok hEE.out
  obtain ⟨W, rfl⟩ : ∃ m : Nat, W = m := ⟨W.toNat, by omega⟩
  obtain ⟨H, rfl⟩ : ∃ m : Nat, H = m := ⟨H.toNat, by omega⟩
  go_enter Try.func12, Try.ntmps12
  go_wp2_with (first | (go_at_call 24; go_must (refine (states_calls A0 c0 xs X Y W H _ (Kd.C_below hCC.out ((Below.refl _ w).alloc (Nat.le_refl _) _)) hc hlen hWF.out hW hH hX hY).mono ?_; rintro e w2 ⟨hst, hb2⟩; rw [hTT.out, hEE.out] at hst; rcases hst with ⟨hst, _⟩ | ⟨_, B, hB, rfl, n, hown⟩; (exact absurd rfl hst); have hbx := (hb2.block w.heap.size (by simp)).trans (blk_new w _); have HB2 := Aside0.mk hb2; have HOW := Aside0.mk hown; have HBX := Aside0.mk hbx; have hby := (Below.heap_alloc w2 (.cells #[.map (some B)] 50) w.heap.size (Array.getElem?_eq_some_iff.1 hbx).1).trans hbx; have cx2 := blk_cell hby 2; have cx3 := blk_cell hby 3; clear hb2 hown hbx)) | (go_at_call 25; go_must (refine (drawn_calls 26 #[.pointer (some ⟨w2.heap.size, 0, none⟩), .pointer (some ⟨w.heap.size, 0, none⟩)] ef (runeP T.1 X Y) (rune_range T.1 X Y) W H (by omega) (by omega) (w2.alloc (.cells #[.map (some B)] 50)) (fun x y w1 hx hy hb => write1_calls B n w2.heap.size w.heap.size T.1 X Y W H x y w1 ((hb.block _ (by simp)).trans (blk_new w2 _)) ((hb.block _ (by have := (Array.getElem?_eq_some_iff.1 HBX.out).1; simp; omega)).trans hby) (((HOW.out.alloc _).kept (WB_none hb) (by simp))))).mono ?_; rintro e w3 ⟨rfl, hb3⟩; have HB3 := Aside0.mk hb3; clear hb3)))
  go_ret2
  have s2 := HB2.out.size
  simp at s2
  exact ⟨rfl, ((((Below.refl _ w).alloc (Nat.le_refl _) _).trans (HB2.out.mono (by simp))).alloc (by omega) _).trans (HB3.out.mono (by simp; omega))⟩
 ·have b0 : (E == 0) = false := beq_eq_false_iff_ne.mpr e0
  have b1 : (E != 0) = true := bne_iff_ne.mpr e0
  have E0 := Aside0.mk e0
  clear e0
  go_enter Try.func12, Try.ntmps12
  go_wp2_with (go_at_call 24; go_must (refine (states_calls A0 c0 xs X Y W H _ (Kd.C_below hCC.out ((Below.refl _ w).alloc (Nat.le_refl _) _)) hc hlen hWF.out hW hH hX hY).mono ?_; rintro e w2 ⟨hst, hb2⟩; rw [hTT.out, hEE.out] at hst; rcases hst with ⟨_, rfl⟩ | ⟨hst, _⟩; rotate_left; (exact absurd hst E0.out); have HB2 := Aside0.mk hb2; clear hb2))
  go_ret2
  have s2 := HB2.out.size
  simp at s2
  exact ⟨rfl, ((((Below.refl _ w).alloc (Nat.le_refl _) _).trans (HB2.out.mono (by simp))).alloc (by omega) _)⟩
/-- The picture of cells in a rectangle, or the error. -/
def plain_Write.f (l0 : List ClS) (X Y W H : Int) : Option (ByteArray × Int) :=
 if l0.length ≤ 1000000000 ∧ (l0.all fun x => (Lit.int .i64 x.f0).wf && ((Lit.int .i64 x.f1).wf && (Lit.int .u8 x.f2).wf)) = true ∧ (Lit.int .i64 X).wf = true ∧ (Lit.int .i64 Y).wf = true ∧ (Lit.int .i64 W).wf = true ∧ (Lit.int .i64 H).wf = true then
  some (if stE (stD l0 (.map []) 0) X Y W H = 0 then (drawnP (runeP (stD l0 (.map []) 0).1 X Y) W H).1 else ⟨#[]⟩, if stE (stD l0 (.map []) 0) X Y W H = 0 then (drawnP (runeP (stD l0 (.map []) 0).1 X Y) W H).2 else stE (stD l0 (.map []) 0) X Y W H)
 else none
theorem plain_Write.calls (A0 : Option Addr) (c0 : Nat) (l0 : List S35) (a1_0 a1_1 a1_2 a1_3 : Int) (r1 : ByteArray) (r2 : Int) (w : World) (hr0 : Kd.C k35 w A0 l0.length l0) (hc0 : l0.length ≤ c0) (h : plain_Write.f l0 a1_0 a1_1 a1_2 a1_3 = some (r1, r2)) :
  Calls Try.prog 12 #[.slice A0 l0.length c0, .agg #[.int .i64 a1_0, .int .i64 a1_1, .int .i64 a1_2, .int .i64 a1_3]] w fun e w' => e = .returned (.tuple #[.string r1, .int .i64 r2]) ∧ Below w.heap.size w w' := by
 unfold plain_Write.f at h
 by_cases c : l0.length ≤ 1000000000 ∧ (l0.all fun x => (Lit.int .i64 x.f0).wf && ((Lit.int .i64 x.f1).wf && (Lit.int .u8 x.f2).wf)) = true ∧ (Lit.int .i64 a1_0).wf = true ∧ (Lit.int .i64 a1_1).wf = true ∧ (Lit.int .i64 a1_2).wf = true ∧ (Lit.int .i64 a1_3).wf = true
 ·rw [if_pos c] at h
  cases h
  obtain ⟨h1, h2, h3, h4, h5, h6⟩ := c
  exact Write_walk A0 c0 l0 a1_0 a1_1 a1_2 a1_3 w hr0 hc0 h1 (fun x hx => by
   have := List.all_eq_true.1 h2 x hx
   simp only [Bool.and_eq_true] at this
   exact ⟨this.1, this.2.1, this.2.2⟩) h5 h6 h3 h4
 ·rw [if_neg c] at h; cases h

end Go.Proofs.Ytfgonglcmgahkab.P

namespace Go.Proofs.Ytfgonglcmgahkab.P
open Go.RowKit Go.Proofs.YtfgonglcmgahkabW.PrintWords Go.Proofs.YtfgonglcmgahkabW.PrintLast Go.Proofs.YtfgonglcmgahkabW.PrintMore
attribute [local go_sem] max2_int min2_int max_two min_two   -- for this text's walks alone
set_option linter.unusedVariables false
set_option linter.unusedSimpArgs false

/-! ### stringslite_Index: function 49 -/
-- EXT Derived.Test.@NShelf
theorem one_byte (a : ByteArray) (h : a.size = 1) : ∃ c : UInt8, a = ⟨#[c]⟩ := by
 obtain ⟨⟨l⟩⟩ := a
 match l, h with
 | [c], _ => exact ⟨c, rfl⟩
/-- strings.Index at a text of one byte; of longer ones nothing is told. -/
def stringslite_Index.f (a0 : ByteArray) (a1 : ByteArray) : Option Int := if a1.size = 1 then some (Lib.indexByte a0.data.toList ((bt a1 0).toNat.toUInt8)) else none
theorem stringslite_Index.calls (a0 : ByteArray) (a1 : ByteArray) (r : Int) (w : World) (h : stringslite_Index.f a0 a1 = some r) :
  Calls Try.prog 49 #[.string a0, .string a1] w fun e w' => e = .returned (.int .i64 r) ∧ Drawn0 w w' := by
 unfold stringslite_Index.f at h
 by_cases h1 : a1.size = 1
 ·obtain ⟨c, rfl⟩ := one_byte a1 h1
  rw [if_pos h1] at h
  obtain rfl := Option.some.inj h
  refine (Try.stringslite_Index_one a0 c w).mono ?_
  rintro e w' ⟨rfl, rfl⟩
  refine ⟨?_, Drawn0.refl _⟩
  have e1 : (bt ⟨#[c]⟩ 0).toNat.toUInt8 = c := by
   have : bt ⟨#[c]⟩ 0 = (c.toNat : Int) := rfl
   rw [this]
   simp
  rw [e1]
 ·rw [if_neg h1] at h
  exact absurd h (by simp)

end Go.Proofs.Ytfgonglcmgahkab.P

namespace Go.Proofs.Ytfgonglcmgahkab.P
open Go.RowKit Go.Proofs.YtfgonglcmgahkabW.PrintWords Go.Proofs.YtfgonglcmgahkabW.PrintLast Go.Proofs.YtfgonglcmgahkabW.PrintMore
attribute [local go_sem] max2_int min2_int max_two min_two   -- for this text's walks alone
set_option linter.unusedVariables false
set_option linter.unusedSimpArgs false

/-! ### stringslite_Cut: function 45 -/
def stringslite_Cut.f (a0 : ByteArray) (a1 : ByteArray) : Option (ByteArray × ByteArray × Bool) := (stringslite_Index.f a0 a1).bind fun t101 => (if t101 ≥ 0 then (if 0 ≤ t101 then (if t101 ≤ (a0.size : Int) then (if 0 ≤ (wrap64 (t101 + (a1.size : Int))) then (if (wrap64 (t101 + (a1.size : Int))) ≤ (a0.size : Int) then (some (a0.extract 0 (t101 : Int).toNat, a0.extract ((wrap64 (t101 + (a1.size : Int))) : Int).toNat a0.size, true)) else (none)) else (none)) else (none)) else (none)) else (some (a0, (⟨#[]⟩ : ByteArray), false)))
set_option maxHeartbeats 8000000 in
set_option maxRecDepth 100000 in
theorem stringslite_Cut.calls (a0 : ByteArray) (a1 : ByteArray) (r1 : ByteArray) (r2 : ByteArray) (r3 : Bool) (w : World) (h : stringslite_Cut.f a0 a1 = some (r1, r2, r3)) :
  Calls Try.prog 45 #[.string a0, .string a1] w fun e w' => e = .returned (.tuple #[.string r1, .string r2, .bool r3]) ∧ Drawn0 w w' := by
 have H : ((stringslite_Index.f a0 a1).bind fun t101 => (if t101 ≥ 0 then (if 0 ≤ t101 then (if t101 ≤ (a0.size : Int) then (if 0 ≤ (wrap64 (t101 + (a1.size : Int))) then (if (wrap64 (t101 + (a1.size : Int))) ≤ (a0.size : Int) then (some (a0.extract 0 (t101 : Int).toNat, a0.extract ((wrap64 (t101 + (a1.size : Int))) : Int).toNat a0.size, true)) else (none)) else (none)) else (none)) else (none)) else (some (a0, (⟨#[]⟩ : ByteArray), false)))) = some (r1, r2, r3) := h
 clear h
 replace H := Option.bind_eq_some_iff.mp H
 obtain ⟨t101, A30, H⟩ := H
 replace H : (if t101 ≥ 0 then (if 0 ≤ t101 then (if t101 ≤ (a0.size : Int) then (if 0 ≤ (wrap64 (t101 + (a1.size : Int))) then (if (wrap64 (t101 + (a1.size : Int))) ≤ (a0.size : Int) then (some (a0.extract 0 (t101 : Int).toNat, a0.extract ((wrap64 (t101 + (a1.size : Int))) : Int).toNat a0.size, true)) else (none)) else (none)) else (none)) else (none)) else (some (a0, (⟨#[]⟩ : ByteArray), false))) = some (r1, r2, r3) := H
 have A3 := Aside0.mk A30
 clear A30
 by_cases c4 : t101 ≥ 0
 ·rw [if_pos c4] at H
  have c4b0 : decide (0 ≤ t101) = true := decide_eq_true c4
  clear c4
  by_cases c5 : 0 ≤ t101
  ·rw [if_pos c5] at H
   have c5b0 := eq_true c5
   have c5b1 : decide (0 ≤ t101) = true := decide_eq_true c5
   clear c5
   by_cases c6 : t101 ≤ (a0.size : Int)
   ·rw [if_pos c6] at H
    have c6b0 := eq_true c6
    have c6b1 : decide (t101 ≤ (a0.size : Int)) = true := decide_eq_true c6
    clear c6
    obtain ⟨ji7, hji7⟩ : ∃ j_ : Int, (wrap64 (t101 + (a1.size : Int))) = j_ := ⟨_, rfl⟩
    replace H : (if 0 ≤ (ji7) then (if (ji7) ≤ (a0.size : Int) then (some (a0.extract 0 (t101 : Int).toNat, a0.extract ((ji7) : Int).toNat a0.size, true)) else (none)) else (none)) = some (r1, r2, r3) := by first | (rw [hji7] at H; exact H) | (simp only [hji7] at H ⊢; exact H)
    (try rw [hji7] at A3)
    have hji7w : (IntKind.i64.wrap (t101 + (a1.size : Int))) = ji7 := (i64_w _).trans hji7
    by_cases c8 : 0 ≤ (ji7)
    ·rw [if_pos c8] at H
     have c8b0 := eq_true c8
     have c8b1 : decide (0 ≤ (ji7)) = true := decide_eq_true c8
     clear c8
     by_cases c9 : (ji7) ≤ (a0.size : Int)
     ·rw [if_pos c9] at H
      have c9b0 := eq_true c9
      have c9b1 : decide ((ji7) ≤ (a0.size : Int)) = true := decide_eq_true c9
      clear c9
      simp only [Option.some.injEq, Prod.mk.injEq] at H
      obtain ⟨rfl, rfl, rfl⟩ := H
      go_enter Try.func45, Try.ntmps45
      go_wp2_with (first | (go_at_call 49; (with_reducible refine (stringslite_Index.calls a0 a1 t101 _ A3.out).mono ?_); rintro e w' ⟨rfl, ⟨nd, rfl⟩⟩; (try first | exact ⟨rfl, _, World.drewN_drewN _ _ _⟩ | exact ⟨rfl, _, Eq.trans (World.drewN_drewN _ _ _) (congrArg (World.drewN _) (Nat.add_assoc _ _ _))⟩)))
      repeat (go_quiet (first | (go_at_call 49; (with_reducible refine (stringslite_Index.calls a0 a1 t101 _ A3.out).mono ?_); rintro e w' ⟨rfl, ⟨nd, rfl⟩⟩; (try first | exact ⟨rfl, _, World.drewN_drewN _ _ _⟩ | exact ⟨rfl, _, Eq.trans (World.drewN_drewN _ _ _) (congrArg (World.drewN _) (Nat.add_assoc _ _ _))⟩))); try go_wp2_with (first | (go_at_call 49; (with_reducible refine (stringslite_Index.calls a0 a1 t101 _ A3.out).mono ?_); rintro e w' ⟨rfl, ⟨nd, rfl⟩⟩; (try first | exact ⟨rfl, _, World.drewN_drewN _ _ _⟩ | exact ⟨rfl, _, Eq.trans (World.drewN_drewN _ _ _) (congrArg (World.drewN _) (Nat.add_assoc _ _ _))⟩))))
      go_ret3
      exact ⟨by first | rfl | (simp; done) | (simp only [← hji7] <;> (first | rfl | simp)) | (simp [*]; done), by repeat (first | exact Drawn0.refl _ | apply Drawn0.step)⟩
     ·rw [if_neg c9] at H
      exact absurd H (by simp)
    ·rw [if_neg c8] at H
     exact absurd H (by simp)
   ·rw [if_neg c6] at H
    exact absurd H (by simp)
  ·rw [if_neg c5] at H
   exact absurd H (by simp)
 ·rw [if_neg c4] at H
  have c4b0 : decide (0 ≤ t101) = false := decide_eq_false c4
  clear c4
  simp only [Option.some.injEq, Prod.mk.injEq] at H
  obtain ⟨rfl, rfl, rfl⟩ := H
  go_enter Try.func45, Try.ntmps45
  go_wp2_with (first | (go_at_call 49; (with_reducible refine (stringslite_Index.calls a0 a1 t101 _ A3.out).mono ?_); rintro e w' ⟨rfl, ⟨nd, rfl⟩⟩; (try first | exact ⟨rfl, _, World.drewN_drewN _ _ _⟩ | exact ⟨rfl, _, Eq.trans (World.drewN_drewN _ _ _) (congrArg (World.drewN _) (Nat.add_assoc _ _ _))⟩)))
  repeat (go_quiet (first | (go_at_call 49; (with_reducible refine (stringslite_Index.calls a0 a1 t101 _ A3.out).mono ?_); rintro e w' ⟨rfl, ⟨nd, rfl⟩⟩; (try first | exact ⟨rfl, _, World.drewN_drewN _ _ _⟩ | exact ⟨rfl, _, Eq.trans (World.drewN_drewN _ _ _) (congrArg (World.drewN _) (Nat.add_assoc _ _ _))⟩))); try go_wp2_with (first | (go_at_call 49; (with_reducible refine (stringslite_Index.calls a0 a1 t101 _ A3.out).mono ?_); rintro e w' ⟨rfl, ⟨nd, rfl⟩⟩; (try first | exact ⟨rfl, _, World.drewN_drewN _ _ _⟩ | exact ⟨rfl, _, Eq.trans (World.drewN_drewN _ _ _) (congrArg (World.drewN _) (Nat.add_assoc _ _ _))⟩))))
  go_ret3
  exact ⟨by first | rfl | (simp; done) | (simp [*]; done), by repeat (first | exact Drawn0.refl _ | apply Drawn0.step)⟩

end Go.Proofs.Ytfgonglcmgahkab.P

namespace Go.Proofs.Ytfgonglcmgahkab.P
open Go.RowKit Go.Proofs.YtfgonglcmgahkabW.PrintWords Go.Proofs.YtfgonglcmgahkabW.PrintLast Go.Proofs.YtfgonglcmgahkabW.PrintMore
attribute [local go_sem] max2_int min2_int max_two min_two   -- for this text's walks alone
set_option linter.unusedVariables false
set_option linter.unusedSimpArgs false

/-! ### strings_Cut: function 39 -/
def strings_Cut.f (a0 : ByteArray) (a1 : ByteArray) : Option (ByteArray × ByteArray × Bool) := (stringslite_Cut.f a0 a1).bind fun bt102 => (some (bt102.1, bt102.2.1, bt102.2.2))
set_option maxHeartbeats 8000000 in
set_option maxRecDepth 100000 in
theorem strings_Cut.calls (a0 : ByteArray) (a1 : ByteArray) (r1 : ByteArray) (r2 : ByteArray) (r3 : Bool) (w : World) (h : strings_Cut.f a0 a1 = some (r1, r2, r3)) :
  Calls Try.prog 39 #[.string a0, .string a1] w fun e w' => e = .returned (.tuple #[.string r1, .string r2, .bool r3]) ∧ Drawn0 w w' := by
 have H : ((stringslite_Cut.f a0 a1).bind fun bt102 => (some (bt102.1, bt102.2.1, bt102.2.2))) = some (r1, r2, r3) := h
 clear h
 replace H := Option.bind_eq_some_iff.mp H
 obtain ⟨⟨t102, t103, t104⟩, A30, H⟩ := H
 replace H : (some (t102, t103, t104)) = some (r1, r2, r3) := H
 have A3 := Aside0.mk A30
 clear A30
 simp only [Option.some.injEq, Prod.mk.injEq] at H
 obtain ⟨rfl, rfl, rfl⟩ := H
 go_enter Try.func39, Try.ntmps39
 go_wp2_with (first | ((with_reducible refine gate_callee (f := 45) rfl ?_); refine goesL_ (some 9) rfl rfl Try.func45 (by kernel_rfl) rfl #[.string a0, .string a1] rfl (by (try simp only [List.map_toArray, List.map_cons, List.map_nil]); first | done | rfl | (simp only [List.length_drop, List.length_take]; rfl)) ?_; (with_reducible refine (stringslite_Cut.calls a0 a1 t102 t103 t104 _ A3.out).mono ?_); rintro e w' ⟨rfl, ⟨nd, rfl⟩⟩; refine ⟨_, rfl, ?_⟩))
 go_ret3
 exact ⟨by first | rfl | (simp; done) | (simp [*]; done), by repeat (first | exact Drawn0.refl _ | apply Drawn0.step)⟩

end Go.Proofs.Ytfgonglcmgahkab.P

namespace Go.Proofs.Ytfgonglcmgahkab.P
open Go.RowKit Go.Proofs.YtfgonglcmgahkabW.PrintWords Go.Proofs.YtfgonglcmgahkabW.PrintLast Go.Proofs.YtfgonglcmgahkabW.PrintMore
attribute [local go_sem] max2_int min2_int max_two min_two   -- for this text's walks alone
set_option linter.unusedVariables false
set_option linter.unusedSimpArgs false

/-! ### stringslite_HasSuffix: function 50 -/
def stringslite_HasSuffix.f (a0 : ByteArray) (a1 : ByteArray) : Option (Bool) := if (a0.size : Int) ≥ (a1.size : Int) then (if 0 ≤ (wrap64 ((a0.size : Int) - (a1.size : Int))) then (if (wrap64 ((a0.size : Int) - (a1.size : Int))) ≤ (a0.size : Int) then (some ((a0.extract ((wrap64 ((a0.size : Int) - (a1.size : Int))) : Int).toNat a0.size).toList == a1.toList)) else (none)) else (none)) else (some false)
set_option maxHeartbeats 8000000 in
set_option maxRecDepth 100000 in
theorem stringslite_HasSuffix.calls (a0 : ByteArray) (a1 : ByteArray) (r : Bool) (w : World) (h : stringslite_HasSuffix.f a0 a1 = some r) :
  Calls Try.prog 50 #[.string a0, .string a1] w fun e w' => e = .returned (.bool r) ∧ Drawn0 w w' := by
 have H : (if (a0.size : Int) ≥ (a1.size : Int) then (if 0 ≤ (wrap64 ((a0.size : Int) - (a1.size : Int))) then (if (wrap64 ((a0.size : Int) - (a1.size : Int))) ≤ (a0.size : Int) then (some ((a0.extract ((wrap64 ((a0.size : Int) - (a1.size : Int))) : Int).toNat a0.size).toList == a1.toList)) else (none)) else (none)) else (some false)) = some r := h
 clear h
 by_cases c3 : (a0.size : Int) ≥ (a1.size : Int)
 ·rw [if_pos c3] at H
  have c3b0 : decide ((a1.size : Int) ≤ (a0.size : Int)) = true := decide_eq_true c3
  have c3b1 : decide (a1.size ≤ a0.size) = true := decide_eq_true (Int.ofNat_le.mp c3)
  clear c3
  obtain ⟨ji4, hji4⟩ : ∃ j_ : Int, (wrap64 ((a0.size : Int) - (a1.size : Int))) = j_ := ⟨_, rfl⟩
  replace H : (if 0 ≤ (ji4) then (if (ji4) ≤ (a0.size : Int) then (some ((a0.extract ((ji4) : Int).toNat a0.size).toList == a1.toList)) else (none)) else (none)) = some r := by first | (rw [hji4] at H; exact H) | (simp only [hji4] at H ⊢; exact H)
  have hji4w : (IntKind.i64.wrap ((a0.size : Int) - (a1.size : Int))) = ji4 := (i64_w _).trans hji4
  by_cases c5 : 0 ≤ (ji4)
  ·rw [if_pos c5] at H
   have c5b0 := eq_true c5
   have c5b1 : decide (0 ≤ (ji4)) = true := decide_eq_true c5
   clear c5
   by_cases c6 : (ji4) ≤ (a0.size : Int)
   ·rw [if_pos c6] at H
    have c6b0 := eq_true c6
    have c6b1 : decide ((ji4) ≤ (a0.size : Int)) = true := decide_eq_true c6
    clear c6
    obtain rfl := Option.some.inj H
    go_enter Try.func50, Try.ntmps50
    go_wp2
    go_ret
    exact ⟨by first | rfl | (simp; done) | (simp only [← hji4] <;> (first | rfl | simp)) | (simp [*]; done), by repeat (first | exact Drawn0.refl _ | apply Drawn0.step)⟩
   ·rw [if_neg c6] at H
    exact absurd H (by simp)
  ·rw [if_neg c5] at H
   exact absurd H (by simp)
 ·rw [if_neg c3] at H
  have c3b0 : decide ((a1.size : Int) ≤ (a0.size : Int)) = false := decide_eq_false c3
  have c3b1 : decide (a1.size ≤ a0.size) = false := decide_eq_false (fun h => c3 (Int.ofNat_le.mpr h))
  clear c3
  obtain rfl := Option.some.inj H
  go_enter Try.func50, Try.ntmps50
  go_wp2
  go_ret
  exact ⟨by first | rfl | (simp; done) | (simp [*]; done), by repeat (first | exact Drawn0.refl _ | apply Drawn0.step)⟩

end Go.Proofs.Ytfgonglcmgahkab.P

namespace Go.Proofs.Ytfgonglcmgahkab.P
open Go.RowKit Go.Proofs.YtfgonglcmgahkabW.PrintWords Go.Proofs.YtfgonglcmgahkabW.PrintLast Go.Proofs.YtfgonglcmgahkabW.PrintMore
attribute [local go_sem] max2_int min2_int max_two min_two   -- for this text's walks alone
set_option linter.unusedVariables false
set_option linter.unusedSimpArgs false

/-! ### stringslite_TrimSuffix: function 46 -/
def stringslite_TrimSuffix.f (a0 : ByteArray) (a1 : ByteArray) : Option (ByteArray) := (stringslite_HasSuffix.f a0 a1).bind fun t105 => (if t105 = true then (if 0 ≤ (wrap64 ((a0.size : Int) - (a1.size : Int))) then (if (wrap64 ((a0.size : Int) - (a1.size : Int))) ≤ (a0.size : Int) then (some (a0.extract 0 ((wrap64 ((a0.size : Int) - (a1.size : Int))) : Int).toNat)) else (none)) else (none)) else (some a0))
set_option maxHeartbeats 8000000 in
set_option maxRecDepth 100000 in
theorem stringslite_TrimSuffix.calls (a0 : ByteArray) (a1 : ByteArray) (r : ByteArray) (w : World) (h : stringslite_TrimSuffix.f a0 a1 = some r) :
  Calls Try.prog 46 #[.string a0, .string a1] w fun e w' => e = .returned (.string r) ∧ Drawn0 w w' := by
 have H : ((stringslite_HasSuffix.f a0 a1).bind fun t105 => (if t105 = true then (if 0 ≤ (wrap64 ((a0.size : Int) - (a1.size : Int))) then (if (wrap64 ((a0.size : Int) - (a1.size : Int))) ≤ (a0.size : Int) then (some (a0.extract 0 ((wrap64 ((a0.size : Int) - (a1.size : Int))) : Int).toNat)) else (none)) else (none)) else (some a0))) = some r := h
 clear h
 replace H := Option.bind_eq_some_iff.mp H
 obtain ⟨t105, A30, H⟩ := H
 replace H : (if t105 = true then (if 0 ≤ (wrap64 ((a0.size : Int) - (a1.size : Int))) then (if (wrap64 ((a0.size : Int) - (a1.size : Int))) ≤ (a0.size : Int) then (some (a0.extract 0 ((wrap64 ((a0.size : Int) - (a1.size : Int))) : Int).toNat)) else (none)) else (none)) else (some a0)) = some r := H
 have A3 := Aside0.mk A30
 clear A30
 by_cases c4 : t105 = true
 ·subst c4
  have H1 : (if 0 ≤ (wrap64 ((a0.size : Int) - (a1.size : Int))) then (if (wrap64 ((a0.size : Int) - (a1.size : Int))) ≤ (a0.size : Int) then (some (a0.extract 0 ((wrap64 ((a0.size : Int) - (a1.size : Int))) : Int).toNat)) else (none)) else (none)) = some r := by rw [if_pos rfl] at H; exact H
  clear H
  have H := H1
  clear H1
  obtain ⟨ji5, hji5⟩ : ∃ j_ : Int, (wrap64 ((a0.size : Int) - (a1.size : Int))) = j_ := ⟨_, rfl⟩
  replace H : (if 0 ≤ (ji5) then (if (ji5) ≤ (a0.size : Int) then (some (a0.extract 0 ((ji5) : Int).toNat)) else (none)) else (none)) = some r := by first | (rw [hji5] at H; exact H) | (simp only [hji5] at H ⊢; exact H)
  (try rw [hji5] at A3)
  have hji5w : (IntKind.i64.wrap ((a0.size : Int) - (a1.size : Int))) = ji5 := (i64_w _).trans hji5
  by_cases c6 : 0 ≤ (ji5)
  ·rw [if_pos c6] at H
   have c6b0 := eq_true c6
   have c6b1 : decide (0 ≤ (ji5)) = true := decide_eq_true c6
   clear c6
   by_cases c7 : (ji5) ≤ (a0.size : Int)
   ·rw [if_pos c7] at H
    have c7b0 := eq_true c7
    have c7b1 : decide ((ji5) ≤ (a0.size : Int)) = true := decide_eq_true c7
    clear c7
    obtain rfl := Option.some.inj H
    go_enter Try.func46, Try.ntmps46
    go_wp2_with (first | ((with_reducible refine gate_callee (f := 50) rfl ?_); refine goesL_ (some 7) rfl rfl Try.func50 (by kernel_rfl) rfl #[.string a0, .string a1] rfl (by (try simp only [List.map_toArray, List.map_cons, List.map_nil]); first | done | rfl | (simp only [List.length_drop, List.length_take]; rfl)) ?_; (with_reducible refine (stringslite_HasSuffix.calls a0 a1 true _ A3.out).mono ?_); rintro e w' ⟨rfl, ⟨nd, rfl⟩⟩; refine ⟨_, rfl, ?_⟩))
    go_ret
    exact ⟨by first | rfl | (simp; done) | (simp only [← hji5] <;> (first | rfl | simp)) | (simp [*]; done), by repeat (first | exact Drawn0.refl _ | apply Drawn0.step)⟩
   ·rw [if_neg c7] at H
    exact absurd H (by simp)
  ·rw [if_neg c6] at H
   exact absurd H (by simp)
 ·replace c4 := Bool.eq_false_iff.mpr c4
  subst c4
  have H1 : (some a0) = some r := by rw [if_neg (show ¬ (false = true) by decide)] at H; exact H
  clear H
  have H := H1
  clear H1
  obtain rfl := Option.some.inj H
  go_enter Try.func46, Try.ntmps46
  go_wp2_with (first | ((with_reducible refine gate_callee (f := 50) rfl ?_); refine goesL_ (some 7) rfl rfl Try.func50 (by kernel_rfl) rfl #[.string a0, .string a1] rfl (by (try simp only [List.map_toArray, List.map_cons, List.map_nil]); first | done | rfl | (simp only [List.length_drop, List.length_take]; rfl)) ?_; (with_reducible refine (stringslite_HasSuffix.calls a0 a1 false _ A3.out).mono ?_); rintro e w' ⟨rfl, ⟨nd, rfl⟩⟩; refine ⟨_, rfl, ?_⟩))
  go_ret
  exact ⟨by first | rfl | (simp; done) | (simp [*]; done), by repeat (first | exact Drawn0.refl _ | apply Drawn0.step)⟩

end Go.Proofs.Ytfgonglcmgahkab.P

namespace Go.Proofs.Ytfgonglcmgahkab.P
open Go.RowKit Go.Proofs.YtfgonglcmgahkabW.PrintWords Go.Proofs.YtfgonglcmgahkabW.PrintLast Go.Proofs.YtfgonglcmgahkabW.PrintMore
attribute [local go_sem] max2_int min2_int max_two min_two   -- for this text's walks alone
set_option linter.unusedVariables false
set_option linter.unusedSimpArgs false

/-! ### strings_TrimSuffix: function 40 -/
def strings_TrimSuffix.f (a0 : ByteArray) (a1 : ByteArray) : Option (ByteArray) := (stringslite_TrimSuffix.f a0 a1).bind fun t106 => (some t106)
set_option maxHeartbeats 8000000 in
set_option maxRecDepth 100000 in
theorem strings_TrimSuffix.calls (a0 : ByteArray) (a1 : ByteArray) (r : ByteArray) (w : World) (h : strings_TrimSuffix.f a0 a1 = some r) :
  Calls Try.prog 40 #[.string a0, .string a1] w fun e w' => e = .returned (.string r) ∧ Drawn0 w w' := by
 have H : ((stringslite_TrimSuffix.f a0 a1).bind fun t106 => (some t106)) = some r := h
 clear h
 replace H := Option.bind_eq_some_iff.mp H
 obtain ⟨t106, A30, H⟩ := H
 replace H : (some t106) = some r := H
 have A3 := Aside0.mk A30
 clear A30
 obtain rfl := Option.some.inj H
 go_enter Try.func40, Try.ntmps40
 go_wp2_with (first | ((with_reducible refine gate_callee (f := 46) rfl ?_); refine goesL_ (some 7) rfl rfl Try.func46 (by kernel_rfl) rfl #[.string a0, .string a1] rfl (by (try simp only [List.map_toArray, List.map_cons, List.map_nil]); first | done | rfl | (simp only [List.length_drop, List.length_take]; rfl)) ?_; (with_reducible refine (stringslite_TrimSuffix.calls a0 a1 t106 _ A3.out).mono ?_); rintro e w' ⟨rfl, ⟨nd, rfl⟩⟩; refine ⟨_, rfl, ?_⟩))
 go_ret
 exact ⟨by first | rfl | (simp; done) | (simp [*]; done), by repeat (first | exact Drawn0.refl _ | apply Drawn0.step)⟩

end Go.Proofs.Ytfgonglcmgahkab.P

namespace Go.Proofs.Ytfgonglcmgahkab.P
open Go.RowKit Go.Proofs.YtfgonglcmgahkabW.PrintWords Go.Proofs.YtfgonglcmgahkabW.PrintLast Go.Proofs.YtfgonglcmgahkabW.PrintMore
attribute [local go_sem] max2_int min2_int max_two min_two   -- for this text's walks alone
set_option linter.unusedVariables false
set_option linter.unusedSimpArgs false

/-! ### scan_Lines: function 27 -/
-- EXT Derived.RangeFuncNested Derived.RangeFuncBound Derived.RangeFuncCalls Derived.RangeFuncLeaves Derived.RangeFuncBox Derived.Shelf.Abstract Derived.Shelf.RegionOpen Derived.WalkKit Derived.OwnWalkIn Derived.TacticsInMore Derived.LoopNIn Derived.LoopIn Derived.Maps.AppendAt Derived.Laws.DeepStrings4 Derived.Deep.DeepMust Derived.Test.@NPureLib Derived.Test.@NLnDefs Derived.Test.@NP@F{strings.Cut} Derived.Test.@NP@F{strings.TrimSuffix}
open Go.Proofs.Ytfgonglcmgahkab.L Go.Shelf
attribute [local go_sem] Oper.semAt_some
/-- The lines from a place on: where each begins, and its text. -/
def lns (s : ByteArray) : Nat → Nat → Option (List Ln)
 | 0, _ => none
 | k + 1, i => if i < s.size then (strings_Cut.f (s.extract i s.size) ⟨#[10]⟩).bind fun c => (strings_TrimSuffix.f c.1 ⟨#[13]⟩).bind fun t => if i + c.1.size ≤ s.size then (lns s k (i + c.1.size + 1)).map fun l => (⟨(i : Int), t⟩ : Ln) :: l else none else some []
theorem lns_succ (s : ByteArray) (k i : Nat) : lns s (k + 1) i = if i < s.size then (strings_Cut.f (s.extract i s.size) ⟨#[10]⟩).bind fun c => (strings_TrimSuffix.f c.1 ⟨#[13]⟩).bind fun t => if i + c.1.size ≤ s.size then (lns s k (i + c.1.size + 1)).map fun l => (⟨(i : Int), t⟩ : Ln) :: l else none else some [] := rfl
theorem grown_belowL {W W' : World} (h : Below W.heap.size W W') : W.grownBy W' none := ⟨h.os, h.tape, h.output, h.size, fun k hk _ => h.block k hk⟩
abbrev encL (x : Ln) : Array Value := #[.int .i64 x.f0, .string x.f1]
def lineAtL (W : World) (B : Nat) (s : ByteArray) : Prop := W.heap[B]? = some (.cells #[.string s] 9 (0, 0))
set_option maxRecDepth 100000 in
set_option maxHeartbeats 4000000 in
theorem lines1_in (n : Nat) (hn : 1 ≤ n) (l Bn : Nat) (s : ByteArray) (hs : s.size ≤ 140737488351232) (xs : List Ln) (k0 : Nat) (hxs : lns s k0 0 = some xs) (J Jx : List Ln → World → Prop)
  (hY : ∀ pre x W, pre ++ [x] <+: xs → J pre W → pre.length < xs.length → YieldAt Fence.wide (n - 1) Try.prog l (encL x) W fun e W' =>
   (e = .returned (.bool true) ∧ J (pre ++ [x]) W' ∧ W'.heap[Bn]? = W.heap[Bn]?) ∨ (e = .returned (.bool false) ∧ Jx (pre ++ [x]) W'))
  (W : World) (hBn : lineAtL W Bn s) (hJ : AbidesFrom W.heap.size J) (h0 : J [] W) :
  CallsIn Fence.wide n Try.prog 38 #[.func (.yield l) #[] #[], .pointer (some ⟨Bn, 0, none⟩)] W fun e W' => (∃ v, e = .returned v) ∧
   ((∃ ys, ys = xs ∧ J ys W') ∨ (∃ pre, pre <+: xs ∧ Jx pre W')) := by
 have hX := Aside0.mk hxs
 clear hxs
 refine callsIn_of_wp Try.func38 rfl trivial ?_ rfl
 simp only [Try.ntmps38, List.size_toArray, List.length_cons, List.length_nil, Nat.reduceAdd, Nat.reduceSub, Array.replicate_succ, Array.replicate_zero, List.push_toArray, List.append_toArray, List.nil_append, List.cons_append]
 gi_wp2
 gi_loopw [3] (fun t3 wr => ∃ (i : Nat) (k : Nat) (pre rest : List Ln), t3 = .int .i64 i ∧ i ≤ s.size + 1 ∧ Aside0 (lns s k i = some rest) ∧ Aside0 (xs = pre ++ rest) ∧ Aside0 (J pre wr) ∧ Aside0 (lineAtL wr Bn s))
  (fun t3 _ => s.size + 1 - (match t3 with | .int _ i => i.toNat | _ => 0))
 case atStart =>
  exact ⟨0, k0, [], xs, rfl, Nat.zero_le _, hX, ⟨rfl⟩, ⟨h0⟩, ⟨hBn⟩⟩
 case round =>
  clear hX
  obtain ⟨i, k, pre, rest, rfl, hi, HX, HP, HJ, HL⟩ := hrel
  have hc : wr.cell? ⟨Bn, 0, none⟩ = some (.string s) := blk_cell HL.out 0
  have i0 : (0 : Int) ≤ (i : Int) := by omega
  by_cases d1 : i < s.size
  ·have d1' : (i : Int) < (s.size : Int) := by omega
   cases k with
   | zero => exact absurd HX.out (by simp [lns])
   | succ k =>
   have h := HX.out
   rw [lns_succ, if_pos d1] at h
   obtain ⟨⟨c1, c2, c3⟩, hcut, h⟩ := Option.bind_eq_some_iff.mp h
   obtain ⟨t, htr, h⟩ := Option.bind_eq_some_iff.mp h
   dsimp only at h htr
   by_cases c4 : i + c1.size ≤ s.size
   ·rw [if_pos c4] at h
    obtain ⟨l', hl', hr'⟩ := Option.map_eq_some_iff.1 h
    have HN := Aside0.mk hl'
    have HR := Aside0.mk hr'
    have HC := Aside0.mk hcut
    have HT := Aside0.mk htr
    have HLEN : Aside0 (pre.length < xs.length) := ⟨by rw [HP.out, ← hr']; simp⟩
    have HPX : Aside0 (pre ++ [(⟨(i : Int), t⟩ : Ln)] <+: xs) := ⟨⟨l', by rw [HP.out, ← hr', List.append_assoc]; rfl⟩⟩
    clear h hl' hr' hcut htr HX
    gi_wp2_with (first | (refine ⟨trivial, ?_⟩; gi_at_call 39; go_must (refine (callsIn_wide.2 (strings_Cut.calls (s.extract i s.size) ⟨#[10]⟩ c1 c2 c3 _ HC.out)).mono ?_; rintro e w2 ⟨rfl, hd⟩; have HJ2 := Aside0.mk (hJ _ _ _ none HJ.out (grown_belowL hd.below) (by simp)); have HL2 : Aside0 (lineAtL w2 Bn s) := ⟨by obtain ⟨⟨m, rfl⟩⟩ := hd; exact HL.out⟩; have hc2 : w2.cell? ⟨Bn, 0, none⟩ = some (.string s) := blk_cell HL2.out 0; clear hd)) | (refine ⟨trivial, ?_⟩; gi_at_call 40; go_must (refine (callsIn_wide.2 (strings_TrimSuffix.calls c1 ⟨#[13]⟩ t _ HT.out)).mono ?_; rintro e w3 ⟨rfl, hd⟩; have HJ3 := Aside0.mk (hJ _ _ _ none HJ2.out (grown_belowL hd.below) (by simp)); have HL3 : Aside0 (lineAtL w3 Bn s) := ⟨by obtain ⟨⟨m, rfl⟩⟩ := hd; exact HL2.out⟩; clear hd; obtain ⟨fn, tmps, assign, body, hy, hR⟩ := hY pre ⟨(i : Int), t⟩ w3 HPX.out HJ3.out HLEN.out; dsimp only [encL] at hy; have HRR := Aside0.mk hR; clear hR)))
    refine HRR.out.mono ?_
    rintro e W4 (⟨rfl, hJ4, hk4⟩ | ⟨rfl, hJx4⟩)
    ·have HP4 : Aside0 (xs = (pre ++ [(⟨(i : Int), t⟩ : Ln)]) ++ l') := ⟨by rw [HP.out, ← HR.out]; simp⟩
     have HJ4 := Aside0.mk hJ4
     have HL4 : Aside0 (lineAtL W4 Bn s) := ⟨hk4.trans HL3.out⟩
     clear hJ4 hk4
     gi_wp2
     go_roundw
     case rel => exact ⟨i + c1.size + 1, k, pre ++ [(⟨(i : Int), t⟩ : Ln)], l', by rw [show (i : Int) + ((c1.size : Int) + 1) = ((i + c1.size + 1 : Nat) : Int) from by omega], by omega, HN, HP4, HJ4, HL4⟩
     case measure => simp; omega
    ·have HX4 := Aside0.mk hJx4
     clear hJx4
     gi_wp2
     refine bodyPost_ret (results_none rfl _ _ _) rfl ?_
     exact ⟨⟨_, rfl⟩, .inr ⟨pre ++ [(⟨(i : Int), t⟩ : Ln)], ⟨l', by rw [HP.out, ← HR.out]; simp⟩, HX4.out⟩⟩
   ·rw [if_neg c4] at h; cases h
  ·have d1' : ¬ (i : Int) < (s.size : Int) := by omega
   cases k with
   | zero => exact absurd HX.out (by simp [lns])
   | succ k =>
   have h := HX.out
   rw [lns_succ, if_neg d1] at h
   obtain rfl := Option.some.inj h
   clear h HX
   gi_wp2
   go_end0
   exact ⟨⟨_, rfl⟩, .inl (by rw [HP.out, List.append_nil]; exact HJ.out)⟩
set_option maxHeartbeats 1000000 in
theorem Lines_in (n : Nat) (s : ByteArray) (w : World) :
  CallsIn Fence.wide n Try.prog 27 #[.string s] w fun e w' => e = .returned (.func (.func 38) #[] #[.pointer (some ⟨w.heap.size, 0, none⟩)]) ∧ w' = w.alloc (.cells #[.string s] 9) := by
 refine callsIn_of_wp Try.func27 rfl trivial ?_ rfl
 simp only [Try.ntmps27, List.size_toArray, List.length_cons, List.length_nil, Nat.reduceAdd, Nat.reduceSub, Array.replicate_succ, Array.replicate_zero, List.push_toArray, List.append_toArray, List.nil_append, List.cons_append]
 gi_wp2
 go_ret
 exact ⟨rfl, rfl⟩
def keepLineL (Bn : Nat) (A B : World) : Prop := B.heap[Bn]? = A.heap[Bn]?
theorem lines_stops (n : Nat) (hn : 1 ≤ n) (Bn : Nat) (s : ByteArray) (hs : s.size ≤ 140737488351232) (xs : List Ln) (k0 : Nat) (hxs : lns s k0 0 = some xs) (w : World) (hBl : Bn < w.heap.size) (hBn : lineAtL w Bn s) :
  SeqStopsK Fence.wide n Try.prog 38 #[.pointer (some ⟨Bn, 0, none⟩)] encL (keepLineL Bn) (fun ys => ys = xs) (fun pre => pre <+: xs) xs.length w := fun l J Jx W hW hJ _ hY h0 =>
 lines1_in n hn l Bn s hs xs k0 hxs J Jx (fun pre x W _ => hY pre x W) W ((hW.block Bn hBl).trans hBn) hJ h0
/-- The same, where the loop's body is handed lines of which something is known. -/
theorem lines_stopsP (p : Ln → Prop) (n : Nat) (hn : 1 ≤ n) (Bn : Nat) (s : ByteArray) (hs : s.size ≤ 140737488351232) (xs : List Ln) (hp : ∀ x, x ∈ xs → p x) (k0 : Nat) (hxs : lns s k0 0 = some xs) (w : World) (hBl : Bn < w.heap.size) (hBn : lineAtL w Bn s) :
  SeqStopsK Fence.wide n Try.prog 38 #[.pointer (some ⟨Bn, 0, none⟩)] (fun x : {x : Ln // p x} => encL x.1) (keepLineL Bn) (fun ys => ys.map Subtype.val = xs) (fun pre => pre.map Subtype.val <+: xs) xs.length w := fun l J Jx W hW hJ _ hY h0 => by
 refine (lines1_in n hn l Bn s hs xs k0 hxs (fun pre W => ∃ q : List {x : Ln // p x}, q.map Subtype.val = pre ∧ J q W) (fun pre W => ∃ q : List {x : Ln // p x}, q.map Subtype.val = pre ∧ Jx q W) ?_ W ((hW.block Bn hBl).trans hBn) ?_ ⟨[], rfl, h0⟩).mono ?_
 ·rintro pre x W1 hpx ⟨q, rfl, hq⟩ hlen
  rw [List.length_map] at hlen
  have hx : p x := hp x (hpx.subset (by simp))
  obtain ⟨fn, tmps, assign, body, hy, hR⟩ := hY q ⟨x, hx⟩ W1 hq hlen
  refine ⟨fn, tmps, assign, body, hy, hR.mono ?_⟩
  rintro e W' (⟨h1, h2, h3⟩ | ⟨h1, h2⟩)
  ·exact .inl ⟨h1, ⟨_, by simp, h2⟩, h3⟩
  ·exact .inr ⟨h1, ⟨_, by simp, h2⟩⟩
 ·rintro pre X Y row ⟨q, h1, h2⟩ hg hr
  exact ⟨q, h1, hJ q X Y row h2 hg hr⟩
 ·rintro e W' ⟨h, h2⟩
  refine ⟨h, ?_⟩
  rcases h2 with ⟨ys, rfl, q, h3, h4⟩ | ⟨pre, hpre, q, rfl, h4⟩
  ·exact .inl ⟨q, h3, h4⟩
  ·exact .inr ⟨q, hpre, h4⟩

end Go.Proofs.Ytfgonglcmgahkab.P

namespace Go.Proofs.Ytfgonglcmgahkab.P
open Go.RowKit Go.Proofs.YtfgonglcmgahkabW.PrintWords Go.Proofs.YtfgonglcmgahkabW.PrintLast Go.Proofs.YtfgonglcmgahkabW.PrintMore
attribute [local go_sem] max2_int min2_int max_two min_two   -- for this text's walks alone
set_option linter.unusedVariables false
set_option linter.unusedSimpArgs false

/-! ### stringslite_HasPrefix: function 41 -/
def stringslite_HasPrefix.f (a0 : ByteArray) (a1 : ByteArray) : Option (Bool) := if (a0.size : Int) ≥ (a1.size : Int) then (if 0 ≤ (a1.size : Int) then (if (a1.size : Int) ≤ (a0.size : Int) then (some ((a0.extract 0 ((a1.size : Int) : Int).toNat).toList == a1.toList)) else (none)) else (none)) else (some false)
set_option maxHeartbeats 8000000 in
set_option maxRecDepth 100000 in
theorem stringslite_HasPrefix.calls (a0 : ByteArray) (a1 : ByteArray) (r : Bool) (w : World) (h : stringslite_HasPrefix.f a0 a1 = some r) :
  Calls Try.prog 41 #[.string a0, .string a1] w fun e w' => e = .returned (.bool r) ∧ Drawn0 w w' := by
 have H : (if (a0.size : Int) ≥ (a1.size : Int) then (if 0 ≤ (a1.size : Int) then (if (a1.size : Int) ≤ (a0.size : Int) then (some ((a0.extract 0 ((a1.size : Int) : Int).toNat).toList == a1.toList)) else (none)) else (none)) else (some false)) = some r := h
 clear h
 by_cases c3 : (a0.size : Int) ≥ (a1.size : Int)
 ·rw [if_pos c3] at H
  have c3b0 : decide ((a1.size : Int) ≤ (a0.size : Int)) = true := decide_eq_true c3
  have c3b1 : decide (a1.size ≤ a0.size) = true := decide_eq_true (Int.ofNat_le.mp c3)
  clear c3
  by_cases c4 : 0 ≤ (a1.size : Int)
  ·rw [if_pos c4] at H
   have c4b0 := eq_true c4
   have c4b1 : decide (0 ≤ (a1.size : Int)) = true := decide_eq_true c4
   clear c4
   by_cases c5 : (a1.size : Int) ≤ (a0.size : Int)
   ·rw [if_pos c5] at H
    have c5b0 := eq_true c5
    have c5b1 : decide ((a1.size : Int) ≤ (a0.size : Int)) = true := decide_eq_true c5
    clear c5
    obtain rfl := Option.some.inj H
    go_enter Try.func41, Try.ntmps41
    go_wp2
    go_ret
    exact ⟨by first | rfl | (simp; done) | (simp [*]; done), by repeat (first | exact Drawn0.refl _ | apply Drawn0.step)⟩
   ·rw [if_neg c5] at H
    exact absurd H (by simp)
  ·rw [if_neg c4] at H
   exact absurd H (by simp)
 ·rw [if_neg c3] at H
  have c3b0 : decide ((a1.size : Int) ≤ (a0.size : Int)) = false := decide_eq_false c3
  have c3b1 : decide (a1.size ≤ a0.size) = false := decide_eq_false (fun h => c3 (Int.ofNat_le.mpr h))
  clear c3
  obtain rfl := Option.some.inj H
  go_enter Try.func41, Try.ntmps41
  go_wp2
  go_ret
  exact ⟨by first | rfl | (simp; done) | (simp [*]; done), by repeat (first | exact Drawn0.refl _ | apply Drawn0.step)⟩

end Go.Proofs.Ytfgonglcmgahkab.P

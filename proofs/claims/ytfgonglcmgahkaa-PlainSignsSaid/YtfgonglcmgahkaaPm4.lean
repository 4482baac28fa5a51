-- Written by a program of this session (wip/tools/mk.py) that runs the kit's printer; several functions' texts in one.
import Derived.Test.YtfgonglcmgahkaaP0
import Derived.Test.YtfgonglcmgahkaaPm3
import Derived.Test.YtfgonglcmgahkaaPlainStates
import Derived.Test.YtfgonglcmgahkaaPlainDrawn
import Derived.RangeFuncBox
import Derived.OpenShut
import Derived.Maps.OwnOps
import Derived.Deep.DeepMust
import Derived.Test.YtfgonglcmgahkaaPm2
namespace Go.Proofs.Ytfgonglcmgahkaa.P
open Go.RowKit Go.Proofs.YtfgonglcmgahkaaW.PrintWords Go.Proofs.YtfgonglcmgahkaaW.PrintLast Go.Proofs.YtfgonglcmgahkaaW.PrintMore
attribute [local go_sem] max2_int min2_int max_two min_two   -- for this text's walks alone
set_option linter.unusedVariables false
set_option linter.unusedSimpArgs false

/-! ### plain_Write: function 66 -/
-- EXT Derived.Test.@NPlainStates Derived.Test.@NPlainDrawn Derived.Test.@NP@F{vivarium/plain.Sign} Derived.Test.@NP@F{vivarium/plain.far} Derived.RangeFuncBox Derived.OpenShut Derived.Maps.OwnOps Derived.Deep.DeepMust
open Go.Proofs.Ytfgonglcmgahkaa.L Go.Maps
/-- The state that the map tells of a place. -/
def mapAt (D : DataW Unit) (x y : Int) : Int := match D.atKey (klP x y) (.lit (.int .u8 0)) with
 | .lit (.int .u8 c) => if 0 ≤ c ∧ c ≤ 255 then c else 0
 | _ => 0
def signP (a0 : Int) : Int := if a0 = 0 then 46 else if a0 = 1 then 79 else 10240 + a0
theorem sign_is (a : Int) (h0 : 0 ≤ a) (h1 : a ≤ 255) : plain_Sign.f a = some (signP a) := by
 unfold plain_Sign.f signP
 by_cases c0 : a = 0
 ·rw [if_pos c0, if_pos c0]
 ·rw [if_neg c0, if_neg c0]
  by_cases c1 : a = 1
  ·rw [if_pos c1, if_pos c1]
  ·rw [if_neg c1, if_neg c1]
   have e : wrap32 (10240 + wrap32 a) = 10240 + a := by unfold wrap32; omega
   rw [e]
/-- The rune of a place of the rectangle. -/
def runeP (D : DataW Unit) (X Y x y : Int) : Int := signP (mapAt D (wrap64 (X + x)) (wrap64 (Y + y)))
theorem mapAt_of {D : DataW Unit} {x y c : Int} (h : D.atKey (klP x y) (.lit (.int .u8 0)) = .lit (.int .u8 c)) (hc : 0 ≤ c ∧ c ≤ 255) : mapAt D x y = c := by unfold mapAt; rw [h]; exact if_pos hc
theorem mapAt_range (D : DataW Unit) (x y : Int) : 0 ≤ mapAt D x y ∧ mapAt D x y ≤ 255 := by
 unfold mapAt
 split
 ·split <;> omega
 ·omega
set_option maxRecDepth 100000 in
set_option maxHeartbeats 4000000 in
theorem write1_calls (B n Bm Br : Nat) (D : DataW Unit) (X Y W H : Int) (x y : Int) (w : World) (hm : w.heap[Bm]? = some (.cells #[.map (some B)] 116 (0, 0))) (hr : w.heap[Br]? = some (.cells #[.int .i64 X, .int .i64 Y, .int .i64 W, .int .i64 H] 105 (0, 0)))
  (hown : w.ownsMap Try.prog 121 (plainElem Try.prog 5) B n D) :
  Calls Try.prog 77 #[.int .i64 x, .int .i64 y, .pointer (some ⟨Bm, 0, none⟩), .pointer (some ⟨Br, 0, none⟩)] w fun e w' => e = .returned (.int .i32 (runeP D X Y x y)) ∧ Below w.heap.size w w' := by
 have cm := blk_cell hm 0
 have r0 := blk_cell hr 0
 have r1 := blk_cell hr 1
 have hz : ∀ w : World, (zeroValue 5).run Try.prog w = .ok (.int .u8 0) w := fun w => by kernel_rfl
 go_enter Try.func77, Try.ntmps77
 go_wp2_with (first | (at_lookup; go_must (refine wpList_lookup_own_int _ rfl _ _ 116 rfl 121 5 .u8 pkey Try.underlying116 Try.underlying5 (hz _) B n D rfl hown _ _ rfl (key_of (wrap64 (X + x)) (wrap64 (Y + y)) (wrap64_wf _) (wrap64_wf _)) ?_; intro c hat hwc)) | (go_at_call 39; go_must (have hcb := Go.bounds_u8 hwc; refine (plain_Sign.calls c (signP c) _ (sign_is c (by omega) (by omega))).mono ?_; rintro e w2 ⟨rfl, hd⟩; have hdb := hd.below; clear hd)))
 go_ret
 refine ⟨?_, hdb⟩
 unfold runeP
 rw [mapAt_of hat (Go.bounds_u8 hwc)]
 rfl
theorem rune_range (D : DataW Unit) (X Y x y : Int) : -2147483648 ≤ runeP D X Y x y ∧ runeP D X Y x y ≤ 2147483647 := by
 have h := mapAt_range D (wrap64 (X + x)) (wrap64 (Y + y))
 unfold runeP signP
 obtain ⟨a, ha⟩ : ∃ a, mapAt D (wrap64 (X + x)) (wrap64 (Y + y)) = a := ⟨_, rfl⟩
 rw [ha] at h ⊢
 split
 ·omega
 ·split <;> omega
theorem stE_ok {T : DataW Unit × Int × Bool} {X Y W H : Int} (h : stE T X Y W H = 0) : 0 ≤ W ∧ W ≤ 65536 ∧ 0 ≤ H ∧ H ≤ 65536 := by
 unfold stE at h
 by_cases c0 : T.2.2 = true
 ·rw [if_pos c0] at h; exact absurd h (by decide)
 ·rw [if_neg c0] at h
  by_cases c1 : (Maps.size T.1 : Int) < T.2.1
  ·rw [if_pos c1] at h; exact absurd h (by decide)
  ·rw [if_neg c1] at h
   by_cases c2 : W < 0 ∨ 65536 < W ∨ H < 0 ∨ 65536 < H
   ·rw [if_pos c2] at h; exact absurd h (by decide)
   ·omega
theorem WB_none {W W' : World} (h : Below W.heap.size W W') : W.grownBy W' none := ⟨h.os, h.tape, h.output, h.size, fun k hk _ => h.block k hk⟩
set_option maxRecDepth 100000 in
set_option maxHeartbeats 4000000 in
theorem Write_walk (A0 : Option Addr) (c0 : Nat) (xs : List ClS) (X Y W H : Int) (w : World) (hC : Kd.C k103 w A0 xs.length xs) (hc : xs.length ≤ c0) (hlen : xs.length ≤ 1000000000)
  (hwf : ∀ x ∈ xs, (Lit.int .i64 x.f0).wf = true ∧ (Lit.int .i64 x.f1).wf = true ∧ (Lit.int .u8 x.f2).wf = true) (hW : (Lit.int .i64 W).wf = true) (hH : (Lit.int .i64 H).wf = true) (hX : (Lit.int .i64 X).wf = true) (hY : (Lit.int .i64 Y).wf = true) :
  Calls Try.prog 66 #[.slice A0 xs.length c0, .agg #[.int .i64 X, .int .i64 Y, .int .i64 W, .int .i64 H]] w fun e w' =>
   e = .returned (.tuple #[.string (if stE (stD xs (.map []) 0) X Y W H = 0 then (drawnP (runeP (stD xs (.map []) 0).1 X Y) W H).1 else ⟨#[]⟩), .int .i64 (if stE (stD xs (.map []) 0) X Y W H = 0 then (drawnP (runeP (stD xs (.map []) 0).1 X Y) W H).2 else stE (stD xs (.map []) 0) X Y W H)]) ∧ Below w.heap.size w w' := by
 have hCC := Aside0.mk hC
 have hWF := Aside0.mk hwf
 clear hC hwf
 obtain ⟨T, hT⟩ : ∃ T, stD xs (.map []) 0 = T := ⟨_, rfl⟩
 obtain ⟨E, hE⟩ : ∃ E, stE T X Y W H = E := ⟨_, rfl⟩
 rw [hT, hE]
 have hTT := Aside0.mk hT
 have hEE := Aside0.mk hE
 clear hT hE
 have ef : ∀ args w, (callFunc 77 args).run Try.prog w = .ok (.enter 77 args) w := enters_of Try.func77 (by kernel_rfl) rfl
 by_cases e0 : E = 0
 ·subst e0
  have hb := stE_ok hEE.out
  obtain ⟨W, rfl⟩ : ∃ m : Nat, W = m := ⟨W.toNat, by omega⟩
  obtain ⟨H, rfl⟩ : ∃ m : Nat, H = m := ⟨H.toNat, by omega⟩
  go_enter Try.func66, Try.ntmps66
  go_wp2_with (first | (go_at_call 75; go_must (refine (states_calls A0 c0 xs X Y W H _ (Kd.C_below hCC.out ((Below.refl _ w).alloc (Nat.le_refl _) _)) hc hlen hWF.out hW hH hX hY).mono ?_; rintro e w2 ⟨hst, hb2⟩; rw [hTT.out, hEE.out] at hst; rcases hst with ⟨hst, _⟩ | ⟨_, B, hB, rfl, n, hown⟩; (exact absurd rfl hst); have hbx := (hb2.block w.heap.size (by simp)).trans (blk_new w _); have HB2 := Aside0.mk hb2; have HOW := Aside0.mk hown; have HBX := Aside0.mk hbx; have hby := (Below.heap_alloc w2 (.cells #[.map (some B)] 116) w.heap.size (Array.getElem?_eq_some_iff.1 hbx).1).trans hbx; have cx2 := blk_cell hby 2; have cx3 := blk_cell hby 3; clear hb2 hown hbx)) | (go_at_call 76; go_must (refine (drawn_calls 77 #[.pointer (some ⟨w2.heap.size, 0, none⟩), .pointer (some ⟨w.heap.size, 0, none⟩)] ef (runeP T.1 X Y) (rune_range T.1 X Y) W H (by omega) (by omega) (w2.alloc (.cells #[.map (some B)] 116)) (fun x y w1 hx hy hb => write1_calls B n w2.heap.size w.heap.size T.1 X Y W H x y w1 ((hb.block _ (by simp)).trans (blk_new w2 _)) ((hb.block _ (by have := (Array.getElem?_eq_some_iff.1 HBX.out).1; simp; omega)).trans hby) (((HOW.out.alloc _).kept (WB_none hb) (by simp))))).mono ?_; rintro e w3 ⟨rfl, hb3⟩; have HB3 := Aside0.mk hb3; clear hb3)))
  go_ret2
  have s2 := HB2.out.size
  simp at s2
  exact ⟨rfl, ((((Below.refl _ w).alloc (Nat.le_refl _) _).trans (HB2.out.mono (by simp))).alloc (by omega) _).trans (HB3.out.mono (by simp; omega))⟩
 ·have b0 : (E == 0) = false := beq_eq_false_iff_ne.mpr e0
  have b1 : (E != 0) = true := bne_iff_ne.mpr e0
  have E0 := Aside0.mk e0
  clear e0
  go_enter Try.func66, Try.ntmps66
  go_wp2_with (go_at_call 75; go_must (refine (states_calls A0 c0 xs X Y W H _ (Kd.C_below hCC.out ((Below.refl _ w).alloc (Nat.le_refl _) _)) hc hlen hWF.out hW hH hX hY).mono ?_; rintro e w2 ⟨hst, hb2⟩; rw [hTT.out, hEE.out] at hst; rcases hst with ⟨_, rfl⟩ | ⟨hst, _⟩; rotate_left; (exact absurd hst E0.out); have HB2 := Aside0.mk hb2; clear hb2))
  go_ret2
  have s2 := HB2.out.size
  simp at s2
  exact ⟨rfl, ((((Below.refl _ w).alloc (Nat.le_refl _) _).trans (HB2.out.mono (by simp))).alloc (by omega) _)⟩
/-- The picture of cells in a rectangle, or the error. -/
def plain_Write.f (l0 : List ClS) (X Y W H : Int) : Option (ByteArray × Int) :=
 if l0.length ≤ 1000000000 ∧ (l0.all fun x => (Lit.int .i64 x.f0).wf && ((Lit.int .i64 x.f1).wf && (Lit.int .u8 x.f2).wf)) = true ∧ (Lit.int .i64 X).wf = true ∧ (Lit.int .i64 Y).wf = true ∧ (Lit.int .i64 W).wf = true ∧ (Lit.int .i64 H).wf = true then
  some (if stE (stD l0 (.map []) 0) X Y W H = 0 then (drawnP (runeP (stD l0 (.map []) 0).1 X Y) W H).1 else ⟨#[]⟩, if stE (stD l0 (.map []) 0) X Y W H = 0 then (drawnP (runeP (stD l0 (.map []) 0).1 X Y) W H).2 else stE (stD l0 (.map []) 0) X Y W H)
 else none
theorem plain_Write.calls (A0 : Option Addr) (c0 : Nat) (l0 : List S103) (a1_0 a1_1 a1_2 a1_3 : Int) (r1 : ByteArray) (r2 : Int) (w : World) (hr0 : Kd.C k103 w A0 l0.length l0) (hc0 : l0.length ≤ c0) (h : plain_Write.f l0 a1_0 a1_1 a1_2 a1_3 = some (r1, r2)) :
  Calls Try.prog 66 #[.slice A0 l0.length c0, .agg #[.int .i64 a1_0, .int .i64 a1_1, .int .i64 a1_2, .int .i64 a1_3]] w fun e w' => e = .returned (.tuple #[.string r1, .int .i64 r2]) ∧ Below w.heap.size w w' := by
 unfold plain_Write.f at h
 by_cases c : l0.length ≤ 1000000000 ∧ (l0.all fun x => (Lit.int .i64 x.f0).wf && ((Lit.int .i64 x.f1).wf && (Lit.int .u8 x.f2).wf)) = true ∧ (Lit.int .i64 a1_0).wf = true ∧ (Lit.int .i64 a1_1).wf = true ∧ (Lit.int .i64 a1_2).wf = true ∧ (Lit.int .i64 a1_3).wf = true
 ·rw [if_pos c] at h
  cases h
  obtain ⟨h1, h2, h3, h4, h5, h6⟩ := c
  exact Write_walk A0 c0 l0 a1_0 a1_1 a1_2 a1_3 w hr0 hc0 h1 (fun x hx => by
   have := List.all_eq_true.1 h2 x hx
   simp only [Bool.and_eq_true] at this
   exact ⟨this.1, this.2.1, this.2.2⟩) h5 h6 h3 h4
 ·rw [if_neg c] at h; cases h

end Go.Proofs.Ytfgonglcmgahkaa.P

namespace Go.Proofs.Ytfgonglcmgahkaa.P
open Go.RowKit Go.Proofs.YtfgonglcmgahkaaW.PrintWords Go.Proofs.YtfgonglcmgahkaaW.PrintLast Go.Proofs.YtfgonglcmgahkaaW.PrintMore
attribute [local go_sem] max2_int min2_int max_two min_two   -- for this text's walks alone
set_option linter.unusedVariables false
set_option linter.unusedSimpArgs false

/-! ### vivariumlaw23_alive: function 36 -/
-- EXT Derived.RangeFuncBox Derived.Deep.DeepMust Derived.Test.@NP@F{vivarium/plain.Read} Derived.Test.@NP@F{vivarium/plain.Write} Derived.Test.@NP@F{vivarium/vivariumlaw23.same}
open Go.Proofs.Ytfgonglcmgahkaa.L
theorem lit_R (W : World) (base : Nat) (hb : base ≤ W.heap.size) (xs : List Cl) (cs : Array Value) (h : cs.toList = flatC xs) (hl : xs.length ≤ 1000) (hz : cs.size = xs.length * 3) :
  Kd.R k103 103 (W.alloc (.cells cs 103)) base (fun _ => True) (.slice (some ⟨W.heap.size, 0, none⟩) xs.length xs.length) xs := by
 have hf : (flatC xs).length = xs.length * 3 := by rw [← h, Array.length_toList, hz]
 refine ⟨fun _ _ => trivial, flatC xs, ⟨hf, .inr ⟨W.heap.size, xs.length, cs, rfl, hb, blk_new W _, Nat.le_refl _, by unfold maxLen; omega, hz, ?_⟩⟩, flatC_reps _ _ _ _ xs rfl⟩
 rw [h]
 exact List.take_of_length_le (by rw [hf]; exact Nat.le_refl _)
theorem al_1 : plain_Read.f ⟨#[33, 97, 10, 46, 79, 46, 10, 46, 46, 42, 10]⟩ = some ([⟨1, 0, 1⟩, ⟨2, 1, 1⟩], 0, 0) := by kernel_rfl
theorem al_2 : plain_Write.f [⟨1, 0, 1⟩, ⟨0, 1, 2⟩, ⟨9, 9, 3⟩] 0 0 2 2 = some (⟨#[46, 79, 10, 226, 160, 130, 46, 10]⟩, 0) := by kernel_rfl
theorem al_3 : plain_Read.f ⟨#[46, 120]⟩ = some ([], 1, 230) := by kernel_rfl
theorem al_4 : vivariumlaw23_same.f 10 [⟨1, 0, 1⟩, ⟨2, 1, 1⟩] [⟨1, 0, 1⟩, ⟨2, 1, 1⟩] = some true := by kernel_rfl
theorem alive_w (l : List Cl) (s : ByteArray) (hl : l.length = 3) (hf : flatC l = [.int .i64 1, .int .i64 0, .int .u8 1, .int .i64 0, .int .i64 1, .int .u8 2, .int .i64 9, .int .i64 9, .int .u8 3]) (hW : plain_Write.f l 0 0 2 2 = some (s, 0)) (w1 : World) :
  Calls Try.prog 66 #[.slice (some ⟨w1.heap.size, 0, none⟩) 3 3, .agg #[.int .i64 0, .int .i64 0, .int .i64 2, .int .i64 2]] (w1.alloc (.cells #[.int .i64 1, .int .i64 0, .int .u8 1, .int .i64 0, .int .i64 1, .int .u8 2, .int .i64 9, .int .i64 9, .int .u8 3] 103)) fun e w' => e = .returned (.tuple #[.string s, .int .i64 0]) ∧ Below (w1.alloc (.cells #[.int .i64 1, .int .i64 0, .int .u8 1, .int .i64 0, .int .i64 1, .int .u8 2, .int .i64 9, .int .i64 9, .int .u8 3] 103)).heap.size (w1.alloc (.cells #[.int .i64 1, .int .i64 0, .int .u8 1, .int .i64 0, .int .i64 1, .int .u8 2, .int .i64 9, .int .i64 9, .int .u8 3] 103)) w' := by
 have hR := lit_R w1 0 (Nat.zero_le _) l #[.int .i64 1, .int .i64 0, .int .u8 1, .int .i64 0, .int .i64 1, .int .u8 2, .int .i64 9, .int .i64 9, .int .u8 3] hf.symm (by omega) (by rw [hl]; rfl)
 have h := plain_Write.calls (some ⟨w1.heap.size, 0, none⟩) l.length l 0 0 2 2 s 0 (w1.alloc (.cells #[.int .i64 1, .int .i64 0, .int .u8 1, .int .i64 0, .int .i64 1, .int .u8 2, .int .i64 9, .int .i64 9, .int .u8 3] 103)) (Kd.R_reads' hR).2.2 (Nat.le_refl _) hW
 rw [hl] at h
 exact h
theorem alive_s (l : List Cl) (A : Option Addr) (c : Nat) (hl : l.length = 2) (hf : flatC l = [.int .i64 1, .int .i64 0, .int .u8 1, .int .i64 2, .int .i64 1, .int .u8 1]) (hS : vivariumlaw23_same.f 10 l l = some true) (w3 : World) (hC : Kd.C k103 (w3.alloc (.cells #[.int .i64 1, .int .i64 0, .int .u8 1, .int .i64 2, .int .i64 1, .int .u8 1] 103)) A l.length l) (hc : l.length ≤ c) :
  Calls Try.prog 43 #[.slice A l.length c, .slice (some ⟨w3.heap.size, 0, none⟩) 2 2] (w3.alloc (.cells #[.int .i64 1, .int .i64 0, .int .u8 1, .int .i64 2, .int .i64 1, .int .u8 1] 103)) fun e w' => e = .returned (.bool true) ∧ Drawn0 (w3.alloc (.cells #[.int .i64 1, .int .i64 0, .int .u8 1, .int .i64 2, .int .i64 1, .int .u8 1] 103)) w' := by
 have hR := lit_R w3 0 (Nat.zero_le _) l #[.int .i64 1, .int .i64 0, .int .u8 1, .int .i64 2, .int .i64 1, .int .u8 1] hf.symm (by omega) (by rw [hl]; rfl)
 have h := vivariumlaw23_same.calls 10 A c l (some ⟨w3.heap.size, 0, none⟩) l.length l true (w3.alloc (.cells #[.int .i64 1, .int .i64 0, .int .u8 1, .int .i64 2, .int .i64 1, .int .u8 1] 103)) hC hc (Kd.R_reads' hR).2.2 (Nat.le_refl _) hS
 rw [hl] at h ⊢
 exact h
set_option maxRecDepth 100000 in
set_option maxHeartbeats 4000000 in
theorem alive_walk (l l2 : List Cl) (s : ByteArray) (hl : l.length = 3) (hf : flatC l = [.int .i64 1, .int .i64 0, .int .u8 1, .int .i64 0, .int .i64 1, .int .u8 2, .int .i64 9, .int .i64 9, .int .u8 3]) (hW : plain_Write.f l 0 0 2 2 = some (s, 0))
  (hb : (s.toList == ([46, 79, 10, 226, 160, 130, 46, 10] : List UInt8)) = true) (hl2 : l2.length = 2) (hf2 : flatC l2 = [.int .i64 1, .int .i64 0, .int .u8 1, .int .i64 2, .int .i64 1, .int .u8 1]) (hS : vivariumlaw23_same.f 10 l2 l2 = some true) (h1 : plain_Read.f (⟨#[33, 97, 10, 46, 79, 46, 10, 46, 46, 42, 10]⟩ : ByteArray) = some (l2, 0, 0)) (h3 : plain_Read.f (⟨#[46, 120]⟩ : ByteArray) = some ([], 1, 230)) (w : World) : Calls Try.prog 36 #[] w fun e w' => e = .returned (.bool true) ∧ Below w.heap.size w w' := by
 have HW := Aside0.mk hW
 have HF := Aside0.mk hf
 have HF2 := Aside0.mk hf2
 have HS := Aside0.mk hS
 have H1 := Aside0.mk h1
 have H3 := Aside0.mk h3
 have HL := Aside0.mk hl
 have HL2 := Aside0.mk hl2
 clear hW hf hf2 hS h1 h3 hl hl2
 go_enter Try.func36, Try.ntmps36
 go_wp2_with (go_at_call 42; go_must (refine (plain_Read.calls (⟨#[33, 97, 10, 46, 79, 46, 10, 46, 46, 42, 10]⟩ : ByteArray) _ _ _ _ H1.out).mono ?_; rintro e w1 ⟨v1, rfl, hR1, hb1⟩; obtain ⟨A1, c1, rfl⟩ := Kd.R_slice hR1; have HR1 := Aside0.mk hR1; have HB1 := Aside0.mk hb1; clear hR1 hb1))
 refine (alive_w l s HL.out HF.out HW.out w1).mono ?_
 rintro e w2 ⟨rfl, hb2⟩
 have HB2 := Aside0.mk hb2
 clear hb2
 go_wp2_with (go_at_call 42; go_must (refine (plain_Read.calls (⟨#[46, 120]⟩ : ByteArray) _ _ _ _ H3.out).mono ?_; rintro e w3 ⟨v3, rfl, hR3, hb3⟩; obtain ⟨A3, c3, rfl⟩ := Kd.R_slice hR3; have HB3 := Aside0.mk hb3; clear hR3 hb3))
 have c12 := ((Below.refl w1.heap.size w1).alloc (Nat.le_refl _) _).trans (HB2.out.mono (by simp))
 have c13 := c12.trans (HB3.out.mono c12.size)
 have c14 := c13.alloc c13.size (.cells #[.int .i64 1, .int .i64 0, .int .u8 1, .int .i64 2, .int .i64 1, .int .u8 1] 103)
 have HC14 := Aside0.mk (HB1.out.trans (c14.mono HB1.out.size))
 refine (alive_s l2 A1 c1 HL2.out HF2.out HS.out w3 (Kd.C_below (Kd.R_reads' HR1.out).2.2 c14) (Kd.R_reads' HR1.out).2.1).mono ?_
 rintro e w4 ⟨rfl, hd⟩
 have HD := Aside0.mk (HC14.out.trans (hd.below.mono HC14.out.size))
 clear hd c12 c13 c14
 go_wp2
 go_ret
 exact ⟨rfl, HD.out⟩
/-- The examples answer as the document says. -/
def vivariumlaw23_alive.f : Option Bool := some true
theorem vivariumlaw23_alive.calls (r : Bool) (w : World) (h : vivariumlaw23_alive.f = some r) : Calls Try.prog 36 #[] w fun e w' => e = .returned (.bool r) ∧ Below w.heap.size w w' := by
 cases h
 exact alive_walk [⟨1, 0, 1⟩, ⟨0, 1, 2⟩, ⟨9, 9, 3⟩] [⟨1, 0, 1⟩, ⟨2, 1, 1⟩] _ rfl rfl al_2 (by rw [ByteArray.toList_eq]; decide) rfl rfl al_4 al_1 al_3 w

end Go.Proofs.Ytfgonglcmgahkaa.P

namespace Go.Proofs.Ytfgonglcmgahkaa.P
open Go.RowKit Go.Proofs.YtfgonglcmgahkaaW.PrintWords Go.Proofs.YtfgonglcmgahkaaW.PrintLast Go.Proofs.YtfgonglcmgahkaaW.PrintMore
attribute [local go_sem] max2_int min2_int max_two min_two   -- for this text's walks alone
set_option linter.unusedVariables false
set_option linter.unusedSimpArgs false

/-! ### vivariumref23_Of: function 38 -/
mutual
def vivariumref23_Of.j0 : Nat → Int → Int → Bool → Option (Int × Bool)
 | 0, _, _, _ => none
 | k + 1, x0, x4, x5 => if x5 = true then (some (0, true)) else (if x4 = 79 then (vivariumref23_Of.j1 k x0 (x4 == 79)) else (if x4 = 111 then (vivariumref23_Of.j1 k x0 (x4 == 111)) else (if x4 = 42 then (vivariumref23_Of.j1 k x0 (x4 == 42)) else (vivariumref23_Of.j1 k x0 (x4 == 35)))))
def vivariumref23_Of.j1 : Nat → Int → Bool → Option (Int × Bool)
 | 0, _, _ => none
 | k + 1, x0, x9 => if x9 = true then (some (1, true)) else (if x0 ≥ 10242 then (if x0 ≤ 10495 then (some ((wrap32 (x0 - 10240)) % 256, true)) else (some (0, false))) else (some (0, false)))
end
def vivariumref23_Of.f (k : Nat) (a0 : Int) : Option (Int × Bool) := if a0 = 46 then (vivariumref23_Of.j0 k a0 a0 (a0 == 46)) else (if a0 = 32 then (vivariumref23_Of.j0 k a0 a0 (a0 == 32)) else (vivariumref23_Of.j0 k a0 a0 (a0 == 95)))
theorem vivariumref23_Of.mono_l : ∀ k, (∀ y0 y1 y2, LeO (vivariumref23_Of.j0 k y0 y1 y2) (vivariumref23_Of.j0 (k + 1) y0 y1 y2)) ∧ (∀ y0 y1, LeO (vivariumref23_Of.j1 k y0 y1) (vivariumref23_Of.j1 (k + 1) y0 y1))
 | 0 => ⟨fun _ _ _ r h => by simp [vivariumref23_Of.j0] at h, fun _ _ r h => by simp [vivariumref23_Of.j1] at h⟩
 | k + 1 => by
  obtain ⟨ih0, ih1⟩ := vivariumref23_Of.mono_l k
  refine ⟨?_, ?_⟩
  ·intro y0 y1 y2
   unfold vivariumref23_Of.j0
   repeat' first
   | (with_reducible exact ih0 _ _ _)
   | (with_reducible exact ih1 _ _)
   | (with_reducible exact LeO.refl _)
   | (with_reducible exact LeO.none _)
   | (with_reducible refine LeO.ite ?_ ?_)
   | (with_reducible refine LeO.bind ?_ (fun _ => ?_))
   | exact ih0 _ _ _
   | exact ih1 _ _
   | exact LeO.none _
   | refine LeO.ite ?_ ?_
   | refine LeO.bind ?_ (fun _ => ?_)
  ·intro y0 y1
   unfold vivariumref23_Of.j1
   repeat' first
   | (with_reducible exact ih0 _ _ _)
   | (with_reducible exact ih1 _ _)
   | (with_reducible exact LeO.refl _)
   | (with_reducible exact LeO.none _)
   | (with_reducible refine LeO.ite ?_ ?_)
   | (with_reducible refine LeO.bind ?_ (fun _ => ?_))
   | exact ih0 _ _ _
   | exact ih1 _ _
   | exact LeO.none _
   | refine LeO.ite ?_ ?_
   | refine LeO.bind ?_ (fun _ => ?_)
theorem vivariumref23_Of.mono : ∀ a0 k, LeO (vivariumref23_Of.f k a0) (vivariumref23_Of.f (k + 1) a0) := by
 intro a0 k
 obtain ⟨ih0, ih1⟩ := vivariumref23_Of.mono_l k
 unfold vivariumref23_Of.f
 repeat' first
   | (with_reducible exact ih0 _ _ _)
   | (with_reducible exact ih1 _ _)
   | (with_reducible exact LeO.refl _)
   | (with_reducible exact LeO.none _)
   | (with_reducible refine LeO.ite ?_ ?_)
   | (with_reducible refine LeO.bind ?_ (fun _ => ?_))
   | exact ih0 _ _ _
   | exact ih1 _ _
   | exact LeO.none _
   | refine LeO.ite ?_ ?_
   | refine LeO.bind ?_ (fun _ => ?_)
set_option maxHeartbeats 8000000 in
set_option maxRecDepth 100000 in
theorem vivariumref23_Of.calls (k : Nat) (a0 : Int) (r1 : Int) (r2 : Bool) (w : World) (h : vivariumref23_Of.f k a0 = some (r1, r2)) :
  Calls Try.prog 38 #[.int .i32 a0] w fun e w' => e = .returned (.tuple #[.int .u8 r1, .bool r2]) ∧ Drawn0 w w' := by
 have H : (if a0 = 46 then (vivariumref23_Of.j0 k a0 a0 (a0 == 46)) else (if a0 = 32 then (vivariumref23_Of.j0 k a0 a0 (a0 == 32)) else (vivariumref23_Of.j0 k a0 a0 (a0 == 95)))) = some (r1, r2) := h
 clear h
 have HC2 := Aside0.mk H
 clear H
 go_enter Try.func38, Try.ntmps38
 go_upto_if 5 with (fail)
 go_cut [5] (fun v5 wc => ∃ (kq : Nat) (x5_1 : Bool), v5 = .bool x5_1 ∧ Aside0 (vivariumref23_Of.j0 kq a0 a0 x5_1 = some (r1, r2)) ∧ Aside0 (kq ≤ k) ∧ Drawn0 w wc)
 case first =>
  have H := HC2.out
  clear HC2
  by_cases c3 : a0 = 46
  ·rw [if_pos c3] at H
   have c3b0 : (a0 == 46) = true := beq_iff_eq.mpr c3
   have c3b1 : (a0 != 46) = false := bne_eq_false_iff_eq.mpr c3
   clear c3
   (first | rw [c3b0] | (simp only [i64_w, i32_w]; rw [c3b0]) | skip)
   have H' := Aside0.mk H
   clear H
   go_wp2
   go_meet
   case rel => exact ⟨_, ((a0 == 46)), (by first | rfl | (simp; done) | (simp [*]; done)), H', ⟨by first | omega | exact Nat.le_refl _⟩, by repeat (first | exact Drawn0.refl _ | apply Drawn0.step)⟩
  ·rw [if_neg c3] at H
   have c3b0 : (a0 == 46) = false := beq_eq_false_iff_ne.mpr c3
   have c3b1 : (a0 != 46) = true := bne_iff_ne.mpr c3
   (first | rw [c3b0] | (simp only [i64_w, i32_w]; rw [c3b0]) | skip)
   by_cases c4 : a0 = 32
   ·rw [if_pos c4] at H
    have c4b0 : (a0 == 32) = true := beq_iff_eq.mpr c4
    have c4b1 : (a0 != 32) = false := bne_eq_false_iff_eq.mpr c4
    clear c4
    have H' := Aside0.mk H
    clear H
    go_wp2
    go_meet
    case rel => exact ⟨_, ((a0 == 32)), (by first | rfl | (simp; done) | (simp [*]; done)), H', ⟨by first | omega | exact Nat.le_refl _⟩, by repeat (first | exact Drawn0.refl _ | apply Drawn0.step)⟩
   ·rw [if_neg c4] at H
    have c4b0 : (a0 == 32) = false := beq_eq_false_iff_ne.mpr c4
    have c4b1 : (a0 != 32) = true := bne_iff_ne.mpr c4
    have H' := Aside0.mk H
    clear H
    go_wp2
    go_meet
    case rel => exact ⟨_, ((a0 == 95)), (by first | rfl | (simp; done) | (simp [*]; done)), H', ⟨by first | omega | exact Nat.le_refl _⟩, by repeat (first | exact Drawn0.refl _ | apply Drawn0.step)⟩
 case rest =>
  clear HC2
  try clear p2
  try clear c3
  try clear c3b0
  try clear c3b1
  try clear c4
  try clear c4b0
  try clear c4b1
  obtain ⟨kq, x5_1, rfl, HA, HJ1, ⟨mc1, rfl⟩⟩ := hcut
  cases kq with
  | zero => exact absurd HA.out (by simp [vivariumref23_Of.j0])
  | succ kj1 =>
   have H := HA.out
   clear HA
   simp only [vivariumref23_Of.j0] at H
   by_cases c5 : x5_1 = true
   ·subst c5
    have H1 : (some (0, true)) = some (r1, r2) := by rw [if_pos rfl] at H; exact H
    clear H
    have H := H1
    clear H1
    simp only [Option.some.injEq, Prod.mk.injEq] at H
    obtain ⟨rfl, rfl⟩ := H
    go_wp2
    go_ret2
    exact ⟨by first | rfl | (simp; done) | (simp [*]; done), by repeat (first | exact Drawn0.refl _ | apply Drawn0.step)⟩
   ·replace c5 := Bool.eq_false_iff.mpr c5
    subst c5
    have H1 : (if a0 = 79 then (vivariumref23_Of.j1 kj1 a0 (a0 == 79)) else (if a0 = 111 then (vivariumref23_Of.j1 kj1 a0 (a0 == 111)) else (if a0 = 42 then (vivariumref23_Of.j1 kj1 a0 (a0 == 42)) else (vivariumref23_Of.j1 kj1 a0 (a0 == 35))))) = some (r1, r2) := by rw [if_neg (show ¬ (false = true) by decide)] at H; exact H
    clear H
    have H := H1
    clear H1
    have HC6 := Aside0.mk H
    clear H
    go_upto_if 9 with (fail)
    go_cut [9] (fun v9 wc => ∃ (kq : Nat) (x9_5 : Bool), v9 = .bool x9_5 ∧ Aside0 (vivariumref23_Of.j1 kq a0 x9_5 = some (r1, r2)) ∧ Aside0 (kq ≤ kj1) ∧ Drawn0 w wc)
    case first =>
     have H := HC6.out
     clear HC6
     by_cases c7 : a0 = 79
     ·rw [if_pos c7] at H
      have c7b0 : (a0 == 79) = true := beq_iff_eq.mpr c7
      have c7b1 : (a0 != 79) = false := bne_eq_false_iff_eq.mpr c7
      clear c7
      (first | rw [c7b0] | (simp only [i64_w, i32_w]; rw [c7b0]) | skip)
      have H' := Aside0.mk H
      clear H
      go_wp2
      go_meet
      case rel => exact ⟨_, ((a0 == 79)), (by first | rfl | (simp; done) | (simp [*]; done)), H', ⟨by have := HJ1.out; first | omega | exact Nat.le_refl _⟩, by repeat (first | exact Drawn0.refl _ | apply Drawn0.step)⟩
     ·rw [if_neg c7] at H
      have c7b0 : (a0 == 79) = false := beq_eq_false_iff_ne.mpr c7
      have c7b1 : (a0 != 79) = true := bne_iff_ne.mpr c7
      (first | rw [c7b0] | (simp only [i64_w, i32_w]; rw [c7b0]) | skip)
      by_cases c8 : a0 = 111
      ·rw [if_pos c8] at H
       have c8b0 : (a0 == 111) = true := beq_iff_eq.mpr c8
       have c8b1 : (a0 != 111) = false := bne_eq_false_iff_eq.mpr c8
       clear c8
       have H' := Aside0.mk H
       clear H
       go_wp2
       go_meet
       case rel => exact ⟨_, ((a0 == 111)), (by first | rfl | (simp; done) | (simp [*]; done)), H', ⟨by have := HJ1.out; first | omega | exact Nat.le_refl _⟩, by repeat (first | exact Drawn0.refl _ | apply Drawn0.step)⟩
      ·rw [if_neg c8] at H
       have c8b0 : (a0 == 111) = false := beq_eq_false_iff_ne.mpr c8
       have c8b1 : (a0 != 111) = true := bne_iff_ne.mpr c8
       by_cases c9 : a0 = 42
       ·rw [if_pos c9] at H
        have c9b0 : (a0 == 42) = true := beq_iff_eq.mpr c9
        have c9b1 : (a0 != 42) = false := bne_eq_false_iff_eq.mpr c9
        clear c9
        have H' := Aside0.mk H
        clear H
        go_wp2
        go_meet
        case rel => exact ⟨_, ((a0 == 42)), (by first | rfl | (simp; done) | (simp [*]; done)), H', ⟨by have := HJ1.out; first | omega | exact Nat.le_refl _⟩, by repeat (first | exact Drawn0.refl _ | apply Drawn0.step)⟩
       ·rw [if_neg c9] at H
        have c9b0 : (a0 == 42) = false := beq_eq_false_iff_ne.mpr c9
        have c9b1 : (a0 != 42) = true := bne_iff_ne.mpr c9
        have H' := Aside0.mk H
        clear H
        go_wp2
        go_meet
        case rel => exact ⟨_, ((a0 == 35)), (by first | rfl | (simp; done) | (simp [*]; done)), H', ⟨by have := HJ1.out; first | omega | exact Nat.le_refl _⟩, by repeat (first | exact Drawn0.refl _ | apply Drawn0.step)⟩
    case rest =>
     clear HC6
     try clear c1
     try clear p2
     try clear c3
     try clear c3b0
     try clear c3b1
     try clear c4
     try clear c4b0
     try clear c4b1
     try clear c5
     try clear c7
     try clear c7b0
     try clear c7b1
     try clear c8
     try clear c8b0
     try clear c8b1
     try clear c9
     try clear c9b0
     try clear c9b1
     try clear p2
     obtain ⟨kq, x9_5, rfl, HA, HJ5, ⟨mc5, rfl⟩⟩ := hcut
     cases kq with
     | zero => exact absurd HA.out (by simp [vivariumref23_Of.j1])
     | succ kj5 =>
      have H := HA.out
      clear HA
      simp only [vivariumref23_Of.j1] at H
      by_cases c10 : x9_5 = true
      ·subst c10
       have H1 : (some (1, true)) = some (r1, r2) := by rw [if_pos rfl] at H; exact H
       clear H
       have H := H1
       clear H1
       simp only [Option.some.injEq, Prod.mk.injEq] at H
       obtain ⟨rfl, rfl⟩ := H
       go_wp2
       go_ret2
       exact ⟨by first | rfl | (simp; done) | (simp [*]; done), by repeat (first | exact Drawn0.refl _ | apply Drawn0.step)⟩
      ·replace c10 := Bool.eq_false_iff.mpr c10
       subst c10
       have H1 : (if a0 ≥ 10242 then (if a0 ≤ 10495 then (some ((wrap32 (a0 - 10240)) % 256, true)) else (some (0, false))) else (some (0, false))) = some (r1, r2) := by rw [if_neg (show ¬ (false = true) by decide)] at H; exact H
       clear H
       have H := H1
       clear H1
       by_cases c11 : a0 ≥ 10242
       ·rw [if_pos c11] at H
        have c11b0 : decide (10242 ≤ a0) = true := decide_eq_true c11
        clear c11
        by_cases c12 : a0 ≤ 10495
        ·rw [if_pos c12] at H
         have c12b0 : decide (a0 ≤ 10495) = true := decide_eq_true c12
         clear c12
         simp only [Option.some.injEq, Prod.mk.injEq] at H
         obtain ⟨rfl, rfl⟩ := H
         go_wp2
         go_ret2
         exact ⟨by first | rfl | (simp; done) | (simp [*]; done), by repeat (first | exact Drawn0.refl _ | apply Drawn0.step)⟩
        ·rw [if_neg c12] at H
         have c12b0 : decide (a0 ≤ 10495) = false := decide_eq_false c12
         clear c12
         simp only [Option.some.injEq, Prod.mk.injEq] at H
         obtain ⟨rfl, rfl⟩ := H
         go_wp2
         go_ret2
         exact ⟨by first | rfl | (simp; done) | (simp [*]; done), by repeat (first | exact Drawn0.refl _ | apply Drawn0.step)⟩
       ·rw [if_neg c11] at H
        have c11b0 : decide (10242 ≤ a0) = false := decide_eq_false c11
        clear c11
        simp only [Option.some.injEq, Prod.mk.injEq] at H
        obtain ⟨rfl, rfl⟩ := H
        go_wp2
        go_ret2
        exact ⟨by first | rfl | (simp; done) | (simp [*]; done), by repeat (first | exact Drawn0.refl _ | apply Drawn0.step)⟩

end Go.Proofs.Ytfgonglcmgahkaa.P

namespace Go.Proofs.Ytfgonglcmgahkaa.P
open Go.RowKit Go.Proofs.YtfgonglcmgahkaaW.PrintWords Go.Proofs.YtfgonglcmgahkaaW.PrintLast Go.Proofs.YtfgonglcmgahkaaW.PrintMore
attribute [local go_sem] max2_int min2_int max_two min_two   -- for this text's walks alone
set_option linter.unusedVariables false
set_option linter.unusedSimpArgs false

/-! ### vivariumref23_Sign: function 40 -/
def vivariumref23_Sign.f (a0 : Int) : Option (Int) := if a0 = 0 then (some 46) else (if a0 = 1 then (some 79) else (some (wrap32 (10240 + (wrap32 (a0))))))
set_option maxHeartbeats 8000000 in
set_option maxRecDepth 100000 in
theorem vivariumref23_Sign.calls (a0 : Int) (r : Int) (w : World) (h : vivariumref23_Sign.f a0 = some r) :
  Calls Try.prog 40 #[.int .u8 a0] w fun e w' => e = .returned (.int .i32 r) ∧ Drawn0 w w' := by
 have H : (if a0 = 0 then (some 46) else (if a0 = 1 then (some 79) else (some (wrap32 (10240 + (wrap32 (a0))))))) = some r := h
 clear h
 by_cases c2 : a0 = 0
 ·rw [if_pos c2] at H
  have c2b0 : (a0 == 0) = true := beq_iff_eq.mpr c2
  have c2b1 : (a0 != 0) = false := bne_eq_false_iff_eq.mpr c2
  clear c2
  obtain rfl := Option.some.inj H
  go_enter Try.func40, Try.ntmps40
  go_wp2
  go_ret
  exact ⟨by first | rfl | (simp; done) | (simp [*]; done), by repeat (first | exact Drawn0.refl _ | apply Drawn0.step)⟩
 ·rw [if_neg c2] at H
  have c2b0 : (a0 == 0) = false := beq_eq_false_iff_ne.mpr c2
  have c2b1 : (a0 != 0) = true := bne_iff_ne.mpr c2
  by_cases c3 : a0 = 1
  ·rw [if_pos c3] at H
   have c3b0 : (a0 == 1) = true := beq_iff_eq.mpr c3
   have c3b1 : (a0 != 1) = false := bne_eq_false_iff_eq.mpr c3
   clear c3
   obtain rfl := Option.some.inj H
   go_enter Try.func40, Try.ntmps40
   go_wp2
   go_ret
   exact ⟨by first | rfl | (simp; done) | (simp [*]; done), by repeat (first | exact Drawn0.refl _ | apply Drawn0.step)⟩
  ·rw [if_neg c3] at H
   have c3b0 : (a0 == 1) = false := beq_eq_false_iff_ne.mpr c3
   have c3b1 : (a0 != 1) = true := bne_iff_ne.mpr c3
   obtain rfl := Option.some.inj H
   go_enter Try.func40, Try.ntmps40
   go_wp2
   go_ret
   exact ⟨by first | rfl | (simp; done) | (simp [*]; done), by repeat (first | exact Drawn0.refl _ | apply Drawn0.step)⟩

end Go.Proofs.Ytfgonglcmgahkaa.P

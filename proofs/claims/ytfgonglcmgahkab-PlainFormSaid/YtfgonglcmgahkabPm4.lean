-- Written by a program of this session (wip/tools/mk.py) that runs the kit's printer; several functions' texts in one.
import Derived.Test.YtfgonglcmgahkabP0
import Derived.Test.YtfgonglcmgahkabPm1
import Derived.Test.YtfgonglcmgahkabPm3
import Derived.RangeFuncBox
import Derived.Deep.DeepMust
namespace Go.Proofs.Ytfgonglcmgahkab.P
open Go.RowKit Go.Proofs.YtfgonglcmgahkabW.PrintWords Go.Proofs.YtfgonglcmgahkabW.PrintLast Go.Proofs.YtfgonglcmgahkabW.PrintMore
attribute [local go_sem] max2_int min2_int max_two min_two   -- for this text's walks alone
set_option linter.unusedVariables false
set_option linter.unusedSimpArgs false

/-! ### vivariumlaw23_alive: function 9 -/
-- EXT Derived.RangeFuncBox Derived.Deep.DeepMust Derived.Test.@NP@F{vivarium/plain.Read} Derived.Test.@NP@F{vivarium/plain.Write} Derived.Test.@NP@F{vivarium/vivariumlaw23.same}
open Go.Proofs.Ytfgonglcmgahkab.L
theorem lit_R (W : World) (base : Nat) (hb : base ≤ W.heap.size) (xs : List Cl) (cs : Array Value) (h : cs.toList = flatC xs) (hl : xs.length ≤ 1000) (hz : cs.size = xs.length * 3) :
  Kd.R k35 35 (W.alloc (.cells cs 35)) base (fun _ => True) (.slice (some ⟨W.heap.size, 0, none⟩) xs.length xs.length) xs := by
 have hf : (flatC xs).length = xs.length * 3 := by rw [← h, Array.length_toList, hz]
 refine ⟨fun _ _ => trivial, flatC xs, ⟨hf, .inr ⟨W.heap.size, xs.length, cs, rfl, hb, blk_new W _, Nat.le_refl _, by unfold maxLen; omega, hz, ?_⟩⟩, flatC_reps _ _ _ _ xs rfl⟩
 rw [h]
 exact List.take_of_length_le (by rw [hf]; exact Nat.le_refl _)
theorem al_1 : plain_Read.f ⟨#[33, 97, 10, 46, 79, 46, 10, 46, 46, 42, 10]⟩ = some ([⟨1, 0, 1⟩, ⟨2, 1, 1⟩], 0, 0) := by kernel_rfl
theorem al_2 : plain_Write.f [⟨1, 0, 1⟩, ⟨0, 1, 2⟩, ⟨9, 9, 3⟩] 0 0 2 2 = some (⟨#[46, 79, 10, 226, 160, 130, 46, 10]⟩, 0) := by kernel_rfl
theorem al_3 : plain_Read.f ⟨#[46, 120]⟩ = some ([], 1, 230) := by kernel_rfl
theorem al_4 : vivariumlaw23_same.f 10 [⟨1, 0, 1⟩, ⟨2, 1, 1⟩] [⟨1, 0, 1⟩, ⟨2, 1, 1⟩] = some true := by kernel_rfl
theorem alive_w (l : List Cl) (s : ByteArray) (hl : l.length = 3) (hf : flatC l = [.int .i64 1, .int .i64 0, .int .u8 1, .int .i64 0, .int .i64 1, .int .u8 2, .int .i64 9, .int .i64 9, .int .u8 3]) (hW : plain_Write.f l 0 0 2 2 = some (s, 0)) (w1 : World) :
  Calls Try.prog 12 #[.slice (some ⟨w1.heap.size, 0, none⟩) 3 3, .agg #[.int .i64 0, .int .i64 0, .int .i64 2, .int .i64 2]] (w1.alloc (.cells #[.int .i64 1, .int .i64 0, .int .u8 1, .int .i64 0, .int .i64 1, .int .u8 2, .int .i64 9, .int .i64 9, .int .u8 3] 35)) fun e w' => e = .returned (.tuple #[.string s, .int .i64 0]) ∧ Below (w1.alloc (.cells #[.int .i64 1, .int .i64 0, .int .u8 1, .int .i64 0, .int .i64 1, .int .u8 2, .int .i64 9, .int .i64 9, .int .u8 3] 35)).heap.size (w1.alloc (.cells #[.int .i64 1, .int .i64 0, .int .u8 1, .int .i64 0, .int .i64 1, .int .u8 2, .int .i64 9, .int .i64 9, .int .u8 3] 35)) w' := by
 have hR := lit_R w1 0 (Nat.zero_le _) l #[.int .i64 1, .int .i64 0, .int .u8 1, .int .i64 0, .int .i64 1, .int .u8 2, .int .i64 9, .int .i64 9, .int .u8 3] hf.symm (by omega) (by rw [hl]; rfl)
 have h := plain_Write.calls (some ⟨w1.heap.size, 0, none⟩) l.length l 0 0 2 2 s 0 (w1.alloc (.cells #[.int .i64 1, .int .i64 0, .int .u8 1, .int .i64 0, .int .i64 1, .int .u8 2, .int .i64 9, .int .i64 9, .int .u8 3] 35)) (Kd.R_reads' hR).2.2 (Nat.le_refl _) hW
 rw [hl] at h
 exact h
theorem alive_s (l : List Cl) (A : Option Addr) (c : Nat) (hl : l.length = 2) (hf : flatC l = [.int .i64 1, .int .i64 0, .int .u8 1, .int .i64 2, .int .i64 1, .int .u8 1]) (hS : vivariumlaw23_same.f 10 l l = some true) (w3 : World) (hC : Kd.C k35 (w3.alloc (.cells #[.int .i64 1, .int .i64 0, .int .u8 1, .int .i64 2, .int .i64 1, .int .u8 1] 35)) A l.length l) (hc : l.length ≤ c) :
  Calls Try.prog 14 #[.slice A l.length c, .slice (some ⟨w3.heap.size, 0, none⟩) 2 2] (w3.alloc (.cells #[.int .i64 1, .int .i64 0, .int .u8 1, .int .i64 2, .int .i64 1, .int .u8 1] 35)) fun e w' => e = .returned (.bool true) ∧ Drawn0 (w3.alloc (.cells #[.int .i64 1, .int .i64 0, .int .u8 1, .int .i64 2, .int .i64 1, .int .u8 1] 35)) w' := by
 have hR := lit_R w3 0 (Nat.zero_le _) l #[.int .i64 1, .int .i64 0, .int .u8 1, .int .i64 2, .int .i64 1, .int .u8 1] hf.symm (by omega) (by rw [hl]; rfl)
 have h := vivariumlaw23_same.calls 10 A c l (some ⟨w3.heap.size, 0, none⟩) l.length l true (w3.alloc (.cells #[.int .i64 1, .int .i64 0, .int .u8 1, .int .i64 2, .int .i64 1, .int .u8 1] 35)) hC hc (Kd.R_reads' hR).2.2 (Nat.le_refl _) hS
 rw [hl] at h ⊢
 exact h
set_option maxRecDepth 100000 in
set_option maxHeartbeats 4000000 in
theorem alive_walk (l l2 : List Cl) (s : ByteArray) (hl : l.length = 3) (hf : flatC l = [.int .i64 1, .int .i64 0, .int .u8 1, .int .i64 0, .int .i64 1, .int .u8 2, .int .i64 9, .int .i64 9, .int .u8 3]) (hW : plain_Write.f l 0 0 2 2 = some (s, 0))
  (hb : (s.toList == ([46, 79, 10, 226, 160, 130, 46, 10] : List UInt8)) = true) (hl2 : l2.length = 2) (hf2 : flatC l2 = [.int .i64 1, .int .i64 0, .int .u8 1, .int .i64 2, .int .i64 1, .int .u8 1]) (hS : vivariumlaw23_same.f 10 l2 l2 = some true) (h1 : plain_Read.f (⟨#[33, 97, 10, 46, 79, 46, 10, 46, 46, 42, 10]⟩ : ByteArray) = some (l2, 0, 0)) (h3 : plain_Read.f (⟨#[46, 120]⟩ : ByteArray) = some ([], 1, 230)) (w : World) : Calls Try.prog 9 #[] w fun e w' => e = .returned (.bool true) ∧ Below w.heap.size w w' := by
 have HW := Aside0.mk hW
 have HF := Aside0.mk hf
 have HF2 := Aside0.mk hf2
 have HS := Aside0.mk hS
 have H1 := Aside0.mk h1
 have H3 := Aside0.mk h3
 have HL := Aside0.mk hl
 have HL2 := Aside0.mk hl2
 clear hW hf hf2 hS h1 h3 hl hl2
 go_enter Try.func9, Try.ntmps9
 go_wp2_with (go_at_call 13; go_must (refine (plain_Read.calls (⟨#[33, 97, 10, 46, 79, 46, 10, 46, 46, 42, 10]⟩ : ByteArray) _ _ _ _ H1.out).mono ?_; rintro e w1 ⟨v1, rfl, hR1, hb1⟩; obtain ⟨A1, c1, rfl⟩ := Kd.R_slice hR1; have HR1 := Aside0.mk hR1; have HB1 := Aside0.mk hb1; clear hR1 hb1))
 refine (alive_w l s HL.out HF.out HW.out w1).mono ?_
 rintro e w2 ⟨rfl, hb2⟩
 have HB2 := Aside0.mk hb2
 clear hb2
 go_wp2_with (go_at_call 13; go_must (refine (plain_Read.calls (⟨#[46, 120]⟩ : ByteArray) _ _ _ _ H3.out).mono ?_; rintro e w3 ⟨v3, rfl, hR3, hb3⟩; obtain ⟨A3, c3, rfl⟩ := Kd.R_slice hR3; have HB3 := Aside0.mk hb3; clear hR3 hb3))
 have c12 := ((Below.refl w1.heap.size w1).alloc (Nat.le_refl _) _).trans (HB2.out.mono (by simp))
 have c13 := c12.trans (HB3.out.mono c12.size)
 have c14 := c13.alloc c13.size (.cells #[.int .i64 1, .int .i64 0, .int .u8 1, .int .i64 2, .int .i64 1, .int .u8 1] 35)
 have HC14 := Aside0.mk (HB1.out.trans (c14.mono HB1.out.size))
 refine (alive_s l2 A1 c1 HL2.out HF2.out HS.out w3 (Kd.C_below (Kd.R_reads' HR1.out).2.2 c14) (Kd.R_reads' HR1.out).2.1).mono ?_
 rintro e w4 ⟨rfl, hd⟩
 have HD := Aside0.mk (HC14.out.trans (hd.below.mono HC14.out.size))
 clear hd c12 c13 c14
 go_wp2
 go_ret
 exact ⟨rfl, HD.out⟩
/-- The examples answer as the document says. -/
def vivariumlaw23_alive.f : Option Bool := some true
theorem vivariumlaw23_alive.calls (r : Bool) (w : World) (h : vivariumlaw23_alive.f = some r) : Calls Try.prog 9 #[] w fun e w' => e = .returned (.bool r) ∧ Below w.heap.size w w' := by
 cases h
 exact alive_walk [⟨1, 0, 1⟩, ⟨0, 1, 2⟩, ⟨9, 9, 3⟩] [⟨1, 0, 1⟩, ⟨2, 1, 1⟩] _ rfl rfl al_2 (by rw [ByteArray.toList_eq]; decide) rfl rfl al_4 al_1 al_3 w

end Go.Proofs.Ytfgonglcmgahkab.P

-- Written by a program of this session (wip/tools/mk.py) that runs the kit's printer; several functions' texts in one.
import Derived.Test.YtfgonglcmgahkabWRepsOne
import Derived.Test.YtfgonglcmgahkabP0
import Derived.Test.YtfgonglcmgahkabPm1
import Derived.Test.YtfgonglcmgahkabPm3
import Derived.Test.YtfgonglcmgahkabPm4
namespace Go.Proofs.Ytfgonglcmgahkab.P
open Go.RowKit Go.Proofs.YtfgonglcmgahkabW.PrintWords Go.Proofs.YtfgonglcmgahkabW.PrintLast Go.Proofs.YtfgonglcmgahkabW.PrintMore
attribute [local go_sem] max2_int min2_int max_two min_two   -- for this text's walks alone
set_option linter.unusedVariables false
set_option linter.unusedSimpArgs false

/-! ### vivariumlaw23_PlainNames: function 6 -/
mutual
def vivariumlaw23_PlainNames.l0 : Nat → Bool → List Int → Int → Option (Bool)
 | 0, _, _, _ => none
 | k + 1, x1, x2, x3 => if x3 < (x2.length : Int) then (if 0 ≤ x3 then (vivariumlaw23_PlainNames.l0 k x1 (x2.set (x3 : Int).toNat 46) (wrap64 (x3 + 1))) else (none)) else (if 1048576 ≤ (x2.length : Int) then ((plain_Read.f (strOfNums (x2.take 1048576))).bind fun bt119 => ((plain_Read.f (strOfNums x2)).bind fun bt124 => ((plain_Write.f ([] : List (S35)) 0 0 1023 1024).bind fun bt129 => ((plain_Write.f ([] : List (S35)) 0 0 1024 1024).bind fun bt131 => ((plain_Write.f ([] : List (S35)) 0 0 65536 15).bind fun bt133 => ((plain_Write.f ([] : List (S35)) 0 0 65537 0).bind fun bt135 => ((plain_Halves.f ([] : List (S35)) 0 0 1023 2048).bind fun bt137 => ((plain_Halves.f ([] : List (S35)) 0 0 1023 2049).bind fun bt139 => (if bt119.2.2 = 0 then (if bt124.2.2 = 3 then (if bt124.2.1 = 0 then (if bt129.2 = 0 then (if (bt129.1.size : Int) = 1048576 then (vivariumlaw23_PlainNames.j1 k x1 bt133.1 bt133.2 bt135.2 bt137.1 bt137.2 bt139.2 (bt131.2 != 3)) else (vivariumlaw23_PlainNames.j1 k x1 bt133.1 bt133.2 bt135.2 bt137.1 bt137.2 bt139.2 true)) else (vivariumlaw23_PlainNames.j1 k x1 bt133.1 bt133.2 bt135.2 bt137.1 bt137.2 bt139.2 true)) else (vivariumlaw23_PlainNames.j1 k x1 bt133.1 bt133.2 bt135.2 bt137.1 bt137.2 bt139.2 true)) else (vivariumlaw23_PlainNames.j1 k x1 bt133.1 bt133.2 bt135.2 bt137.1 bt137.2 bt139.2 true)) else (vivariumlaw23_PlainNames.j1 k x1 bt133.1 bt133.2 bt135.2 bt137.1 bt137.2 bt139.2 true)))))))))) else (none))
def vivariumlaw23_PlainNames.j1 : Nat → Bool → ByteArray → Int → Int → ByteArray → Int → Int → Bool → Option (Bool)
 | 0, _, _, _, _, _, _, _, _ => none
 | k + 1, x1, x14, x15, x17, x18, x19, x21, x110 => if x110 = true then (some false) else ((plain_Write.f ([] : List (S35)) 1099511627777 0 (-1) 0).bind fun bt141 => ((plain_Write.f (([(⟨0, 0, 1⟩ : S35), (⟨0, 0, 2⟩ : S35), (⟨1099511627777, 0, 1⟩ : S35)] : List (S35))) 0 0 1 1).bind fun bt146 => (vivariumlaw23_PlainNames.l1 k x1 x14 x15 x17 x18 x19 x21 bt141.2 bt146.2 ([] : List (S35)) 0)))
def vivariumlaw23_PlainNames.l1 : Nat → Bool → ByteArray → Int → Int → ByteArray → Int → Int → Int → Int → List (S35) → Int → Option (Bool)
 | 0, _, _, _, _, _, _, _, _, _, _, _ => none
 | k + 1, x1, x14, x15, x17, x18, x19, x21, x23, x25, x26, x27 => if x27 < 360000 then (if x26.length < 5864062014805 then (vivariumlaw23_PlainNames.l1 k x1 x14 x15 x17 x18 x19 x21 x23 x25 (x26 ++ [(⟨Int.tmod x27 600, wrap64 (Int.tdiv x27 600), 2⟩ : S35)]) (wrap64 (x27 + 1))) else (none)) else ((plain_Write.f x26 0 0 600 600).bind fun bt151 => ((plain_Write.f x26 0 0 582 600).bind fun bt153 => (if x23 = 231 then (if x25 = 5 then (if bt151.2 = 3 then (if bt153.2 = 0 then (if (bt153.1.size : Int) = 1048200 then (if x1 = true then (if x15 = 0 then (if (x14.size : Int) = 983055 then (if x17 = 231 then (if x19 = 0 then (if (x18.size : Int) = 1048576 then (some (x21 == 3)) else (some false)) else (some false)) else (some false)) else (some false)) else (some false)) else (some false)) else (some false)) else (some false)) else (some false)) else (some false)) else (some false))))
end
def vivariumlaw23_PlainNames.f (k : Nat)  : Option (Bool) := (vivariumlaw23_alive.f).bind fun t110 => (if 1048577 ≤ 281474976710656 then (vivariumlaw23_PlainNames.l0 k t110 (List.replicate 1048577 0) 0) else (none))
theorem vivariumlaw23_PlainNames.mono_l : ∀ k, (∀ y0 y1 y2, LeO (vivariumlaw23_PlainNames.l0 k y0 y1 y2) (vivariumlaw23_PlainNames.l0 (k + 1) y0 y1 y2)) ∧ (∀ y0 y1 y2 y3 y4 y5 y6 y7, LeO (vivariumlaw23_PlainNames.j1 k y0 y1 y2 y3 y4 y5 y6 y7) (vivariumlaw23_PlainNames.j1 (k + 1) y0 y1 y2 y3 y4 y5 y6 y7)) ∧ (∀ y0 y1 y2 y3 y4 y5 y6 y7 y8 y9 y10, LeO (vivariumlaw23_PlainNames.l1 k y0 y1 y2 y3 y4 y5 y6 y7 y8 y9 y10) (vivariumlaw23_PlainNames.l1 (k + 1) y0 y1 y2 y3 y4 y5 y6 y7 y8 y9 y10))
 | 0 => ⟨fun _ _ _ r h => by simp [vivariumlaw23_PlainNames.l0] at h, fun _ _ _ _ _ _ _ _ r h => by simp [vivariumlaw23_PlainNames.j1] at h, fun _ _ _ _ _ _ _ _ _ _ _ r h => by simp [vivariumlaw23_PlainNames.l1] at h⟩
 | k + 1 => by
  obtain ⟨ih0, ih1, ih2⟩ := vivariumlaw23_PlainNames.mono_l k
  refine ⟨?_, ?_, ?_⟩
  ·intro y0 y1 y2
   unfold vivariumlaw23_PlainNames.l0
   repeat' first
   | (with_reducible exact ih0 _ _ _)
   | (with_reducible exact ih1 _ _ _ _ _ _ _ _)
   | (with_reducible exact ih2 _ _ _ _ _ _ _ _ _ _ _)
   | (with_reducible exact LeO.refl _)
   | (with_reducible exact LeO.none _)
   | (with_reducible refine LeO.ite ?_ ?_)
   | (with_reducible refine LeO.bind ?_ (fun _ => ?_))
   | exact ih0 _ _ _
   | exact ih1 _ _ _ _ _ _ _ _
   | exact ih2 _ _ _ _ _ _ _ _ _ _ _
   | exact LeO.none _
   | refine LeO.ite ?_ ?_
   | refine LeO.bind ?_ (fun _ => ?_)
  ·intro y0 y1 y2 y3 y4 y5 y6 y7
   unfold vivariumlaw23_PlainNames.j1
   repeat' first
   | (with_reducible exact ih0 _ _ _)
   | (with_reducible exact ih1 _ _ _ _ _ _ _ _)
   | (with_reducible exact ih2 _ _ _ _ _ _ _ _ _ _ _)
   | (with_reducible exact LeO.refl _)
   | (with_reducible exact LeO.none _)
   | (with_reducible refine LeO.ite ?_ ?_)
   | (with_reducible refine LeO.bind ?_ (fun _ => ?_))
   | exact ih0 _ _ _
   | exact ih1 _ _ _ _ _ _ _ _
   | exact ih2 _ _ _ _ _ _ _ _ _ _ _
   | exact LeO.none _
   | refine LeO.ite ?_ ?_
   | refine LeO.bind ?_ (fun _ => ?_)
  ·intro y0 y1 y2 y3 y4 y5 y6 y7 y8 y9 y10
   unfold vivariumlaw23_PlainNames.l1
   repeat' first
   | (with_reducible exact ih0 _ _ _)
   | (with_reducible exact ih1 _ _ _ _ _ _ _ _)
   | (with_reducible exact ih2 _ _ _ _ _ _ _ _ _ _ _)
   | (with_reducible exact LeO.refl _)
   | (with_reducible exact LeO.none _)
   | (with_reducible refine LeO.ite ?_ ?_)
   | (with_reducible refine LeO.bind ?_ (fun _ => ?_))
   | exact ih0 _ _ _
   | exact ih1 _ _ _ _ _ _ _ _
   | exact ih2 _ _ _ _ _ _ _ _ _ _ _
   | exact LeO.none _
   | refine LeO.ite ?_ ?_
   | refine LeO.bind ?_ (fun _ => ?_)
theorem vivariumlaw23_PlainNames.mono : ∀ k, LeO (vivariumlaw23_PlainNames.f k ) (vivariumlaw23_PlainNames.f (k + 1) ) := by
 intro  k
 obtain ⟨ih0, ih1, ih2⟩ := vivariumlaw23_PlainNames.mono_l k
 unfold vivariumlaw23_PlainNames.f
 repeat' first
   | (with_reducible exact ih0 _ _ _)
   | (with_reducible exact ih1 _ _ _ _ _ _ _ _)
   | (with_reducible exact ih2 _ _ _ _ _ _ _ _ _ _ _)
   | (with_reducible exact LeO.refl _)
   | (with_reducible exact LeO.none _)
   | (with_reducible refine LeO.ite ?_ ?_)
   | (with_reducible refine LeO.bind ?_ (fun _ => ?_))
   | exact ih0 _ _ _
   | exact ih1 _ _ _ _ _ _ _ _
   | exact ih2 _ _ _ _ _ _ _ _ _ _ _
   | exact LeO.none _
   | refine LeO.ite ?_ ?_
   | refine LeO.bind ?_ (fun _ => ?_)
set_option maxHeartbeats 8000000 in
set_option maxRecDepth 100000 in
theorem vivariumlaw23_PlainNames.calls (k : Nat)  (r : Bool) (w : World) (h : vivariumlaw23_PlainNames.f k  = some r) :
  Calls Try.prog 6 #[] w fun e w' => e = .returned (.bool r) ∧ Below w.heap.size w w' := by
 have hu23 := Try.underlying23
 have hu35 := Try.underlying35
 have HB := Aside0.mk (Below.refl w.heap.size w)
 have H : ((vivariumlaw23_alive.f).bind fun t110 => (if 1048577 ≤ 281474976710656 then (vivariumlaw23_PlainNames.l0 k t110 (List.replicate 1048577 0) 0) else (none))) = some r := h
 clear h
 replace H := Option.bind_eq_some_iff.mp H
 obtain ⟨t110, A10, H⟩ := H
 replace H : (if 1048577 ≤ 281474976710656 then (vivariumlaw23_PlainNames.l0 k t110 (List.replicate 1048577 0) 0) else (none)) = some r := H
 have A1 := Aside0.mk A10
 clear A10
 by_cases c2 : 1048577 ≤ 281474976710656
 ·rw [if_pos c2] at H
  have c2b0 := eq_true c2
  have c2b1 : decide (1048577 ≤ 281474976710656) = true := decide_eq_true c2
  clear c2
  obtain ⟨y111, hy111⟩ : ∃ y_ : List Int, y_ = (List.replicate 1048577 0) := ⟨_, rfl⟩
  replace H : (vivariumlaw23_PlainNames.l0 k t110 y111 0) = some r := by first | (rw [hy111]; with_reducible exact H) | (have H2_ := (Option.bind_some _ _).symm.trans H; rw [hy111]; with_reducible exact H2_) | (have H2_ := (Option.bind_some _ _).symm.trans H; with_reducible exact H2_) | with_reducible exact H | (rw [hy111]; exact H) | exact H
  have Ny111 := Aside0.mk hy111
  clear hy111
  have H' := Aside0.mk H
  clear H
  go_enter Try.func6, Try.ntmps6
  go_wp2_with (first | ((with_reducible refine gate_callee (f := 9) rfl ?_); refine goesL_ (some 32) rfl rfl Try.func9 (by kernel_rfl) rfl #[] rfl (by (try simp only [List.map_toArray, List.map_cons, List.map_nil]); first | done | rfl | (simp only [List.length_drop, List.length_take]; rfl)) ?_; (with_reducible refine (vivariumlaw23_alive.calls  t110 _ A1.out).mono ?_); rintro e w3 ⟨rfl, hb⟩; refine ⟨_, rfl, ?_⟩; have n0_ := Aside0.mk (below_step (by repeat (first | (with_reducible first | exact HB.out | apply below_alloc | apply pw_below_drewN | apply below_drew1) | exact HB.out)) hb); clear HB; have HB := n0_; clear n0_; (try clear hb); (try clear hb2); (try clear hk); (try clear hi)) | ((with_reducible refine gate_dst (N := 33) rfl ?_); (try (refine gate_guard (by rfl) ?_; dsimp only)); refine Kd.R_make (Kd.int .u8) _ 5 rfl (N := 33) rfl 24 _ _ rfl 1048577 rfl rfl Try.underlying24 (.int .u8 0) 1 info5 rfl (by decide) (by omega) 0 (ok := fun _ => True) (okp := fun _ => True) rfl (fun _ hk => hk) trivial (by omega) (by omega) (Below.refl _ _) (Nat.le_refl _) ?_; intro v112 w4 ho5 hb hg_ hnew_; clear hg_ hnew_; (first | rw [← Ny111.out] at ho5 | (simp only [Int.reduceToNat] at ho5; rw [← Ny111.out] at ho5)); have n0_ := Aside0.mk (Kd.R_lower ho5 (below_size (by repeat (first | (with_reducible first | exact HB.out | apply below_alloc | apply pw_below_drewN | apply below_drew1) | exact HB.out)))); have n1_ := Aside0.mk (below_step (by repeat (first | (with_reducible first | exact HB.out | apply below_alloc | apply pw_below_drewN | apply below_drew1) | exact HB.out)) hb); clear HB; have HO113 := n0_; have HB := n1_; clear n0_ n1_; clear hb ho5))
  go_loopg [3] k (fun kq v3 w' => ∃ (x2_1 : List Int) (x3_1 : Int), v3 = .int .i64 x3_1 ∧ Aside0 (vivariumlaw23_PlainNames.l0 kq t110 x2_1 x3_1 = some r) ∧ Aside0 (kq ≤ k) ∧ Aside0 (Kd.R (Kd.int .u8) 5 w' w.heap.size (fun _ => True) v112 x2_1) ∧ Aside0 (Below w.heap.size w w'))
  case atStart => exact ⟨(y111), (0), (by first | rfl | (simp; done) | (simp [*]; done)), H', ⟨Nat.le_refl _⟩, ⟨by (with_reducible repeat (first | apply Kd.R_alloc | apply Kd.R_drewN | apply Kd.R_drew)); exact HO113.out⟩, ⟨by repeat (first | (with_reducible first | exact HB.out | apply below_alloc | apply pw_below_drewN | apply below_drew1) | exact HB.out)⟩⟩
  case round =>
   clear H'
   try clear c2
   try clear c2b0
   try clear c2b1
   try clear p2
   obtain ⟨x2_1, x3_1, rfl, HA, HK1, HO_2, HB⟩ := hrel
   cases gk with
   | zero => exact absurd HA.out (by simp [vivariumlaw23_PlainNames.l0])
   | succ k1 =>
    have H := HA.out
    clear HA
    simp only [vivariumlaw23_PlainNames.l0] at H
    by_cases c6 : x3_1 < (x2_1.length : Int)
    ·rw [if_pos c6] at H
     have c6b0 : decide (x3_1 < (x2_1.length : Int)) = true := decide_eq_true c6
     clear c6
     by_cases c7 : 0 ≤ x3_1
     ·rw [if_pos c7] at H
      have c7b0 : decide (0 ≤ x3_1) = true := decide_eq_true c7
      clear c7
      obtain ⟨y114, hy114⟩ : ∃ y_ : List Int, y_ = (x2_1.set (x3_1 : Int).toNat 46) := ⟨_, rfl⟩
      replace H : (vivariumlaw23_PlainNames.l0 k1 t110 y114 (wrap64 (x3_1 + 1))) = some r := by first | (rw [hy114]; with_reducible exact H) | (have H2_ := (Option.bind_some _ _).symm.trans H; rw [hy114]; with_reducible exact H2_) | (have H2_ := (Option.bind_some _ _).symm.trans H; with_reducible exact H2_) | with_reducible exact H | (rw [hy114]; exact H) | exact H
      have Ny114 := Aside0.mk hy114
      clear hy114
      have H' := Aside0.mk H
      clear H
      obtain ⟨Ao9, co9, eo9⟩ := Kd.R_slice HO_2.out
      subst eo9
      have p8 : 0 ≤ (x3_1 : Int) := of_decide_eq_true (by first | (with_reducible assumption) | assumption)
      have q8 : (x3_1 : Int) < ((x2_1.length : Int) : Int) := of_decide_eq_true (by first | (with_reducible assumption) | assumption)
      obtain ⟨go8, co8, eo8, gb8, gl8, cl8, HG8⟩ := Kd.R_form HO_2.out (by omega)
      (first | cases eo8 | (injection eo8 with ea_ en_ ec_; (first | subst ea_ | (injection ea_ with ea_; subst ea_)); subst ec_; clear en_))
      have GB8 := Aside0.mk gb8
      have GG8 := Aside0.mk HG8
      clear gb8 gl8 HG8
      obtain ⟨hx8_0, hf8_0⟩ := Kd.R_celln 0 HO_2.out (x3_1 : Int) p8 q8
      replace p8 := eq_true p8
      replace q8 := eq_true q8
      have HP10 := Kd.R_putg HO_2.out (x3_1 : Int) 46
      go_wp2_with (first | ((with_reducible refine gate_store (t := 5) (p := 42) rfl ?_); refine store_event (t := 5) (p := 42) (v := ?vo_w11) (w1 := (wr.setCell ⟨go8, (x3_1 : Int).toNat, none⟩ (.int .u8 46))) ?hg ?ho ?hn ?hr ?_; (case ho => rfl); (case hg => rfl); (case hn => rfl); (case hr => first | (go_simp; done) | (go_simp; rfl)); intro w11 hw; have hg : wr.grownBy w11 (some go8) := (by rw [hw]; exact HP10.2); have hp_ : Kd.R (Kd.int .u8) 5 w11 w.heap.size (fun _ => True) (.slice (some ⟨go8, 0, none⟩) x2_1.length co9) y114 := (by rw [hw, Ny114.out]; exact HP10.1); clear HP10; have n0_ := Aside0.mk (hp_); have n1_ := Aside0.mk ((by rw [hw]; exact below_set (HB.out) GB8.out : Below w.heap.size w w11)); clear HO_2; clear HB; have HO_2 := n0_; have HB := n1_; clear n0_ n1_; clear hg hw hp_))
      go_roundg k1
      case measure => have := HK1.out; omega
      case rel => exact ⟨(y114), (wrap64 (x3_1 + 1)), (by first | rfl | (simp; done) | (simp [*]; done)), H', ⟨by have := HK1.out; omega⟩, ⟨by (with_reducible repeat (first | apply Kd.R_alloc | apply Kd.R_drewN | apply Kd.R_drew)); exact HO_2.out⟩, ⟨by repeat (first | (with_reducible first | exact HB.out | apply below_alloc | apply pw_below_drewN | apply below_drew1) | exact HB.out)⟩⟩
     ·rw [if_neg c7] at H
      exact absurd H (by simp)
    ·rw [if_neg c6] at H
     have c6b0 : decide (x3_1 < (x2_1.length : Int)) = false := decide_eq_false c6
     clear c6
     by_cases c12 : 1048576 ≤ (x2_1.length : Int)
     ·rw [if_pos c12] at H
      have c12b0 := eq_true c12
      have c12b1 : decide (1048576 ≤ (x2_1.length : Int)) = true := decide_eq_true c12
      clear c12
      obtain ⟨y115, hy115⟩ : ∃ y_ : List Int, y_ = (x2_1.take 1048576) := ⟨_, rfl⟩
      replace H : ((plain_Read.f (strOfNums y115)).bind fun bt119 => ((plain_Read.f (strOfNums x2_1)).bind fun bt124 => ((plain_Write.f ([] : List (S35)) 0 0 1023 1024).bind fun bt129 => ((plain_Write.f ([] : List (S35)) 0 0 1024 1024).bind fun bt131 => ((plain_Write.f ([] : List (S35)) 0 0 65536 15).bind fun bt133 => ((plain_Write.f ([] : List (S35)) 0 0 65537 0).bind fun bt135 => ((plain_Halves.f ([] : List (S35)) 0 0 1023 2048).bind fun bt137 => ((plain_Halves.f ([] : List (S35)) 0 0 1023 2049).bind fun bt139 => (if bt119.2.2 = 0 then (if bt124.2.2 = 3 then (if bt124.2.1 = 0 then (if bt129.2 = 0 then (if (bt129.1.size : Int) = 1048576 then (vivariumlaw23_PlainNames.j1 k1 t110 bt133.1 bt133.2 bt135.2 bt137.1 bt137.2 bt139.2 (bt131.2 != 3)) else (vivariumlaw23_PlainNames.j1 k1 t110 bt133.1 bt133.2 bt135.2 bt137.1 bt137.2 bt139.2 true)) else (vivariumlaw23_PlainNames.j1 k1 t110 bt133.1 bt133.2 bt135.2 bt137.1 bt137.2 bt139.2 true)) else (vivariumlaw23_PlainNames.j1 k1 t110 bt133.1 bt133.2 bt135.2 bt137.1 bt137.2 bt139.2 true)) else (vivariumlaw23_PlainNames.j1 k1 t110 bt133.1 bt133.2 bt135.2 bt137.1 bt137.2 bt139.2 true)) else (vivariumlaw23_PlainNames.j1 k1 t110 bt133.1 bt133.2 bt135.2 bt137.1 bt137.2 bt139.2 true)))))))))) = some r := by first | (rw [hy115]; with_reducible exact H) | (have H2_ := (Option.bind_some _ _).symm.trans H; rw [hy115]; with_reducible exact H2_) | (have H2_ := (Option.bind_some _ _).symm.trans H; with_reducible exact H2_) | with_reducible exact H | (rw [hy115]; exact H) | exact H
      have Ny115 := Aside0.mk hy115
      clear hy115
      replace H := Option.bind_eq_some_iff.mp H
      obtain ⟨⟨t119, t120, t121⟩, A130, H⟩ := H
      replace H : ((plain_Read.f (strOfNums x2_1)).bind fun bt124 => ((plain_Write.f ([] : List (S35)) 0 0 1023 1024).bind fun bt129 => ((plain_Write.f ([] : List (S35)) 0 0 1024 1024).bind fun bt131 => ((plain_Write.f ([] : List (S35)) 0 0 65536 15).bind fun bt133 => ((plain_Write.f ([] : List (S35)) 0 0 65537 0).bind fun bt135 => ((plain_Halves.f ([] : List (S35)) 0 0 1023 2048).bind fun bt137 => ((plain_Halves.f ([] : List (S35)) 0 0 1023 2049).bind fun bt139 => (if t121 = 0 then (if bt124.2.2 = 3 then (if bt124.2.1 = 0 then (if bt129.2 = 0 then (if (bt129.1.size : Int) = 1048576 then (vivariumlaw23_PlainNames.j1 k1 t110 bt133.1 bt133.2 bt135.2 bt137.1 bt137.2 bt139.2 (bt131.2 != 3)) else (vivariumlaw23_PlainNames.j1 k1 t110 bt133.1 bt133.2 bt135.2 bt137.1 bt137.2 bt139.2 true)) else (vivariumlaw23_PlainNames.j1 k1 t110 bt133.1 bt133.2 bt135.2 bt137.1 bt137.2 bt139.2 true)) else (vivariumlaw23_PlainNames.j1 k1 t110 bt133.1 bt133.2 bt135.2 bt137.1 bt137.2 bt139.2 true)) else (vivariumlaw23_PlainNames.j1 k1 t110 bt133.1 bt133.2 bt135.2 bt137.1 bt137.2 bt139.2 true)) else (vivariumlaw23_PlainNames.j1 k1 t110 bt133.1 bt133.2 bt135.2 bt137.1 bt137.2 bt139.2 true))))))))) = some r := H
      have A13 := Aside0.mk A130
      clear A130
      replace H := Option.bind_eq_some_iff.mp H
      obtain ⟨⟨t124, t125, t126⟩, A140, H⟩ := H
      replace H : ((plain_Write.f ([] : List (S35)) 0 0 1023 1024).bind fun bt129 => ((plain_Write.f ([] : List (S35)) 0 0 1024 1024).bind fun bt131 => ((plain_Write.f ([] : List (S35)) 0 0 65536 15).bind fun bt133 => ((plain_Write.f ([] : List (S35)) 0 0 65537 0).bind fun bt135 => ((plain_Halves.f ([] : List (S35)) 0 0 1023 2048).bind fun bt137 => ((plain_Halves.f ([] : List (S35)) 0 0 1023 2049).bind fun bt139 => (if t121 = 0 then (if t126 = 3 then (if t125 = 0 then (if bt129.2 = 0 then (if (bt129.1.size : Int) = 1048576 then (vivariumlaw23_PlainNames.j1 k1 t110 bt133.1 bt133.2 bt135.2 bt137.1 bt137.2 bt139.2 (bt131.2 != 3)) else (vivariumlaw23_PlainNames.j1 k1 t110 bt133.1 bt133.2 bt135.2 bt137.1 bt137.2 bt139.2 true)) else (vivariumlaw23_PlainNames.j1 k1 t110 bt133.1 bt133.2 bt135.2 bt137.1 bt137.2 bt139.2 true)) else (vivariumlaw23_PlainNames.j1 k1 t110 bt133.1 bt133.2 bt135.2 bt137.1 bt137.2 bt139.2 true)) else (vivariumlaw23_PlainNames.j1 k1 t110 bt133.1 bt133.2 bt135.2 bt137.1 bt137.2 bt139.2 true)) else (vivariumlaw23_PlainNames.j1 k1 t110 bt133.1 bt133.2 bt135.2 bt137.1 bt137.2 bt139.2 true)))))))) = some r := H
      have A14 := Aside0.mk A140
      clear A140
      replace H := Option.bind_eq_some_iff.mp H
      obtain ⟨⟨t129, t130⟩, A150, H⟩ := H
      replace H : ((plain_Write.f ([] : List (S35)) 0 0 1024 1024).bind fun bt131 => ((plain_Write.f ([] : List (S35)) 0 0 65536 15).bind fun bt133 => ((plain_Write.f ([] : List (S35)) 0 0 65537 0).bind fun bt135 => ((plain_Halves.f ([] : List (S35)) 0 0 1023 2048).bind fun bt137 => ((plain_Halves.f ([] : List (S35)) 0 0 1023 2049).bind fun bt139 => (if t121 = 0 then (if t126 = 3 then (if t125 = 0 then (if t130 = 0 then (if (t129.size : Int) = 1048576 then (vivariumlaw23_PlainNames.j1 k1 t110 bt133.1 bt133.2 bt135.2 bt137.1 bt137.2 bt139.2 (bt131.2 != 3)) else (vivariumlaw23_PlainNames.j1 k1 t110 bt133.1 bt133.2 bt135.2 bt137.1 bt137.2 bt139.2 true)) else (vivariumlaw23_PlainNames.j1 k1 t110 bt133.1 bt133.2 bt135.2 bt137.1 bt137.2 bt139.2 true)) else (vivariumlaw23_PlainNames.j1 k1 t110 bt133.1 bt133.2 bt135.2 bt137.1 bt137.2 bt139.2 true)) else (vivariumlaw23_PlainNames.j1 k1 t110 bt133.1 bt133.2 bt135.2 bt137.1 bt137.2 bt139.2 true)) else (vivariumlaw23_PlainNames.j1 k1 t110 bt133.1 bt133.2 bt135.2 bt137.1 bt137.2 bt139.2 true))))))) = some r := H
      have A15 := Aside0.mk A150
      clear A150
      replace H := Option.bind_eq_some_iff.mp H
      obtain ⟨⟨t131, t132⟩, A160, H⟩ := H
      replace H : ((plain_Write.f ([] : List (S35)) 0 0 65536 15).bind fun bt133 => ((plain_Write.f ([] : List (S35)) 0 0 65537 0).bind fun bt135 => ((plain_Halves.f ([] : List (S35)) 0 0 1023 2048).bind fun bt137 => ((plain_Halves.f ([] : List (S35)) 0 0 1023 2049).bind fun bt139 => (if t121 = 0 then (if t126 = 3 then (if t125 = 0 then (if t130 = 0 then (if (t129.size : Int) = 1048576 then (vivariumlaw23_PlainNames.j1 k1 t110 bt133.1 bt133.2 bt135.2 bt137.1 bt137.2 bt139.2 (t132 != 3)) else (vivariumlaw23_PlainNames.j1 k1 t110 bt133.1 bt133.2 bt135.2 bt137.1 bt137.2 bt139.2 true)) else (vivariumlaw23_PlainNames.j1 k1 t110 bt133.1 bt133.2 bt135.2 bt137.1 bt137.2 bt139.2 true)) else (vivariumlaw23_PlainNames.j1 k1 t110 bt133.1 bt133.2 bt135.2 bt137.1 bt137.2 bt139.2 true)) else (vivariumlaw23_PlainNames.j1 k1 t110 bt133.1 bt133.2 bt135.2 bt137.1 bt137.2 bt139.2 true)) else (vivariumlaw23_PlainNames.j1 k1 t110 bt133.1 bt133.2 bt135.2 bt137.1 bt137.2 bt139.2 true)))))) = some r := H
      have A16 := Aside0.mk A160
      clear A160
      replace H := Option.bind_eq_some_iff.mp H
      obtain ⟨⟨t133, t134⟩, A170, H⟩ := H
      replace H : ((plain_Write.f ([] : List (S35)) 0 0 65537 0).bind fun bt135 => ((plain_Halves.f ([] : List (S35)) 0 0 1023 2048).bind fun bt137 => ((plain_Halves.f ([] : List (S35)) 0 0 1023 2049).bind fun bt139 => (if t121 = 0 then (if t126 = 3 then (if t125 = 0 then (if t130 = 0 then (if (t129.size : Int) = 1048576 then (vivariumlaw23_PlainNames.j1 k1 t110 t133 t134 bt135.2 bt137.1 bt137.2 bt139.2 (t132 != 3)) else (vivariumlaw23_PlainNames.j1 k1 t110 t133 t134 bt135.2 bt137.1 bt137.2 bt139.2 true)) else (vivariumlaw23_PlainNames.j1 k1 t110 t133 t134 bt135.2 bt137.1 bt137.2 bt139.2 true)) else (vivariumlaw23_PlainNames.j1 k1 t110 t133 t134 bt135.2 bt137.1 bt137.2 bt139.2 true)) else (vivariumlaw23_PlainNames.j1 k1 t110 t133 t134 bt135.2 bt137.1 bt137.2 bt139.2 true)) else (vivariumlaw23_PlainNames.j1 k1 t110 t133 t134 bt135.2 bt137.1 bt137.2 bt139.2 true))))) = some r := H
      have A17 := Aside0.mk A170
      clear A170
      replace H := Option.bind_eq_some_iff.mp H
      obtain ⟨⟨t135, t136⟩, A180, H⟩ := H
      replace H : ((plain_Halves.f ([] : List (S35)) 0 0 1023 2048).bind fun bt137 => ((plain_Halves.f ([] : List (S35)) 0 0 1023 2049).bind fun bt139 => (if t121 = 0 then (if t126 = 3 then (if t125 = 0 then (if t130 = 0 then (if (t129.size : Int) = 1048576 then (vivariumlaw23_PlainNames.j1 k1 t110 t133 t134 t136 bt137.1 bt137.2 bt139.2 (t132 != 3)) else (vivariumlaw23_PlainNames.j1 k1 t110 t133 t134 t136 bt137.1 bt137.2 bt139.2 true)) else (vivariumlaw23_PlainNames.j1 k1 t110 t133 t134 t136 bt137.1 bt137.2 bt139.2 true)) else (vivariumlaw23_PlainNames.j1 k1 t110 t133 t134 t136 bt137.1 bt137.2 bt139.2 true)) else (vivariumlaw23_PlainNames.j1 k1 t110 t133 t134 t136 bt137.1 bt137.2 bt139.2 true)) else (vivariumlaw23_PlainNames.j1 k1 t110 t133 t134 t136 bt137.1 bt137.2 bt139.2 true)))) = some r := H
      have A18 := Aside0.mk A180
      clear A180
      replace H := Option.bind_eq_some_iff.mp H
      obtain ⟨⟨t137, t138⟩, A190, H⟩ := H
      replace H : ((plain_Halves.f ([] : List (S35)) 0 0 1023 2049).bind fun bt139 => (if t121 = 0 then (if t126 = 3 then (if t125 = 0 then (if t130 = 0 then (if (t129.size : Int) = 1048576 then (vivariumlaw23_PlainNames.j1 k1 t110 t133 t134 t136 t137 t138 bt139.2 (t132 != 3)) else (vivariumlaw23_PlainNames.j1 k1 t110 t133 t134 t136 t137 t138 bt139.2 true)) else (vivariumlaw23_PlainNames.j1 k1 t110 t133 t134 t136 t137 t138 bt139.2 true)) else (vivariumlaw23_PlainNames.j1 k1 t110 t133 t134 t136 t137 t138 bt139.2 true)) else (vivariumlaw23_PlainNames.j1 k1 t110 t133 t134 t136 t137 t138 bt139.2 true)) else (vivariumlaw23_PlainNames.j1 k1 t110 t133 t134 t136 t137 t138 bt139.2 true))) = some r := H
      have A19 := Aside0.mk A190
      clear A190
      replace H := Option.bind_eq_some_iff.mp H
      obtain ⟨⟨t139, t140⟩, A200, H⟩ := H
      replace H : (if t121 = 0 then (if t126 = 3 then (if t125 = 0 then (if t130 = 0 then (if (t129.size : Int) = 1048576 then (vivariumlaw23_PlainNames.j1 k1 t110 t133 t134 t136 t137 t138 t140 (t132 != 3)) else (vivariumlaw23_PlainNames.j1 k1 t110 t133 t134 t136 t137 t138 t140 true)) else (vivariumlaw23_PlainNames.j1 k1 t110 t133 t134 t136 t137 t138 t140 true)) else (vivariumlaw23_PlainNames.j1 k1 t110 t133 t134 t136 t137 t138 t140 true)) else (vivariumlaw23_PlainNames.j1 k1 t110 t133 t134 t136 t137 t138 t140 true)) else (vivariumlaw23_PlainNames.j1 k1 t110 t133 t134 t136 t137 t138 t140 true)) = some r := H
      have A20 := Aside0.mk A200
      clear A200
      have HC21 := Aside0.mk H
      clear H
      obtain ⟨Ao22, co22, eo22⟩ := Kd.R_slice HO_2.out
      subst eo22
      have q23 : (1048576 : Int) ≤ ((x2_1.length : Int) : Int) := of_decide_eq_true (by first | (with_reducible assumption) | assumption)
      obtain ⟨i023, hi023, _, hsz23, _⟩ := info_parts info5
      have hroom23 : x2_1.length ≤ co22 := (Kd.R_reads' HO_2.out).2.1
      have hC23 : Kd.C (Kd.int .u8) _ Ao22 x2_1.length x2_1 := (Kd.R_reads' HO_2.out).2.2
      have hcut23 := cut_to (P := Try.prog) 24 5 .i64 Try.underlying24 hi023 Ao22 x2_1.length co22 1048576 (by omega) q23 hroom23
      have hr23 := Kd.C_take (m := 1048576) hC23 (by omega)
      have hy23 : y115.length = (1048576 : Int).toNat := (by rw [Ny115.out, List.length_take]; omega)
      rw [← Ny115.out] at hr23
      rw [← hy23] at hcut23
      have HR118 := Aside0.mk hr23
      have HC118 := Aside0.mk (show y115.length ≤ co22 from by omega)
      clear hr23 hC23 hroom23 hi023 hsz23
      have KY23 := Aside0.mk hy23
      clear hy23
      have KL23 := Aside0.mk (show 1048576 ≤ x2_1.length from by omega)
      replace q23 := eq_true q23
      have hcv24 := Kd.C_string (P := Try.prog) (A := Ao22) (c := co22) Try.underlying24 Try.underlying5 Try.underlying9 (by repeat (first | (with_reducible exact HR118.out) | (with_reducible refine Kd.C_alloc ?_ _) | (with_reducible refine Kd.C_drewN ?_ _) | (with_reducible refine Kd.C_drew ?_) | exact HR118.out))
      go_upto_region 15 with (first | ((with_reducible refine gate_callee (f := 13) rfl ?_); refine goesL_ (some 47) rfl rfl Try.func13 (by kernel_rfl) rfl #[.string (strOfNums y115)] rfl (by (try simp only [List.map_toArray, List.map_cons, List.map_nil]); first | done | rfl | (simp only [List.length_drop, List.length_take]; rfl)) ?_; (with_reducible refine (plain_Read.calls (strOfNums y115) t119 t120 t121 _ A13.out).mono ?_); rintro e w25 ⟨v122, rfl, ho0, hb⟩; refine ⟨_, rfl, ?_⟩; have n0_ := Aside0.mk (Kd.R_below (by (with_reducible repeat (first | apply Kd.R_alloc | apply Kd.R_drewN | apply Kd.R_drew)); exact HO_2.out) hb); have n1_ := Aside0.mk (Kd.R_lower ho0 (below_size (by repeat (first | (with_reducible first | exact HB.out | apply below_alloc | apply pw_below_drewN | apply below_drew1) | exact HB.out)))); have n2_ := Aside0.mk (Kd.C_below (by repeat (first | (with_reducible exact HR118.out) | (with_reducible refine Kd.C_alloc ?_ _) | (with_reducible refine Kd.C_drewN ?_ _) | (with_reducible refine Kd.C_drew ?_) | exact HR118.out)) hb); have n3_ := Aside0.mk (below_step (by repeat (first | (with_reducible first | exact HB.out | apply below_alloc | apply pw_below_drewN | apply below_drew1) | exact HB.out)) hb); clear HO_2; clear HR118; clear HB; have HO_2 := n0_; have HO123 := n1_; have HR118 := n2_; have HB := n3_; clear n0_ n1_ n2_ n3_; (try clear hb); (try clear hb2); (try clear hk); (try clear hi); (try clear ho0); have hcv26 := own_string (P := Try.prog) Try.underlying24 Try.underlying5 Try.underlying9 (Kd.own_of_R HO_2.out)) | ((with_reducible refine gate_callee (f := 13) rfl ?_); refine goesL_ (some 54) rfl rfl Try.func13 (by kernel_rfl) rfl #[.string (strOfNums x2_1)] rfl (by (try simp only [List.map_toArray, List.map_cons, List.map_nil]); first | done | rfl | (simp only [List.length_drop, List.length_take]; rfl)) ?_; (with_reducible refine (plain_Read.calls (strOfNums x2_1) t124 t125 t126 _ A14.out).mono ?_); rintro e w27 ⟨v127, rfl, ho0, hb⟩; refine ⟨_, rfl, ?_⟩; have n0_ := Aside0.mk (Kd.R_below (by (with_reducible repeat (first | apply Kd.R_alloc | apply Kd.R_drewN | apply Kd.R_drew)); exact HO_2.out) hb); have n1_ := Aside0.mk (Kd.R_elder' (by (with_reducible repeat (first | apply Kd.R_alloc | apply Kd.R_drewN | apply Kd.R_drew)); exact HO123.out) (Kd.R_base ho0) hb); have n2_ := Aside0.mk (Kd.R_lower (Kd.R_new' ho0 (Kd.R_lt (by (with_reducible repeat (first | apply Kd.R_alloc | apply Kd.R_drewN | apply Kd.R_drew)); exact HO123.out))) (below_size (by repeat (first | (with_reducible first | exact HB.out | apply below_alloc | apply pw_below_drewN | apply below_drew1) | exact HB.out)))); have n3_ := Aside0.mk (Kd.C_below (by repeat (first | (with_reducible exact HR118.out) | (with_reducible refine Kd.C_alloc ?_ _) | (with_reducible refine Kd.C_drewN ?_ _) | (with_reducible refine Kd.C_drew ?_) | exact HR118.out)) hb); have n4_ := Aside0.mk (below_step (by repeat (first | (with_reducible first | exact HB.out | apply below_alloc | apply pw_below_drewN | apply below_drew1) | exact HB.out)) hb); clear HO_2; clear HO123; clear HR118; clear HB; have HO_2 := n0_; have HO123 := n1_; have HO128 := n2_; have HR118 := n3_; have HB := n4_; clear n0_ n1_ n2_ n3_ n4_; (try clear hb); (try clear hb2); (try clear hk); (try clear hi); (try clear ho0)) | ((with_reducible refine gate_callee (f := 12) rfl ?_); refine goesL_ (some 60) rfl rfl Try.func12 (by kernel_rfl) rfl #[.slice none 0 0, .agg #[.int .i64 0, .int .i64 0, .int .i64 1023, .int .i64 1024]] rfl (by (try simp only [List.map_toArray, List.map_cons, List.map_nil]); first | done | rfl | (simp only [List.length_drop, List.length_take]; rfl)) ?_; (refine (plain_Write.calls _ _ ([] : List (S35)) 0 0 1023 1024 t129 t130 _ ?side1 ?side2 A15.out).mono ?_); (case side1 => exact Kd.C_nil _ _); (case side2 => exact Nat.le_refl _); rintro e w28 ⟨rfl, hb⟩; refine ⟨_, rfl, ?_⟩; have n0_ := Aside0.mk (Kd.R_below (by (with_reducible repeat (first | apply Kd.R_alloc | apply Kd.R_drewN | apply Kd.R_drew)); exact HO_2.out) hb); have n1_ := Aside0.mk (Kd.R_below (by (with_reducible repeat (first | apply Kd.R_alloc | apply Kd.R_drewN | apply Kd.R_drew)); exact HO123.out) hb); have n2_ := Aside0.mk (Kd.R_below (by (with_reducible repeat (first | apply Kd.R_alloc | apply Kd.R_drewN | apply Kd.R_drew)); exact HO128.out) hb); have n3_ := Aside0.mk (Kd.C_below (by repeat (first | (with_reducible exact HR118.out) | (with_reducible refine Kd.C_alloc ?_ _) | (with_reducible refine Kd.C_drewN ?_ _) | (with_reducible refine Kd.C_drew ?_) | exact HR118.out)) hb); have n4_ := Aside0.mk (below_step (by repeat (first | (with_reducible first | exact HB.out | apply below_alloc | apply pw_below_drewN | apply below_drew1) | exact HB.out)) hb); clear HO_2; clear HO123; clear HO128; clear HR118; clear HB; have HO_2 := n0_; have HO123 := n1_; have HO128 := n2_; have HR118 := n3_; have HB := n4_; clear n0_ n1_ n2_ n3_ n4_; (try clear hb); (try clear hb2); (try clear hk); (try clear hi)) | ((with_reducible refine gate_callee (f := 12) rfl ?_); refine goesL_ (some 65) rfl rfl Try.func12 (by kernel_rfl) rfl #[.slice none 0 0, .agg #[.int .i64 0, .int .i64 0, .int .i64 1024, .int .i64 1024]] rfl (by (try simp only [List.map_toArray, List.map_cons, List.map_nil]); first | done | rfl | (simp only [List.length_drop, List.length_take]; rfl)) ?_; (refine (plain_Write.calls _ _ ([] : List (S35)) 0 0 1024 1024 t131 t132 _ ?side1 ?side2 A16.out).mono ?_); (case side1 => exact Kd.C_nil _ _); (case side2 => exact Nat.le_refl _); rintro e w29 ⟨rfl, hb⟩; refine ⟨_, rfl, ?_⟩; have n0_ := Aside0.mk (Kd.R_below (by (with_reducible repeat (first | apply Kd.R_alloc | apply Kd.R_drewN | apply Kd.R_drew)); exact HO_2.out) hb); have n1_ := Aside0.mk (Kd.R_below (by (with_reducible repeat (first | apply Kd.R_alloc | apply Kd.R_drewN | apply Kd.R_drew)); exact HO123.out) hb); have n2_ := Aside0.mk (Kd.R_below (by (with_reducible repeat (first | apply Kd.R_alloc | apply Kd.R_drewN | apply Kd.R_drew)); exact HO128.out) hb); have n3_ := Aside0.mk (Kd.C_below (by repeat (first | (with_reducible exact HR118.out) | (with_reducible refine Kd.C_alloc ?_ _) | (with_reducible refine Kd.C_drewN ?_ _) | (with_reducible refine Kd.C_drew ?_) | exact HR118.out)) hb); have n4_ := Aside0.mk (below_step (by repeat (first | (with_reducible first | exact HB.out | apply below_alloc | apply pw_below_drewN | apply below_drew1) | exact HB.out)) hb); clear HO_2; clear HO123; clear HO128; clear HR118; clear HB; have HO_2 := n0_; have HO123 := n1_; have HO128 := n2_; have HR118 := n3_; have HB := n4_; clear n0_ n1_ n2_ n3_ n4_; (try clear hb); (try clear hb2); (try clear hk); (try clear hi)) | ((with_reducible refine gate_callee (f := 12) rfl ?_); refine goesL_ (some 70) rfl rfl Try.func12 (by kernel_rfl) rfl #[.slice none 0 0, .agg #[.int .i64 0, .int .i64 0, .int .i64 65536, .int .i64 15]] rfl (by (try simp only [List.map_toArray, List.map_cons, List.map_nil]); first | done | rfl | (simp only [List.length_drop, List.length_take]; rfl)) ?_; (refine (plain_Write.calls _ _ ([] : List (S35)) 0 0 65536 15 t133 t134 _ ?side1 ?side2 A17.out).mono ?_); (case side1 => exact Kd.C_nil _ _); (case side2 => exact Nat.le_refl _); rintro e w30 ⟨rfl, hb⟩; refine ⟨_, rfl, ?_⟩; have n0_ := Aside0.mk (Kd.R_below (by (with_reducible repeat (first | apply Kd.R_alloc | apply Kd.R_drewN | apply Kd.R_drew)); exact HO_2.out) hb); have n1_ := Aside0.mk (Kd.R_below (by (with_reducible repeat (first | apply Kd.R_alloc | apply Kd.R_drewN | apply Kd.R_drew)); exact HO123.out) hb); have n2_ := Aside0.mk (Kd.R_below (by (with_reducible repeat (first | apply Kd.R_alloc | apply Kd.R_drewN | apply Kd.R_drew)); exact HO128.out) hb); have n3_ := Aside0.mk (Kd.C_below (by repeat (first | (with_reducible exact HR118.out) | (with_reducible refine Kd.C_alloc ?_ _) | (with_reducible refine Kd.C_drewN ?_ _) | (with_reducible refine Kd.C_drew ?_) | exact HR118.out)) hb); have n4_ := Aside0.mk (below_step (by repeat (first | (with_reducible first | exact HB.out | apply below_alloc | apply pw_below_drewN | apply below_drew1) | exact HB.out)) hb); clear HO_2; clear HO123; clear HO128; clear HR118; clear HB; have HO_2 := n0_; have HO123 := n1_; have HO128 := n2_; have HR118 := n3_; have HB := n4_; clear n0_ n1_ n2_ n3_ n4_; (try clear hb); (try clear hb2); (try clear hk); (try clear hi)) | ((with_reducible refine gate_callee (f := 12) rfl ?_); refine goesL_ (some 75) rfl rfl Try.func12 (by kernel_rfl) rfl #[.slice none 0 0, .agg #[.int .i64 0, .int .i64 0, .int .i64 65537, .int .i64 0]] rfl (by (try simp only [List.map_toArray, List.map_cons, List.map_nil]); first | done | rfl | (simp only [List.length_drop, List.length_take]; rfl)) ?_; (refine (plain_Write.calls _ _ ([] : List (S35)) 0 0 65537 0 t135 t136 _ ?side1 ?side2 A18.out).mono ?_); (case side1 => exact Kd.C_nil _ _); (case side2 => exact Nat.le_refl _); rintro e w31 ⟨rfl, hb⟩; refine ⟨_, rfl, ?_⟩; have n0_ := Aside0.mk (Kd.R_below (by (with_reducible repeat (first | apply Kd.R_alloc | apply Kd.R_drewN | apply Kd.R_drew)); exact HO_2.out) hb); have n1_ := Aside0.mk (Kd.R_below (by (with_reducible repeat (first | apply Kd.R_alloc | apply Kd.R_drewN | apply Kd.R_drew)); exact HO123.out) hb); have n2_ := Aside0.mk (Kd.R_below (by (with_reducible repeat (first | apply Kd.R_alloc | apply Kd.R_drewN | apply Kd.R_drew)); exact HO128.out) hb); have n3_ := Aside0.mk (Kd.C_below (by repeat (first | (with_reducible exact HR118.out) | (with_reducible refine Kd.C_alloc ?_ _) | (with_reducible refine Kd.C_drewN ?_ _) | (with_reducible refine Kd.C_drew ?_) | exact HR118.out)) hb); have n4_ := Aside0.mk (below_step (by repeat (first | (with_reducible first | exact HB.out | apply below_alloc | apply pw_below_drewN | apply below_drew1) | exact HB.out)) hb); clear HO_2; clear HO123; clear HO128; clear HR118; clear HB; have HO_2 := n0_; have HO123 := n1_; have HO128 := n2_; have HR118 := n3_; have HB := n4_; clear n0_ n1_ n2_ n3_ n4_; (try clear hb); (try clear hb2); (try clear hk); (try clear hi)) | ((with_reducible refine gate_callee (f := 17) rfl ?_); refine goesL_ (some 80) rfl rfl Try.func17 (by kernel_rfl) rfl #[.slice none 0 0, .agg #[.int .i64 0, .int .i64 0, .int .i64 1023, .int .i64 2048]] rfl (by (try simp only [List.map_toArray, List.map_cons, List.map_nil]); first | done | rfl | (simp only [List.length_drop, List.length_take]; rfl)) ?_; (refine (plain_Halves.calls _ _ ([] : List (S35)) 0 0 1023 2048 t137 t138 _ ?side1 ?side2 A19.out).mono ?_); (case side1 => exact Kd.C_nil _ _); (case side2 => exact Nat.le_refl _); rintro e w32 ⟨rfl, hb⟩; refine ⟨_, rfl, ?_⟩; have n0_ := Aside0.mk (Kd.R_below (by (with_reducible repeat (first | apply Kd.R_alloc | apply Kd.R_drewN | apply Kd.R_drew)); exact HO_2.out) hb); have n1_ := Aside0.mk (Kd.R_below (by (with_reducible repeat (first | apply Kd.R_alloc | apply Kd.R_drewN | apply Kd.R_drew)); exact HO123.out) hb); have n2_ := Aside0.mk (Kd.R_below (by (with_reducible repeat (first | apply Kd.R_alloc | apply Kd.R_drewN | apply Kd.R_drew)); exact HO128.out) hb); have n3_ := Aside0.mk (Kd.C_below (by repeat (first | (with_reducible exact HR118.out) | (with_reducible refine Kd.C_alloc ?_ _) | (with_reducible refine Kd.C_drewN ?_ _) | (with_reducible refine Kd.C_drew ?_) | exact HR118.out)) hb); have n4_ := Aside0.mk (below_step (by repeat (first | (with_reducible first | exact HB.out | apply below_alloc | apply pw_below_drewN | apply below_drew1) | exact HB.out)) hb); clear HO_2; clear HO123; clear HO128; clear HR118; clear HB; have HO_2 := n0_; have HO123 := n1_; have HO128 := n2_; have HR118 := n3_; have HB := n4_; clear n0_ n1_ n2_ n3_ n4_; (try clear hb); (try clear hb2); (try clear hk); (try clear hi)) | ((with_reducible refine gate_callee (f := 17) rfl ?_); refine goesL_ (some 85) rfl rfl Try.func17 (by kernel_rfl) rfl #[.slice none 0 0, .agg #[.int .i64 0, .int .i64 0, .int .i64 1023, .int .i64 2049]] rfl (by (try simp only [List.map_toArray, List.map_cons, List.map_nil]); first | done | rfl | (simp only [List.length_drop, List.length_take]; rfl)) ?_; (refine (plain_Halves.calls _ _ ([] : List (S35)) 0 0 1023 2049 t139 t140 _ ?side1 ?side2 A20.out).mono ?_); (case side1 => exact Kd.C_nil _ _); (case side2 => exact Nat.le_refl _); rintro e w33 ⟨rfl, hb⟩; refine ⟨_, rfl, ?_⟩; have n0_ := Aside0.mk (Kd.R_below (by (with_reducible repeat (first | apply Kd.R_alloc | apply Kd.R_drewN | apply Kd.R_drew)); exact HO_2.out) hb); have n1_ := Aside0.mk (Kd.R_below (by (with_reducible repeat (first | apply Kd.R_alloc | apply Kd.R_drewN | apply Kd.R_drew)); exact HO123.out) hb); have n2_ := Aside0.mk (Kd.R_below (by (with_reducible repeat (first | apply Kd.R_alloc | apply Kd.R_drewN | apply Kd.R_drew)); exact HO128.out) hb); have n3_ := Aside0.mk (Kd.C_below (by repeat (first | (with_reducible exact HR118.out) | (with_reducible refine Kd.C_alloc ?_ _) | (with_reducible refine Kd.C_drewN ?_ _) | (with_reducible refine Kd.C_drew ?_) | exact HR118.out)) hb); have n4_ := Aside0.mk (below_step (by repeat (first | (with_reducible first | exact HB.out | apply below_alloc | apply pw_below_drewN | apply below_drew1) | exact HB.out)) hb); clear HO_2; clear HO123; clear HO128; clear HR118; clear HB; have HO_2 := n0_; have HO123 := n1_; have HO128 := n2_; have HR118 := n3_; have HB := n4_; clear n0_ n1_ n2_ n3_ n4_; (try clear hb); (try clear hb2); (try clear hk); (try clear hi)))
      (try simp only [Act.put, List.setIfInBounds_toArray, List.set_cons_zero, List.set_cons_succ])
      go_cut [110] (fun v110 wc => ∃ (kq : Nat) (x110_20 : Bool), v110 = .bool x110_20 ∧ Aside0 (vivariumlaw23_PlainNames.j1 kq t110 t133 t134 t136 t137 t138 t140 x110_20 = some r) ∧ Aside0 (kq ≤ k1) ∧ Aside0 (Kd.C (Kd.int .u8) wc Ao22 y115.length y115) ∧ Aside0 (Below w.heap.size w wc))
      case first =>
       have H := HC21.out
       clear HC21
       by_cases c34 : t121 = 0
       ·rw [if_pos c34] at H
        have c34b0 : (t121 == 0) = true := beq_iff_eq.mpr c34
        have c34b1 : (t121 != 0) = false := bne_eq_false_iff_eq.mpr c34
        clear c34
        (first | rw [c34b0] | (simp only [i64_w, i32_w]; rw [c34b0]) | skip)
        by_cases c35 : t126 = 3
        ·rw [if_pos c35] at H
         have c35b0 : (t126 == 3) = true := beq_iff_eq.mpr c35
         have c35b1 : (t126 != 3) = false := bne_eq_false_iff_eq.mpr c35
         clear c35
         by_cases c36 : t125 = 0
         ·rw [if_pos c36] at H
          have c36b0 : (t125 == 0) = true := beq_iff_eq.mpr c36
          have c36b1 : (t125 != 0) = false := bne_eq_false_iff_eq.mpr c36
          clear c36
          by_cases c37 : t130 = 0
          ·rw [if_pos c37] at H
           have c37b0 : (t130 == 0) = true := beq_iff_eq.mpr c37
           have c37b1 : (t130 != 0) = false := bne_eq_false_iff_eq.mpr c37
           clear c37
           by_cases c38 : (t129.size : Int) = 1048576
           ·rw [if_pos c38] at H
            have c38b0 : ((t129.size : Int) == 1048576) = true := beq_iff_eq.mpr c38
            have c38b1 : ((t129.size : Int) != 1048576) = false := bne_eq_false_iff_eq.mpr c38
            clear c38
            have H' := Aside0.mk H
            clear H
            go_wp2
            go_meet
            case rel => exact ⟨_, ((t132 != 3)), (by first | rfl | (simp; done) | (simp [*]; done)), H', ⟨by have := HK1.out; first | omega | exact Nat.le_refl _⟩, ⟨by repeat (first | (with_reducible exact HR118.out) | (with_reducible refine Kd.C_alloc ?_ _) | (with_reducible refine Kd.C_drewN ?_ _) | (with_reducible refine Kd.C_drew ?_) | exact HR118.out)⟩, ⟨by repeat (first | (with_reducible first | exact HB.out | apply below_alloc | apply pw_below_drewN | apply below_drew1) | exact HB.out)⟩⟩
           ·rw [if_neg c38] at H
            have c38b0 : ((t129.size : Int) == 1048576) = false := beq_eq_false_iff_ne.mpr c38
            have c38b1 : ((t129.size : Int) != 1048576) = true := bne_iff_ne.mpr c38
            have H' := Aside0.mk H
            clear H
            go_wp2
            go_meet
            case rel => exact ⟨_, (true), (by first | rfl | (simp; done) | (simp [*]; done)), H', ⟨by have := HK1.out; first | omega | exact Nat.le_refl _⟩, ⟨by repeat (first | (with_reducible exact HR118.out) | (with_reducible refine Kd.C_alloc ?_ _) | (with_reducible refine Kd.C_drewN ?_ _) | (with_reducible refine Kd.C_drew ?_) | exact HR118.out)⟩, ⟨by repeat (first | (with_reducible first | exact HB.out | apply below_alloc | apply pw_below_drewN | apply below_drew1) | exact HB.out)⟩⟩
          ·rw [if_neg c37] at H
           have c37b0 : (t130 == 0) = false := beq_eq_false_iff_ne.mpr c37
           have c37b1 : (t130 != 0) = true := bne_iff_ne.mpr c37
           have H' := Aside0.mk H
           clear H
           go_wp2
           go_meet
           case rel => exact ⟨_, (true), (by first | rfl | (simp; done) | (simp [*]; done)), H', ⟨by have := HK1.out; first | omega | exact Nat.le_refl _⟩, ⟨by repeat (first | (with_reducible exact HR118.out) | (with_reducible refine Kd.C_alloc ?_ _) | (with_reducible refine Kd.C_drewN ?_ _) | (with_reducible refine Kd.C_drew ?_) | exact HR118.out)⟩, ⟨by repeat (first | (with_reducible first | exact HB.out | apply below_alloc | apply pw_below_drewN | apply below_drew1) | exact HB.out)⟩⟩
         ·rw [if_neg c36] at H
          have c36b0 : (t125 == 0) = false := beq_eq_false_iff_ne.mpr c36
          have c36b1 : (t125 != 0) = true := bne_iff_ne.mpr c36
          have H' := Aside0.mk H
          clear H
          go_wp2
          go_meet
          case rel => exact ⟨_, (true), (by first | rfl | (simp; done) | (simp [*]; done)), H', ⟨by have := HK1.out; first | omega | exact Nat.le_refl _⟩, ⟨by repeat (first | (with_reducible exact HR118.out) | (with_reducible refine Kd.C_alloc ?_ _) | (with_reducible refine Kd.C_drewN ?_ _) | (with_reducible refine Kd.C_drew ?_) | exact HR118.out)⟩, ⟨by repeat (first | (with_reducible first | exact HB.out | apply below_alloc | apply pw_below_drewN | apply below_drew1) | exact HB.out)⟩⟩
        ·rw [if_neg c35] at H
         have c35b0 : (t126 == 3) = false := beq_eq_false_iff_ne.mpr c35
         have c35b1 : (t126 != 3) = true := bne_iff_ne.mpr c35
         have H' := Aside0.mk H
         clear H
         go_wp2
         go_meet
         case rel => exact ⟨_, (true), (by first | rfl | (simp; done) | (simp [*]; done)), H', ⟨by have := HK1.out; first | omega | exact Nat.le_refl _⟩, ⟨by repeat (first | (with_reducible exact HR118.out) | (with_reducible refine Kd.C_alloc ?_ _) | (with_reducible refine Kd.C_drewN ?_ _) | (with_reducible refine Kd.C_drew ?_) | exact HR118.out)⟩, ⟨by repeat (first | (with_reducible first | exact HB.out | apply below_alloc | apply pw_below_drewN | apply below_drew1) | exact HB.out)⟩⟩
       ·rw [if_neg c34] at H
        have c34b0 : (t121 == 0) = false := beq_eq_false_iff_ne.mpr c34
        have c34b1 : (t121 != 0) = true := bne_iff_ne.mpr c34
        (first | rw [c34b0] | (simp only [i64_w, i32_w]; rw [c34b0]) | skip)
        have H' := Aside0.mk H
        clear H
        go_wp2
        go_meet
        case rel => exact ⟨_, (true), (by first | rfl | (simp; done) | (simp [*]; done)), H', ⟨by have := HK1.out; first | omega | exact Nat.le_refl _⟩, ⟨by repeat (first | (with_reducible exact HR118.out) | (with_reducible refine Kd.C_alloc ?_ _) | (with_reducible refine Kd.C_drewN ?_ _) | (with_reducible refine Kd.C_drew ?_) | exact HR118.out)⟩, ⟨by repeat (first | (with_reducible first | exact HB.out | apply below_alloc | apply pw_below_drewN | apply below_drew1) | exact HB.out)⟩⟩
      case rest =>
       clear HC21
       try clear c1
       try clear c2
       try clear c2b0
       try clear c2b1
       try clear p2
       try clear q2
       try clear hcv2
       try clear c3
       try clear c6
       try clear c6b0
       try clear p6
       try clear c7
       try clear c7b0
       try clear p8
       try clear q8
       try clear hx8
       try clear hf8
       try clear c9
       try clear c12
       try clear c12b0
       try clear c12b1
       try clear c13
       try clear c17
       try clear q23
       try clear hcv24
       try clear hcv26
       try clear c34
       try clear c34b0
       try clear c34b1
       try clear c35
       try clear c35b0
       try clear c35b1
       try clear c36
       try clear c36b0
       try clear c36b1
       try clear c37
       try clear c37b0
       try clear c37b1
       try clear c38
       try clear c38b0
       try clear c38b1
       try clear hx8_0
       try clear p2
       try clear p8
       try clear q23
       try clear q8
       obtain ⟨kq, x110_20, rfl, HA, HJ20, HR118, HB⟩ := hcut
       cases kq with
       | zero => exact absurd HA.out (by simp [vivariumlaw23_PlainNames.j1])
       | succ kj20 =>
        have H := HA.out
        clear HA
        simp only [vivariumlaw23_PlainNames.j1] at H
        by_cases c39 : x110_20 = true
        ·subst c39
         have H1 : (some false) = some r := by rw [if_pos rfl] at H; exact H
         clear H
         have H := H1
         clear H1
         obtain rfl := Option.some.inj H
         go_wp2
         go_ret
         exact ⟨by first | rfl | (simp [errW_none, errW_some] <;> rfl) | (simp [*, errW_none, errW_some] <;> rfl), by repeat (first | (with_reducible first | exact HB.out | apply below_alloc | apply pw_below_drewN | apply below_drew1) | exact HB.out)⟩
        ·replace c39 := Bool.eq_false_iff.mpr c39
         subst c39
         have H1 : ((plain_Write.f ([] : List (S35)) 1099511627777 0 (-1) 0).bind fun bt141 => ((plain_Write.f (([(⟨0, 0, 1⟩ : S35), (⟨0, 0, 2⟩ : S35), (⟨1099511627777, 0, 1⟩ : S35)] : List (S35))) 0 0 1 1).bind fun bt146 => (vivariumlaw23_PlainNames.l1 kj20 t110 t133 t134 t136 t137 t138 t140 bt141.2 bt146.2 ([] : List (S35)) 0))) = some r := by rw [if_neg (show ¬ (false = true) by decide)] at H; exact H
         clear H
         have H := H1
         clear H1
         replace H := Option.bind_eq_some_iff.mp H
         obtain ⟨⟨t141, t142⟩, A400, H⟩ := H
         replace H : ((plain_Write.f (([(⟨0, 0, 1⟩ : S35), (⟨0, 0, 2⟩ : S35), (⟨1099511627777, 0, 1⟩ : S35)] : List (S35))) 0 0 1 1).bind fun bt146 => (vivariumlaw23_PlainNames.l1 kj20 t110 t133 t134 t136 t137 t138 t140 t142 bt146.2 ([] : List (S35)) 0)) = some r := H
         have A40 := Aside0.mk A400
         clear A400
         obtain ⟨y143, hy143⟩ : ∃ y_ : List (S35), y_ = (([(⟨0, 0, 1⟩ : S35), (⟨0, 0, 2⟩ : S35), (⟨1099511627777, 0, 1⟩ : S35)] : List (S35))) := ⟨_, rfl⟩
         replace H : ((plain_Write.f y143 0 0 1 1).bind fun bt146 => (vivariumlaw23_PlainNames.l1 kj20 t110 t133 t134 t136 t137 t138 t140 t142 bt146.2 ([] : List (S35)) 0)) = some r := by first | (rw [hy143]; with_reducible exact H) | (have H2_ := (Option.bind_some _ _).symm.trans H; rw [hy143]; with_reducible exact H2_) | (have H2_ := (Option.bind_some _ _).symm.trans H; with_reducible exact H2_) | with_reducible exact H | (rw [hy143]; exact H) | exact H
         have Ny143 := Aside0.mk hy143
         clear hy143
         replace H := Option.bind_eq_some_iff.mp H
         obtain ⟨⟨t146, t147⟩, A410, H⟩ := H
         replace H : (vivariumlaw23_PlainNames.l1 kj20 t110 t133 t134 t136 t137 t138 t140 t142 t147 ([] : List (S35)) 0) = some r := H
         have A41 := Aside0.mk A410
         clear A410
         have H' := Aside0.mk H
         clear H
         go_wp2_with (first | ((with_reducible refine gate_callee (f := 12) rfl ?_); refine goesL_ (some 113) rfl rfl Try.func12 (by kernel_rfl) rfl #[.slice none 0 0, .agg #[.int .i64 1099511627777, .int .i64 0, .int .i64 (-1), .int .i64 0]] rfl (by (try simp only [List.map_toArray, List.map_cons, List.map_nil]); first | done | rfl | (simp only [List.length_drop, List.length_take]; rfl)) ?_; (refine (plain_Write.calls _ _ ([] : List (S35)) 1099511627777 0 (-1) 0 t141 t142 _ ?side1 ?side2 A40.out).mono ?_); (case side1 => exact Kd.C_nil _ _); (case side2 => exact Nat.le_refl _); rintro e w42 ⟨rfl, hb⟩; refine ⟨_, rfl, ?_⟩; have n0_ := Aside0.mk (Kd.C_below (by repeat (first | (with_reducible exact HR118.out) | (with_reducible refine Kd.C_alloc ?_ _) | (with_reducible refine Kd.C_drewN ?_ _) | (with_reducible refine Kd.C_drew ?_) | exact HR118.out)) hb); have n1_ := Aside0.mk (below_step (by repeat (first | (with_reducible first | exact HB.out | apply below_alloc | apply pw_below_drewN | apply below_drew1) | exact HB.out)) hb); clear HR118; clear HB; have HR118 := n0_; have HB := n1_; clear n0_ n1_; (try clear hb); (try clear hb2); (try clear hk); (try clear hi)) | ((with_reducible refine gate_dst (N := 120) rfl ?_); (try (refine gate_guard (by rfl) ?_; dsimp only)); refine Kd.R_lit k35 _ 35 ?hg (N := 120) ?hd (xs := ([(⟨0, 0, 1⟩ : S35), (⟨0, 0, 2⟩ : S35), (⟨1099511627777, 0, 1⟩ : S35)] : List (S35))) (inner := [.int .i64 0, .int .i64 0, .int .u8 1, .int .i64 0, .int .i64 0, .int .u8 2, .int .i64 1099511627777, .int .i64 0, .int .u8 1]) (ok := fun _ => True) (okp := fun _ => True) ?hr ?hp (fun _ hk => hk) trivial (Below.refl _ _) (Nat.le_refl _) (by simp) ?_; (case hd => rfl); (case hg => rfl); (case hr => first | (go_simp; done) | (go_simp; rfl)); (case hp => exact (Reps.c3 (show Kd.M k35 _ _ _ (⟨0, 0, 1⟩ : S35) [.int .i64 0, .int .i64 0, .int .u8 1] from (k35_mkM _ _ _ (⟨0, 0, 1⟩ : S35) )) (Reps.c3 (show Kd.M k35 _ _ _ (⟨0, 0, 2⟩ : S35) [.int .i64 0, .int .i64 0, .int .u8 2] from (k35_mkM _ _ _ (⟨0, 0, 2⟩ : S35) )) (Reps.c3 (show Kd.M k35 _ _ _ (⟨1099511627777, 0, 1⟩ : S35) [.int .i64 1099511627777, .int .i64 0, .int .u8 1] from (k35_mkM _ _ _ (⟨1099511627777, 0, 1⟩ : S35) )) (Reps.none _ _))))); intro v144 w43 ho44 hb hg_ hnew_; clear hg_ hnew_; (first | rw [← Ny143.out] at ho44 | (simp only [Int.reduceToNat] at ho44; rw [← Ny143.out] at ho44)); have n0_ := Aside0.mk (Kd.R_lower ho44 (below_size (by repeat (first | (with_reducible first | exact HB.out | apply below_alloc | apply pw_below_drewN | apply below_drew1) | exact HB.out)))); have n1_ := Aside0.mk (Kd.C_below (by repeat (first | (with_reducible exact HR118.out) | (with_reducible refine Kd.C_alloc ?_ _) | (with_reducible refine Kd.C_drewN ?_ _) | (with_reducible refine Kd.C_drew ?_) | exact HR118.out)) hb); have n2_ := Aside0.mk (below_step (by repeat (first | (with_reducible first | exact HB.out | apply below_alloc | apply pw_below_drewN | apply below_drew1) | exact HB.out)) hb); clear HR118; clear HB; have HO145 := n0_; have HR118 := n1_; have HB := n2_; clear n0_ n1_ n2_; clear hb ho44; obtain ⟨Ao45, co45, eo45⟩ := Kd.R_slice HO145.out; subst eo45) | ((with_reducible refine gate_callee (f := 12) rfl ?_); refine goesL_ (some 122) rfl rfl Try.func12 (by kernel_rfl) rfl #[.slice Ao45 y143.length co45, .agg #[.int .i64 0, .int .i64 0, .int .i64 1, .int .i64 1]] rfl (by (try simp only [List.map_toArray, List.map_cons, List.map_nil]); first | done | rfl | (simp only [List.length_drop, List.length_take]; rfl)) ?_; (with_reducible refine (plain_Write.calls _ _ y143 0 0 1 1 t146 t147 _ ?side1 ?side2 A41.out).mono ?_); (case side1 => repeat (first | exact (Kd.R_reads' HO145.out).2.2 | (with_reducible refine Kd.C_alloc ?_ _) | (with_reducible refine Kd.C_drewN ?_ _) | (with_reducible refine Kd.C_drew ?_))); (case side2 => exact (Kd.R_reads' HO145.out).2.1); rintro e w46 ⟨rfl, hb⟩; refine ⟨_, rfl, ?_⟩; have n0_ := Aside0.mk (Kd.R_below (by (with_reducible repeat (first | apply Kd.R_alloc | apply Kd.R_drewN | apply Kd.R_drew)); exact HO145.out) hb); have n1_ := Aside0.mk (Kd.C_below (by repeat (first | (with_reducible exact HR118.out) | (with_reducible refine Kd.C_alloc ?_ _) | (with_reducible refine Kd.C_drewN ?_ _) | (with_reducible refine Kd.C_drew ?_) | exact HR118.out)) hb); have n2_ := Aside0.mk (below_step (by repeat (first | (with_reducible first | exact HB.out | apply below_alloc | apply pw_below_drewN | apply below_drew1) | exact HB.out)) hb); clear HO145; clear HR118; clear HB; have HO145 := n0_; have HR118 := n1_; have HB := n2_; clear n0_ n1_ n2_; (try clear hb); (try clear hb2); (try clear hk); (try clear hi)))
         go_loopg [26, 27] kj20 (fun kq v26 v27 w' => ∃ (x26_3 : List (S35)) (x27_3 : Int), v27 = .int .i64 x27_3 ∧ Aside0 (vivariumlaw23_PlainNames.l1 kq t110 t133 t134 t136 t137 t138 t140 t142 t147 x26_3 x27_3 = some r) ∧ Aside0 (kq ≤ kj20) ∧ Aside0 (Kd.R k35 35 w' w.heap.size (fun _ => True) v26 x26_3) ∧ Aside0 (Below w.heap.size w w'))
         case atStart => exact ⟨(([] : List (S35))), (0), (by first | rfl | (simp; done) | (simp [*]; done)), H', ⟨Nat.le_refl _⟩, ⟨by first | exact Kd.R_nil _ _ _ _ _ | exact Kd.N_nil _ _ _ _ _ | exact Kd.V_nil _ _ _ _ _ | exact Kd.Q_nil _ _ _ _ _ | exact Kd.S_nil _ _ _ _ _⟩, ⟨by repeat (first | (with_reducible first | exact HB.out | apply below_alloc | apply pw_below_drewN | apply below_drew1) | exact HB.out)⟩⟩
         case round =>
          clear H'
          try clear c1
          try clear c2
          try clear c2b0
          try clear c2b1
          try clear p2
          try clear q2
          try clear hcv2
          try clear c3
          try clear c6
          try clear c6b0
          try clear p6
          try clear c7
          try clear c7b0
          try clear p8
          try clear q8
          try clear hx8
          try clear hf8
          try clear c9
          try clear c12
          try clear c12b0
          try clear c12b1
          try clear c13
          try clear c17
          try clear q23
          try clear hcv24
          try clear hcv26
          try clear c34
          try clear c34b0
          try clear c34b1
          try clear c35
          try clear c35b0
          try clear c35b1
          try clear c36
          try clear c36b0
          try clear c36b1
          try clear c37
          try clear c37b0
          try clear c37b1
          try clear c38
          try clear c38b0
          try clear c38b1
          try clear c39
          try clear hx8_0
          try clear p2
          try clear p6
          try clear p8
          try clear q2
          try clear q23
          try clear q8
          obtain ⟨x26_3, x27_3, rfl, HA, HK3, HO_26, HB⟩ := hrel
          cases gk with
          | zero => exact absurd HA.out (by simp [vivariumlaw23_PlainNames.l1])
          | succ k3 =>
           have H := HA.out
           clear HA
           simp only [vivariumlaw23_PlainNames.l1] at H
           by_cases c47 : x27_3 < 360000
           ·rw [if_pos c47] at H
            have c47b0 : decide (x27_3 < 360000) = true := decide_eq_true c47
            clear c47
            by_cases c48 : x26_3.length < 5864062014805
            ·rw [if_pos c48] at H
             have LMc48 := Aside0.mk c48
             clear c48
             obtain ⟨y148, hy148⟩ : ∃ y_ : List (S35), y_ = (x26_3 ++ [(⟨Int.tmod x27_3 600, wrap64 (Int.tdiv x27_3 600), 2⟩ : S35)]) := ⟨_, rfl⟩
             replace H : (vivariumlaw23_PlainNames.l1 k3 t110 t133 t134 t136 t137 t138 t140 t142 t147 y148 (wrap64 (x27_3 + 1))) = some r := by first | (rw [hy148]; with_reducible exact H) | (have H2_ := (Option.bind_some _ _).symm.trans H; rw [hy148]; with_reducible exact H2_) | (have H2_ := (Option.bind_some _ _).symm.trans H; with_reducible exact H2_) | with_reducible exact H | (rw [hy148]; exact H) | exact H
             have Ny148 := Aside0.mk hy148
             clear hy148
             have H' := Aside0.mk H
             clear H
             go_wp2_with (first | ((with_reducible refine gate_builtin (b := .append) (xs := #[.tmp 129, .tmp 135]) rfl ?_); (try (refine gate_guard (by rfl) ?_; dsimp only)); at_builtin; refine Kd.R_append k35 (w0 := w) w.heap.size rfl (.tmp 129) (.tmp 135) 27 35 (.agg #[(.int .i64 0), (.int .i64 0), (.int .u8 0)]) 24 rfl Try.underlying27 info35 rfl (by decide) (by omega) u26 x26_3 (⟨Int.tmod x27_3 600, wrap64 (Int.tdiv x27_3 600), 2⟩ : S35) [.int .i64 (Int.tmod x27_3 600), .int .i64 (wrap64 (Int.tdiv x27_3 600)), .int .u8 2] (fun _ => True) (fun _ => False) rfl rfl ?aP (fun _ hk => hk.elim) ?aF ?aO ?aB ?aS ?aL ?_; (case aP => exact k35_mkM _ _ _ (⟨Int.tmod x27_3 600, wrap64 (Int.tdiv x27_3 600), 2⟩ : S35)); (case aB => exact (by repeat (first | (with_reducible first | exact HB.out | apply below_alloc | apply pw_below_drewN | apply below_drew1) | exact HB.out))); (case aF => exact (fun _ _ => trivial)); (case aO => exact (by (with_reducible repeat (first | apply Kd.R_alloc | apply Kd.R_drewN | apply Kd.R_drew)); exact HO_26.out)); (case aS => exact (below_size (by repeat (first | (with_reducible first | exact HB.out | apply below_alloc | apply pw_below_drewN | apply below_drew1) | exact HB.out)))); (case aL => have := LMc48.out; omega); intro v149 w49 ho hb hg hat; rw [← Ny148.out] at ho; have n0_ := Aside0.mk (hb); have n1_ := Aside0.mk (ho); clear HB; clear HO_26; have HB := n0_; have HO150 := n1_; clear n0_ n1_; clear ho hb hg hat))
             go_roundg k3
             case measure => have := HK1.out; have := HJ20.out; have := HK3.out; omega
             case rel => exact ⟨(y148), (wrap64 (x27_3 + 1)), (by first | rfl | (simp; done) | (simp [*]; done)), H', ⟨by have := HK1.out; have := HJ20.out; have := HK3.out; omega⟩, ⟨by (with_reducible repeat (first | apply Kd.R_alloc | apply Kd.R_drewN | apply Kd.R_drew)); exact HO150.out⟩, ⟨by repeat (first | (with_reducible first | exact HB.out | apply below_alloc | apply pw_below_drewN | apply below_drew1) | exact HB.out)⟩⟩
            ·rw [if_neg c48] at H
             exact absurd H (by simp)
           ·rw [if_neg c47] at H
            have c47b0 : decide (x27_3 < 360000) = false := decide_eq_false c47
            clear c47
            replace H := Option.bind_eq_some_iff.mp H
            obtain ⟨⟨t151, t152⟩, A500, H⟩ := H
            replace H : ((plain_Write.f x26_3 0 0 582 600).bind fun bt153 => (if t142 = 231 then (if t147 = 5 then (if t152 = 3 then (if bt153.2 = 0 then (if (bt153.1.size : Int) = 1048200 then (if t110 = true then (if t134 = 0 then (if (t133.size : Int) = 983055 then (if t136 = 231 then (if t138 = 0 then (if (t137.size : Int) = 1048576 then (some (t140 == 3)) else (some false)) else (some false)) else (some false)) else (some false)) else (some false)) else (some false)) else (some false)) else (some false)) else (some false)) else (some false)) else (some false))) = some r := H
            have A50 := Aside0.mk A500
            clear A500
            replace H := Option.bind_eq_some_iff.mp H
            obtain ⟨⟨t153, t154⟩, A510, H⟩ := H
            replace H : (if t142 = 231 then (if t147 = 5 then (if t152 = 3 then (if t154 = 0 then (if (t153.size : Int) = 1048200 then (if t110 = true then (if t134 = 0 then (if (t133.size : Int) = 983055 then (if t136 = 231 then (if t138 = 0 then (if (t137.size : Int) = 1048576 then (some (t140 == 3)) else (some false)) else (some false)) else (some false)) else (some false)) else (some false)) else (some false)) else (some false)) else (some false)) else (some false)) else (some false)) else (some false)) = some r := H
            have A51 := Aside0.mk A510
            clear A510
            by_cases c52 : t142 = 231
            ·rw [if_pos c52] at H
             have c52b0 : (t142 == 231) = true := beq_iff_eq.mpr c52
             have c52b1 : (t142 != 231) = false := bne_eq_false_iff_eq.mpr c52
             clear c52
             by_cases c53 : t147 = 5
             ·rw [if_pos c53] at H
              have c53b0 : (t147 == 5) = true := beq_iff_eq.mpr c53
              have c53b1 : (t147 != 5) = false := bne_eq_false_iff_eq.mpr c53
              clear c53
              by_cases c54 : t152 = 3
              ·rw [if_pos c54] at H
               have c54b0 : (t152 == 3) = true := beq_iff_eq.mpr c54
               have c54b1 : (t152 != 3) = false := bne_eq_false_iff_eq.mpr c54
               clear c54
               by_cases c55 : t154 = 0
               ·rw [if_pos c55] at H
                have c55b0 : (t154 == 0) = true := beq_iff_eq.mpr c55
                have c55b1 : (t154 != 0) = false := bne_eq_false_iff_eq.mpr c55
                clear c55
                by_cases c56 : (t153.size : Int) = 1048200
                ·rw [if_pos c56] at H
                 have c56b0 : ((t153.size : Int) == 1048200) = true := beq_iff_eq.mpr c56
                 have c56b1 : ((t153.size : Int) != 1048200) = false := bne_eq_false_iff_eq.mpr c56
                 clear c56
                 by_cases c57 : t110 = true
                 ·subst c57
                  have H1 : (if t134 = 0 then (if (t133.size : Int) = 983055 then (if t136 = 231 then (if t138 = 0 then (if (t137.size : Int) = 1048576 then (some (t140 == 3)) else (some false)) else (some false)) else (some false)) else (some false)) else (some false)) = some r := by rw [if_pos rfl] at H; exact H
                  clear H
                  have H := H1
                  clear H1
                  by_cases c58 : t134 = 0
                  ·rw [if_pos c58] at H
                   have c58b0 : (t134 == 0) = true := beq_iff_eq.mpr c58
                   have c58b1 : (t134 != 0) = false := bne_eq_false_iff_eq.mpr c58
                   clear c58
                   by_cases c59 : (t133.size : Int) = 983055
                   ·rw [if_pos c59] at H
                    have c59b0 : ((t133.size : Int) == 983055) = true := beq_iff_eq.mpr c59
                    have c59b1 : ((t133.size : Int) != 983055) = false := bne_eq_false_iff_eq.mpr c59
                    clear c59
                    by_cases c60 : t136 = 231
                    ·rw [if_pos c60] at H
                     have c60b0 : (t136 == 231) = true := beq_iff_eq.mpr c60
                     have c60b1 : (t136 != 231) = false := bne_eq_false_iff_eq.mpr c60
                     clear c60
                     by_cases c61 : t138 = 0
                     ·rw [if_pos c61] at H
                      have c61b0 : (t138 == 0) = true := beq_iff_eq.mpr c61
                      have c61b1 : (t138 != 0) = false := bne_eq_false_iff_eq.mpr c61
                      clear c61
                      by_cases c62 : (t137.size : Int) = 1048576
                      ·rw [if_pos c62] at H
                       have c62b0 : ((t137.size : Int) == 1048576) = true := beq_iff_eq.mpr c62
                       have c62b1 : ((t137.size : Int) != 1048576) = false := bne_eq_false_iff_eq.mpr c62
                       clear c62
                       obtain rfl := Option.some.inj H
                       obtain ⟨Ao63, co63, eo63⟩ := Kd.R_slice HO_26.out
                       subst eo63
                       go_wp2_with (first | ((with_reducible refine gate_callee (f := 12) rfl ?_); refine goesL_ (some 140) rfl rfl Try.func12 (by kernel_rfl) rfl #[.slice Ao63 x26_3.length co63, .agg #[.int .i64 0, .int .i64 0, .int .i64 600, .int .i64 600]] rfl (by (try simp only [List.map_toArray, List.map_cons, List.map_nil]); first | done | rfl | (simp only [List.length_drop, List.length_take]; rfl)) ?_; (with_reducible refine (plain_Write.calls _ _ x26_3 0 0 600 600 t151 t152 _ ?side1 ?side2 A50.out).mono ?_); (case side1 => repeat (first | exact (Kd.R_reads' HO_26.out).2.2 | (with_reducible refine Kd.C_alloc ?_ _) | (with_reducible refine Kd.C_drewN ?_ _) | (with_reducible refine Kd.C_drew ?_))); (case side2 => exact (Kd.R_reads' HO_26.out).2.1); rintro e w64 ⟨rfl, hb⟩; refine ⟨_, rfl, ?_⟩; have n0_ := Aside0.mk (Kd.R_below (by (with_reducible repeat (first | apply Kd.R_alloc | apply Kd.R_drewN | apply Kd.R_drew)); exact HO_26.out) hb); have n1_ := Aside0.mk (below_step (by repeat (first | (with_reducible first | exact HB.out | apply below_alloc | apply pw_below_drewN | apply below_drew1) | exact HB.out)) hb); clear HO_26; clear HB; have HO_26 := n0_; have HB := n1_; clear n0_ n1_; (try clear hb); (try clear hb2); (try clear hk); (try clear hi)) | ((with_reducible refine gate_callee (f := 12) rfl ?_); refine goesL_ (some 146) rfl rfl Try.func12 (by kernel_rfl) rfl #[.slice Ao63 x26_3.length co63, .agg #[.int .i64 0, .int .i64 0, .int .i64 582, .int .i64 600]] rfl (by (try simp only [List.map_toArray, List.map_cons, List.map_nil]); first | done | rfl | (simp only [List.length_drop, List.length_take]; rfl)) ?_; (with_reducible refine (plain_Write.calls _ _ x26_3 0 0 582 600 t153 t154 _ ?side1 ?side2 A51.out).mono ?_); (case side1 => repeat (first | exact (Kd.R_reads' HO_26.out).2.2 | (with_reducible refine Kd.C_alloc ?_ _) | (with_reducible refine Kd.C_drewN ?_ _) | (with_reducible refine Kd.C_drew ?_))); (case side2 => exact (Kd.R_reads' HO_26.out).2.1); rintro e w65 ⟨rfl, hb⟩; refine ⟨_, rfl, ?_⟩; have n0_ := Aside0.mk (Kd.R_below (by (with_reducible repeat (first | apply Kd.R_alloc | apply Kd.R_drewN | apply Kd.R_drew)); exact HO_26.out) hb); have n1_ := Aside0.mk (below_step (by repeat (first | (with_reducible first | exact HB.out | apply below_alloc | apply pw_below_drewN | apply below_drew1) | exact HB.out)) hb); clear HO_26; clear HB; have HO_26 := n0_; have HB := n1_; clear n0_ n1_; (try clear hb); (try clear hb2); (try clear hk); (try clear hi)))
                       go_ret
                       exact ⟨by first | rfl | (simp [errW_none, errW_some] <;> rfl) | (simp [*, errW_none, errW_some] <;> rfl), by repeat (first | (with_reducible first | exact HB.out | apply below_alloc | apply pw_below_drewN | apply below_drew1) | exact HB.out)⟩
                      ·rw [if_neg c62] at H
                       have c62b0 : ((t137.size : Int) == 1048576) = false := beq_eq_false_iff_ne.mpr c62
                       have c62b1 : ((t137.size : Int) != 1048576) = true := bne_iff_ne.mpr c62
                       obtain rfl := Option.some.inj H
                       obtain ⟨Ao66, co66, eo66⟩ := Kd.R_slice HO_26.out
                       subst eo66
                       go_wp2_with (first | ((with_reducible refine gate_callee (f := 12) rfl ?_); refine goesL_ (some 140) rfl rfl Try.func12 (by kernel_rfl) rfl #[.slice Ao66 x26_3.length co66, .agg #[.int .i64 0, .int .i64 0, .int .i64 600, .int .i64 600]] rfl (by (try simp only [List.map_toArray, List.map_cons, List.map_nil]); first | done | rfl | (simp only [List.length_drop, List.length_take]; rfl)) ?_; (with_reducible refine (plain_Write.calls _ _ x26_3 0 0 600 600 t151 t152 _ ?side1 ?side2 A50.out).mono ?_); (case side1 => repeat (first | exact (Kd.R_reads' HO_26.out).2.2 | (with_reducible refine Kd.C_alloc ?_ _) | (with_reducible refine Kd.C_drewN ?_ _) | (with_reducible refine Kd.C_drew ?_))); (case side2 => exact (Kd.R_reads' HO_26.out).2.1); rintro e w67 ⟨rfl, hb⟩; refine ⟨_, rfl, ?_⟩; have n0_ := Aside0.mk (Kd.R_below (by (with_reducible repeat (first | apply Kd.R_alloc | apply Kd.R_drewN | apply Kd.R_drew)); exact HO_26.out) hb); have n1_ := Aside0.mk (below_step (by repeat (first | (with_reducible first | exact HB.out | apply below_alloc | apply pw_below_drewN | apply below_drew1) | exact HB.out)) hb); clear HO_26; clear HB; have HO_26 := n0_; have HB := n1_; clear n0_ n1_; (try clear hb); (try clear hb2); (try clear hk); (try clear hi)) | ((with_reducible refine gate_callee (f := 12) rfl ?_); refine goesL_ (some 146) rfl rfl Try.func12 (by kernel_rfl) rfl #[.slice Ao66 x26_3.length co66, .agg #[.int .i64 0, .int .i64 0, .int .i64 582, .int .i64 600]] rfl (by (try simp only [List.map_toArray, List.map_cons, List.map_nil]); first | done | rfl | (simp only [List.length_drop, List.length_take]; rfl)) ?_; (with_reducible refine (plain_Write.calls _ _ x26_3 0 0 582 600 t153 t154 _ ?side1 ?side2 A51.out).mono ?_); (case side1 => repeat (first | exact (Kd.R_reads' HO_26.out).2.2 | (with_reducible refine Kd.C_alloc ?_ _) | (with_reducible refine Kd.C_drewN ?_ _) | (with_reducible refine Kd.C_drew ?_))); (case side2 => exact (Kd.R_reads' HO_26.out).2.1); rintro e w68 ⟨rfl, hb⟩; refine ⟨_, rfl, ?_⟩; have n0_ := Aside0.mk (Kd.R_below (by (with_reducible repeat (first | apply Kd.R_alloc | apply Kd.R_drewN | apply Kd.R_drew)); exact HO_26.out) hb); have n1_ := Aside0.mk (below_step (by repeat (first | (with_reducible first | exact HB.out | apply below_alloc | apply pw_below_drewN | apply below_drew1) | exact HB.out)) hb); clear HO_26; clear HB; have HO_26 := n0_; have HB := n1_; clear n0_ n1_; (try clear hb); (try clear hb2); (try clear hk); (try clear hi)))
                       go_ret
                       exact ⟨by first | rfl | (simp [errW_none, errW_some] <;> rfl) | (simp [*, errW_none, errW_some] <;> rfl), by repeat (first | (with_reducible first | exact HB.out | apply below_alloc | apply pw_below_drewN | apply below_drew1) | exact HB.out)⟩
                     ·rw [if_neg c61] at H
                      have c61b0 : (t138 == 0) = false := beq_eq_false_iff_ne.mpr c61
                      have c61b1 : (t138 != 0) = true := bne_iff_ne.mpr c61
                      obtain rfl := Option.some.inj H
                      obtain ⟨Ao69, co69, eo69⟩ := Kd.R_slice HO_26.out
                      subst eo69
                      go_wp2_with (first | ((with_reducible refine gate_callee (f := 12) rfl ?_); refine goesL_ (some 140) rfl rfl Try.func12 (by kernel_rfl) rfl #[.slice Ao69 x26_3.length co69, .agg #[.int .i64 0, .int .i64 0, .int .i64 600, .int .i64 600]] rfl (by (try simp only [List.map_toArray, List.map_cons, List.map_nil]); first | done | rfl | (simp only [List.length_drop, List.length_take]; rfl)) ?_; (with_reducible refine (plain_Write.calls _ _ x26_3 0 0 600 600 t151 t152 _ ?side1 ?side2 A50.out).mono ?_); (case side1 => repeat (first | exact (Kd.R_reads' HO_26.out).2.2 | (with_reducible refine Kd.C_alloc ?_ _) | (with_reducible refine Kd.C_drewN ?_ _) | (with_reducible refine Kd.C_drew ?_))); (case side2 => exact (Kd.R_reads' HO_26.out).2.1); rintro e w70 ⟨rfl, hb⟩; refine ⟨_, rfl, ?_⟩; have n0_ := Aside0.mk (Kd.R_below (by (with_reducible repeat (first | apply Kd.R_alloc | apply Kd.R_drewN | apply Kd.R_drew)); exact HO_26.out) hb); have n1_ := Aside0.mk (below_step (by repeat (first | (with_reducible first | exact HB.out | apply below_alloc | apply pw_below_drewN | apply below_drew1) | exact HB.out)) hb); clear HO_26; clear HB; have HO_26 := n0_; have HB := n1_; clear n0_ n1_; (try clear hb); (try clear hb2); (try clear hk); (try clear hi)) | ((with_reducible refine gate_callee (f := 12) rfl ?_); refine goesL_ (some 146) rfl rfl Try.func12 (by kernel_rfl) rfl #[.slice Ao69 x26_3.length co69, .agg #[.int .i64 0, .int .i64 0, .int .i64 582, .int .i64 600]] rfl (by (try simp only [List.map_toArray, List.map_cons, List.map_nil]); first | done | rfl | (simp only [List.length_drop, List.length_take]; rfl)) ?_; (with_reducible refine (plain_Write.calls _ _ x26_3 0 0 582 600 t153 t154 _ ?side1 ?side2 A51.out).mono ?_); (case side1 => repeat (first | exact (Kd.R_reads' HO_26.out).2.2 | (with_reducible refine Kd.C_alloc ?_ _) | (with_reducible refine Kd.C_drewN ?_ _) | (with_reducible refine Kd.C_drew ?_))); (case side2 => exact (Kd.R_reads' HO_26.out).2.1); rintro e w71 ⟨rfl, hb⟩; refine ⟨_, rfl, ?_⟩; have n0_ := Aside0.mk (Kd.R_below (by (with_reducible repeat (first | apply Kd.R_alloc | apply Kd.R_drewN | apply Kd.R_drew)); exact HO_26.out) hb); have n1_ := Aside0.mk (below_step (by repeat (first | (with_reducible first | exact HB.out | apply below_alloc | apply pw_below_drewN | apply below_drew1) | exact HB.out)) hb); clear HO_26; clear HB; have HO_26 := n0_; have HB := n1_; clear n0_ n1_; (try clear hb); (try clear hb2); (try clear hk); (try clear hi)))
                      go_ret
                      exact ⟨by first | rfl | (simp [errW_none, errW_some] <;> rfl) | (simp [*, errW_none, errW_some] <;> rfl), by repeat (first | (with_reducible first | exact HB.out | apply below_alloc | apply pw_below_drewN | apply below_drew1) | exact HB.out)⟩
                    ·rw [if_neg c60] at H
                     have c60b0 : (t136 == 231) = false := beq_eq_false_iff_ne.mpr c60
                     have c60b1 : (t136 != 231) = true := bne_iff_ne.mpr c60
                     obtain rfl := Option.some.inj H
                     obtain ⟨Ao72, co72, eo72⟩ := Kd.R_slice HO_26.out
                     subst eo72
                     go_wp2_with (first | ((with_reducible refine gate_callee (f := 12) rfl ?_); refine goesL_ (some 140) rfl rfl Try.func12 (by kernel_rfl) rfl #[.slice Ao72 x26_3.length co72, .agg #[.int .i64 0, .int .i64 0, .int .i64 600, .int .i64 600]] rfl (by (try simp only [List.map_toArray, List.map_cons, List.map_nil]); first | done | rfl | (simp only [List.length_drop, List.length_take]; rfl)) ?_; (with_reducible refine (plain_Write.calls _ _ x26_3 0 0 600 600 t151 t152 _ ?side1 ?side2 A50.out).mono ?_); (case side1 => repeat (first | exact (Kd.R_reads' HO_26.out).2.2 | (with_reducible refine Kd.C_alloc ?_ _) | (with_reducible refine Kd.C_drewN ?_ _) | (with_reducible refine Kd.C_drew ?_))); (case side2 => exact (Kd.R_reads' HO_26.out).2.1); rintro e w73 ⟨rfl, hb⟩; refine ⟨_, rfl, ?_⟩; have n0_ := Aside0.mk (Kd.R_below (by (with_reducible repeat (first | apply Kd.R_alloc | apply Kd.R_drewN | apply Kd.R_drew)); exact HO_26.out) hb); have n1_ := Aside0.mk (below_step (by repeat (first | (with_reducible first | exact HB.out | apply below_alloc | apply pw_below_drewN | apply below_drew1) | exact HB.out)) hb); clear HO_26; clear HB; have HO_26 := n0_; have HB := n1_; clear n0_ n1_; (try clear hb); (try clear hb2); (try clear hk); (try clear hi)) | ((with_reducible refine gate_callee (f := 12) rfl ?_); refine goesL_ (some 146) rfl rfl Try.func12 (by kernel_rfl) rfl #[.slice Ao72 x26_3.length co72, .agg #[.int .i64 0, .int .i64 0, .int .i64 582, .int .i64 600]] rfl (by (try simp only [List.map_toArray, List.map_cons, List.map_nil]); first | done | rfl | (simp only [List.length_drop, List.length_take]; rfl)) ?_; (with_reducible refine (plain_Write.calls _ _ x26_3 0 0 582 600 t153 t154 _ ?side1 ?side2 A51.out).mono ?_); (case side1 => repeat (first | exact (Kd.R_reads' HO_26.out).2.2 | (with_reducible refine Kd.C_alloc ?_ _) | (with_reducible refine Kd.C_drewN ?_ _) | (with_reducible refine Kd.C_drew ?_))); (case side2 => exact (Kd.R_reads' HO_26.out).2.1); rintro e w74 ⟨rfl, hb⟩; refine ⟨_, rfl, ?_⟩; have n0_ := Aside0.mk (Kd.R_below (by (with_reducible repeat (first | apply Kd.R_alloc | apply Kd.R_drewN | apply Kd.R_drew)); exact HO_26.out) hb); have n1_ := Aside0.mk (below_step (by repeat (first | (with_reducible first | exact HB.out | apply below_alloc | apply pw_below_drewN | apply below_drew1) | exact HB.out)) hb); clear HO_26; clear HB; have HO_26 := n0_; have HB := n1_; clear n0_ n1_; (try clear hb); (try clear hb2); (try clear hk); (try clear hi)))
                     go_ret
                     exact ⟨by first | rfl | (simp [errW_none, errW_some] <;> rfl) | (simp [*, errW_none, errW_some] <;> rfl), by repeat (first | (with_reducible first | exact HB.out | apply below_alloc | apply pw_below_drewN | apply below_drew1) | exact HB.out)⟩
                   ·rw [if_neg c59] at H
                    have c59b0 : ((t133.size : Int) == 983055) = false := beq_eq_false_iff_ne.mpr c59
                    have c59b1 : ((t133.size : Int) != 983055) = true := bne_iff_ne.mpr c59
                    obtain rfl := Option.some.inj H
                    obtain ⟨Ao75, co75, eo75⟩ := Kd.R_slice HO_26.out
                    subst eo75
                    go_wp2_with (first | ((with_reducible refine gate_callee (f := 12) rfl ?_); refine goesL_ (some 140) rfl rfl Try.func12 (by kernel_rfl) rfl #[.slice Ao75 x26_3.length co75, .agg #[.int .i64 0, .int .i64 0, .int .i64 600, .int .i64 600]] rfl (by (try simp only [List.map_toArray, List.map_cons, List.map_nil]); first | done | rfl | (simp only [List.length_drop, List.length_take]; rfl)) ?_; (with_reducible refine (plain_Write.calls _ _ x26_3 0 0 600 600 t151 t152 _ ?side1 ?side2 A50.out).mono ?_); (case side1 => repeat (first | exact (Kd.R_reads' HO_26.out).2.2 | (with_reducible refine Kd.C_alloc ?_ _) | (with_reducible refine Kd.C_drewN ?_ _) | (with_reducible refine Kd.C_drew ?_))); (case side2 => exact (Kd.R_reads' HO_26.out).2.1); rintro e w76 ⟨rfl, hb⟩; refine ⟨_, rfl, ?_⟩; have n0_ := Aside0.mk (Kd.R_below (by (with_reducible repeat (first | apply Kd.R_alloc | apply Kd.R_drewN | apply Kd.R_drew)); exact HO_26.out) hb); have n1_ := Aside0.mk (below_step (by repeat (first | (with_reducible first | exact HB.out | apply below_alloc | apply pw_below_drewN | apply below_drew1) | exact HB.out)) hb); clear HO_26; clear HB; have HO_26 := n0_; have HB := n1_; clear n0_ n1_; (try clear hb); (try clear hb2); (try clear hk); (try clear hi)) | ((with_reducible refine gate_callee (f := 12) rfl ?_); refine goesL_ (some 146) rfl rfl Try.func12 (by kernel_rfl) rfl #[.slice Ao75 x26_3.length co75, .agg #[.int .i64 0, .int .i64 0, .int .i64 582, .int .i64 600]] rfl (by (try simp only [List.map_toArray, List.map_cons, List.map_nil]); first | done | rfl | (simp only [List.length_drop, List.length_take]; rfl)) ?_; (with_reducible refine (plain_Write.calls _ _ x26_3 0 0 582 600 t153 t154 _ ?side1 ?side2 A51.out).mono ?_); (case side1 => repeat (first | exact (Kd.R_reads' HO_26.out).2.2 | (with_reducible refine Kd.C_alloc ?_ _) | (with_reducible refine Kd.C_drewN ?_ _) | (with_reducible refine Kd.C_drew ?_))); (case side2 => exact (Kd.R_reads' HO_26.out).2.1); rintro e w77 ⟨rfl, hb⟩; refine ⟨_, rfl, ?_⟩; have n0_ := Aside0.mk (Kd.R_below (by (with_reducible repeat (first | apply Kd.R_alloc | apply Kd.R_drewN | apply Kd.R_drew)); exact HO_26.out) hb); have n1_ := Aside0.mk (below_step (by repeat (first | (with_reducible first | exact HB.out | apply below_alloc | apply pw_below_drewN | apply below_drew1) | exact HB.out)) hb); clear HO_26; clear HB; have HO_26 := n0_; have HB := n1_; clear n0_ n1_; (try clear hb); (try clear hb2); (try clear hk); (try clear hi)))
                    go_ret
                    exact ⟨by first | rfl | (simp [errW_none, errW_some] <;> rfl) | (simp [*, errW_none, errW_some] <;> rfl), by repeat (first | (with_reducible first | exact HB.out | apply below_alloc | apply pw_below_drewN | apply below_drew1) | exact HB.out)⟩
                  ·rw [if_neg c58] at H
                   have c58b0 : (t134 == 0) = false := beq_eq_false_iff_ne.mpr c58
                   have c58b1 : (t134 != 0) = true := bne_iff_ne.mpr c58
                   obtain rfl := Option.some.inj H
                   obtain ⟨Ao78, co78, eo78⟩ := Kd.R_slice HO_26.out
                   subst eo78
                   go_wp2_with (first | ((with_reducible refine gate_callee (f := 12) rfl ?_); refine goesL_ (some 140) rfl rfl Try.func12 (by kernel_rfl) rfl #[.slice Ao78 x26_3.length co78, .agg #[.int .i64 0, .int .i64 0, .int .i64 600, .int .i64 600]] rfl (by (try simp only [List.map_toArray, List.map_cons, List.map_nil]); first | done | rfl | (simp only [List.length_drop, List.length_take]; rfl)) ?_; (with_reducible refine (plain_Write.calls _ _ x26_3 0 0 600 600 t151 t152 _ ?side1 ?side2 A50.out).mono ?_); (case side1 => repeat (first | exact (Kd.R_reads' HO_26.out).2.2 | (with_reducible refine Kd.C_alloc ?_ _) | (with_reducible refine Kd.C_drewN ?_ _) | (with_reducible refine Kd.C_drew ?_))); (case side2 => exact (Kd.R_reads' HO_26.out).2.1); rintro e w79 ⟨rfl, hb⟩; refine ⟨_, rfl, ?_⟩; have n0_ := Aside0.mk (Kd.R_below (by (with_reducible repeat (first | apply Kd.R_alloc | apply Kd.R_drewN | apply Kd.R_drew)); exact HO_26.out) hb); have n1_ := Aside0.mk (below_step (by repeat (first | (with_reducible first | exact HB.out | apply below_alloc | apply pw_below_drewN | apply below_drew1) | exact HB.out)) hb); clear HO_26; clear HB; have HO_26 := n0_; have HB := n1_; clear n0_ n1_; (try clear hb); (try clear hb2); (try clear hk); (try clear hi)) | ((with_reducible refine gate_callee (f := 12) rfl ?_); refine goesL_ (some 146) rfl rfl Try.func12 (by kernel_rfl) rfl #[.slice Ao78 x26_3.length co78, .agg #[.int .i64 0, .int .i64 0, .int .i64 582, .int .i64 600]] rfl (by (try simp only [List.map_toArray, List.map_cons, List.map_nil]); first | done | rfl | (simp only [List.length_drop, List.length_take]; rfl)) ?_; (with_reducible refine (plain_Write.calls _ _ x26_3 0 0 582 600 t153 t154 _ ?side1 ?side2 A51.out).mono ?_); (case side1 => repeat (first | exact (Kd.R_reads' HO_26.out).2.2 | (with_reducible refine Kd.C_alloc ?_ _) | (with_reducible refine Kd.C_drewN ?_ _) | (with_reducible refine Kd.C_drew ?_))); (case side2 => exact (Kd.R_reads' HO_26.out).2.1); rintro e w80 ⟨rfl, hb⟩; refine ⟨_, rfl, ?_⟩; have n0_ := Aside0.mk (Kd.R_below (by (with_reducible repeat (first | apply Kd.R_alloc | apply Kd.R_drewN | apply Kd.R_drew)); exact HO_26.out) hb); have n1_ := Aside0.mk (below_step (by repeat (first | (with_reducible first | exact HB.out | apply below_alloc | apply pw_below_drewN | apply below_drew1) | exact HB.out)) hb); clear HO_26; clear HB; have HO_26 := n0_; have HB := n1_; clear n0_ n1_; (try clear hb); (try clear hb2); (try clear hk); (try clear hi)))
                   go_ret
                   exact ⟨by first | rfl | (simp [errW_none, errW_some] <;> rfl) | (simp [*, errW_none, errW_some] <;> rfl), by repeat (first | (with_reducible first | exact HB.out | apply below_alloc | apply pw_below_drewN | apply below_drew1) | exact HB.out)⟩
                 ·replace c57 := Bool.eq_false_iff.mpr c57
                  subst c57
                  have H1 : (some false) = some r := by rw [if_neg (show ¬ (false = true) by decide)] at H; exact H
                  clear H
                  have H := H1
                  clear H1
                  obtain rfl := Option.some.inj H
                  obtain ⟨Ao81, co81, eo81⟩ := Kd.R_slice HO_26.out
                  subst eo81
                  go_wp2_with (first | ((with_reducible refine gate_callee (f := 12) rfl ?_); refine goesL_ (some 140) rfl rfl Try.func12 (by kernel_rfl) rfl #[.slice Ao81 x26_3.length co81, .agg #[.int .i64 0, .int .i64 0, .int .i64 600, .int .i64 600]] rfl (by (try simp only [List.map_toArray, List.map_cons, List.map_nil]); first | done | rfl | (simp only [List.length_drop, List.length_take]; rfl)) ?_; (with_reducible refine (plain_Write.calls _ _ x26_3 0 0 600 600 t151 t152 _ ?side1 ?side2 A50.out).mono ?_); (case side1 => repeat (first | exact (Kd.R_reads' HO_26.out).2.2 | (with_reducible refine Kd.C_alloc ?_ _) | (with_reducible refine Kd.C_drewN ?_ _) | (with_reducible refine Kd.C_drew ?_))); (case side2 => exact (Kd.R_reads' HO_26.out).2.1); rintro e w82 ⟨rfl, hb⟩; refine ⟨_, rfl, ?_⟩; have n0_ := Aside0.mk (Kd.R_below (by (with_reducible repeat (first | apply Kd.R_alloc | apply Kd.R_drewN | apply Kd.R_drew)); exact HO_26.out) hb); have n1_ := Aside0.mk (below_step (by repeat (first | (with_reducible first | exact HB.out | apply below_alloc | apply pw_below_drewN | apply below_drew1) | exact HB.out)) hb); clear HO_26; clear HB; have HO_26 := n0_; have HB := n1_; clear n0_ n1_; (try clear hb); (try clear hb2); (try clear hk); (try clear hi)) | ((with_reducible refine gate_callee (f := 12) rfl ?_); refine goesL_ (some 146) rfl rfl Try.func12 (by kernel_rfl) rfl #[.slice Ao81 x26_3.length co81, .agg #[.int .i64 0, .int .i64 0, .int .i64 582, .int .i64 600]] rfl (by (try simp only [List.map_toArray, List.map_cons, List.map_nil]); first | done | rfl | (simp only [List.length_drop, List.length_take]; rfl)) ?_; (with_reducible refine (plain_Write.calls _ _ x26_3 0 0 582 600 t153 t154 _ ?side1 ?side2 A51.out).mono ?_); (case side1 => repeat (first | exact (Kd.R_reads' HO_26.out).2.2 | (with_reducible refine Kd.C_alloc ?_ _) | (with_reducible refine Kd.C_drewN ?_ _) | (with_reducible refine Kd.C_drew ?_))); (case side2 => exact (Kd.R_reads' HO_26.out).2.1); rintro e w83 ⟨rfl, hb⟩; refine ⟨_, rfl, ?_⟩; have n0_ := Aside0.mk (Kd.R_below (by (with_reducible repeat (first | apply Kd.R_alloc | apply Kd.R_drewN | apply Kd.R_drew)); exact HO_26.out) hb); have n1_ := Aside0.mk (below_step (by repeat (first | (with_reducible first | exact HB.out | apply below_alloc | apply pw_below_drewN | apply below_drew1) | exact HB.out)) hb); clear HO_26; clear HB; have HO_26 := n0_; have HB := n1_; clear n0_ n1_; (try clear hb); (try clear hb2); (try clear hk); (try clear hi)))
                  go_ret
                  exact ⟨by first | rfl | (simp [errW_none, errW_some] <;> rfl) | (simp [*, errW_none, errW_some] <;> rfl), by repeat (first | (with_reducible first | exact HB.out | apply below_alloc | apply pw_below_drewN | apply below_drew1) | exact HB.out)⟩
                ·rw [if_neg c56] at H
                 have c56b0 : ((t153.size : Int) == 1048200) = false := beq_eq_false_iff_ne.mpr c56
                 have c56b1 : ((t153.size : Int) != 1048200) = true := bne_iff_ne.mpr c56
                 obtain rfl := Option.some.inj H
                 obtain ⟨Ao84, co84, eo84⟩ := Kd.R_slice HO_26.out
                 subst eo84
                 go_wp2_with (first | ((with_reducible refine gate_callee (f := 12) rfl ?_); refine goesL_ (some 140) rfl rfl Try.func12 (by kernel_rfl) rfl #[.slice Ao84 x26_3.length co84, .agg #[.int .i64 0, .int .i64 0, .int .i64 600, .int .i64 600]] rfl (by (try simp only [List.map_toArray, List.map_cons, List.map_nil]); first | done | rfl | (simp only [List.length_drop, List.length_take]; rfl)) ?_; (with_reducible refine (plain_Write.calls _ _ x26_3 0 0 600 600 t151 t152 _ ?side1 ?side2 A50.out).mono ?_); (case side1 => repeat (first | exact (Kd.R_reads' HO_26.out).2.2 | (with_reducible refine Kd.C_alloc ?_ _) | (with_reducible refine Kd.C_drewN ?_ _) | (with_reducible refine Kd.C_drew ?_))); (case side2 => exact (Kd.R_reads' HO_26.out).2.1); rintro e w85 ⟨rfl, hb⟩; refine ⟨_, rfl, ?_⟩; have n0_ := Aside0.mk (Kd.R_below (by (with_reducible repeat (first | apply Kd.R_alloc | apply Kd.R_drewN | apply Kd.R_drew)); exact HO_26.out) hb); have n1_ := Aside0.mk (below_step (by repeat (first | (with_reducible first | exact HB.out | apply below_alloc | apply pw_below_drewN | apply below_drew1) | exact HB.out)) hb); clear HO_26; clear HB; have HO_26 := n0_; have HB := n1_; clear n0_ n1_; (try clear hb); (try clear hb2); (try clear hk); (try clear hi)) | ((with_reducible refine gate_callee (f := 12) rfl ?_); refine goesL_ (some 146) rfl rfl Try.func12 (by kernel_rfl) rfl #[.slice Ao84 x26_3.length co84, .agg #[.int .i64 0, .int .i64 0, .int .i64 582, .int .i64 600]] rfl (by (try simp only [List.map_toArray, List.map_cons, List.map_nil]); first | done | rfl | (simp only [List.length_drop, List.length_take]; rfl)) ?_; (with_reducible refine (plain_Write.calls _ _ x26_3 0 0 582 600 t153 t154 _ ?side1 ?side2 A51.out).mono ?_); (case side1 => repeat (first | exact (Kd.R_reads' HO_26.out).2.2 | (with_reducible refine Kd.C_alloc ?_ _) | (with_reducible refine Kd.C_drewN ?_ _) | (with_reducible refine Kd.C_drew ?_))); (case side2 => exact (Kd.R_reads' HO_26.out).2.1); rintro e w86 ⟨rfl, hb⟩; refine ⟨_, rfl, ?_⟩; have n0_ := Aside0.mk (Kd.R_below (by (with_reducible repeat (first | apply Kd.R_alloc | apply Kd.R_drewN | apply Kd.R_drew)); exact HO_26.out) hb); have n1_ := Aside0.mk (below_step (by repeat (first | (with_reducible first | exact HB.out | apply below_alloc | apply pw_below_drewN | apply below_drew1) | exact HB.out)) hb); clear HO_26; clear HB; have HO_26 := n0_; have HB := n1_; clear n0_ n1_; (try clear hb); (try clear hb2); (try clear hk); (try clear hi)))
                 go_ret
                 exact ⟨by first | rfl | (simp [errW_none, errW_some] <;> rfl) | (simp [*, errW_none, errW_some] <;> rfl), by repeat (first | (with_reducible first | exact HB.out | apply below_alloc | apply pw_below_drewN | apply below_drew1) | exact HB.out)⟩
               ·rw [if_neg c55] at H
                have c55b0 : (t154 == 0) = false := beq_eq_false_iff_ne.mpr c55
                have c55b1 : (t154 != 0) = true := bne_iff_ne.mpr c55
                obtain rfl := Option.some.inj H
                obtain ⟨Ao87, co87, eo87⟩ := Kd.R_slice HO_26.out
                subst eo87
                go_wp2_with (first | ((with_reducible refine gate_callee (f := 12) rfl ?_); refine goesL_ (some 140) rfl rfl Try.func12 (by kernel_rfl) rfl #[.slice Ao87 x26_3.length co87, .agg #[.int .i64 0, .int .i64 0, .int .i64 600, .int .i64 600]] rfl (by (try simp only [List.map_toArray, List.map_cons, List.map_nil]); first | done | rfl | (simp only [List.length_drop, List.length_take]; rfl)) ?_; (with_reducible refine (plain_Write.calls _ _ x26_3 0 0 600 600 t151 t152 _ ?side1 ?side2 A50.out).mono ?_); (case side1 => repeat (first | exact (Kd.R_reads' HO_26.out).2.2 | (with_reducible refine Kd.C_alloc ?_ _) | (with_reducible refine Kd.C_drewN ?_ _) | (with_reducible refine Kd.C_drew ?_))); (case side2 => exact (Kd.R_reads' HO_26.out).2.1); rintro e w88 ⟨rfl, hb⟩; refine ⟨_, rfl, ?_⟩; have n0_ := Aside0.mk (Kd.R_below (by (with_reducible repeat (first | apply Kd.R_alloc | apply Kd.R_drewN | apply Kd.R_drew)); exact HO_26.out) hb); have n1_ := Aside0.mk (below_step (by repeat (first | (with_reducible first | exact HB.out | apply below_alloc | apply pw_below_drewN | apply below_drew1) | exact HB.out)) hb); clear HO_26; clear HB; have HO_26 := n0_; have HB := n1_; clear n0_ n1_; (try clear hb); (try clear hb2); (try clear hk); (try clear hi)) | ((with_reducible refine gate_callee (f := 12) rfl ?_); refine goesL_ (some 146) rfl rfl Try.func12 (by kernel_rfl) rfl #[.slice Ao87 x26_3.length co87, .agg #[.int .i64 0, .int .i64 0, .int .i64 582, .int .i64 600]] rfl (by (try simp only [List.map_toArray, List.map_cons, List.map_nil]); first | done | rfl | (simp only [List.length_drop, List.length_take]; rfl)) ?_; (with_reducible refine (plain_Write.calls _ _ x26_3 0 0 582 600 t153 t154 _ ?side1 ?side2 A51.out).mono ?_); (case side1 => repeat (first | exact (Kd.R_reads' HO_26.out).2.2 | (with_reducible refine Kd.C_alloc ?_ _) | (with_reducible refine Kd.C_drewN ?_ _) | (with_reducible refine Kd.C_drew ?_))); (case side2 => exact (Kd.R_reads' HO_26.out).2.1); rintro e w89 ⟨rfl, hb⟩; refine ⟨_, rfl, ?_⟩; have n0_ := Aside0.mk (Kd.R_below (by (with_reducible repeat (first | apply Kd.R_alloc | apply Kd.R_drewN | apply Kd.R_drew)); exact HO_26.out) hb); have n1_ := Aside0.mk (below_step (by repeat (first | (with_reducible first | exact HB.out | apply below_alloc | apply pw_below_drewN | apply below_drew1) | exact HB.out)) hb); clear HO_26; clear HB; have HO_26 := n0_; have HB := n1_; clear n0_ n1_; (try clear hb); (try clear hb2); (try clear hk); (try clear hi)))
                go_ret
                exact ⟨by first | rfl | (simp [errW_none, errW_some] <;> rfl) | (simp [*, errW_none, errW_some] <;> rfl), by repeat (first | (with_reducible first | exact HB.out | apply below_alloc | apply pw_below_drewN | apply below_drew1) | exact HB.out)⟩
              ·rw [if_neg c54] at H
               have c54b0 : (t152 == 3) = false := beq_eq_false_iff_ne.mpr c54
               have c54b1 : (t152 != 3) = true := bne_iff_ne.mpr c54
               obtain rfl := Option.some.inj H
               obtain ⟨Ao90, co90, eo90⟩ := Kd.R_slice HO_26.out
               subst eo90
               go_wp2_with (first | ((with_reducible refine gate_callee (f := 12) rfl ?_); refine goesL_ (some 140) rfl rfl Try.func12 (by kernel_rfl) rfl #[.slice Ao90 x26_3.length co90, .agg #[.int .i64 0, .int .i64 0, .int .i64 600, .int .i64 600]] rfl (by (try simp only [List.map_toArray, List.map_cons, List.map_nil]); first | done | rfl | (simp only [List.length_drop, List.length_take]; rfl)) ?_; (with_reducible refine (plain_Write.calls _ _ x26_3 0 0 600 600 t151 t152 _ ?side1 ?side2 A50.out).mono ?_); (case side1 => repeat (first | exact (Kd.R_reads' HO_26.out).2.2 | (with_reducible refine Kd.C_alloc ?_ _) | (with_reducible refine Kd.C_drewN ?_ _) | (with_reducible refine Kd.C_drew ?_))); (case side2 => exact (Kd.R_reads' HO_26.out).2.1); rintro e w91 ⟨rfl, hb⟩; refine ⟨_, rfl, ?_⟩; have n0_ := Aside0.mk (Kd.R_below (by (with_reducible repeat (first | apply Kd.R_alloc | apply Kd.R_drewN | apply Kd.R_drew)); exact HO_26.out) hb); have n1_ := Aside0.mk (below_step (by repeat (first | (with_reducible first | exact HB.out | apply below_alloc | apply pw_below_drewN | apply below_drew1) | exact HB.out)) hb); clear HO_26; clear HB; have HO_26 := n0_; have HB := n1_; clear n0_ n1_; (try clear hb); (try clear hb2); (try clear hk); (try clear hi)) | ((with_reducible refine gate_callee (f := 12) rfl ?_); refine goesL_ (some 146) rfl rfl Try.func12 (by kernel_rfl) rfl #[.slice Ao90 x26_3.length co90, .agg #[.int .i64 0, .int .i64 0, .int .i64 582, .int .i64 600]] rfl (by (try simp only [List.map_toArray, List.map_cons, List.map_nil]); first | done | rfl | (simp only [List.length_drop, List.length_take]; rfl)) ?_; (with_reducible refine (plain_Write.calls _ _ x26_3 0 0 582 600 t153 t154 _ ?side1 ?side2 A51.out).mono ?_); (case side1 => repeat (first | exact (Kd.R_reads' HO_26.out).2.2 | (with_reducible refine Kd.C_alloc ?_ _) | (with_reducible refine Kd.C_drewN ?_ _) | (with_reducible refine Kd.C_drew ?_))); (case side2 => exact (Kd.R_reads' HO_26.out).2.1); rintro e w92 ⟨rfl, hb⟩; refine ⟨_, rfl, ?_⟩; have n0_ := Aside0.mk (Kd.R_below (by (with_reducible repeat (first | apply Kd.R_alloc | apply Kd.R_drewN | apply Kd.R_drew)); exact HO_26.out) hb); have n1_ := Aside0.mk (below_step (by repeat (first | (with_reducible first | exact HB.out | apply below_alloc | apply pw_below_drewN | apply below_drew1) | exact HB.out)) hb); clear HO_26; clear HB; have HO_26 := n0_; have HB := n1_; clear n0_ n1_; (try clear hb); (try clear hb2); (try clear hk); (try clear hi)))
               go_ret
               exact ⟨by first | rfl | (simp [errW_none, errW_some] <;> rfl) | (simp [*, errW_none, errW_some] <;> rfl), by repeat (first | (with_reducible first | exact HB.out | apply below_alloc | apply pw_below_drewN | apply below_drew1) | exact HB.out)⟩
             ·rw [if_neg c53] at H
              have c53b0 : (t147 == 5) = false := beq_eq_false_iff_ne.mpr c53
              have c53b1 : (t147 != 5) = true := bne_iff_ne.mpr c53
              obtain rfl := Option.some.inj H
              obtain ⟨Ao93, co93, eo93⟩ := Kd.R_slice HO_26.out
              subst eo93
              go_wp2_with (first | ((with_reducible refine gate_callee (f := 12) rfl ?_); refine goesL_ (some 140) rfl rfl Try.func12 (by kernel_rfl) rfl #[.slice Ao93 x26_3.length co93, .agg #[.int .i64 0, .int .i64 0, .int .i64 600, .int .i64 600]] rfl (by (try simp only [List.map_toArray, List.map_cons, List.map_nil]); first | done | rfl | (simp only [List.length_drop, List.length_take]; rfl)) ?_; (with_reducible refine (plain_Write.calls _ _ x26_3 0 0 600 600 t151 t152 _ ?side1 ?side2 A50.out).mono ?_); (case side1 => repeat (first | exact (Kd.R_reads' HO_26.out).2.2 | (with_reducible refine Kd.C_alloc ?_ _) | (with_reducible refine Kd.C_drewN ?_ _) | (with_reducible refine Kd.C_drew ?_))); (case side2 => exact (Kd.R_reads' HO_26.out).2.1); rintro e w94 ⟨rfl, hb⟩; refine ⟨_, rfl, ?_⟩; have n0_ := Aside0.mk (Kd.R_below (by (with_reducible repeat (first | apply Kd.R_alloc | apply Kd.R_drewN | apply Kd.R_drew)); exact HO_26.out) hb); have n1_ := Aside0.mk (below_step (by repeat (first | (with_reducible first | exact HB.out | apply below_alloc | apply pw_below_drewN | apply below_drew1) | exact HB.out)) hb); clear HO_26; clear HB; have HO_26 := n0_; have HB := n1_; clear n0_ n1_; (try clear hb); (try clear hb2); (try clear hk); (try clear hi)) | ((with_reducible refine gate_callee (f := 12) rfl ?_); refine goesL_ (some 146) rfl rfl Try.func12 (by kernel_rfl) rfl #[.slice Ao93 x26_3.length co93, .agg #[.int .i64 0, .int .i64 0, .int .i64 582, .int .i64 600]] rfl (by (try simp only [List.map_toArray, List.map_cons, List.map_nil]); first | done | rfl | (simp only [List.length_drop, List.length_take]; rfl)) ?_; (with_reducible refine (plain_Write.calls _ _ x26_3 0 0 582 600 t153 t154 _ ?side1 ?side2 A51.out).mono ?_); (case side1 => repeat (first | exact (Kd.R_reads' HO_26.out).2.2 | (with_reducible refine Kd.C_alloc ?_ _) | (with_reducible refine Kd.C_drewN ?_ _) | (with_reducible refine Kd.C_drew ?_))); (case side2 => exact (Kd.R_reads' HO_26.out).2.1); rintro e w95 ⟨rfl, hb⟩; refine ⟨_, rfl, ?_⟩; have n0_ := Aside0.mk (Kd.R_below (by (with_reducible repeat (first | apply Kd.R_alloc | apply Kd.R_drewN | apply Kd.R_drew)); exact HO_26.out) hb); have n1_ := Aside0.mk (below_step (by repeat (first | (with_reducible first | exact HB.out | apply below_alloc | apply pw_below_drewN | apply below_drew1) | exact HB.out)) hb); clear HO_26; clear HB; have HO_26 := n0_; have HB := n1_; clear n0_ n1_; (try clear hb); (try clear hb2); (try clear hk); (try clear hi)))
              go_ret
              exact ⟨by first | rfl | (simp [errW_none, errW_some] <;> rfl) | (simp [*, errW_none, errW_some] <;> rfl), by repeat (first | (with_reducible first | exact HB.out | apply below_alloc | apply pw_below_drewN | apply below_drew1) | exact HB.out)⟩
            ·rw [if_neg c52] at H
             have c52b0 : (t142 == 231) = false := beq_eq_false_iff_ne.mpr c52
             have c52b1 : (t142 != 231) = true := bne_iff_ne.mpr c52
             obtain rfl := Option.some.inj H
             obtain ⟨Ao96, co96, eo96⟩ := Kd.R_slice HO_26.out
             subst eo96
             go_wp2_with (first | ((with_reducible refine gate_callee (f := 12) rfl ?_); refine goesL_ (some 140) rfl rfl Try.func12 (by kernel_rfl) rfl #[.slice Ao96 x26_3.length co96, .agg #[.int .i64 0, .int .i64 0, .int .i64 600, .int .i64 600]] rfl (by (try simp only [List.map_toArray, List.map_cons, List.map_nil]); first | done | rfl | (simp only [List.length_drop, List.length_take]; rfl)) ?_; (with_reducible refine (plain_Write.calls _ _ x26_3 0 0 600 600 t151 t152 _ ?side1 ?side2 A50.out).mono ?_); (case side1 => repeat (first | exact (Kd.R_reads' HO_26.out).2.2 | (with_reducible refine Kd.C_alloc ?_ _) | (with_reducible refine Kd.C_drewN ?_ _) | (with_reducible refine Kd.C_drew ?_))); (case side2 => exact (Kd.R_reads' HO_26.out).2.1); rintro e w97 ⟨rfl, hb⟩; refine ⟨_, rfl, ?_⟩; have n0_ := Aside0.mk (Kd.R_below (by (with_reducible repeat (first | apply Kd.R_alloc | apply Kd.R_drewN | apply Kd.R_drew)); exact HO_26.out) hb); have n1_ := Aside0.mk (below_step (by repeat (first | (with_reducible first | exact HB.out | apply below_alloc | apply pw_below_drewN | apply below_drew1) | exact HB.out)) hb); clear HO_26; clear HB; have HO_26 := n0_; have HB := n1_; clear n0_ n1_; (try clear hb); (try clear hb2); (try clear hk); (try clear hi)) | ((with_reducible refine gate_callee (f := 12) rfl ?_); refine goesL_ (some 146) rfl rfl Try.func12 (by kernel_rfl) rfl #[.slice Ao96 x26_3.length co96, .agg #[.int .i64 0, .int .i64 0, .int .i64 582, .int .i64 600]] rfl (by (try simp only [List.map_toArray, List.map_cons, List.map_nil]); first | done | rfl | (simp only [List.length_drop, List.length_take]; rfl)) ?_; (with_reducible refine (plain_Write.calls _ _ x26_3 0 0 582 600 t153 t154 _ ?side1 ?side2 A51.out).mono ?_); (case side1 => repeat (first | exact (Kd.R_reads' HO_26.out).2.2 | (with_reducible refine Kd.C_alloc ?_ _) | (with_reducible refine Kd.C_drewN ?_ _) | (with_reducible refine Kd.C_drew ?_))); (case side2 => exact (Kd.R_reads' HO_26.out).2.1); rintro e w98 ⟨rfl, hb⟩; refine ⟨_, rfl, ?_⟩; have n0_ := Aside0.mk (Kd.R_below (by (with_reducible repeat (first | apply Kd.R_alloc | apply Kd.R_drewN | apply Kd.R_drew)); exact HO_26.out) hb); have n1_ := Aside0.mk (below_step (by repeat (first | (with_reducible first | exact HB.out | apply below_alloc | apply pw_below_drewN | apply below_drew1) | exact HB.out)) hb); clear HO_26; clear HB; have HO_26 := n0_; have HB := n1_; clear n0_ n1_; (try clear hb); (try clear hb2); (try clear hk); (try clear hi)))
             go_ret
             exact ⟨by first | rfl | (simp [errW_none, errW_some] <;> rfl) | (simp [*, errW_none, errW_some] <;> rfl), by repeat (first | (with_reducible first | exact HB.out | apply below_alloc | apply pw_below_drewN | apply below_drew1) | exact HB.out)⟩
     ·rw [if_neg c12] at H
      exact absurd H (by simp)
 ·rw [if_neg c2] at H
  exact absurd H (by simp)

/-- THE ONE PURE STATEMENT of vivariumlaw23_PlainNames: yours. -/
def vivariumlaw23_PlainNames.Pure : Prop := ∃ k, vivariumlaw23_PlainNames.f k  = some true
theorem vivariumlaw23_PlainNames.walk (P : vivariumlaw23_PlainNames.Pure)  (w : World)  :
  Calls Try.prog 6 #[] w fun e w' => e = .returned (.bool true) ∧ Below w.heap.size w w' := by
 obtain ⟨k, h⟩ := P  
 refine (vivariumlaw23_PlainNames.calls k  true w h).mono ?_
 rintro e w' ⟨rfl, hd⟩
 exact ⟨rfl, hd⟩

end Go.Proofs.Ytfgonglcmgahkab.P

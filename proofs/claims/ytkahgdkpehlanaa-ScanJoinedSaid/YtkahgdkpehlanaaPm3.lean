-- Written by a program of this session (wip/tools/mk.py) that runs the kit's printer; several functions' texts in one.
import Derived.Test.YtkahgdkpehlanaaP0
import Derived.Test.YtkahgdkpehlanaaPm1
import Derived.Test.YtkahgdkpehlanaaPm2
namespace Go.Proofs.Ytkahgdkpehlanaa.P
open Go.RowKit Go.Proofs.YtkahgdkpehlanaaW.PrintWords Go.Proofs.YtkahgdkpehlanaaW.PrintLast Go.Proofs.YtkahgdkpehlanaaW.PrintMore
attribute [local go_sem] max2_int min2_int max_two min_two   -- for this text's walks alone
set_option linter.unusedVariables false
set_option linter.unusedSimpArgs false

/-! ### scan_Runs: function 15 -/
mutual
def scan_Runs.l0 : Nat → ByteArray → List (S35) → Int → Option ((List (S35)) × Int × Int)
 | 0, _, _, _ => none
 | k + 1, x0, x5, x6 => if x6 < (x0.size : Int) then (if 0 ≤ x6 then (if (bt x0 x6) = 32 then (scan_Runs.j1 k x0 x5 x6 (bt x0 x6) ((bt x0 x6) == 32)) else (if (bt x0 x6) = 9 then (scan_Runs.j1 k x0 x5 x6 (bt x0 x6) ((bt x0 x6) == 9)) else (if (bt x0 x6) = 10 then (scan_Runs.j1 k x0 x5 x6 (bt x0 x6) ((bt x0 x6) == 10)) else (scan_Runs.j1 k x0 x5 x6 (bt x0 x6) ((bt x0 x6) == 13))))) else (none)) else (some (([] : List (S35)), (x0.size : Int), 30))
def scan_Runs.j1 : Nat → ByteArray → List (S35) → Int → Int → Bool → Option ((List (S35)) × Int × Int)
 | 0, _, _, _, _, _ => none
 | k + 1, x0, x5, x6, x23, x24 => if x24 = true then (scan_Runs.l0 k x0 x5 (wrap64 (x6 + 1))) else (if x23 = 33 then (some (x5, wrap64 (x6 + 1), 0)) else (if 0 ≤ x6 then (if x6 ≤ (x0.size : Int) then ((scan_span.f (x0.extract (x6 : Int).toNat x0.size) 38).bind fun t108 => (if t108 > 0 then (if x6 ≤ (wrap64 (x6 + t108)) then (if (wrap64 (x6 + t108)) ≤ (x0.size : Int) then ((scan_value.f k (x0.extract (x6 : Int).toNat ((wrap64 (x6 + t108)) : Int).toNat)).bind fun bt109 => (if bt109.2 = true then (if bt109.1 < 1 then (scan_Runs.j2 k x0 x5 x6 t108 bt109.1 true 1 (⟨#[]⟩ : ByteArray) x6) else (scan_Runs.j2 k x0 x5 x6 t108 bt109.1 (decide (bt109.1 > 1099511627776)) 1 (⟨#[]⟩ : ByteArray) x6)) else (scan_Runs.j2 k x0 x5 x6 t108 bt109.1 true 1 (⟨#[]⟩ : ByteArray) x6))) else (none)) else (none)) else (scan_Runs.j3 k x0 x5 x6 1 (⟨#[]⟩ : ByteArray) x6))) else (none)) else (none)))
def scan_Runs.j3 : Nat → ByteArray → List (S35) → Int → Int → ByteArray → Int → Option ((List (S35)) × Int × Int)
 | 0, _, _, _, _, _, _ => none
 | k + 1, x0, x5, x6, x108000, x108001, x108002 => if 0 ≤ x6 then (if x6 < (x0.size : Int) then (if 112 ≤ (bt x0 x6) then (scan_Runs.j4 k x0 x5 x6 1 (decide ((bt x0 x6) ≤ 121)) x108000 x108001 x108002) else (scan_Runs.j4 k x0 x5 x6 1 false x108000 x108001 x108002)) else (none)) else (none)
def scan_Runs.j4 : Nat → ByteArray → List (S35) → Int → Int → Bool → Int → ByteArray → Int → Option ((List (S35)) × Int × Int)
 | 0, _, _, _, _, _, _, _, _ => none
 | k + 1, x0, x5, x6, x11, x83, x108000, x108001, x108002 => if x83 = true then (if (wrap64 (x6 + 2)) > (x0.size : Int) then (some (([] : List (S35)), (x0.size : Int), 30)) else (if 0 ≤ x6 then (if x6 ≤ (wrap64 (x6 + 2)) then (if (wrap64 (x6 + 2)) ≤ (x0.size : Int) then ((scan_State.f k (x0.extract (x6 : Int).toNat ((wrap64 (x6 + 2)) : Int).toNat)).bind fun bt111 => (if bt111.2 = true then (if x5.length < 4398046511104 then (scan_Runs.l0 k x0 (x5 ++ [(⟨x108000, x0.extract (x6 : Int).toNat ((wrap64 (x6 + 2)) : Int).toNat, x108002⟩ : S35)]) (wrap64 (x6 + 2))) else (none)) else (if (x0.extract (x6 : Int).toNat ((wrap64 (x6 + 2)) : Int).toNat).toList = ([36] : List UInt8) then (if x5.length < 4398046511104 then (scan_Runs.l0 k x0 (x5 ++ [(⟨x108000, x0.extract (x6 : Int).toNat ((wrap64 (x6 + 2)) : Int).toNat, x108002⟩ : S35)]) (wrap64 (x6 + 2))) else (none)) else (some (([] : List (S35)), x6, 31))))) else (none)) else (none)) else (none))) else (if 0 ≤ x6 then (if x6 ≤ (wrap64 (x6 + x11)) then (if (wrap64 (x6 + x11)) ≤ (x0.size : Int) then ((scan_State.f k (x0.extract (x6 : Int).toNat ((wrap64 (x6 + x11)) : Int).toNat)).bind fun bt119 => (if bt119.2 = true then (if x5.length < 4398046511104 then (scan_Runs.l0 k x0 (x5 ++ [(⟨x108000, x0.extract (x6 : Int).toNat ((wrap64 (x6 + x11)) : Int).toNat, x108002⟩ : S35)]) (wrap64 (x6 + x11))) else (none)) else (if (x0.extract (x6 : Int).toNat ((wrap64 (x6 + x11)) : Int).toNat).toList = ([36] : List UInt8) then (if x5.length < 4398046511104 then (scan_Runs.l0 k x0 (x5 ++ [(⟨x108000, x0.extract (x6 : Int).toNat ((wrap64 (x6 + x11)) : Int).toNat, x108002⟩ : S35)]) (wrap64 (x6 + x11))) else (none)) else (some (([] : List (S35)), x6, 31))))) else (none)) else (none)) else (none))
def scan_Runs.j2 : Nat → ByteArray → List (S35) → Int → Int → Int → Bool → Int → ByteArray → Int → Option ((List (S35)) × Int × Int)
 | 0, _, _, _, _, _, _, _, _, _ => none
 | k + 1, x0, x5, x6, x8, x9, x63, x108000, x108001, x108002 => if x63 = true then (some (([] : List (S35)), x6, 11)) else (if (wrap64 (x6 + x8)) = (x0.size : Int) then (some (([] : List (S35)), (x0.size : Int), 30)) else (scan_Runs.j3 k x0 x5 (wrap64 (x6 + x8)) x9 x108001 x108002))
end
def scan_Runs.f (k : Nat) (a0 : ByteArray) : Option ((List (S35)) × Int × Int) := if (a0.size : Int) > 1048576 then (some (([] : List (S35)), 0, 3)) else (scan_Runs.l0 k a0 ([] : List (S35)) 0)
theorem scan_Runs.mono_l : ∀ k, (∀ y0 y1 y2, LeO (scan_Runs.l0 k y0 y1 y2) (scan_Runs.l0 (k + 1) y0 y1 y2)) ∧ (∀ y0 y1 y2 y3 y4, LeO (scan_Runs.j1 k y0 y1 y2 y3 y4) (scan_Runs.j1 (k + 1) y0 y1 y2 y3 y4)) ∧ (∀ y0 y1 y2 y3 y4 y5, LeO (scan_Runs.j3 k y0 y1 y2 y3 y4 y5) (scan_Runs.j3 (k + 1) y0 y1 y2 y3 y4 y5)) ∧ (∀ y0 y1 y2 y3 y4 y5 y6 y7, LeO (scan_Runs.j4 k y0 y1 y2 y3 y4 y5 y6 y7) (scan_Runs.j4 (k + 1) y0 y1 y2 y3 y4 y5 y6 y7)) ∧ (∀ y0 y1 y2 y3 y4 y5 y6 y7 y8, LeO (scan_Runs.j2 k y0 y1 y2 y3 y4 y5 y6 y7 y8) (scan_Runs.j2 (k + 1) y0 y1 y2 y3 y4 y5 y6 y7 y8))
 | 0 => ⟨fun _ _ _ r h => by simp [scan_Runs.l0] at h, fun _ _ _ _ _ r h => by simp [scan_Runs.j1] at h, fun _ _ _ _ _ _ r h => by simp [scan_Runs.j3] at h, fun _ _ _ _ _ _ _ _ r h => by simp [scan_Runs.j4] at h, fun _ _ _ _ _ _ _ _ _ r h => by simp [scan_Runs.j2] at h⟩
 | k + 1 => by
  obtain ⟨ih0, ih1, ih2, ih3, ih4⟩ := scan_Runs.mono_l k
  refine ⟨?_, ?_, ?_, ?_, ?_⟩
  ·intro y0 y1 y2
   unfold scan_Runs.l0
   repeat' first
   | (with_reducible exact ih0 _ _ _)
   | (with_reducible exact ih1 _ _ _ _ _)
   | (with_reducible exact ih2 _ _ _ _ _ _)
   | (with_reducible exact ih3 _ _ _ _ _ _ _ _)
   | (with_reducible exact ih4 _ _ _ _ _ _ _ _ _)
   | (with_reducible exact scan_State.mono _ _)
   | (with_reducible exact scan_value.mono _ _)
   | (with_reducible exact LeO.refl _)
   | (with_reducible exact LeO.none _)
   | (with_reducible refine LeO.ite ?_ ?_)
   | (with_reducible refine LeO.bind ?_ (fun _ => ?_))
   | exact ih0 _ _ _
   | exact ih1 _ _ _ _ _
   | exact ih2 _ _ _ _ _ _
   | exact ih3 _ _ _ _ _ _ _ _
   | exact ih4 _ _ _ _ _ _ _ _ _
   | exact scan_State.mono _ _
   | exact scan_value.mono _ _
   | exact LeO.none _
   | refine LeO.ite ?_ ?_
   | refine LeO.bind ?_ (fun _ => ?_)
  ·intro y0 y1 y2 y3 y4
   unfold scan_Runs.j1
   repeat' first
   | (with_reducible exact ih0 _ _ _)
   | (with_reducible exact ih1 _ _ _ _ _)
   | (with_reducible exact ih2 _ _ _ _ _ _)
   | (with_reducible exact ih3 _ _ _ _ _ _ _ _)
   | (with_reducible exact ih4 _ _ _ _ _ _ _ _ _)
   | (with_reducible exact scan_State.mono _ _)
   | (with_reducible exact scan_value.mono _ _)
   | (with_reducible exact LeO.refl _)
   | (with_reducible exact LeO.none _)
   | (with_reducible refine LeO.ite ?_ ?_)
   | (with_reducible refine LeO.bind ?_ (fun _ => ?_))
   | exact ih0 _ _ _
   | exact ih1 _ _ _ _ _
   | exact ih2 _ _ _ _ _ _
   | exact ih3 _ _ _ _ _ _ _ _
   | exact ih4 _ _ _ _ _ _ _ _ _
   | exact scan_State.mono _ _
   | exact scan_value.mono _ _
   | exact LeO.none _
   | refine LeO.ite ?_ ?_
   | refine LeO.bind ?_ (fun _ => ?_)
  ·intro y0 y1 y2 y3 y4 y5
   unfold scan_Runs.j3
   repeat' first
   | (with_reducible exact ih0 _ _ _)
   | (with_reducible exact ih1 _ _ _ _ _)
   | (with_reducible exact ih2 _ _ _ _ _ _)
   | (with_reducible exact ih3 _ _ _ _ _ _ _ _)
   | (with_reducible exact ih4 _ _ _ _ _ _ _ _ _)
   | (with_reducible exact scan_State.mono _ _)
   | (with_reducible exact scan_value.mono _ _)
   | (with_reducible exact LeO.refl _)
   | (with_reducible exact LeO.none _)
   | (with_reducible refine LeO.ite ?_ ?_)
   | (with_reducible refine LeO.bind ?_ (fun _ => ?_))
   | exact ih0 _ _ _
   | exact ih1 _ _ _ _ _
   | exact ih2 _ _ _ _ _ _
   | exact ih3 _ _ _ _ _ _ _ _
   | exact ih4 _ _ _ _ _ _ _ _ _
   | exact scan_State.mono _ _
   | exact scan_value.mono _ _
   | exact LeO.none _
   | refine LeO.ite ?_ ?_
   | refine LeO.bind ?_ (fun _ => ?_)
  ·intro y0 y1 y2 y3 y4 y5 y6 y7
   unfold scan_Runs.j4
   repeat' first
   | (with_reducible exact ih0 _ _ _)
   | (with_reducible exact ih1 _ _ _ _ _)
   | (with_reducible exact ih2 _ _ _ _ _ _)
   | (with_reducible exact ih3 _ _ _ _ _ _ _ _)
   | (with_reducible exact ih4 _ _ _ _ _ _ _ _ _)
   | (with_reducible exact scan_State.mono _ _)
   | (with_reducible exact scan_value.mono _ _)
   | (with_reducible exact LeO.refl _)
   | (with_reducible exact LeO.none _)
   | (with_reducible refine LeO.ite ?_ ?_)
   | (with_reducible refine LeO.bind ?_ (fun _ => ?_))
   | exact ih0 _ _ _
   | exact ih1 _ _ _ _ _
   | exact ih2 _ _ _ _ _ _
   | exact ih3 _ _ _ _ _ _ _ _
   | exact ih4 _ _ _ _ _ _ _ _ _
   | exact scan_State.mono _ _
   | exact scan_value.mono _ _
   | exact LeO.none _
   | refine LeO.ite ?_ ?_
   | refine LeO.bind ?_ (fun _ => ?_)
  ·intro y0 y1 y2 y3 y4 y5 y6 y7 y8
   unfold scan_Runs.j2
   repeat' first
   | (with_reducible exact ih0 _ _ _)
   | (with_reducible exact ih1 _ _ _ _ _)
   | (with_reducible exact ih2 _ _ _ _ _ _)
   | (with_reducible exact ih3 _ _ _ _ _ _ _ _)
   | (with_reducible exact ih4 _ _ _ _ _ _ _ _ _)
   | (with_reducible exact scan_State.mono _ _)
   | (with_reducible exact scan_value.mono _ _)
   | (with_reducible exact LeO.refl _)
   | (with_reducible exact LeO.none _)
   | (with_reducible refine LeO.ite ?_ ?_)
   | (with_reducible refine LeO.bind ?_ (fun _ => ?_))
   | exact ih0 _ _ _
   | exact ih1 _ _ _ _ _
   | exact ih2 _ _ _ _ _ _
   | exact ih3 _ _ _ _ _ _ _ _
   | exact ih4 _ _ _ _ _ _ _ _ _
   | exact scan_State.mono _ _
   | exact scan_value.mono _ _
   | exact LeO.none _
   | refine LeO.ite ?_ ?_
   | refine LeO.bind ?_ (fun _ => ?_)
theorem scan_Runs.mono : ∀ a0 k, LeO (scan_Runs.f k a0) (scan_Runs.f (k + 1) a0) := by
 intro a0 k
 obtain ⟨ih0, ih1, ih2, ih3, ih4⟩ := scan_Runs.mono_l k
 unfold scan_Runs.f
 repeat' first
   | (with_reducible exact ih0 _ _ _)
   | (with_reducible exact ih1 _ _ _ _ _)
   | (with_reducible exact ih2 _ _ _ _ _ _)
   | (with_reducible exact ih3 _ _ _ _ _ _ _ _)
   | (with_reducible exact ih4 _ _ _ _ _ _ _ _ _)
   | (with_reducible exact scan_State.mono _ _)
   | (with_reducible exact scan_value.mono _ _)
   | (with_reducible exact LeO.refl _)
   | (with_reducible exact LeO.none _)
   | (with_reducible refine LeO.ite ?_ ?_)
   | (with_reducible refine LeO.bind ?_ (fun _ => ?_))
   | exact ih0 _ _ _
   | exact ih1 _ _ _ _ _
   | exact ih2 _ _ _ _ _ _
   | exact ih3 _ _ _ _ _ _ _ _
   | exact ih4 _ _ _ _ _ _ _ _ _
   | exact scan_State.mono _ _
   | exact scan_value.mono _ _
   | exact LeO.none _
   | refine LeO.ite ?_ ?_
   | refine LeO.bind ?_ (fun _ => ?_)
set_option maxHeartbeats 8000000 in
set_option maxRecDepth 100000 in
theorem scan_Runs.calls (k : Nat) (a0 : ByteArray) (r1 : List (S35)) (r2 : Int) (r3 : Int) (w : World) (h : scan_Runs.f k a0 = some (r1, r2, r3)) :
  Calls Try.prog 15 #[.string a0] w fun e w' => ∃ v0_ : Value, e = .returned (.tuple #[v0_, .int .i64 r2, .int .i64 r3]) ∧ Kd.R k35 35 w' w.heap.size (fun _ => True) v0_ r1 ∧ Below w.heap.size w w' := by
 have hu35 := Try.underlying35
 have HB := Aside0.mk (Below.refl w.heap.size w)
 have H : (if (a0.size : Int) > 1048576 then (some (([] : List (S35)), 0, 3)) else (scan_Runs.l0 k a0 ([] : List (S35)) 0)) = some (r1, r2, r3) := h
 clear h
 by_cases c2 : (a0.size : Int) > 1048576
 ·rw [if_pos c2] at H
  have c2b0 : decide (1048576 < (a0.size : Int)) = true := decide_eq_true c2
  have c2b1 : decide (1048576 < a0.size) = true := decide_eq_true (by omega)
  clear c2
  simp only [Option.some.injEq, Prod.mk.injEq] at H
  obtain ⟨rfl, rfl, rfl⟩ := H
  go_enter Try.func15, Try.ntmps15
  go_wp2_with (first | go_step3 | fail)
  try rw [Exit.noGoto_ret]
  go_ret3
  exact ⟨_, by first | rfl | (simp [errW_none, errW_some] <;> rfl) | (simp [*, errW_none, errW_some] <;> rfl), by first | exact Kd.R_nil _ _ _ _ _ | exact Kd.N_nil _ _ _ _ _ | exact Kd.V_nil _ _ _ _ _ | exact Kd.Q_nil _ _ _ _ _ | exact Kd.S_nil _ _ _ _ _, by repeat (first | (with_reducible first | exact HB.out | apply below_alloc | apply pw_below_drewN | apply below_drew1) | exact HB.out)⟩
 ·rw [if_neg c2] at H
  have c2b0 : decide (1048576 < (a0.size : Int)) = false := decide_eq_false c2
  have c2b1 : decide (1048576 < a0.size) = false := decide_eq_false (by omega)
  clear c2
  have H' := Aside0.mk H
  clear H
  go_enter Try.func15, Try.ntmps15
  go_wp2_with (first | go_step3 | fail)
  go_loopg [5, 6] k (fun kq v5 v6 w' => ∃ (x5_1 : List (S35)) (x6_1 : Int), v6 = .int .i64 x6_1 ∧ Aside0 (scan_Runs.l0 kq a0 x5_1 x6_1 = some (r1, r2, r3)) ∧ Aside0 (kq ≤ k) ∧ Aside0 (Kd.R k35 35 w' w.heap.size (fun _ => True) v5 x5_1) ∧ Aside0 (Below w.heap.size w w'))
  case atStart => exact ⟨(([] : List (S35))), (0), (by first | rfl | (simp; done) | (simp [*]; done)), H', ⟨Nat.le_refl _⟩, ⟨by first | exact Kd.R_nil _ _ _ _ _ | exact Kd.N_nil _ _ _ _ _ | exact Kd.V_nil _ _ _ _ _ | exact Kd.Q_nil _ _ _ _ _ | exact Kd.S_nil _ _ _ _ _⟩, ⟨by repeat (first | (with_reducible first | exact HB.out | apply below_alloc | apply pw_below_drewN | apply below_drew1) | exact HB.out)⟩⟩
  case round =>
   clear H'
   try clear c1
   try clear c2
   try clear c2b0
   try clear c2b1
   try clear p2
   obtain ⟨x5_1, x6_1, rfl, HA, HK1, HO_5, HB⟩ := hrel
   cases gk with
   | zero => exact absurd HA.out (by simp [scan_Runs.l0])
   | succ k1 =>
    have H := HA.out
    clear HA
    simp only [scan_Runs.l0] at H
    by_cases c3 : x6_1 < (a0.size : Int)
    ·rw [if_pos c3] at H
     have c3b0 : decide (x6_1 < (a0.size : Int)) = true := decide_eq_true c3
     clear c3
     by_cases c4 : 0 ≤ x6_1
     ·rw [if_pos c4] at H
      have c4b0 : decide (0 ≤ x6_1) = true := decide_eq_true c4
      clear c4
      have HC6 := Aside0.mk H
      clear H
      have p5 : 0 ≤ (x6_1 : Int) := of_decide_eq_true (by first | (with_reducible assumption) | assumption)
      have q5 : x6_1 < (a0.size : Int) := of_decide_eq_true (by first | (with_reducible assumption) | assumption)
      have hx5 := bt_at a0 x6_1
      replace p5 := eq_true p5
      replace q5 := eq_true q5
      go_upto_if 24 with (fail)
      go_cut [24] (fun v24 wc => ∃ (kq : Nat) (x24_5 : Bool), v24 = .bool x24_5 ∧ Aside0 (scan_Runs.j1 kq a0 x5_1 x6_1 (bt a0 x6_1) x24_5 = some (r1, r2, r3)) ∧ Aside0 (kq ≤ k1) ∧ Aside0 (Kd.R k35 35 wc w.heap.size (fun _ => True) u5 x5_1) ∧ Aside0 (Below w.heap.size w wc))
      case first =>
       have H := HC6.out
       clear HC6
       by_cases c7 : (bt a0 x6_1) = 32
       ·rw [if_pos c7] at H
        have c7b0 : ((bt a0 x6_1) == 32) = true := beq_iff_eq.mpr c7
        have c7b1 : ((bt a0 x6_1) != 32) = false := bne_eq_false_iff_eq.mpr c7
        clear c7
        (first | rw [c7b0] | (simp only [i64_w, i32_w]; rw [c7b0]) | skip)
        have H' := Aside0.mk H
        clear H
        go_wp2_with (first | go_step3 | fail)
        go_meet
        case rel => exact ⟨_, (((bt a0 x6_1) == 32)), (by first | rfl | (simp; done) | (simp [*]; done)), H', ⟨by have := HK1.out; first | omega | exact Nat.le_refl _⟩, ⟨by (with_reducible repeat (first | apply Kd.R_alloc | apply Kd.R_drewN | apply Kd.R_drew)); exact HO_5.out⟩, ⟨by repeat (first | (with_reducible first | exact HB.out | apply below_alloc | apply pw_below_drewN | apply below_drew1) | exact HB.out)⟩⟩
       ·rw [if_neg c7] at H
        have c7b0 : ((bt a0 x6_1) == 32) = false := beq_eq_false_iff_ne.mpr c7
        have c7b1 : ((bt a0 x6_1) != 32) = true := bne_iff_ne.mpr c7
        (first | rw [c7b0] | (simp only [i64_w, i32_w]; rw [c7b0]) | skip)
        by_cases c8 : (bt a0 x6_1) = 9
        ·rw [if_pos c8] at H
         have c8b0 : ((bt a0 x6_1) == 9) = true := beq_iff_eq.mpr c8
         have c8b1 : ((bt a0 x6_1) != 9) = false := bne_eq_false_iff_eq.mpr c8
         clear c8
         have H' := Aside0.mk H
         clear H
         go_wp2_with (first | go_step3 | fail)
         go_meet
         case rel => exact ⟨_, (((bt a0 x6_1) == 9)), (by first | rfl | (simp; done) | (simp [*]; done)), H', ⟨by have := HK1.out; first | omega | exact Nat.le_refl _⟩, ⟨by (with_reducible repeat (first | apply Kd.R_alloc | apply Kd.R_drewN | apply Kd.R_drew)); exact HO_5.out⟩, ⟨by repeat (first | (with_reducible first | exact HB.out | apply below_alloc | apply pw_below_drewN | apply below_drew1) | exact HB.out)⟩⟩
        ·rw [if_neg c8] at H
         have c8b0 : ((bt a0 x6_1) == 9) = false := beq_eq_false_iff_ne.mpr c8
         have c8b1 : ((bt a0 x6_1) != 9) = true := bne_iff_ne.mpr c8
         by_cases c9 : (bt a0 x6_1) = 10
         ·rw [if_pos c9] at H
          have c9b0 : ((bt a0 x6_1) == 10) = true := beq_iff_eq.mpr c9
          have c9b1 : ((bt a0 x6_1) != 10) = false := bne_eq_false_iff_eq.mpr c9
          clear c9
          have H' := Aside0.mk H
          clear H
          go_wp2_with (first | go_step3 | fail)
          go_meet
          case rel => exact ⟨_, (((bt a0 x6_1) == 10)), (by first | rfl | (simp; done) | (simp [*]; done)), H', ⟨by have := HK1.out; first | omega | exact Nat.le_refl _⟩, ⟨by (with_reducible repeat (first | apply Kd.R_alloc | apply Kd.R_drewN | apply Kd.R_drew)); exact HO_5.out⟩, ⟨by repeat (first | (with_reducible first | exact HB.out | apply below_alloc | apply pw_below_drewN | apply below_drew1) | exact HB.out)⟩⟩
         ·rw [if_neg c9] at H
          have c9b0 : ((bt a0 x6_1) == 10) = false := beq_eq_false_iff_ne.mpr c9
          have c9b1 : ((bt a0 x6_1) != 10) = true := bne_iff_ne.mpr c9
          have H' := Aside0.mk H
          clear H
          go_wp2_with (first | go_step3 | fail)
          go_meet
          case rel => exact ⟨_, (((bt a0 x6_1) == 13)), (by first | rfl | (simp; done) | (simp [*]; done)), H', ⟨by have := HK1.out; first | omega | exact Nat.le_refl _⟩, ⟨by (with_reducible repeat (first | apply Kd.R_alloc | apply Kd.R_drewN | apply Kd.R_drew)); exact HO_5.out⟩, ⟨by repeat (first | (with_reducible first | exact HB.out | apply below_alloc | apply pw_below_drewN | apply below_drew1) | exact HB.out)⟩⟩
      case rest =>
       clear HC6
       try clear c1
       try clear c2
       try clear c2b0
       try clear c2b1
       try clear p2
       try clear c3
       try clear c3b0
       try clear c4
       try clear c4b0
       try clear p5
       try clear q5
       try clear hx5
       try clear c7
       try clear c7b0
       try clear c7b1
       try clear c8
       try clear c8b0
       try clear c8b1
       try clear c9
       try clear c9b0
       try clear c9b1
       try clear p2
       try clear p5
       try clear q5
       obtain ⟨kq, x24_5, rfl, HA, HJ5, HO_5, HB⟩ := hcut
       cases kq with
       | zero => exact absurd HA.out (by simp [scan_Runs.j1])
       | succ kj5 =>
        have H := HA.out
        clear HA
        simp only [scan_Runs.j1] at H
        by_cases c10 : x24_5 = true
        ·subst c10
         have H1 : (scan_Runs.l0 kj5 a0 x5_1 (wrap64 (x6_1 + 1))) = some (r1, r2, r3) := by rw [if_pos rfl] at H; exact H
         clear H
         have H := H1
         clear H1
         have H' := Aside0.mk H
         clear H
         go_wp2_with (first | go_step3 | fail)
         go_roundg kj5
         case measure => have := HK1.out; have := HJ5.out; omega
         case rel => exact ⟨(x5_1), (wrap64 (x6_1 + 1)), (by first | rfl | (simp; done) | (simp [*]; done)), H', ⟨by have := HK1.out; have := HJ5.out; omega⟩, ⟨by (with_reducible repeat (first | apply Kd.R_alloc | apply Kd.R_drewN | apply Kd.R_drew)); exact HO_5.out⟩, ⟨by repeat (first | (with_reducible first | exact HB.out | apply below_alloc | apply pw_below_drewN | apply below_drew1) | exact HB.out)⟩⟩
        ·replace c10 := Bool.eq_false_iff.mpr c10
         subst c10
         have H1 : (if (bt a0 x6_1) = 33 then (some (x5_1, wrap64 (x6_1 + 1), 0)) else (if 0 ≤ x6_1 then (if x6_1 ≤ (a0.size : Int) then ((scan_span.f (a0.extract (x6_1 : Int).toNat a0.size) 38).bind fun t108 => (if t108 > 0 then (if x6_1 ≤ (wrap64 (x6_1 + t108)) then (if (wrap64 (x6_1 + t108)) ≤ (a0.size : Int) then ((scan_value.f kj5 (a0.extract (x6_1 : Int).toNat ((wrap64 (x6_1 + t108)) : Int).toNat)).bind fun bt109 => (if bt109.2 = true then (if bt109.1 < 1 then (scan_Runs.j2 kj5 a0 x5_1 x6_1 t108 bt109.1 true 1 (⟨#[]⟩ : ByteArray) x6_1) else (scan_Runs.j2 kj5 a0 x5_1 x6_1 t108 bt109.1 (decide (bt109.1 > 1099511627776)) 1 (⟨#[]⟩ : ByteArray) x6_1)) else (scan_Runs.j2 kj5 a0 x5_1 x6_1 t108 bt109.1 true 1 (⟨#[]⟩ : ByteArray) x6_1))) else (none)) else (none)) else (scan_Runs.j3 kj5 a0 x5_1 x6_1 1 (⟨#[]⟩ : ByteArray) x6_1))) else (none)) else (none))) = some (r1, r2, r3) := by rw [if_neg (show ¬ (false = true) by decide)] at H; exact H
         clear H
         have H := H1
         clear H1
         by_cases c11 : (bt a0 x6_1) = 33
         ·rw [if_pos c11] at H
          have c11b0 : ((bt a0 x6_1) == 33) = true := beq_iff_eq.mpr c11
          have c11b1 : ((bt a0 x6_1) != 33) = false := bne_eq_false_iff_eq.mpr c11
          clear c11
          simp only [Option.some.injEq, Prod.mk.injEq] at H
          obtain ⟨rfl, rfl, rfl⟩ := H
          go_wp2_with (first | go_step3 | fail)
          try rw [Exit.noGoto_ret]
          go_ret3
          exact ⟨_, by first | rfl | (simp [errW_none, errW_some] <;> rfl) | (simp [*, errW_none, errW_some] <;> rfl), by (with_reducible repeat (first | apply Kd.R_alloc | apply Kd.R_drewN | apply Kd.R_drew)); exact HO_5.out, by repeat (first | (with_reducible first | exact HB.out | apply below_alloc | apply pw_below_drewN | apply below_drew1) | exact HB.out)⟩
         ·rw [if_neg c11] at H
          have c11b0 : ((bt a0 x6_1) == 33) = false := beq_eq_false_iff_ne.mpr c11
          have c11b1 : ((bt a0 x6_1) != 33) = true := bne_iff_ne.mpr c11
          by_cases c12 : 0 ≤ x6_1
          ·rw [if_pos c12] at H
           have c12b0 := eq_true c12
           have c12b1 : decide (0 ≤ x6_1) = true := decide_eq_true c12
           clear c12
           by_cases c13 : x6_1 ≤ (a0.size : Int)
           ·rw [if_pos c13] at H
            have c13b0 := eq_true c13
            have c13b1 : decide (x6_1 ≤ (a0.size : Int)) = true := decide_eq_true c13
            clear c13
            replace H := Option.bind_eq_some_iff.mp H
            obtain ⟨t108, A140, H⟩ := H
            replace H : (if t108 > 0 then (if x6_1 ≤ (wrap64 (x6_1 + t108)) then (if (wrap64 (x6_1 + t108)) ≤ (a0.size : Int) then ((scan_value.f kj5 (a0.extract (x6_1 : Int).toNat ((wrap64 (x6_1 + t108)) : Int).toNat)).bind fun bt109 => (if bt109.2 = true then (if bt109.1 < 1 then (scan_Runs.j2 kj5 a0 x5_1 x6_1 t108 bt109.1 true 1 (⟨#[]⟩ : ByteArray) x6_1) else (scan_Runs.j2 kj5 a0 x5_1 x6_1 t108 bt109.1 (decide (bt109.1 > 1099511627776)) 1 (⟨#[]⟩ : ByteArray) x6_1)) else (scan_Runs.j2 kj5 a0 x5_1 x6_1 t108 bt109.1 true 1 (⟨#[]⟩ : ByteArray) x6_1))) else (none)) else (none)) else (scan_Runs.j3 kj5 a0 x5_1 x6_1 1 (⟨#[]⟩ : ByteArray) x6_1)) = some (r1, r2, r3) := H
            have A14 := Aside0.mk A140
            clear A140
            have HC15 := Aside0.mk H
            clear H
            go_upto_if 43 with (first | ((with_reducible refine gate_dst (N := 7) rfl ?_); refine box_event ?hg (N := 7) ?hd (cs := #[.int .i64 0, .string (⟨#[]⟩ : ByteArray), .int .i64 0]) (t := 35) ?hr ?_; (case hd => rfl); (case hg => rfl); (case hr => first | (go_simp; done) | (go_simp; rfl)); intro gb107 hg w16 hbox hb; have n0_ := Aside0.mk (Kd.R_below (Kd.R_elderB (by (with_reducible repeat (first | apply Kd.R_alloc | apply Kd.R_drewN | apply Kd.R_drew)); exact HO_5.out) gb107 (Nat.le_of_eq hg.symm)) hb); have n1_ := Aside0.mk (below_step (by repeat (first | (with_reducible first | exact HB.out | apply below_alloc | apply pw_below_drewN | apply below_drew1) | exact HB.out)) hb); have n2_ := Aside0.mk (hbox); have n3_ := Aside0.mk ((by rw [hg]; exact (below_size (by repeat (first | (with_reducible first | exact HB.out | apply below_alloc | apply pw_below_drewN | apply below_drew1) | exact HB.out))) : w.heap.size ≤ gb107)); have n4_ := Aside0.mk ((by rw [hg]; exact (below_size (by repeat (first | (with_reducible first | exact HB.out | apply below_alloc | apply pw_below_drewN | apply below_drew1) | exact HB.out))) : w.heap.size ≤ gb107)); clear HO_5; clear HB; have HO_5 := n0_; have HB := n1_; have BK107 := n2_; have GW107 := n3_; have GE107 := n4_; clear n0_ n1_ n2_ n3_ n4_; clear hb hbox hg; have hcz17_0 : w16.cell? ⟨gb107, 0, none⟩ = some (.int .i64 0) := (blk_cell BK107.out 0).trans rfl; have hcz17_1 : w16.cell? ⟨gb107, 1, none⟩ = some (.string (⟨#[]⟩ : ByteArray)) := (blk_cell BK107.out 1).trans rfl; have hcz17_2 : w16.cell? ⟨gb107, 2, none⟩ = some (.int .i64 0) := (blk_cell BK107.out 2).trans rfl; have hfz17_0 := blk_frozen BK107.out 0; have hfz17_1 := blk_frozen BK107.out 1; have hfz17_2 := blk_frozen BK107.out 2) | ((with_reducible refine gate_callee (f := 37) rfl ?_); refine goesL_ (some 41) rfl rfl Try.func37 (by kernel_rfl) rfl #[.string (a0.extract (x6_1 : Int).toNat a0.size), .func (.func 38) #[] #[]] rfl (by (try simp only [List.map_toArray, List.map_cons, List.map_nil]); first | done | rfl | (simp only [List.length_drop, List.length_take]; rfl)) ?_; (with_reducible refine (scan_span.calls (a0.extract (x6_1 : Int).toNat a0.size) 38 t108 _ A14.out).mono ?_); rintro e w' ⟨rfl, ⟨nd, rfl⟩⟩; refine ⟨_, rfl, ?_⟩))
            (try simp only [Act.put, List.setIfInBounds_toArray, List.set_cons_zero, List.set_cons_succ])
            go_cut [6] (fun v6 wc => ∃ (kq : Nat) (x6_14 : Int) (x108000_14 : Int), v6 = .int .i64 x6_14 ∧ Aside0 (scan_Runs.j3 kq a0 x5_1 x6_14 x108000_14 (⟨#[]⟩ : ByteArray) x6_1 = some (r1, r2, r3)) ∧ Aside0 (kq ≤ kj5) ∧ Aside0 (Kd.R k35 35 wc w.heap.size (fun k_ => k_ ≠ gb107) u5 x5_1) ∧ Aside0 (wc.heap[gb107]? = some (.cells #[.int .i64 x108000_14, .string (⟨#[]⟩ : ByteArray), .int .i64 x6_1] 35 (0, 0))) ∧ Aside0 (Below w.heap.size w wc))
            case first =>
             have H := HC15.out
             clear HC15
             by_cases c18 : t108 > 0
             ·rw [if_pos c18] at H
              have c18b0 : decide (0 < t108) = true := decide_eq_true c18
              clear c18
              (first | rw [c18b0] | (simp only [i64_w, i32_w]; rw [c18b0]) | skip)
              have c19b0 := eq_true (of_decide_eq_true (by first | (with_reducible assumption) | assumption) : 0 ≤ x6_1)
              by_cases c20 : x6_1 ≤ (wrap64 (x6_1 + t108))
              ·rw [if_pos c20] at H
               have c20b0 := eq_true c20
               have c20b1 : decide (x6_1 ≤ (wrap64 (x6_1 + t108))) = true := decide_eq_true c20
               by_cases c21 : (wrap64 (x6_1 + t108)) ≤ (a0.size : Int)
               ·rw [if_pos c21] at H
                have c21b0 := eq_true c21
                have c21b1 : decide ((wrap64 (x6_1 + t108)) ≤ (a0.size : Int)) = true := decide_eq_true c21
                replace H := Option.bind_eq_some_iff.mp H
                obtain ⟨⟨t109, t110⟩, A220, H⟩ := H
                replace H : (if t110 = true then (if t109 < 1 then (scan_Runs.j2 kj5 a0 x5_1 x6_1 t108 t109 true 1 (⟨#[]⟩ : ByteArray) x6_1) else (scan_Runs.j2 kj5 a0 x5_1 x6_1 t108 t109 (decide (t109 > 1099511627776)) 1 (⟨#[]⟩ : ByteArray) x6_1)) else (scan_Runs.j2 kj5 a0 x5_1 x6_1 t108 t109 true 1 (⟨#[]⟩ : ByteArray) x6_1)) = some (r1, r2, r3) := H
                have A22 := Aside0.mk A220
                clear A220
                have HC23 := Aside0.mk H
                clear H
                go_upto_region 18 with (first | ((with_reducible refine gate_callee (f := 39) rfl ?_); refine goesL_ (some 51) rfl rfl Try.func39 (by kernel_rfl) rfl #[.string (a0.extract (x6_1 : Int).toNat ((wrap64 (x6_1 + t108)) : Int).toNat)] rfl (by (try simp only [List.map_toArray, List.map_cons, List.map_nil]); first | done | rfl | (simp only [List.length_drop, List.length_take]; rfl)) ?_; (with_reducible refine (scan_value.calls kj5 (a0.extract (x6_1 : Int).toNat ((wrap64 (x6_1 + t108)) : Int).toNat) t109 t110 _ A22.out).mono ?_); rintro e w' ⟨rfl, ⟨nd, rfl⟩⟩; refine ⟨_, rfl, ?_⟩))
                (try simp only [Act.put, List.setIfInBounds_toArray, List.set_cons_zero, List.set_cons_succ])
                go_cut [63] (fun v63 wc => ∃ (kq : Nat) (x63_22 : Bool), v63 = .bool x63_22 ∧ Aside0 (scan_Runs.j2 kq a0 x5_1 x6_1 t108 t109 x63_22 1 (⟨#[]⟩ : ByteArray) x6_1 = some (r1, r2, r3)) ∧ Aside0 (kq ≤ kj5) ∧ Aside0 (Kd.R k35 35 wc w.heap.size (fun k_ => k_ ≠ gb107) u5 x5_1) ∧ Aside0 (wc.heap[gb107]? = some (.cells #[.int .i64 1, .string (⟨#[]⟩ : ByteArray), .int .i64 x6_1] 35 (0, 0))) ∧ Aside0 (Below w.heap.size w wc))
                case first =>
                 have H := HC23.out
                 clear HC23
                 by_cases c24 : t110 = true
                 ·subst c24
                  have H1 : (if t109 < 1 then (scan_Runs.j2 kj5 a0 x5_1 x6_1 t108 t109 true 1 (⟨#[]⟩ : ByteArray) x6_1) else (scan_Runs.j2 kj5 a0 x5_1 x6_1 t108 t109 (decide (t109 > 1099511627776)) 1 (⟨#[]⟩ : ByteArray) x6_1)) = some (r1, r2, r3) := by rw [if_pos rfl] at H; exact H
                  clear H
                  have H := H1
                  clear H1
                  by_cases c25 : t109 < 1
                  ·rw [if_pos c25] at H
                   have c25b0 : decide (t109 < 1) = true := decide_eq_true c25
                   clear c25
                   (first | rw [c25b0] | (simp only [i64_w, i32_w]; rw [c25b0]) | skip)
                   have H' := Aside0.mk H
                   clear H
                   go_wp2_with (first | go_step3 | fail)
                   go_meet
                   case rel => exact ⟨_, (true), (by first | rfl | (simp; done) | (simp [*]; done)), H', ⟨by have := HK1.out; have := HJ5.out; first | omega | exact Nat.le_refl _⟩, ⟨by (with_reducible repeat (first | apply Kd.R_alloc | apply Kd.R_drewN | apply Kd.R_drew)); exact Kd.R_mono (Kd.R_far (p := ⟨gb107, 2, none⟩) (Kd.R_far (p := ⟨gb107, 1, none⟩) (Kd.R_far (p := ⟨gb107, 0, none⟩) (Kd.R_mono HO_5.out (fun k_ hk => (⟨hk, hk.2⟩ : _ ∧ k_ ≠ gb107))) (fun _ hk => hk.2) (.int .i64 1)) (fun _ hk => hk.2) (.string (⟨#[]⟩ : ByteArray))) (fun _ hk => hk.2) (.int .i64 x6_1)) (fun _ hk => hk.1.2)⟩, ⟨by (with_reducible repeat (first | refine blk_drewN ?_ _ | refine blk_drew ?_ | refine blk_alloc ?_ _)); refine blk_put (cs := #[.int .i64 1, .string (⟨#[]⟩ : ByteArray), .int .i64 0]) ?_ 2 _ rfl; (with_reducible repeat (first | refine blk_drewN ?_ _ | refine blk_drew ?_ | refine blk_alloc ?_ _)); refine blk_put (cs := #[.int .i64 1, .string (⟨#[]⟩ : ByteArray), .int .i64 0]) ?_ 1 _ rfl; (with_reducible repeat (first | refine blk_drewN ?_ _ | refine blk_drew ?_ | refine blk_alloc ?_ _)); refine blk_put (cs := #[.int .i64 0, .string (⟨#[]⟩ : ByteArray), .int .i64 0]) ?_ 0 _ rfl; (with_reducible repeat (first | refine blk_drewN ?_ _ | refine blk_drew ?_ | refine blk_alloc ?_ _)); exact BK107.out⟩, ⟨by repeat (first | (with_reducible first | exact HB.out | apply below_alloc | apply pw_below_drewN | apply below_drew1 | refine below_set ?_ GE107.out) | exact HB.out)⟩⟩
                  ·rw [if_neg c25] at H
                   have c25b0 : decide (t109 < 1) = false := decide_eq_false c25
                   clear c25
                   (first | rw [c25b0] | (simp only [i64_w, i32_w]; rw [c25b0]) | skip)
                   have H' := Aside0.mk H
                   clear H
                   go_wp2_with (first | go_step3 | fail)
                   go_meet
                   case rel => exact ⟨_, (decide (t109 > 1099511627776)), (by first | rfl | (simp; done) | (simp [*]; done)), H', ⟨by have := HK1.out; have := HJ5.out; first | omega | exact Nat.le_refl _⟩, ⟨by (with_reducible repeat (first | apply Kd.R_alloc | apply Kd.R_drewN | apply Kd.R_drew)); exact Kd.R_mono (Kd.R_far (p := ⟨gb107, 2, none⟩) (Kd.R_far (p := ⟨gb107, 1, none⟩) (Kd.R_far (p := ⟨gb107, 0, none⟩) (Kd.R_mono HO_5.out (fun k_ hk => (⟨hk, hk.2⟩ : _ ∧ k_ ≠ gb107))) (fun _ hk => hk.2) (.int .i64 1)) (fun _ hk => hk.2) (.string (⟨#[]⟩ : ByteArray))) (fun _ hk => hk.2) (.int .i64 x6_1)) (fun _ hk => hk.1.2)⟩, ⟨by (with_reducible repeat (first | refine blk_drewN ?_ _ | refine blk_drew ?_ | refine blk_alloc ?_ _)); refine blk_put (cs := #[.int .i64 1, .string (⟨#[]⟩ : ByteArray), .int .i64 0]) ?_ 2 _ rfl; (with_reducible repeat (first | refine blk_drewN ?_ _ | refine blk_drew ?_ | refine blk_alloc ?_ _)); refine blk_put (cs := #[.int .i64 1, .string (⟨#[]⟩ : ByteArray), .int .i64 0]) ?_ 1 _ rfl; (with_reducible repeat (first | refine blk_drewN ?_ _ | refine blk_drew ?_ | refine blk_alloc ?_ _)); refine blk_put (cs := #[.int .i64 0, .string (⟨#[]⟩ : ByteArray), .int .i64 0]) ?_ 0 _ rfl; (with_reducible repeat (first | refine blk_drewN ?_ _ | refine blk_drew ?_ | refine blk_alloc ?_ _)); exact BK107.out⟩, ⟨by repeat (first | (with_reducible first | exact HB.out | apply below_alloc | apply pw_below_drewN | apply below_drew1 | refine below_set ?_ GE107.out) | exact HB.out)⟩⟩
                 ·replace c24 := Bool.eq_false_iff.mpr c24
                  subst c24
                  have H1 : (scan_Runs.j2 kj5 a0 x5_1 x6_1 t108 t109 true 1 (⟨#[]⟩ : ByteArray) x6_1) = some (r1, r2, r3) := by rw [if_neg (show ¬ (false = true) by decide)] at H; exact H
                  clear H
                  have H := H1
                  clear H1
                  have H' := Aside0.mk H
                  clear H
                  go_wp2_with (first | go_step3 | fail)
                  go_meet
                  case rel => exact ⟨_, (true), (by first | rfl | (simp; done) | (simp [*]; done)), H', ⟨by have := HK1.out; have := HJ5.out; first | omega | exact Nat.le_refl _⟩, ⟨by (with_reducible repeat (first | apply Kd.R_alloc | apply Kd.R_drewN | apply Kd.R_drew)); exact Kd.R_mono (Kd.R_far (p := ⟨gb107, 2, none⟩) (Kd.R_far (p := ⟨gb107, 1, none⟩) (Kd.R_far (p := ⟨gb107, 0, none⟩) (Kd.R_mono HO_5.out (fun k_ hk => (⟨hk, hk.2⟩ : _ ∧ k_ ≠ gb107))) (fun _ hk => hk.2) (.int .i64 1)) (fun _ hk => hk.2) (.string (⟨#[]⟩ : ByteArray))) (fun _ hk => hk.2) (.int .i64 x6_1)) (fun _ hk => hk.1.2)⟩, ⟨by (with_reducible repeat (first | refine blk_drewN ?_ _ | refine blk_drew ?_ | refine blk_alloc ?_ _)); refine blk_put (cs := #[.int .i64 1, .string (⟨#[]⟩ : ByteArray), .int .i64 0]) ?_ 2 _ rfl; (with_reducible repeat (first | refine blk_drewN ?_ _ | refine blk_drew ?_ | refine blk_alloc ?_ _)); refine blk_put (cs := #[.int .i64 1, .string (⟨#[]⟩ : ByteArray), .int .i64 0]) ?_ 1 _ rfl; (with_reducible repeat (first | refine blk_drewN ?_ _ | refine blk_drew ?_ | refine blk_alloc ?_ _)); refine blk_put (cs := #[.int .i64 0, .string (⟨#[]⟩ : ByteArray), .int .i64 0]) ?_ 0 _ rfl; (with_reducible repeat (first | refine blk_drewN ?_ _ | refine blk_drew ?_ | refine blk_alloc ?_ _)); exact BK107.out⟩, ⟨by repeat (first | (with_reducible first | exact HB.out | apply below_alloc | apply pw_below_drewN | apply below_drew1 | refine below_set ?_ GE107.out) | exact HB.out)⟩⟩
                case rest =>
                 clear HC23
                 try clear c1
                 try clear c2
                 try clear c2b0
                 try clear c2b1
                 try clear p2
                 try clear c3
                 try clear c3b0
                 try clear c4
                 try clear c4b0
                 try clear p5
                 try clear q5
                 try clear hx5
                 try clear p6
                 try clear c7
                 try clear c7b0
                 try clear c7b1
                 try clear c8
                 try clear c8b0
                 try clear c8b1
                 try clear c9
                 try clear c9b0
                 try clear c9b1
                 try clear c10
                 try clear c11
                 try clear c11b0
                 try clear c11b1
                 try clear c12
                 try clear c12b0
                 try clear c12b1
                 try clear c13
                 try clear c13b0
                 try clear c13b1
                 try clear c15
                 try clear c18
                 try clear c18b0
                 try clear c19
                 try clear c19b0
                 try clear c20
                 try clear c20b0
                 try clear c20b1
                 try clear c21
                 try clear c21b0
                 try clear c21b1
                 try clear c24
                 try clear c25
                 try clear c25b0
                 try clear hcz17_0
                 try clear hcz17_1
                 try clear hcz17_2
                 try clear hfz17_0
                 try clear hfz17_1
                 try clear hfz17_2
                 try clear p2
                 try clear p5
                 try clear q5
                 obtain ⟨kq, x63_22, rfl, HA, HJ22, HO_5, BK107, HB⟩ := hcut
                 cases kq with
                 | zero => exact absurd HA.out (by simp [scan_Runs.j2])
                 | succ kj22 =>
                  have H := HA.out
                  clear HA
                  simp only [scan_Runs.j2] at H
                  by_cases c26 : x63_22 = true
                  ·subst c26
                   have H1 : (some (([] : List (S35)), x6_1, 11)) = some (r1, r2, r3) := by rw [if_pos rfl] at H; exact H
                   clear H
                   have H := H1
                   clear H1
                   simp only [Option.some.injEq, Prod.mk.injEq] at H
                   obtain ⟨rfl, rfl, rfl⟩ := H
                   go_wp2_with (first | go_step3 | fail)
                   try rw [Exit.noGoto_ret]
                   go_ret3
                   exact ⟨_, by first | rfl | (simp [errW_none, errW_some] <;> rfl) | (simp [*, errW_none, errW_some] <;> rfl), by first | exact Kd.R_nil _ _ _ _ _ | exact Kd.N_nil _ _ _ _ _ | exact Kd.V_nil _ _ _ _ _ | exact Kd.Q_nil _ _ _ _ _ | exact Kd.S_nil _ _ _ _ _, by repeat (first | (with_reducible first | exact HB.out | apply below_alloc | apply pw_below_drewN | apply below_drew1 | refine below_set ?_ GE107.out) | exact HB.out)⟩
                  ·replace c26 := Bool.eq_false_iff.mpr c26
                   subst c26
                   have H1 : (if (wrap64 (x6_1 + t108)) = (a0.size : Int) then (some (([] : List (S35)), (a0.size : Int), 30)) else (scan_Runs.j3 kj22 a0 x5_1 (wrap64 (x6_1 + t108)) t109 (⟨#[]⟩ : ByteArray) x6_1)) = some (r1, r2, r3) := by rw [if_neg (show ¬ (false = true) by decide)] at H; exact H
                   clear H
                   have H := H1
                   clear H1
                   by_cases c27 : (wrap64 (x6_1 + t108)) = (a0.size : Int)
                   ·rw [if_pos c27] at H
                    have c27b0 : ((wrap64 (x6_1 + t108)) == (a0.size : Int)) = true := beq_iff_eq.mpr c27
                    have c27b1 : ((wrap64 (x6_1 + t108)) != (a0.size : Int)) = false := bne_eq_false_iff_eq.mpr c27
                    clear c27
                    simp only [Option.some.injEq, Prod.mk.injEq] at H
                    obtain ⟨rfl, rfl, rfl⟩ := H
                    have hcz28_0 : wc.cell? ⟨gb107, 0, none⟩ = some (.int .i64 1) := (blk_cell BK107.out 0).trans rfl
                    have hcz28_1 : wc.cell? ⟨gb107, 1, none⟩ = some (.string (⟨#[]⟩ : ByteArray)) := (blk_cell BK107.out 1).trans rfl
                    have hcz28_2 : wc.cell? ⟨gb107, 2, none⟩ = some (.int .i64 x6_1) := (blk_cell BK107.out 2).trans rfl
                    have hfz28_0 := blk_frozen BK107.out 0
                    have hfz28_1 := blk_frozen BK107.out 1
                    have hfz28_2 := blk_frozen BK107.out 2
                    go_wp2_with (first | go_step3 | fail)
                    try rw [Exit.noGoto_ret]
                    go_ret3
                    exact ⟨_, by first | rfl | (simp [errW_none, errW_some] <;> rfl) | (simp [*, errW_none, errW_some] <;> rfl), by first | exact Kd.R_nil _ _ _ _ _ | exact Kd.N_nil _ _ _ _ _ | exact Kd.V_nil _ _ _ _ _ | exact Kd.Q_nil _ _ _ _ _ | exact Kd.S_nil _ _ _ _ _, by repeat (first | (with_reducible first | exact HB.out | apply below_alloc | apply pw_below_drewN | apply below_drew1 | refine below_set ?_ GE107.out) | exact HB.out)⟩
                   ·rw [if_neg c27] at H
                    have c27b0 : ((wrap64 (x6_1 + t108)) == (a0.size : Int)) = false := beq_eq_false_iff_ne.mpr c27
                    have c27b1 : ((wrap64 (x6_1 + t108)) != (a0.size : Int)) = true := bne_iff_ne.mpr c27
                    have H' := Aside0.mk H
                    clear H
                    have hcz29_0 : wc.cell? ⟨gb107, 0, none⟩ = some (.int .i64 1) := (blk_cell BK107.out 0).trans rfl
                    have hcz29_1 : wc.cell? ⟨gb107, 1, none⟩ = some (.string (⟨#[]⟩ : ByteArray)) := (blk_cell BK107.out 1).trans rfl
                    have hcz29_2 : wc.cell? ⟨gb107, 2, none⟩ = some (.int .i64 x6_1) := (blk_cell BK107.out 2).trans rfl
                    have hfz29_0 := blk_frozen BK107.out 0
                    have hfz29_1 := blk_frozen BK107.out 1
                    have hfz29_2 := blk_frozen BK107.out 2
                    go_wp2_with (first | go_step3 | fail)
                    go_meet
                    case rel => exact ⟨_, (wrap64 (x6_1 + t108)), (t109), (by first | rfl | (simp; done) | (simp [*]; done)), H', ⟨by have := HK1.out; have := HJ5.out; have := HJ22.out; first | omega | exact Nat.le_refl _⟩, ⟨by (with_reducible repeat (first | apply Kd.R_alloc | apply Kd.R_drewN | apply Kd.R_drew)); exact Kd.R_mono (Kd.R_far (p := ⟨gb107, 0, none⟩) (Kd.R_mono HO_5.out (fun k_ hk => (⟨hk, hk⟩ : _ ∧ k_ ≠ gb107))) (fun _ hk => hk.2) (.int .i64 t109)) (fun _ hk => hk.1)⟩, ⟨by (with_reducible repeat (first | refine blk_drewN ?_ _ | refine blk_drew ?_ | refine blk_alloc ?_ _)); refine blk_put (cs := #[.int .i64 1, .string (⟨#[]⟩ : ByteArray), .int .i64 x6_1]) ?_ 0 _ rfl; (with_reducible repeat (first | refine blk_drewN ?_ _ | refine blk_drew ?_ | refine blk_alloc ?_ _)); exact BK107.out⟩, ⟨by repeat (first | (with_reducible first | exact HB.out | apply below_alloc | apply pw_below_drewN | apply below_drew1 | refine below_set ?_ GE107.out) | exact HB.out)⟩⟩
               ·rw [if_neg c21] at H
                exact absurd H (by simp)
              ·rw [if_neg c20] at H
               exact absurd H (by simp)
             ·rw [if_neg c18] at H
              have c18b0 : decide (0 < t108) = false := decide_eq_false c18
              clear c18
              (first | rw [c18b0] | (simp only [i64_w, i32_w]; rw [c18b0]) | skip)
              have H' := Aside0.mk H
              clear H
              go_wp2_with (first | go_step3 | fail)
              go_meet
              case rel => exact ⟨_, (x6_1), (1), (by first | rfl | (simp; done) | (simp [*]; done)), H', ⟨by have := HK1.out; have := HJ5.out; first | omega | exact Nat.le_refl _⟩, ⟨by (with_reducible repeat (first | apply Kd.R_alloc | apply Kd.R_drewN | apply Kd.R_drew)); exact Kd.R_mono (Kd.R_far (p := ⟨gb107, 2, none⟩) (Kd.R_far (p := ⟨gb107, 1, none⟩) (Kd.R_far (p := ⟨gb107, 0, none⟩) (Kd.R_mono HO_5.out (fun k_ hk => (⟨hk, hk.2⟩ : _ ∧ k_ ≠ gb107))) (fun _ hk => hk.2) (.int .i64 1)) (fun _ hk => hk.2) (.string (⟨#[]⟩ : ByteArray))) (fun _ hk => hk.2) (.int .i64 x6_1)) (fun _ hk => hk.1.2)⟩, ⟨by (with_reducible repeat (first | refine blk_drewN ?_ _ | refine blk_drew ?_ | refine blk_alloc ?_ _)); refine blk_put (cs := #[.int .i64 1, .string (⟨#[]⟩ : ByteArray), .int .i64 0]) ?_ 2 _ rfl; (with_reducible repeat (first | refine blk_drewN ?_ _ | refine blk_drew ?_ | refine blk_alloc ?_ _)); refine blk_put (cs := #[.int .i64 1, .string (⟨#[]⟩ : ByteArray), .int .i64 0]) ?_ 1 _ rfl; (with_reducible repeat (first | refine blk_drewN ?_ _ | refine blk_drew ?_ | refine blk_alloc ?_ _)); refine blk_put (cs := #[.int .i64 0, .string (⟨#[]⟩ : ByteArray), .int .i64 0]) ?_ 0 _ rfl; (with_reducible repeat (first | refine blk_drewN ?_ _ | refine blk_drew ?_ | refine blk_alloc ?_ _)); exact BK107.out⟩, ⟨by repeat (first | (with_reducible first | exact HB.out | apply below_alloc | apply pw_below_drewN | apply below_drew1 | refine below_set ?_ GE107.out) | exact HB.out)⟩⟩
            case rest =>
             clear HC15
             try clear c1
             try clear c2
             try clear c2b0
             try clear c2b1
             try clear p2
             try clear c3
             try clear c3b0
             try clear c4
             try clear c4b0
             try clear p5
             try clear q5
             try clear hx5
             try clear p6
             try clear c7
             try clear c7b0
             try clear c7b1
             try clear c8
             try clear c8b0
             try clear c8b1
             try clear c9
             try clear c9b0
             try clear c9b1
             try clear c10
             try clear c11
             try clear c11b0
             try clear c11b1
             try clear c12
             try clear c12b0
             try clear c12b1
             try clear c13
             try clear c13b0
             try clear c13b1
             try clear c15
             try clear c18
             try clear c18b0
             try clear c19
             try clear c19b0
             try clear c20
             try clear c20b0
             try clear c20b1
             try clear c21
             try clear c21b0
             try clear c21b1
             try clear c24
             try clear c25
             try clear c25b0
             try clear c26
             try clear c27
             try clear c27b0
             try clear c27b1
             try clear hcz17_0
             try clear hcz17_1
             try clear hcz17_2
             try clear hcz28_0
             try clear hcz28_1
             try clear hcz28_2
             try clear hcz29_0
             try clear hcz29_1
             try clear hcz29_2
             try clear hfz17_0
             try clear hfz17_1
             try clear hfz17_2
             try clear hfz28_0
             try clear hfz28_1
             try clear hfz28_2
             try clear hfz29_0
             try clear hfz29_1
             try clear hfz29_2
             try clear p2
             try clear p5
             try clear p6
             try clear q5
             obtain ⟨kq, x6_14, x108000_14, rfl, HA, HJ14, HO_5, BK107, HB⟩ := hcut
             cases kq with
             | zero => exact absurd HA.out (by simp [scan_Runs.j3])
             | succ kj14 =>
              have H := HA.out
              clear HA
              simp only [scan_Runs.j3] at H
              have HC30 := Aside0.mk H
              clear H
              go_upto_region 24 with (fail)
              go_cut [83] (fun v83 wc => ∃ (kq : Nat) (x83_29 : Bool), v83 = .bool x83_29 ∧ Aside0 (scan_Runs.j4 kq a0 x5_1 x6_14 1 x83_29 x108000_14 (⟨#[]⟩ : ByteArray) x6_1 = some (r1, r2, r3)) ∧ Aside0 (kq ≤ kj14) ∧ Aside0 (Kd.R k35 35 wc w.heap.size (fun k_ => k_ ≠ gb107) u5 x5_1) ∧ Aside0 (wc.heap[gb107]? = some (.cells #[.int .i64 x108000_14, .string (⟨#[]⟩ : ByteArray), .int .i64 x6_1] 35 (0, 0))) ∧ Aside0 (Below w.heap.size w wc))
              case first =>
               have H := HC30.out
               clear HC30
               by_cases c31 : 0 ≤ x6_14
               ·rw [if_pos c31] at H
                have c31b0 : decide (0 ≤ x6_14) = true := decide_eq_true c31
                clear c31
                (first | rw [c31b0] | (simp only [i64_w, i32_w]; rw [c31b0]) | skip)
                by_cases c32 : x6_14 < (a0.size : Int)
                ·rw [if_pos c32] at H
                 have c32b0 : decide (x6_14 < (a0.size : Int)) = true := decide_eq_true c32
                 clear c32
                 by_cases c34 : 112 ≤ (bt a0 x6_14)
                 ·rw [if_pos c34] at H
                  have c34b0 : decide (112 ≤ (bt a0 x6_14)) = true := decide_eq_true c34
                  clear c34
                  have H' := Aside0.mk H
                  clear H
                  have p33 : 0 ≤ (x6_14 : Int) := of_decide_eq_true (by first | (with_reducible assumption) | assumption)
                  have q33 : x6_14 < (a0.size : Int) := of_decide_eq_true (by first | (with_reducible assumption) | assumption)
                  have hx33 := bt_at a0 x6_14
                  replace p33 := eq_true p33
                  replace q33 := eq_true q33
                  have p35 : 0 ≤ (x6_14 : Int) := of_decide_eq_true (by first | (with_reducible assumption) | assumption)
                  have q35 : x6_14 < (a0.size : Int) := of_decide_eq_true (by first | (with_reducible assumption) | assumption)
                  have hx35 := bt_at a0 x6_14
                  replace p35 := eq_true p35
                  replace q35 := eq_true q35
                  go_wp2_with (first | go_step3 | fail)
                  go_meet
                  case rel => exact ⟨_, (decide ((bt a0 x6_14) ≤ 121)), (by first | rfl | (simp; done) | (simp [*]; done)), H', ⟨by have := HK1.out; have := HJ5.out; have := HJ14.out; first | omega | exact Nat.le_refl _⟩, ⟨by (with_reducible repeat (first | apply Kd.R_alloc | apply Kd.R_drewN | apply Kd.R_drew)); exact HO_5.out⟩, ⟨by (with_reducible repeat (first | refine blk_drewN ?_ _ | refine blk_drew ?_ | refine blk_alloc ?_ _)); exact BK107.out⟩, ⟨by repeat (first | (with_reducible first | exact HB.out | apply below_alloc | apply pw_below_drewN | apply below_drew1 | refine below_set ?_ GE107.out) | exact HB.out)⟩⟩
                 ·rw [if_neg c34] at H
                  have c34b0 : decide (112 ≤ (bt a0 x6_14)) = false := decide_eq_false c34
                  clear c34
                  have H' := Aside0.mk H
                  clear H
                  have p33 : 0 ≤ (x6_14 : Int) := of_decide_eq_true (by first | (with_reducible assumption) | assumption)
                  have q33 : x6_14 < (a0.size : Int) := of_decide_eq_true (by first | (with_reducible assumption) | assumption)
                  have hx33 := bt_at a0 x6_14
                  replace p33 := eq_true p33
                  replace q33 := eq_true q33
                  go_wp2_with (first | go_step3 | fail)
                  go_meet
                  case rel => exact ⟨_, (false), (by first | rfl | (simp; done) | (simp [*]; done)), H', ⟨by have := HK1.out; have := HJ5.out; have := HJ14.out; first | omega | exact Nat.le_refl _⟩, ⟨by (with_reducible repeat (first | apply Kd.R_alloc | apply Kd.R_drewN | apply Kd.R_drew)); exact HO_5.out⟩, ⟨by (with_reducible repeat (first | refine blk_drewN ?_ _ | refine blk_drew ?_ | refine blk_alloc ?_ _)); exact BK107.out⟩, ⟨by repeat (first | (with_reducible first | exact HB.out | apply below_alloc | apply pw_below_drewN | apply below_drew1 | refine below_set ?_ GE107.out) | exact HB.out)⟩⟩
                ·rw [if_neg c32] at H
                 exact absurd H (by simp)
               ·rw [if_neg c31] at H
                exact absurd H (by simp)
              case rest =>
               clear HC30
               try clear c1
               try clear c2
               try clear c2b0
               try clear c2b1
               try clear p2
               try clear c3
               try clear c3b0
               try clear p3
               try clear q3
               try clear hx3
               try clear c4
               try clear c4b0
               try clear p5
               try clear q5
               try clear hx5
               try clear p6
               try clear c7
               try clear c7b0
               try clear c7b1
               try clear c8
               try clear c8b0
               try clear c8b1
               try clear c9
               try clear c9b0
               try clear c9b1
               try clear c10
               try clear c11
               try clear c11b0
               try clear c11b1
               try clear c12
               try clear c12b0
               try clear c12b1
               try clear c13
               try clear c13b0
               try clear c13b1
               try clear c15
               try clear c18
               try clear c18b0
               try clear c19
               try clear c19b0
               try clear c20
               try clear c20b0
               try clear c20b1
               try clear c21
               try clear c21b0
               try clear c21b1
               try clear c24
               try clear c25
               try clear c25b0
               try clear c26
               try clear c27
               try clear c27b0
               try clear c27b1
               try clear c31
               try clear c31b0
               try clear c32
               try clear c32b0
               try clear p33
               try clear q33
               try clear hx33
               try clear c34
               try clear c34b0
               try clear p35
               try clear q35
               try clear hx35
               try clear hcz17_0
               try clear hcz17_1
               try clear hcz17_2
               try clear hcz28_0
               try clear hcz28_1
               try clear hcz28_2
               try clear hcz29_0
               try clear hcz29_1
               try clear hcz29_2
               try clear hfz17_0
               try clear hfz17_1
               try clear hfz17_2
               try clear hfz28_0
               try clear hfz28_1
               try clear hfz28_2
               try clear hfz29_0
               try clear hfz29_1
               try clear hfz29_2
               try clear p2
               try clear p33
               try clear p35
               try clear p5
               try clear p6
               try clear q33
               try clear q35
               try clear q5
               obtain ⟨kq, x83_29, rfl, HA, HJ29, HO_5, BK107, HB⟩ := hcut
               cases kq with
               | zero => exact absurd HA.out (by simp [scan_Runs.j4])
               | succ kj29 =>
                have H := HA.out
                clear HA
                simp only [scan_Runs.j4] at H
                by_cases c36 : x83_29 = true
                ·subst c36
                 have H1 : (if (wrap64 (x6_14 + 2)) > (a0.size : Int) then (some (([] : List (S35)), (a0.size : Int), 30)) else (if 0 ≤ x6_14 then (if x6_14 ≤ (wrap64 (x6_14 + 2)) then (if (wrap64 (x6_14 + 2)) ≤ (a0.size : Int) then ((scan_State.f kj29 (a0.extract (x6_14 : Int).toNat ((wrap64 (x6_14 + 2)) : Int).toNat)).bind fun bt111 => (if bt111.2 = true then (if x5_1.length < 4398046511104 then (scan_Runs.l0 kj29 a0 (x5_1 ++ [(⟨x108000_14, a0.extract (x6_14 : Int).toNat ((wrap64 (x6_14 + 2)) : Int).toNat, x6_1⟩ : S35)]) (wrap64 (x6_14 + 2))) else (none)) else (if (a0.extract (x6_14 : Int).toNat ((wrap64 (x6_14 + 2)) : Int).toNat).toList = ([36] : List UInt8) then (if x5_1.length < 4398046511104 then (scan_Runs.l0 kj29 a0 (x5_1 ++ [(⟨x108000_14, a0.extract (x6_14 : Int).toNat ((wrap64 (x6_14 + 2)) : Int).toNat, x6_1⟩ : S35)]) (wrap64 (x6_14 + 2))) else (none)) else (some (([] : List (S35)), x6_14, 31))))) else (none)) else (none)) else (none))) = some (r1, r2, r3) := by rw [if_pos rfl] at H; exact H
                 clear H
                 have H := H1
                 clear H1
                 by_cases c37 : (wrap64 (x6_14 + 2)) > (a0.size : Int)
                 ·rw [if_pos c37] at H
                  have c37b0 : decide ((a0.size : Int) < (wrap64 (x6_14 + 2))) = true := decide_eq_true c37
                  clear c37
                  simp only [Option.some.injEq, Prod.mk.injEq] at H
                  obtain ⟨rfl, rfl, rfl⟩ := H
                  go_wp2_with (first | go_step3 | fail)
                  try rw [Exit.noGoto_ret]
                  go_ret3
                  exact ⟨_, by first | rfl | (simp [errW_none, errW_some] <;> rfl) | (simp [*, errW_none, errW_some] <;> rfl), by first | exact Kd.R_nil _ _ _ _ _ | exact Kd.N_nil _ _ _ _ _ | exact Kd.V_nil _ _ _ _ _ | exact Kd.Q_nil _ _ _ _ _ | exact Kd.S_nil _ _ _ _ _, by repeat (first | (with_reducible first | exact HB.out | apply below_alloc | apply pw_below_drewN | apply below_drew1 | refine below_set ?_ GE107.out) | exact HB.out)⟩
                 ·rw [if_neg c37] at H
                  have c37b0 : decide ((a0.size : Int) < (wrap64 (x6_14 + 2))) = false := decide_eq_false c37
                  clear c37
                  by_cases c38 : 0 ≤ x6_14
                  ·rw [if_pos c38] at H
                   have c38b0 := eq_true c38
                   have c38b1 : decide (0 ≤ x6_14) = true := decide_eq_true c38
                   clear c38
                   by_cases c39 : x6_14 ≤ (wrap64 (x6_14 + 2))
                   ·rw [if_pos c39] at H
                    have c39b0 := eq_true c39
                    have c39b1 : decide (x6_14 ≤ (wrap64 (x6_14 + 2))) = true := decide_eq_true c39
                    by_cases c40 : (wrap64 (x6_14 + 2)) ≤ (a0.size : Int)
                    ·rw [if_pos c40] at H
                     have c40b0 := eq_true c40
                     have c40b1 : decide ((wrap64 (x6_14 + 2)) ≤ (a0.size : Int)) = true := decide_eq_true c40
                     replace H := Option.bind_eq_some_iff.mp H
                     obtain ⟨⟨t111, t112⟩, A410, H⟩ := H
                     replace H : (if t112 = true then (if x5_1.length < 4398046511104 then (scan_Runs.l0 kj29 a0 (x5_1 ++ [(⟨x108000_14, a0.extract (x6_14 : Int).toNat ((wrap64 (x6_14 + 2)) : Int).toNat, x6_1⟩ : S35)]) (wrap64 (x6_14 + 2))) else (none)) else (if (a0.extract (x6_14 : Int).toNat ((wrap64 (x6_14 + 2)) : Int).toNat).toList = ([36] : List UInt8) then (if x5_1.length < 4398046511104 then (scan_Runs.l0 kj29 a0 (x5_1 ++ [(⟨x108000_14, a0.extract (x6_14 : Int).toNat ((wrap64 (x6_14 + 2)) : Int).toNat, x6_1⟩ : S35)]) (wrap64 (x6_14 + 2))) else (none)) else (some (([] : List (S35)), x6_14, 31)))) = some (r1, r2, r3) := H
                     have A41 := Aside0.mk A410
                     clear A410
                     by_cases c42 : t112 = true
                     ·subst c42
                      have H1 : (if x5_1.length < 4398046511104 then (scan_Runs.l0 kj29 a0 (x5_1 ++ [(⟨x108000_14, a0.extract (x6_14 : Int).toNat ((wrap64 (x6_14 + 2)) : Int).toNat, x6_1⟩ : S35)]) (wrap64 (x6_14 + 2))) else (none)) = some (r1, r2, r3) := by rw [if_pos rfl] at H; exact H
                      clear H
                      have H := H1
                      clear H1
                      by_cases c43 : x5_1.length < 4398046511104
                      ·rw [if_pos c43] at H
                       have LMc43 := Aside0.mk c43
                       clear c43
                       obtain ⟨y113, hy113⟩ : ∃ y_ : List (S35), y_ = (x5_1 ++ [(⟨x108000_14, a0.extract (x6_14 : Int).toNat ((wrap64 (x6_14 + 2)) : Int).toNat, x6_1⟩ : S35)]) := ⟨_, rfl⟩
                       replace H : (scan_Runs.l0 kj29 a0 y113 (wrap64 (x6_14 + 2))) = some (r1, r2, r3) := by first | (rw [hy113]; with_reducible exact H) | (have H2_ := (Option.bind_some _ _).symm.trans H; rw [hy113]; with_reducible exact H2_) | (have H2_ := (Option.bind_some _ _).symm.trans H; with_reducible exact H2_) | with_reducible exact H | (rw [hy113]; exact H) | exact H
                       have Ny113 := Aside0.mk hy113
                       clear hy113
                       have H' := Aside0.mk H
                       clear H
                       have hcz44_0 : wc.cell? ⟨gb107, 0, none⟩ = some (.int .i64 x108000_14) := (blk_cell BK107.out 0).trans rfl
                       have hcz44_1 : wc.cell? ⟨gb107, 1, none⟩ = some (.string (⟨#[]⟩ : ByteArray)) := (blk_cell BK107.out 1).trans rfl
                       have hcz44_2 : wc.cell? ⟨gb107, 2, none⟩ = some (.int .i64 x6_1) := (blk_cell BK107.out 2).trans rfl
                       have hfz44_0 := blk_frozen BK107.out 0
                       have hfz44_1 := blk_frozen BK107.out 1
                       have hfz44_2 := blk_frozen BK107.out 2
                       go_wp2_with (first | go_step3 | ((with_reducible refine gate_callee (f := 22) rfl ?_); refine goesL_ (some 100) rfl rfl Try.func22 (by kernel_rfl) rfl #[.string (a0.extract (x6_14 : Int).toNat ((wrap64 (x6_14 + 2)) : Int).toNat)] rfl (by (try simp only [List.map_toArray, List.map_cons, List.map_nil]); first | done | rfl | (simp only [List.length_drop, List.length_take]; rfl)) ?_; (with_reducible refine (scan_State.calls kj29 (a0.extract (x6_14 : Int).toNat ((wrap64 (x6_14 + 2)) : Int).toNat) t111 true _ A41.out).mono ?_); rintro e w' ⟨rfl, ⟨nd, rfl⟩⟩; refine ⟨_, rfl, ?_⟩) | ((with_reducible refine gate_builtin (b := .append) (xs := #[.tmp 111, .tmp 113]) rfl ?_); at_builtin; refine Kd.R_append k35 (w0 := w) w.heap.size rfl (.tmp 111) (.tmp 113) 29 35 (.agg #[(.int .i64 0), (.string ⟨#[]⟩), (.int .i64 0)]) 32 rfl Try.underlying29 info35 rfl (by decide) (by omega) u5 x5_1 (⟨x108000_14, a0.extract (x6_14 : Int).toNat ((wrap64 (x6_14 + 2)) : Int).toNat, x6_1⟩ : S35) [.int .i64 x108000_14, .string (a0.extract (x6_14 : Int).toNat ((wrap64 (x6_14 + 2)) : Int).toNat), .int .i64 x6_1] (fun k_ => k_ ≠ gb107) (fun _ => False) rfl (by first | (go_simp; done) | (go_simp; rfl)) ?aP (fun _ hk => hk.elim) ?aF ?aO ?aB ?aS ?aL ?_; (case aP => exact k35_mkM _ _ _ (⟨x108000_14, a0.extract (x6_14 : Int).toNat ((wrap64 (x6_14 + 2)) : Int).toNat, x6_1⟩ : S35)); (case aB => exact (by repeat (first | (with_reducible first | exact HB.out | apply below_alloc | apply pw_below_drewN | apply below_drew1 | refine below_set ?_ GE107.out) | exact HB.out))); (case aF => exact (fun k_ hk => Kd.freshB (g := gb107) (o := .cells #[.int .i64 x108000_14, .string (a0.extract (x6_14 : Int).toNat ((wrap64 (x6_14 + 2)) : Int).toNat), .int .i64 x6_1] 35 (0, 0)) (by (with_reducible repeat (first | refine blk_drewN ?_ _ | refine blk_drew ?_ | refine blk_alloc ?_ _)); refine blk_put (cs := #[.int .i64 x108000_14, .string (⟨#[]⟩ : ByteArray), .int .i64 x6_1]) ?_ 1 _ rfl; (with_reducible repeat (first | refine blk_drewN ?_ _ | refine blk_drew ?_ | refine blk_alloc ?_ _)); exact BK107.out) k_ hk)); (case aO => exact (by (with_reducible repeat (first | apply Kd.R_alloc | apply Kd.R_drewN | apply Kd.R_drew)); exact Kd.R_mono (Kd.R_far (p := ⟨gb107, 1, none⟩) (Kd.R_mono HO_5.out (fun k_ hk => (⟨hk, hk⟩ : _ ∧ k_ ≠ gb107))) (fun _ hk => hk.2) (.string (a0.extract (x6_14 : Int).toNat ((wrap64 (x6_14 + 2)) : Int).toNat))) (fun _ hk => hk.1))); (case aS => exact (below_size (by repeat (first | (with_reducible first | exact HB.out | apply below_alloc | apply pw_below_drewN | apply below_drew1 | refine below_set ?_ GE107.out) | exact HB.out)))); (case aL => have := LMc43.out; omega); intro v114 w45 ho hb hg hat; rw [← Ny113.out] at ho; have n0_ := Aside0.mk (blk_grown (g := gb107) (o := .cells #[.int .i64 x108000_14, .string (a0.extract (x6_14 : Int).toNat ((wrap64 (x6_14 + 2)) : Int).toNat), .int .i64 x6_1] 35 (0, 0)) (by (with_reducible repeat (first | refine blk_drewN ?_ _ | refine blk_drew ?_ | refine blk_alloc ?_ _)); refine blk_put (cs := #[.int .i64 x108000_14, .string (⟨#[]⟩ : ByteArray), .int .i64 x6_1]) ?_ 1 _ rfl; (with_reducible repeat (first | refine blk_drewN ?_ _ | refine blk_drew ?_ | refine blk_alloc ?_ _)); exact BK107.out) hg (Kd.R_away HO_5.out (fun _ hk => hk))); have n1_ := Aside0.mk (hb); have n2_ := Aside0.mk (ho); clear BK107; clear HB; clear HO_5; have BK107 := n0_; have HB := n1_; have HO115 := n2_; clear n0_ n1_ n2_; clear ho hb hg hat))
                       go_roundg kj29
                       case measure => have := HK1.out; have := HJ5.out; have := HJ14.out; have := HJ29.out; omega
                       case rel => exact ⟨(y113), (wrap64 (x6_14 + 2)), (by first | rfl | (simp; done) | (simp [*]; done)), H', ⟨by have := HK1.out; have := HJ5.out; have := HJ14.out; have := HJ29.out; omega⟩, ⟨by (with_reducible repeat (first | apply Kd.R_alloc | apply Kd.R_drewN | apply Kd.R_drew)); exact Kd.R_mono HO115.out (fun _ hk => trivial)⟩, ⟨by repeat (first | (with_reducible first | exact HB.out | apply below_alloc | apply pw_below_drewN | apply below_drew1 | refine below_set ?_ GE107.out) | exact HB.out)⟩⟩
                      ·rw [if_neg c43] at H
                       exact absurd H (by simp)
                     ·replace c42 := Bool.eq_false_iff.mpr c42
                      subst c42
                      have H1 : (if (a0.extract (x6_14 : Int).toNat ((wrap64 (x6_14 + 2)) : Int).toNat).toList = ([36] : List UInt8) then (if x5_1.length < 4398046511104 then (scan_Runs.l0 kj29 a0 (x5_1 ++ [(⟨x108000_14, a0.extract (x6_14 : Int).toNat ((wrap64 (x6_14 + 2)) : Int).toNat, x6_1⟩ : S35)]) (wrap64 (x6_14 + 2))) else (none)) else (some (([] : List (S35)), x6_14, 31))) = some (r1, r2, r3) := by rw [if_neg (show ¬ (false = true) by decide)] at H; exact H
                      clear H
                      have H := H1
                      clear H1
                      by_cases c46 : (a0.extract (x6_14 : Int).toNat ((wrap64 (x6_14 + 2)) : Int).toNat).toList = ([36] : List UInt8)
                      ·rw [if_pos c46] at H
                       have c46b0 : ((a0.extract (x6_14 : Int).toNat ((wrap64 (x6_14 + 2)) : Int).toNat).toList == ([36] : List UInt8)) = true := beq_iff_eq.mpr c46
                       have c46b1 : ((a0.extract (x6_14 : Int).toNat ((wrap64 (x6_14 + 2)) : Int).toNat).toList != ([36] : List UInt8)) = false := bne_eq_false_iff_eq.mpr c46
                       clear c46
                       by_cases c47 : x5_1.length < 4398046511104
                       ·rw [if_pos c47] at H
                        have LMc47 := Aside0.mk c47
                        clear c47
                        obtain ⟨y116, hy116⟩ : ∃ y_ : List (S35), y_ = (x5_1 ++ [(⟨x108000_14, a0.extract (x6_14 : Int).toNat ((wrap64 (x6_14 + 2)) : Int).toNat, x6_1⟩ : S35)]) := ⟨_, rfl⟩
                        replace H : (scan_Runs.l0 kj29 a0 y116 (wrap64 (x6_14 + 2))) = some (r1, r2, r3) := by first | (rw [hy116]; with_reducible exact H) | (have H2_ := (Option.bind_some _ _).symm.trans H; rw [hy116]; with_reducible exact H2_) | (have H2_ := (Option.bind_some _ _).symm.trans H; with_reducible exact H2_) | with_reducible exact H | (rw [hy116]; exact H) | exact H
                        have Ny116 := Aside0.mk hy116
                        clear hy116
                        have H' := Aside0.mk H
                        clear H
                        have hcz48_0 : wc.cell? ⟨gb107, 0, none⟩ = some (.int .i64 x108000_14) := (blk_cell BK107.out 0).trans rfl
                        have hcz48_1 : wc.cell? ⟨gb107, 1, none⟩ = some (.string (⟨#[]⟩ : ByteArray)) := (blk_cell BK107.out 1).trans rfl
                        have hcz48_2 : wc.cell? ⟨gb107, 2, none⟩ = some (.int .i64 x6_1) := (blk_cell BK107.out 2).trans rfl
                        have hfz48_0 := blk_frozen BK107.out 0
                        have hfz48_1 := blk_frozen BK107.out 1
                        have hfz48_2 := blk_frozen BK107.out 2
                        go_wp2_with (first | go_step3 | ((with_reducible refine gate_callee (f := 22) rfl ?_); refine goesL_ (some 100) rfl rfl Try.func22 (by kernel_rfl) rfl #[.string (a0.extract (x6_14 : Int).toNat ((wrap64 (x6_14 + 2)) : Int).toNat)] rfl (by (try simp only [List.map_toArray, List.map_cons, List.map_nil]); first | done | rfl | (simp only [List.length_drop, List.length_take]; rfl)) ?_; (with_reducible refine (scan_State.calls kj29 (a0.extract (x6_14 : Int).toNat ((wrap64 (x6_14 + 2)) : Int).toNat) t111 false _ A41.out).mono ?_); rintro e w' ⟨rfl, ⟨nd, rfl⟩⟩; refine ⟨_, rfl, ?_⟩) | ((with_reducible refine gate_builtin (b := .append) (xs := #[.tmp 111, .tmp 113]) rfl ?_); at_builtin; refine Kd.R_append k35 (w0 := w) w.heap.size rfl (.tmp 111) (.tmp 113) 29 35 (.agg #[(.int .i64 0), (.string ⟨#[]⟩), (.int .i64 0)]) 32 rfl Try.underlying29 info35 rfl (by decide) (by omega) u5 x5_1 (⟨x108000_14, a0.extract (x6_14 : Int).toNat ((wrap64 (x6_14 + 2)) : Int).toNat, x6_1⟩ : S35) [.int .i64 x108000_14, .string (a0.extract (x6_14 : Int).toNat ((wrap64 (x6_14 + 2)) : Int).toNat), .int .i64 x6_1] (fun k_ => k_ ≠ gb107) (fun _ => False) rfl (by first | (go_simp; done) | (go_simp; rfl)) ?aP (fun _ hk => hk.elim) ?aF ?aO ?aB ?aS ?aL ?_; (case aP => exact k35_mkM _ _ _ (⟨x108000_14, a0.extract (x6_14 : Int).toNat ((wrap64 (x6_14 + 2)) : Int).toNat, x6_1⟩ : S35)); (case aB => exact (by repeat (first | (with_reducible first | exact HB.out | apply below_alloc | apply pw_below_drewN | apply below_drew1 | refine below_set ?_ GE107.out) | exact HB.out))); (case aF => exact (fun k_ hk => Kd.freshB (g := gb107) (o := .cells #[.int .i64 x108000_14, .string (a0.extract (x6_14 : Int).toNat ((wrap64 (x6_14 + 2)) : Int).toNat), .int .i64 x6_1] 35 (0, 0)) (by (with_reducible repeat (first | refine blk_drewN ?_ _ | refine blk_drew ?_ | refine blk_alloc ?_ _)); refine blk_put (cs := #[.int .i64 x108000_14, .string (⟨#[]⟩ : ByteArray), .int .i64 x6_1]) ?_ 1 _ rfl; (with_reducible repeat (first | refine blk_drewN ?_ _ | refine blk_drew ?_ | refine blk_alloc ?_ _)); exact BK107.out) k_ hk)); (case aO => exact (by (with_reducible repeat (first | apply Kd.R_alloc | apply Kd.R_drewN | apply Kd.R_drew)); exact Kd.R_mono (Kd.R_far (p := ⟨gb107, 1, none⟩) (Kd.R_mono HO_5.out (fun k_ hk => (⟨hk, hk⟩ : _ ∧ k_ ≠ gb107))) (fun _ hk => hk.2) (.string (a0.extract (x6_14 : Int).toNat ((wrap64 (x6_14 + 2)) : Int).toNat))) (fun _ hk => hk.1))); (case aS => exact (below_size (by repeat (first | (with_reducible first | exact HB.out | apply below_alloc | apply pw_below_drewN | apply below_drew1 | refine below_set ?_ GE107.out) | exact HB.out)))); (case aL => have := LMc47.out; omega); intro v117 w49 ho hb hg hat; rw [← Ny116.out] at ho; have n0_ := Aside0.mk (blk_grown (g := gb107) (o := .cells #[.int .i64 x108000_14, .string (a0.extract (x6_14 : Int).toNat ((wrap64 (x6_14 + 2)) : Int).toNat), .int .i64 x6_1] 35 (0, 0)) (by (with_reducible repeat (first | refine blk_drewN ?_ _ | refine blk_drew ?_ | refine blk_alloc ?_ _)); refine blk_put (cs := #[.int .i64 x108000_14, .string (⟨#[]⟩ : ByteArray), .int .i64 x6_1]) ?_ 1 _ rfl; (with_reducible repeat (first | refine blk_drewN ?_ _ | refine blk_drew ?_ | refine blk_alloc ?_ _)); exact BK107.out) hg (Kd.R_away HO_5.out (fun _ hk => hk))); have n1_ := Aside0.mk (hb); have n2_ := Aside0.mk (ho); clear BK107; clear HB; clear HO_5; have BK107 := n0_; have HB := n1_; have HO118 := n2_; clear n0_ n1_ n2_; clear ho hb hg hat))
                        go_roundg kj29
                        case measure => have := HK1.out; have := HJ5.out; have := HJ14.out; have := HJ29.out; omega
                        case rel => exact ⟨(y116), (wrap64 (x6_14 + 2)), (by first | rfl | (simp; done) | (simp [*]; done)), H', ⟨by have := HK1.out; have := HJ5.out; have := HJ14.out; have := HJ29.out; omega⟩, ⟨by (with_reducible repeat (first | apply Kd.R_alloc | apply Kd.R_drewN | apply Kd.R_drew)); exact Kd.R_mono HO118.out (fun _ hk => trivial)⟩, ⟨by repeat (first | (with_reducible first | exact HB.out | apply below_alloc | apply pw_below_drewN | apply below_drew1 | refine below_set ?_ GE107.out) | exact HB.out)⟩⟩
                       ·rw [if_neg c47] at H
                        exact absurd H (by simp)
                      ·rw [if_neg c46] at H
                       have c46b0 : ((a0.extract (x6_14 : Int).toNat ((wrap64 (x6_14 + 2)) : Int).toNat).toList == ([36] : List UInt8)) = false := beq_eq_false_iff_ne.mpr c46
                       have c46b1 : ((a0.extract (x6_14 : Int).toNat ((wrap64 (x6_14 + 2)) : Int).toNat).toList != ([36] : List UInt8)) = true := bne_iff_ne.mpr c46
                       simp only [Option.some.injEq, Prod.mk.injEq] at H
                       obtain ⟨rfl, rfl, rfl⟩ := H
                       have hcz50_0 : wc.cell? ⟨gb107, 0, none⟩ = some (.int .i64 x108000_14) := (blk_cell BK107.out 0).trans rfl
                       have hcz50_1 : wc.cell? ⟨gb107, 1, none⟩ = some (.string (⟨#[]⟩ : ByteArray)) := (blk_cell BK107.out 1).trans rfl
                       have hcz50_2 : wc.cell? ⟨gb107, 2, none⟩ = some (.int .i64 x6_1) := (blk_cell BK107.out 2).trans rfl
                       have hfz50_0 := blk_frozen BK107.out 0
                       have hfz50_1 := blk_frozen BK107.out 1
                       have hfz50_2 := blk_frozen BK107.out 2
                       go_wp2_with (first | go_step3 | ((with_reducible refine gate_callee (f := 22) rfl ?_); refine goesL_ (some 100) rfl rfl Try.func22 (by kernel_rfl) rfl #[.string (a0.extract (x6_14 : Int).toNat ((wrap64 (x6_14 + 2)) : Int).toNat)] rfl (by (try simp only [List.map_toArray, List.map_cons, List.map_nil]); first | done | rfl | (simp only [List.length_drop, List.length_take]; rfl)) ?_; (with_reducible refine (scan_State.calls kj29 (a0.extract (x6_14 : Int).toNat ((wrap64 (x6_14 + 2)) : Int).toNat) t111 false _ A41.out).mono ?_); rintro e w' ⟨rfl, ⟨nd, rfl⟩⟩; refine ⟨_, rfl, ?_⟩))
                       try rw [Exit.noGoto_ret]
                       go_ret3
                       exact ⟨_, by first | rfl | (simp [errW_none, errW_some] <;> rfl) | (simp [*, errW_none, errW_some] <;> rfl), by first | exact Kd.R_nil _ _ _ _ _ | exact Kd.N_nil _ _ _ _ _ | exact Kd.V_nil _ _ _ _ _ | exact Kd.Q_nil _ _ _ _ _ | exact Kd.S_nil _ _ _ _ _, by repeat (first | (with_reducible first | exact HB.out | apply below_alloc | apply pw_below_drewN | apply below_drew1 | refine below_set ?_ GE107.out) | exact HB.out)⟩
                    ·rw [if_neg c40] at H
                     exact absurd H (by simp)
                   ·rw [if_neg c39] at H
                    exact absurd H (by simp)
                  ·rw [if_neg c38] at H
                   exact absurd H (by simp)
                ·replace c36 := Bool.eq_false_iff.mpr c36
                 subst c36
                 have H1 : (if 0 ≤ x6_14 then (if x6_14 ≤ (wrap64 (x6_14 + 1)) then (if (wrap64 (x6_14 + 1)) ≤ (a0.size : Int) then ((scan_State.f kj29 (a0.extract (x6_14 : Int).toNat ((wrap64 (x6_14 + 1)) : Int).toNat)).bind fun bt119 => (if bt119.2 = true then (if x5_1.length < 4398046511104 then (scan_Runs.l0 kj29 a0 (x5_1 ++ [(⟨x108000_14, a0.extract (x6_14 : Int).toNat ((wrap64 (x6_14 + 1)) : Int).toNat, x6_1⟩ : S35)]) (wrap64 (x6_14 + 1))) else (none)) else (if (a0.extract (x6_14 : Int).toNat ((wrap64 (x6_14 + 1)) : Int).toNat).toList = ([36] : List UInt8) then (if x5_1.length < 4398046511104 then (scan_Runs.l0 kj29 a0 (x5_1 ++ [(⟨x108000_14, a0.extract (x6_14 : Int).toNat ((wrap64 (x6_14 + 1)) : Int).toNat, x6_1⟩ : S35)]) (wrap64 (x6_14 + 1))) else (none)) else (some (([] : List (S35)), x6_14, 31))))) else (none)) else (none)) else (none)) = some (r1, r2, r3) := by rw [if_neg (show ¬ (false = true) by decide)] at H; exact H
                 clear H
                 have H := H1
                 clear H1
                 by_cases c51 : 0 ≤ x6_14
                 ·rw [if_pos c51] at H
                  have c51b0 := eq_true c51
                  have c51b1 : decide (0 ≤ x6_14) = true := decide_eq_true c51
                  clear c51
                  by_cases c52 : x6_14 ≤ (wrap64 (x6_14 + 1))
                  ·rw [if_pos c52] at H
                   have c52b0 := eq_true c52
                   have c52b1 : decide (x6_14 ≤ (wrap64 (x6_14 + 1))) = true := decide_eq_true c52
                   by_cases c53 : (wrap64 (x6_14 + 1)) ≤ (a0.size : Int)
                   ·rw [if_pos c53] at H
                    have c53b0 := eq_true c53
                    have c53b1 : decide ((wrap64 (x6_14 + 1)) ≤ (a0.size : Int)) = true := decide_eq_true c53
                    replace H := Option.bind_eq_some_iff.mp H
                    obtain ⟨⟨t119, t120⟩, A540, H⟩ := H
                    replace H : (if t120 = true then (if x5_1.length < 4398046511104 then (scan_Runs.l0 kj29 a0 (x5_1 ++ [(⟨x108000_14, a0.extract (x6_14 : Int).toNat ((wrap64 (x6_14 + 1)) : Int).toNat, x6_1⟩ : S35)]) (wrap64 (x6_14 + 1))) else (none)) else (if (a0.extract (x6_14 : Int).toNat ((wrap64 (x6_14 + 1)) : Int).toNat).toList = ([36] : List UInt8) then (if x5_1.length < 4398046511104 then (scan_Runs.l0 kj29 a0 (x5_1 ++ [(⟨x108000_14, a0.extract (x6_14 : Int).toNat ((wrap64 (x6_14 + 1)) : Int).toNat, x6_1⟩ : S35)]) (wrap64 (x6_14 + 1))) else (none)) else (some (([] : List (S35)), x6_14, 31)))) = some (r1, r2, r3) := H
                    have A54 := Aside0.mk A540
                    clear A540
                    by_cases c55 : t120 = true
                    ·subst c55
                     have H1 : (if x5_1.length < 4398046511104 then (scan_Runs.l0 kj29 a0 (x5_1 ++ [(⟨x108000_14, a0.extract (x6_14 : Int).toNat ((wrap64 (x6_14 + 1)) : Int).toNat, x6_1⟩ : S35)]) (wrap64 (x6_14 + 1))) else (none)) = some (r1, r2, r3) := by rw [if_pos rfl] at H; exact H
                     clear H
                     have H := H1
                     clear H1
                     by_cases c56 : x5_1.length < 4398046511104
                     ·rw [if_pos c56] at H
                      have LMc56 := Aside0.mk c56
                      clear c56
                      obtain ⟨y121, hy121⟩ : ∃ y_ : List (S35), y_ = (x5_1 ++ [(⟨x108000_14, a0.extract (x6_14 : Int).toNat ((wrap64 (x6_14 + 1)) : Int).toNat, x6_1⟩ : S35)]) := ⟨_, rfl⟩
                      replace H : (scan_Runs.l0 kj29 a0 y121 (wrap64 (x6_14 + 1))) = some (r1, r2, r3) := by first | (rw [hy121]; with_reducible exact H) | (have H2_ := (Option.bind_some _ _).symm.trans H; rw [hy121]; with_reducible exact H2_) | (have H2_ := (Option.bind_some _ _).symm.trans H; with_reducible exact H2_) | with_reducible exact H | (rw [hy121]; exact H) | exact H
                      have Ny121 := Aside0.mk hy121
                      clear hy121
                      have H' := Aside0.mk H
                      clear H
                      have hcz57_0 : wc.cell? ⟨gb107, 0, none⟩ = some (.int .i64 x108000_14) := (blk_cell BK107.out 0).trans rfl
                      have hcz57_1 : wc.cell? ⟨gb107, 1, none⟩ = some (.string (⟨#[]⟩ : ByteArray)) := (blk_cell BK107.out 1).trans rfl
                      have hcz57_2 : wc.cell? ⟨gb107, 2, none⟩ = some (.int .i64 x6_1) := (blk_cell BK107.out 2).trans rfl
                      have hfz57_0 := blk_frozen BK107.out 0
                      have hfz57_1 := blk_frozen BK107.out 1
                      have hfz57_2 := blk_frozen BK107.out 2
                      go_wp2_with (first | go_step3 | ((with_reducible refine gate_callee (f := 22) rfl ?_); refine goesL_ (some 100) rfl rfl Try.func22 (by kernel_rfl) rfl #[.string (a0.extract (x6_14 : Int).toNat ((wrap64 (x6_14 + 1)) : Int).toNat)] rfl (by (try simp only [List.map_toArray, List.map_cons, List.map_nil]); first | done | rfl | (simp only [List.length_drop, List.length_take]; rfl)) ?_; (with_reducible refine (scan_State.calls kj29 (a0.extract (x6_14 : Int).toNat ((wrap64 (x6_14 + 1)) : Int).toNat) t119 true _ A54.out).mono ?_); rintro e w' ⟨rfl, ⟨nd, rfl⟩⟩; refine ⟨_, rfl, ?_⟩) | ((with_reducible refine gate_builtin (b := .append) (xs := #[.tmp 111, .tmp 113]) rfl ?_); at_builtin; refine Kd.R_append k35 (w0 := w) w.heap.size rfl (.tmp 111) (.tmp 113) 29 35 (.agg #[(.int .i64 0), (.string ⟨#[]⟩), (.int .i64 0)]) 32 rfl Try.underlying29 info35 rfl (by decide) (by omega) u5 x5_1 (⟨x108000_14, a0.extract (x6_14 : Int).toNat ((wrap64 (x6_14 + 1)) : Int).toNat, x6_1⟩ : S35) [.int .i64 x108000_14, .string (a0.extract (x6_14 : Int).toNat ((wrap64 (x6_14 + 1)) : Int).toNat), .int .i64 x6_1] (fun k_ => k_ ≠ gb107) (fun _ => False) rfl (by first | (go_simp; done) | (go_simp; rfl)) ?aP (fun _ hk => hk.elim) ?aF ?aO ?aB ?aS ?aL ?_; (case aP => exact k35_mkM _ _ _ (⟨x108000_14, a0.extract (x6_14 : Int).toNat ((wrap64 (x6_14 + 1)) : Int).toNat, x6_1⟩ : S35)); (case aB => exact (by repeat (first | (with_reducible first | exact HB.out | apply below_alloc | apply pw_below_drewN | apply below_drew1 | refine below_set ?_ GE107.out) | exact HB.out))); (case aF => exact (fun k_ hk => Kd.freshB (g := gb107) (o := .cells #[.int .i64 x108000_14, .string (a0.extract (x6_14 : Int).toNat ((wrap64 (x6_14 + 1)) : Int).toNat), .int .i64 x6_1] 35 (0, 0)) (by (with_reducible repeat (first | refine blk_drewN ?_ _ | refine blk_drew ?_ | refine blk_alloc ?_ _)); refine blk_put (cs := #[.int .i64 x108000_14, .string (⟨#[]⟩ : ByteArray), .int .i64 x6_1]) ?_ 1 _ rfl; (with_reducible repeat (first | refine blk_drewN ?_ _ | refine blk_drew ?_ | refine blk_alloc ?_ _)); exact BK107.out) k_ hk)); (case aO => exact (by (with_reducible repeat (first | apply Kd.R_alloc | apply Kd.R_drewN | apply Kd.R_drew)); exact Kd.R_mono (Kd.R_far (p := ⟨gb107, 1, none⟩) (Kd.R_mono HO_5.out (fun k_ hk => (⟨hk, hk⟩ : _ ∧ k_ ≠ gb107))) (fun _ hk => hk.2) (.string (a0.extract (x6_14 : Int).toNat ((wrap64 (x6_14 + 1)) : Int).toNat))) (fun _ hk => hk.1))); (case aS => exact (below_size (by repeat (first | (with_reducible first | exact HB.out | apply below_alloc | apply pw_below_drewN | apply below_drew1 | refine below_set ?_ GE107.out) | exact HB.out)))); (case aL => have := LMc56.out; omega); intro v122 w58 ho hb hg hat; rw [← Ny121.out] at ho; have n0_ := Aside0.mk (blk_grown (g := gb107) (o := .cells #[.int .i64 x108000_14, .string (a0.extract (x6_14 : Int).toNat ((wrap64 (x6_14 + 1)) : Int).toNat), .int .i64 x6_1] 35 (0, 0)) (by (with_reducible repeat (first | refine blk_drewN ?_ _ | refine blk_drew ?_ | refine blk_alloc ?_ _)); refine blk_put (cs := #[.int .i64 x108000_14, .string (⟨#[]⟩ : ByteArray), .int .i64 x6_1]) ?_ 1 _ rfl; (with_reducible repeat (first | refine blk_drewN ?_ _ | refine blk_drew ?_ | refine blk_alloc ?_ _)); exact BK107.out) hg (Kd.R_away HO_5.out (fun _ hk => hk))); have n1_ := Aside0.mk (hb); have n2_ := Aside0.mk (ho); clear BK107; clear HB; clear HO_5; have BK107 := n0_; have HB := n1_; have HO123 := n2_; clear n0_ n1_ n2_; clear ho hb hg hat))
                      go_roundg kj29
                      case measure => have := HK1.out; have := HJ5.out; have := HJ14.out; have := HJ29.out; omega
                      case rel => exact ⟨(y121), (wrap64 (x6_14 + 1)), (by first | rfl | (simp; done) | (simp [*]; done)), H', ⟨by have := HK1.out; have := HJ5.out; have := HJ14.out; have := HJ29.out; omega⟩, ⟨by (with_reducible repeat (first | apply Kd.R_alloc | apply Kd.R_drewN | apply Kd.R_drew)); exact Kd.R_mono HO123.out (fun _ hk => trivial)⟩, ⟨by repeat (first | (with_reducible first | exact HB.out | apply below_alloc | apply pw_below_drewN | apply below_drew1 | refine below_set ?_ GE107.out) | exact HB.out)⟩⟩
                     ·rw [if_neg c56] at H
                      exact absurd H (by simp)
                    ·replace c55 := Bool.eq_false_iff.mpr c55
                     subst c55
                     have H1 : (if (a0.extract (x6_14 : Int).toNat ((wrap64 (x6_14 + 1)) : Int).toNat).toList = ([36] : List UInt8) then (if x5_1.length < 4398046511104 then (scan_Runs.l0 kj29 a0 (x5_1 ++ [(⟨x108000_14, a0.extract (x6_14 : Int).toNat ((wrap64 (x6_14 + 1)) : Int).toNat, x6_1⟩ : S35)]) (wrap64 (x6_14 + 1))) else (none)) else (some (([] : List (S35)), x6_14, 31))) = some (r1, r2, r3) := by rw [if_neg (show ¬ (false = true) by decide)] at H; exact H
                     clear H
                     have H := H1
                     clear H1
                     by_cases c59 : (a0.extract (x6_14 : Int).toNat ((wrap64 (x6_14 + 1)) : Int).toNat).toList = ([36] : List UInt8)
                     ·rw [if_pos c59] at H
                      have c59b0 : ((a0.extract (x6_14 : Int).toNat ((wrap64 (x6_14 + 1)) : Int).toNat).toList == ([36] : List UInt8)) = true := beq_iff_eq.mpr c59
                      have c59b1 : ((a0.extract (x6_14 : Int).toNat ((wrap64 (x6_14 + 1)) : Int).toNat).toList != ([36] : List UInt8)) = false := bne_eq_false_iff_eq.mpr c59
                      clear c59
                      by_cases c60 : x5_1.length < 4398046511104
                      ·rw [if_pos c60] at H
                       have LMc60 := Aside0.mk c60
                       clear c60
                       obtain ⟨y124, hy124⟩ : ∃ y_ : List (S35), y_ = (x5_1 ++ [(⟨x108000_14, a0.extract (x6_14 : Int).toNat ((wrap64 (x6_14 + 1)) : Int).toNat, x6_1⟩ : S35)]) := ⟨_, rfl⟩
                       replace H : (scan_Runs.l0 kj29 a0 y124 (wrap64 (x6_14 + 1))) = some (r1, r2, r3) := by first | (rw [hy124]; with_reducible exact H) | (have H2_ := (Option.bind_some _ _).symm.trans H; rw [hy124]; with_reducible exact H2_) | (have H2_ := (Option.bind_some _ _).symm.trans H; with_reducible exact H2_) | with_reducible exact H | (rw [hy124]; exact H) | exact H
                       have Ny124 := Aside0.mk hy124
                       clear hy124
                       have H' := Aside0.mk H
                       clear H
                       have hcz61_0 : wc.cell? ⟨gb107, 0, none⟩ = some (.int .i64 x108000_14) := (blk_cell BK107.out 0).trans rfl
                       have hcz61_1 : wc.cell? ⟨gb107, 1, none⟩ = some (.string (⟨#[]⟩ : ByteArray)) := (blk_cell BK107.out 1).trans rfl
                       have hcz61_2 : wc.cell? ⟨gb107, 2, none⟩ = some (.int .i64 x6_1) := (blk_cell BK107.out 2).trans rfl
                       have hfz61_0 := blk_frozen BK107.out 0
                       have hfz61_1 := blk_frozen BK107.out 1
                       have hfz61_2 := blk_frozen BK107.out 2
                       go_wp2_with (first | go_step3 | ((with_reducible refine gate_callee (f := 22) rfl ?_); refine goesL_ (some 100) rfl rfl Try.func22 (by kernel_rfl) rfl #[.string (a0.extract (x6_14 : Int).toNat ((wrap64 (x6_14 + 1)) : Int).toNat)] rfl (by (try simp only [List.map_toArray, List.map_cons, List.map_nil]); first | done | rfl | (simp only [List.length_drop, List.length_take]; rfl)) ?_; (with_reducible refine (scan_State.calls kj29 (a0.extract (x6_14 : Int).toNat ((wrap64 (x6_14 + 1)) : Int).toNat) t119 false _ A54.out).mono ?_); rintro e w' ⟨rfl, ⟨nd, rfl⟩⟩; refine ⟨_, rfl, ?_⟩) | ((with_reducible refine gate_builtin (b := .append) (xs := #[.tmp 111, .tmp 113]) rfl ?_); at_builtin; refine Kd.R_append k35 (w0 := w) w.heap.size rfl (.tmp 111) (.tmp 113) 29 35 (.agg #[(.int .i64 0), (.string ⟨#[]⟩), (.int .i64 0)]) 32 rfl Try.underlying29 info35 rfl (by decide) (by omega) u5 x5_1 (⟨x108000_14, a0.extract (x6_14 : Int).toNat ((wrap64 (x6_14 + 1)) : Int).toNat, x6_1⟩ : S35) [.int .i64 x108000_14, .string (a0.extract (x6_14 : Int).toNat ((wrap64 (x6_14 + 1)) : Int).toNat), .int .i64 x6_1] (fun k_ => k_ ≠ gb107) (fun _ => False) rfl (by first | (go_simp; done) | (go_simp; rfl)) ?aP (fun _ hk => hk.elim) ?aF ?aO ?aB ?aS ?aL ?_; (case aP => exact k35_mkM _ _ _ (⟨x108000_14, a0.extract (x6_14 : Int).toNat ((wrap64 (x6_14 + 1)) : Int).toNat, x6_1⟩ : S35)); (case aB => exact (by repeat (first | (with_reducible first | exact HB.out | apply below_alloc | apply pw_below_drewN | apply below_drew1 | refine below_set ?_ GE107.out) | exact HB.out))); (case aF => exact (fun k_ hk => Kd.freshB (g := gb107) (o := .cells #[.int .i64 x108000_14, .string (a0.extract (x6_14 : Int).toNat ((wrap64 (x6_14 + 1)) : Int).toNat), .int .i64 x6_1] 35 (0, 0)) (by (with_reducible repeat (first | refine blk_drewN ?_ _ | refine blk_drew ?_ | refine blk_alloc ?_ _)); refine blk_put (cs := #[.int .i64 x108000_14, .string (⟨#[]⟩ : ByteArray), .int .i64 x6_1]) ?_ 1 _ rfl; (with_reducible repeat (first | refine blk_drewN ?_ _ | refine blk_drew ?_ | refine blk_alloc ?_ _)); exact BK107.out) k_ hk)); (case aO => exact (by (with_reducible repeat (first | apply Kd.R_alloc | apply Kd.R_drewN | apply Kd.R_drew)); exact Kd.R_mono (Kd.R_far (p := ⟨gb107, 1, none⟩) (Kd.R_mono HO_5.out (fun k_ hk => (⟨hk, hk⟩ : _ ∧ k_ ≠ gb107))) (fun _ hk => hk.2) (.string (a0.extract (x6_14 : Int).toNat ((wrap64 (x6_14 + 1)) : Int).toNat))) (fun _ hk => hk.1))); (case aS => exact (below_size (by repeat (first | (with_reducible first | exact HB.out | apply below_alloc | apply pw_below_drewN | apply below_drew1 | refine below_set ?_ GE107.out) | exact HB.out)))); (case aL => have := LMc60.out; omega); intro v125 w62 ho hb hg hat; rw [← Ny124.out] at ho; have n0_ := Aside0.mk (blk_grown (g := gb107) (o := .cells #[.int .i64 x108000_14, .string (a0.extract (x6_14 : Int).toNat ((wrap64 (x6_14 + 1)) : Int).toNat), .int .i64 x6_1] 35 (0, 0)) (by (with_reducible repeat (first | refine blk_drewN ?_ _ | refine blk_drew ?_ | refine blk_alloc ?_ _)); refine blk_put (cs := #[.int .i64 x108000_14, .string (⟨#[]⟩ : ByteArray), .int .i64 x6_1]) ?_ 1 _ rfl; (with_reducible repeat (first | refine blk_drewN ?_ _ | refine blk_drew ?_ | refine blk_alloc ?_ _)); exact BK107.out) hg (Kd.R_away HO_5.out (fun _ hk => hk))); have n1_ := Aside0.mk (hb); have n2_ := Aside0.mk (ho); clear BK107; clear HB; clear HO_5; have BK107 := n0_; have HB := n1_; have HO126 := n2_; clear n0_ n1_ n2_; clear ho hb hg hat))
                       go_roundg kj29
                       case measure => have := HK1.out; have := HJ5.out; have := HJ14.out; have := HJ29.out; omega
                       case rel => exact ⟨(y124), (wrap64 (x6_14 + 1)), (by first | rfl | (simp; done) | (simp [*]; done)), H', ⟨by have := HK1.out; have := HJ5.out; have := HJ14.out; have := HJ29.out; omega⟩, ⟨by (with_reducible repeat (first | apply Kd.R_alloc | apply Kd.R_drewN | apply Kd.R_drew)); exact Kd.R_mono HO126.out (fun _ hk => trivial)⟩, ⟨by repeat (first | (with_reducible first | exact HB.out | apply below_alloc | apply pw_below_drewN | apply below_drew1 | refine below_set ?_ GE107.out) | exact HB.out)⟩⟩
                      ·rw [if_neg c60] at H
                       exact absurd H (by simp)
                     ·rw [if_neg c59] at H
                      have c59b0 : ((a0.extract (x6_14 : Int).toNat ((wrap64 (x6_14 + 1)) : Int).toNat).toList == ([36] : List UInt8)) = false := beq_eq_false_iff_ne.mpr c59
                      have c59b1 : ((a0.extract (x6_14 : Int).toNat ((wrap64 (x6_14 + 1)) : Int).toNat).toList != ([36] : List UInt8)) = true := bne_iff_ne.mpr c59
                      simp only [Option.some.injEq, Prod.mk.injEq] at H
                      obtain ⟨rfl, rfl, rfl⟩ := H
                      have hcz63_0 : wc.cell? ⟨gb107, 0, none⟩ = some (.int .i64 x108000_14) := (blk_cell BK107.out 0).trans rfl
                      have hcz63_1 : wc.cell? ⟨gb107, 1, none⟩ = some (.string (⟨#[]⟩ : ByteArray)) := (blk_cell BK107.out 1).trans rfl
                      have hcz63_2 : wc.cell? ⟨gb107, 2, none⟩ = some (.int .i64 x6_1) := (blk_cell BK107.out 2).trans rfl
                      have hfz63_0 := blk_frozen BK107.out 0
                      have hfz63_1 := blk_frozen BK107.out 1
                      have hfz63_2 := blk_frozen BK107.out 2
                      go_wp2_with (first | go_step3 | ((with_reducible refine gate_callee (f := 22) rfl ?_); refine goesL_ (some 100) rfl rfl Try.func22 (by kernel_rfl) rfl #[.string (a0.extract (x6_14 : Int).toNat ((wrap64 (x6_14 + 1)) : Int).toNat)] rfl (by (try simp only [List.map_toArray, List.map_cons, List.map_nil]); first | done | rfl | (simp only [List.length_drop, List.length_take]; rfl)) ?_; (with_reducible refine (scan_State.calls kj29 (a0.extract (x6_14 : Int).toNat ((wrap64 (x6_14 + 1)) : Int).toNat) t119 false _ A54.out).mono ?_); rintro e w' ⟨rfl, ⟨nd, rfl⟩⟩; refine ⟨_, rfl, ?_⟩))
                      try rw [Exit.noGoto_ret]
                      go_ret3
                      exact ⟨_, by first | rfl | (simp [errW_none, errW_some] <;> rfl) | (simp [*, errW_none, errW_some] <;> rfl), by first | exact Kd.R_nil _ _ _ _ _ | exact Kd.N_nil _ _ _ _ _ | exact Kd.V_nil _ _ _ _ _ | exact Kd.Q_nil _ _ _ _ _ | exact Kd.S_nil _ _ _ _ _, by repeat (first | (with_reducible first | exact HB.out | apply below_alloc | apply pw_below_drewN | apply below_drew1 | refine below_set ?_ GE107.out) | exact HB.out)⟩
                   ·rw [if_neg c53] at H
                    exact absurd H (by simp)
                  ·rw [if_neg c52] at H
                   exact absurd H (by simp)
                 ·rw [if_neg c51] at H
                  exact absurd H (by simp)
           ·rw [if_neg c13] at H
            exact absurd H (by simp)
          ·rw [if_neg c12] at H
           exact absurd H (by simp)
     ·rw [if_neg c4] at H
      exact absurd H (by simp)
    ·rw [if_neg c3] at H
     have c3b0 : decide (x6_1 < (a0.size : Int)) = false := decide_eq_false c3
     clear c3
     simp only [Option.some.injEq, Prod.mk.injEq] at H
     obtain ⟨rfl, rfl, rfl⟩ := H
     go_wp2_with (first | go_step3 | fail)
     try rw [Exit.noGoto_ret]
     go_ret3
     exact ⟨_, by first | rfl | (simp [errW_none, errW_some] <;> rfl) | (simp [*, errW_none, errW_some] <;> rfl), by first | exact Kd.R_nil _ _ _ _ _ | exact Kd.N_nil _ _ _ _ _ | exact Kd.V_nil _ _ _ _ _ | exact Kd.Q_nil _ _ _ _ _ | exact Kd.S_nil _ _ _ _ _, by repeat (first | (with_reducible first | exact HB.out | apply below_alloc | apply pw_below_drewN | apply below_drew1) | exact HB.out)⟩

end Go.Proofs.Ytkahgdkpehlanaa.P

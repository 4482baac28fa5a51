-- Written by a program of this session (wip/tools/mk.py) that runs the kit's printer.
import Derived.Test.YtfgonglcmgahkaaP0
namespace Go.Proofs.Ytfgonglcmgahkaa.P
open Go.RowKit Go.Proofs.YtfgonglcmgahkaaW.PrintWords Go.Proofs.YtfgonglcmgahkaaW.PrintLast Go.Proofs.YtfgonglcmgahkaaW.PrintMore
attribute [local go_sem] max2_int min2_int max_two min_two max_three min_three max_four min_four   -- for this text's walks alone
set_option linter.unusedVariables false
set_option linter.unusedSimpArgs false

/-! ### vivariumlaw08_shuffled: function 29 -/
mutual
def vivariumlaw08_shuffled.l0 : Nat → Int → Int → List Int → Int → Option (ByteArray)
  | 0, _, _, _, _ => none
  | k + 1, x0, x1, x5, x6 => if x6 < 9 then (if 0 ≤ (IntKind.u64.wrap (x6)) then (if (Go.bits .and .u16 (shr .u16 x0 (IntKind.u64.wrap (x6))) 1) = 1 then (if x5.length < 140737488355328 then (vivariumlaw08_shuffled.l0 k x0 x1 (x5 ++ [(wrap64 (48 + x6)) % 256]) (wrap64 (x6 + 1))) else (none)) else (vivariumlaw08_shuffled.l0 k x0 x1 x5 (wrap64 (x6 + 1)))) else (none)) else (vivariumlaw08_shuffled.l1 k x1 x5 (⟨#[]⟩ : ByteArray))
def vivariumlaw08_shuffled.l1 : Nat → Int → List Int → ByteArray → Option (ByteArray)
  | 0, _, _, _ => none
  | k + 1, x1, x5, x7 => if (x5.length : Int) > 0 then (if (IntKind.u64.wrap ((x5.length : Int))) = 0 then (none) else (if 0 ≤ (wrap64 (Int.tmod x1 (IntKind.u64.wrap ((x5.length : Int))))) then (if (wrap64 (Int.tmod x1 (IntKind.u64.wrap ((x5.length : Int))))) ≤ (wrap64 ((wrap64 (Int.tmod x1 (IntKind.u64.wrap ((x5.length : Int))))) + 1)) then (if (wrap64 ((wrap64 (Int.tmod x1 (IntKind.u64.wrap ((x5.length : Int))))) + 1)) ≤ (x5.length : Int) then ((some ((x5.take ((wrap64 ((wrap64 (Int.tmod x1 (IntKind.u64.wrap ((x5.length : Int))))) + 1)) : Int).toNat).drop ((wrap64 (Int.tmod x1 (IntKind.u64.wrap ((x5.length : Int))))) : Int).toNat : List Int)).bind fun y313 => (if x7.size + (strOfNums y313).size ≤ 9223372036854775807 then (if (wrap64 (Int.tmod x1 (IntKind.u64.wrap ((x5.length : Int))))) ≤ (x5.length : Int) then ((some (x5.take ((wrap64 (Int.tmod x1 (IntKind.u64.wrap ((x5.length : Int))))) : Int).toNat : List Int)).bind fun y317 => (if ([] : List Int).length + y317.length < 140737488355328 then ((some (([] : List Int) ++ y317 : List Int)).bind fun y321 => (if 0 ≤ (wrap64 ((wrap64 (Int.tmod x1 (IntKind.u64.wrap ((x5.length : Int))))) + 1)) then ((some (x5.drop ((wrap64 ((wrap64 (Int.tmod x1 (IntKind.u64.wrap ((x5.length : Int))))) + 1)) : Int).toNat : List Int)).bind fun y324 => (if y321.length + y324.length < 140737488355328 then (vivariumlaw08_shuffled.l1 k (IntKind.u64.wrap (Int.tdiv x1 3)) (y321 ++ y324) (x7 ++ (strOfNums y313))) else (none))) else (none))) else (none))) else (none)) else (none))) else (none)) else (none)) else (none))) else (some x7)
end
def vivariumlaw08_shuffled.f (k : Nat) (a0 : Int) (a1 : Int) : Option (ByteArray) := vivariumlaw08_shuffled.l0 k a0 a1 ([] : List Int) 0
theorem vivariumlaw08_shuffled.mono_l : ∀ k, (∀ y0 y1 y2 y3, LeO (vivariumlaw08_shuffled.l0 k y0 y1 y2 y3) (vivariumlaw08_shuffled.l0 (k + 1) y0 y1 y2 y3)) ∧ (∀ y0 y1 y2, LeO (vivariumlaw08_shuffled.l1 k y0 y1 y2) (vivariumlaw08_shuffled.l1 (k + 1) y0 y1 y2))
  | 0 => ⟨fun _ _ _ _ r h => by simp [vivariumlaw08_shuffled.l0] at h, fun _ _ _ r h => by simp [vivariumlaw08_shuffled.l1] at h⟩
  | k + 1 => by
    obtain ⟨ih0, ih1⟩ := vivariumlaw08_shuffled.mono_l k
    refine ⟨?_, ?_⟩
    · intro y0 y1 y2 y3
      unfold vivariumlaw08_shuffled.l0
      repeat' first
      | (with_reducible exact ih0 _ _ _ _)
      | (with_reducible exact ih1 _ _ _)
      | (with_reducible exact LeO.refl _)
      | (with_reducible exact LeO.none _)
      | (with_reducible refine LeO.ite ?_ ?_)
      | (with_reducible refine LeO.bind ?_ (fun _ => ?_))
      | exact ih0 _ _ _ _
      | exact ih1 _ _ _
      | exact LeO.none _
      | refine LeO.ite ?_ ?_
      | refine LeO.bind ?_ (fun _ => ?_)
    · intro y0 y1 y2
      unfold vivariumlaw08_shuffled.l1
      repeat' first
      | (with_reducible exact ih0 _ _ _ _)
      | (with_reducible exact ih1 _ _ _)
      | (with_reducible exact LeO.refl _)
      | (with_reducible exact LeO.none _)
      | (with_reducible refine LeO.ite ?_ ?_)
      | (with_reducible refine LeO.bind ?_ (fun _ => ?_))
      | exact ih0 _ _ _ _
      | exact ih1 _ _ _
      | exact LeO.none _
      | refine LeO.ite ?_ ?_
      | refine LeO.bind ?_ (fun _ => ?_)
theorem vivariumlaw08_shuffled.mono : ∀ a0 a1 k, LeO (vivariumlaw08_shuffled.f k a0 a1) (vivariumlaw08_shuffled.f (k + 1) a0 a1) := by
  intro a0 a1 k
  obtain ⟨ih0, ih1⟩ := vivariumlaw08_shuffled.mono_l k
  unfold vivariumlaw08_shuffled.f
  repeat' first
      | (with_reducible exact ih0 _ _ _ _)
      | (with_reducible exact ih1 _ _ _)
      | (with_reducible exact LeO.refl _)
      | (with_reducible exact LeO.none _)
      | (with_reducible refine LeO.ite ?_ ?_)
      | (with_reducible refine LeO.bind ?_ (fun _ => ?_))
      | exact ih0 _ _ _ _
      | exact ih1 _ _ _
      | exact LeO.none _
      | refine LeO.ite ?_ ?_
      | refine LeO.bind ?_ (fun _ => ?_)
set_option maxHeartbeats 8000000 in
set_option maxRecDepth 100000 in
theorem vivariumlaw08_shuffled.calls (k : Nat) (a0 : Int) (a1 : Int) (r : ByteArray) (w : World) (h : vivariumlaw08_shuffled.f k a0 a1 = some r) :
    Calls Try.prog 29 #[.int .u16 a0, .int .u64 a1] w fun e w' => e = .returned (.string r) ∧ Below w.heap.size w w' := by
  have HB := Aside0.mk (Below.refl w.heap.size w)
  have H : (vivariumlaw08_shuffled.l0 k a0 a1 ([] : List Int) 0) = some r := h
  clear h
  have H' := Aside0.mk H
  clear H
  go_enter Try.func29, Try.ntmps29
  go_wp2
  go_loopg [5, 6] k (fun kq v5 v6 w' => ∃ (x5_1 : List Int) (x6_1 : Int), v6 = .int .i64 x6_1 ∧ Aside0 (vivariumlaw08_shuffled.l0 kq a0 a1 x5_1 x6_1 = some r) ∧ Aside0 (kq ≤ k) ∧ Aside0 (Kd.R (Kd.int .u8) 5 w' w.heap.size (fun _ => True) v5 x5_1) ∧ Aside0 (Below w.heap.size w w'))
  case atStart => exact ⟨(([] : List Int)), (0), (by first | rfl | (simp; done) | (simp [*]; done)), H', ⟨Nat.le_refl _⟩, ⟨by first | exact Kd.R_nil _ _ _ _ _ | exact Kd.N_nil _ _ _ _ _ | exact Kd.V_nil _ _ _ _ _ | exact Kd.Q_nil _ _ _ _ _ | exact Kd.S_nil _ _ _ _ _⟩, ⟨by repeat (first | (with_reducible first | exact HB.out | apply below_alloc | apply pw_below_drewN | apply below_drew1) | exact HB.out)⟩⟩
  case round =>
    clear H'
    try clear c2
    try clear p2
    obtain ⟨x5_1, x6_1, rfl, HA, HK1, HO_5, HB⟩ := hrel
    cases gk with
    | zero => exact absurd HA.out (by simp [vivariumlaw08_shuffled.l0])
    | succ k1 =>
      have H := HA.out
      clear HA
      simp only [vivariumlaw08_shuffled.l0] at H
      by_cases c3 : x6_1 < 9
      · rw [if_pos c3] at H
        have c3b0 : decide (x6_1 < 9) = true := decide_eq_true c3
        clear c3
        obtain ⟨ji4, hji4⟩ : ∃ j_ : Int, (IntKind.u64.wrap (x6_1)) = j_ := ⟨_, rfl⟩
        replace H : (if 0 ≤ (ji4) then (if (Go.bits .and .u16 (shr .u16 a0 (ji4)) 1) = 1 then (if x5_1.length < 140737488355328 then (vivariumlaw08_shuffled.l0 k1 a0 a1 (x5_1 ++ [(wrap64 (48 + x6_1)) % 256]) (wrap64 (x6_1 + 1))) else (none)) else (vivariumlaw08_shuffled.l0 k1 a0 a1 x5_1 (wrap64 (x6_1 + 1)))) else (none)) = some r := by first | (rw [hji4] at H; exact H) | (simp only [hji4] at H ⊢; exact H)
        by_cases c5 : 0 ≤ (ji4)
        · rw [if_pos c5] at H
          have c5b0 := eq_true c5
          have c5b1 : decide (0 ≤ (ji4)) = true := decide_eq_true c5
          clear c5
          obtain ⟨ji6, hji6⟩ : ∃ j_ : Int, (shr .u16 a0 (ji4)) = j_ := ⟨_, rfl⟩
          replace H : (if (Go.bits .and .u16 (ji6) 1) = 1 then (if x5_1.length < 140737488355328 then (vivariumlaw08_shuffled.l0 k1 a0 a1 (x5_1 ++ [(wrap64 (48 + x6_1)) % 256]) (wrap64 (x6_1 + 1))) else (none)) else (vivariumlaw08_shuffled.l0 k1 a0 a1 x5_1 (wrap64 (x6_1 + 1)))) = some r := by first | (rw [hji6] at H; exact H) | (simp only [hji6] at H ⊢; exact H)
          have hji6_ : (a0 / 2 ^ min (ji4).toNat 16) = ji6 := hji6
          have hji6z : (ji4) ≤ 16 → (a0 / 2 ^ (ji4).toNat) = ji6 := shr_small hji6
          by_cases c7 : (Go.bits .and .u16 (ji6) 1) = 1
          · rw [if_pos c7] at H
            have c7b0 : ((Go.bits .and .u16 (ji6) 1) == 1) = true := beq_iff_eq.mpr c7
            have c7b1 : ((Go.bits .and .u16 (ji6) 1) != 1) = false := bne_eq_false_iff_eq.mpr c7
            clear c7
            by_cases c8 : x5_1.length < 140737488355328
            · rw [if_pos c8] at H
              have LMc8 := Aside0.mk c8
              clear c8
              obtain ⟨y310, hy310⟩ : ∃ y_ : List Int, y_ = (x5_1 ++ [(wrap64 (48 + x6_1)) % 256]) := ⟨_, rfl⟩
              replace H : (vivariumlaw08_shuffled.l0 k1 a0 a1 y310 (wrap64 (x6_1 + 1))) = some r := by first | (rw [hy310]; with_reducible exact H) | (have H2_ := (Option.bind_some _ _).symm.trans H; rw [hy310]; with_reducible exact H2_) | (have H2_ := (Option.bind_some _ _).symm.trans H; with_reducible exact H2_) | with_reducible exact H | (rw [hy310]; exact H) | exact H
              have Ny310 := Aside0.mk hy310
              clear hy310
              have H' := Aside0.mk H
              clear H
              go_wp2_with (first | ((with_reducible refine gate_builtin (b := .append) (xs := #[.tmp 20, .tmp 24]) rfl ?_); at_builtin; refine Kd.R_append (Kd.int .u8) (w0 := w) w.heap.size rfl (.tmp 20) (.tmp 24) 34 5 (.int .u8 0) 1 rfl Try.underlying34 info5 rfl (by decide) (by omega) u5 x5_1 ((wrap64 (48 + x6_1)) % 256) [.int .u8 ((wrap64 (48 + x6_1)) % 256)] (fun _ => True) (fun _ => False) rfl rfl ?aP (fun _ hk => hk.elim) ?aF ?aO ?aB ?aS ?aL ?_; (case aP => exact rfl); (case aB => exact (by repeat (first | (with_reducible first | exact HB.out | apply below_alloc | apply pw_below_drewN | apply below_drew1) | exact HB.out))); (case aF => exact (fun _ _ => trivial)); (case aO => exact (by (with_reducible repeat (first | apply Kd.R_alloc | apply Kd.R_drewN | apply Kd.R_drew)); exact HO_5.out)); (case aS => exact (below_size (by repeat (first | (with_reducible first | exact HB.out | apply below_alloc | apply pw_below_drewN | apply below_drew1) | exact HB.out)))); (case aL => have := LMc8.out; omega); intro v311 w9 ho hb hg hat; rw [← Ny310.out] at ho; have n0_ := Aside0.mk (hb); have n1_ := Aside0.mk (ho); clear HB; clear HO_5; have HB := n0_; have HO312 := n1_; clear n0_ n1_; clear ho hb hg hat))
              go_roundg k1
              case measure => have := HK1.out; omega
              case rel => exact ⟨(y310), (wrap64 (x6_1 + 1)), (by first | rfl | (simp; done) | (simp [*]; done)), H', ⟨by have := HK1.out; omega⟩, ⟨by (with_reducible repeat (first | apply Kd.R_alloc | apply Kd.R_drewN | apply Kd.R_drew)); exact HO312.out⟩, ⟨by repeat (first | (with_reducible first | exact HB.out | apply below_alloc | apply pw_below_drewN | apply below_drew1) | exact HB.out)⟩⟩
            · rw [if_neg c8] at H
              exact absurd H (by simp)
          · rw [if_neg c7] at H
            have c7b0 : ((Go.bits .and .u16 (ji6) 1) == 1) = false := beq_eq_false_iff_ne.mpr c7
            have c7b1 : ((Go.bits .and .u16 (ji6) 1) != 1) = true := bne_iff_ne.mpr c7
            have H' := Aside0.mk H
            clear H
            go_wp2
            go_roundg k1
            case measure => have := HK1.out; omega
            case rel => exact ⟨(x5_1), (wrap64 (x6_1 + 1)), (by first | rfl | (simp; done) | (simp [*]; done)), H', ⟨by have := HK1.out; omega⟩, ⟨by (with_reducible repeat (first | apply Kd.R_alloc | apply Kd.R_drewN | apply Kd.R_drew)); exact HO_5.out⟩, ⟨by repeat (first | (with_reducible first | exact HB.out | apply below_alloc | apply pw_below_drewN | apply below_drew1) | exact HB.out)⟩⟩
        · rw [if_neg c5] at H
          exact absurd H (by simp)
      · rw [if_neg c3] at H
        have c3b0 : decide (x6_1 < 9) = false := decide_eq_false c3
        clear c3
        have H' := Aside0.mk H
        clear H
        go_wp2
        go_loopg [1, 5, 7] k1 (fun kq v1 v5 v7 w' => ∃ (x1_2 : Int) (x5_2 : List Int) (x7_2 : ByteArray), v1 = .int .u64 x1_2 ∧ v7 = .string x7_2 ∧ Aside0 (vivariumlaw08_shuffled.l1 kq x1_2 x5_2 x7_2 = some r) ∧ Aside0 (kq ≤ k1) ∧ Aside0 (Kd.R (Kd.int .u8) 5 w' w.heap.size (fun _ => True) v5 x5_2) ∧ Aside0 (Below w.heap.size w w'))
        case atStart => exact ⟨(a1), (x5_1), ((⟨#[]⟩ : ByteArray)), (by first | rfl | (simp; done) | (simp [*]; done)), (by first | rfl | (simp; done) | (simp [*]; done)), H', ⟨Nat.le_refl _⟩, ⟨by (with_reducible repeat (first | apply Kd.R_alloc | apply Kd.R_drewN | apply Kd.R_drew)); exact HO_5.out⟩, ⟨by repeat (first | (with_reducible first | exact HB.out | apply below_alloc | apply pw_below_drewN | apply below_drew1) | exact HB.out)⟩⟩
        case round =>
          clear H'
          try clear c2
          try clear p2
          try clear c3
          try clear c3b0
          try clear c5
          try clear c5b0
          try clear c5b1
          try clear p6
          try clear c7
          try clear c7b0
          try clear c7b1
          try clear c8
          try clear p2
          obtain ⟨x1_2, x5_2, x7_2, rfl, rfl, HA, HK2, HO_5, HB⟩ := hrel
          cases gk with
          | zero => exact absurd HA.out (by simp [vivariumlaw08_shuffled.l1])
          | succ k2 =>
            have H := HA.out
            clear HA
            simp only [vivariumlaw08_shuffled.l1] at H
            by_cases c10 : (x5_2.length : Int) > 0
            · rw [if_pos c10] at H
              have c10b0 : decide (0 < (x5_2.length : Int)) = true := decide_eq_true c10
              have c10b1 : decide (0 < x5_2.length) = true := decide_eq_true (by omega)
              clear c10
              by_cases c11 : (IntKind.u64.wrap ((x5_2.length : Int))) = 0
              · rw [if_pos c11] at H
                exact absurd H (by simp)
              · rw [if_neg c11] at H
                have c11b0 : ((IntKind.u64.wrap ((x5_2.length : Int))) == 0) = false := beq_eq_false_iff_ne.mpr c11
                have c11b1 : ((IntKind.u64.wrap ((x5_2.length : Int))) != 0) = true := bne_iff_ne.mpr c11
                obtain ⟨ji12, hji12⟩ : ∃ j_ : Int, (wrap64 (Int.tmod x1_2 (IntKind.u64.wrap ((x5_2.length : Int))))) = j_ := ⟨_, rfl⟩
                replace H : (if 0 ≤ (ji12) then (if (ji12) ≤ (wrap64 ((ji12) + 1)) then (if (wrap64 ((ji12) + 1)) ≤ (x5_2.length : Int) then ((some ((x5_2.take ((wrap64 ((ji12) + 1)) : Int).toNat).drop ((ji12) : Int).toNat : List Int)).bind fun y313 => (if x7_2.size + (strOfNums y313).size ≤ 9223372036854775807 then (if (ji12) ≤ (x5_2.length : Int) then ((some (x5_2.take ((ji12) : Int).toNat : List Int)).bind fun y317 => (if ([] : List Int).length + y317.length < 140737488355328 then ((some (([] : List Int) ++ y317 : List Int)).bind fun y321 => (if 0 ≤ (wrap64 ((ji12) + 1)) then ((some (x5_2.drop ((wrap64 ((ji12) + 1)) : Int).toNat : List Int)).bind fun y324 => (if y321.length + y324.length < 140737488355328 then (vivariumlaw08_shuffled.l1 k2 (IntKind.u64.wrap (Int.tdiv x1_2 3)) (y321 ++ y324) (x7_2 ++ (strOfNums y313))) else (none))) else (none))) else (none))) else (none)) else (none))) else (none)) else (none)) else (none)) = some r := by first | (rw [hji12] at H; exact H) | (simp only [hji12] at H ⊢; exact H)
                have hji12w : (IntKind.i64.wrap (Int.tmod x1_2 (IntKind.u64.wrap ((x5_2.length : Int))))) = ji12 := (i64_w _).trans hji12
                by_cases c13 : 0 ≤ (ji12)
                · rw [if_pos c13] at H
                  have c13b0 := eq_true c13
                  have c13b1 : decide (0 ≤ (ji12)) = true := decide_eq_true c13
                  clear c13
                  by_cases c14 : (ji12) ≤ (wrap64 ((ji12) + 1))
                  · rw [if_pos c14] at H
                    have c14b0 := eq_true c14
                    have c14b1 : decide ((ji12) ≤ (wrap64 ((ji12) + 1))) = true := decide_eq_true c14
                    by_cases c15 : (wrap64 ((ji12) + 1)) ≤ (x5_2.length : Int)
                    · rw [if_pos c15] at H
                      have c15b0 := eq_true c15
                      have c15b1 : decide ((wrap64 ((ji12) + 1)) ≤ (x5_2.length : Int)) = true := decide_eq_true c15
                      obtain ⟨y313, hy313⟩ : ∃ y_ : List Int, y_ = ((x5_2.take ((wrap64 ((ji12) + 1)) : Int).toNat).drop ((ji12) : Int).toNat) := ⟨_, rfl⟩
                      replace H : (if x7_2.size + (strOfNums y313).size ≤ 9223372036854775807 then (if (ji12) ≤ (x5_2.length : Int) then ((some (x5_2.take ((ji12) : Int).toNat : List Int)).bind fun y317 => (if ([] : List Int).length + y317.length < 140737488355328 then ((some (([] : List Int) ++ y317 : List Int)).bind fun y321 => (if 0 ≤ (wrap64 ((ji12) + 1)) then ((some (x5_2.drop ((wrap64 ((ji12) + 1)) : Int).toNat : List Int)).bind fun y324 => (if y321.length + y324.length < 140737488355328 then (vivariumlaw08_shuffled.l1 k2 (IntKind.u64.wrap (Int.tdiv x1_2 3)) (y321 ++ y324) (x7_2 ++ (strOfNums y313))) else (none))) else (none))) else (none))) else (none)) else (none)) = some r := by first | (rw [hy313]; with_reducible exact H) | (have H2_ := (Option.bind_some _ _).symm.trans H; rw [hy313]; with_reducible exact H2_) | (have H2_ := (Option.bind_some _ _).symm.trans H; with_reducible exact H2_) | with_reducible exact H | (rw [hy313]; exact H) | exact H
                      have Ny313 := Aside0.mk hy313
                      clear hy313
                      by_cases c16 : x7_2.size + (strOfNums y313).size ≤ 9223372036854775807
                      · rw [if_pos c16] at H
                        have c16b0 := eq_true c16
                        have c16b1 : decide (x7_2.size + (strOfNums y313).size ≤ 9223372036854775807) = true := decide_eq_true c16
                        try have c16b2 : (9223372036854775807 < x7_2.size + (strOfNums y313).size) = False := eq_false (Nat.not_lt.2 c16)
                        have c17b0 := eq_true (of_decide_eq_true (by first | (with_reducible assumption) | assumption) : 0 ≤ (ji12))
                        by_cases c18 : (ji12) ≤ (x5_2.length : Int)
                        · rw [if_pos c18] at H
                          have c18b0 := eq_true c18
                          have c18b1 : decide ((ji12) ≤ (x5_2.length : Int)) = true := decide_eq_true c18
                          clear c18
                          obtain ⟨y317, hy317⟩ : ∃ y_ : List Int, y_ = (x5_2.take ((ji12) : Int).toNat) := ⟨_, rfl⟩
                          replace H : (if ([] : List Int).length + y317.length < 140737488355328 then ((some (([] : List Int) ++ y317 : List Int)).bind fun y321 => (if 0 ≤ (wrap64 ((ji12) + 1)) then ((some (x5_2.drop ((wrap64 ((ji12) + 1)) : Int).toNat : List Int)).bind fun y324 => (if y321.length + y324.length < 140737488355328 then (vivariumlaw08_shuffled.l1 k2 (IntKind.u64.wrap (Int.tdiv x1_2 3)) (y321 ++ y324) (x7_2 ++ (strOfNums y313))) else (none))) else (none))) else (none)) = some r := by first | (rw [hy317]; with_reducible exact H) | (have H2_ := (Option.bind_some _ _).symm.trans H; rw [hy317]; with_reducible exact H2_) | (have H2_ := (Option.bind_some _ _).symm.trans H; with_reducible exact H2_) | with_reducible exact H | (rw [hy317]; exact H) | exact H
                          have Ny317 := Aside0.mk hy317
                          clear hy317
                          by_cases c19 : ([] : List Int).length + y317.length < 140737488355328
                          · rw [if_pos c19] at H
                            have LMc19 := Aside0.mk c19
                            clear c19
                            obtain ⟨y321, hy321⟩ : ∃ y_ : List Int, y_ = (([] : List Int) ++ y317) := ⟨_, rfl⟩
                            replace H : (if 0 ≤ (wrap64 ((ji12) + 1)) then ((some (x5_2.drop ((wrap64 ((ji12) + 1)) : Int).toNat : List Int)).bind fun y324 => (if y321.length + y324.length < 140737488355328 then (vivariumlaw08_shuffled.l1 k2 (IntKind.u64.wrap (Int.tdiv x1_2 3)) (y321 ++ y324) (x7_2 ++ (strOfNums y313))) else (none))) else (none)) = some r := by first | (rw [hy321]; with_reducible exact H) | (have H2_ := (Option.bind_some _ _).symm.trans H; rw [hy321]; with_reducible exact H2_) | (have H2_ := (Option.bind_some _ _).symm.trans H; with_reducible exact H2_) | with_reducible exact H | (rw [hy321]; exact H) | exact H
                            have Ny321 := Aside0.mk hy321
                            clear hy321
                            obtain ⟨ji20, hji20⟩ : ∃ j_ : Int, (wrap64 ((ji12) + 1)) = j_ := ⟨_, rfl⟩
                            replace H : (if 0 ≤ (ji20) then ((some (x5_2.drop ((ji20) : Int).toNat : List Int)).bind fun y324 => (if y321.length + y324.length < 140737488355328 then (vivariumlaw08_shuffled.l1 k2 (IntKind.u64.wrap (Int.tdiv x1_2 3)) (y321 ++ y324) (x7_2 ++ (strOfNums y313))) else (none))) else (none)) = some r := by first | (rw [hji20] at H; exact H) | (simp only [hji20] at H ⊢; exact H)
                            (try rw [hji20] at c14b0)
                            (try rw [hji20] at c14b1)
                            (try rw [hji20] at c14)
                            (try rw [hji20] at c15b0)
                            (try rw [hji20] at c15b1)
                            (try rw [hji20] at c15)
                            (try rw [hji20] at Ny313)
                            (try rw [hji20] at Ny313)
                            have hji20w : (IntKind.i64.wrap ((ji12) + 1)) = ji20 := (i64_w _).trans hji20
                            by_cases c21 : 0 ≤ (ji20)
                            · rw [if_pos c21] at H
                              have c21b0 := eq_true c21
                              have c21b1 : decide (0 ≤ (ji20)) = true := decide_eq_true c21
                              clear c21
                              have c22b0 := eq_true (of_decide_eq_true (by first | (with_reducible assumption) | assumption) : (ji20) ≤ (x5_2.length : Int))
                              obtain ⟨y324, hy324⟩ : ∃ y_ : List Int, y_ = (x5_2.drop ((ji20) : Int).toNat) := ⟨_, rfl⟩
                              replace H : (if y321.length + y324.length < 140737488355328 then (vivariumlaw08_shuffled.l1 k2 (IntKind.u64.wrap (Int.tdiv x1_2 3)) (y321 ++ y324) (x7_2 ++ (strOfNums y313))) else (none)) = some r := by first | (rw [hy324]; with_reducible exact H) | (have H2_ := (Option.bind_some _ _).symm.trans H; rw [hy324]; with_reducible exact H2_) | (have H2_ := (Option.bind_some _ _).symm.trans H; with_reducible exact H2_) | with_reducible exact H | (rw [hy324]; exact H) | exact H
                              have Ny324 := Aside0.mk hy324
                              clear hy324
                              by_cases c23 : y321.length + y324.length < 140737488355328
                              · rw [if_pos c23] at H
                                have LMc23 := Aside0.mk c23
                                clear c23
                                obtain ⟨y328, hy328⟩ : ∃ y_ : List Int, y_ = (y321 ++ y324) := ⟨_, rfl⟩
                                replace H : (vivariumlaw08_shuffled.l1 k2 (IntKind.u64.wrap (Int.tdiv x1_2 3)) y328 (x7_2 ++ (strOfNums y313))) = some r := by first | (rw [hy328]; with_reducible exact H) | (have H2_ := (Option.bind_some _ _).symm.trans H; rw [hy328]; with_reducible exact H2_) | (have H2_ := (Option.bind_some _ _).symm.trans H; with_reducible exact H2_) | with_reducible exact H | (rw [hy328]; exact H) | exact H
                                have Ny328 := Aside0.mk hy328
                                clear hy328
                                have H' := Aside0.mk H
                                clear H
                                obtain ⟨Ao24, co24, eo24⟩ := Kd.R_slice HO_5.out
                                subst eo24
                                have q25 : ((ji20) : Int) ≤ ((x5_2.length : Int) : Int) := of_decide_eq_true (by first | (with_reducible assumption) | assumption)
                                obtain ⟨i025, hi025, _, hsz25, _⟩ := info_parts info5
                                have hroom25 : x5_2.length ≤ co24 := (Kd.R_reads' HO_5.out).2.1
                                have hC25 : Kd.C (Kd.int .u8) _ Ao24 x5_2.length x5_2 := (Kd.R_reads' HO_5.out).2.2
                                have ql25 : ((ji12) : Int) ≤ ((ji20) : Int) := of_decide_eq_true (by first | (with_reducible assumption) | assumption)
                                have q025 : (0 : Int) ≤ ((ji12) : Int) := of_decide_eq_true (by first | (with_reducible assumption) | assumption)
                                have hcut25 := cut_mid (P := Try.prog) 34 5 .i64 .i64 Try.underlying34 hi025 1 hsz25 Ao24 x5_2.length co24 (ji12) (ji20) q025 ql25 q25 hroom25
                                have hr25 := Kd.C_mid (lo := ((ji12) : Int).toNat) (hi := ((ji20) : Int).toNat) (c := co24) hC25 (by omega) (by omega) hroom25
                                obtain ⟨A25, hA25⟩ : ∃ A1, A1 = (if co24 = ((ji12) : Int).toNat then Ao24 else (Ao24 : Option Addr).map (·.add (((ji12) : Int).toNat * 1))) := ⟨_, rfl⟩
                                obtain ⟨c25, hc25⟩ : ∃ c1, c1 = co24 - ((ji12) : Int).toNat := ⟨_, rfl⟩
                                have hy25 : y313.length = ((ji20) : Int).toNat - ((ji12) : Int).toNat := (by rw [Ny313.out, List.length_drop, List.length_take] <;> omega)
                                rw [show ((x5_2).take ((ji20) : Int).toNat).drop ((ji12) : Int).toNat = y313 from Ny313.out.symm] at hr25
                                replace hr25 : Kd.C (Kd.int .u8) _ A25 y313.length y313 := (by rw [hA25]; exact hr25)
                                rw [← hy25, ← hA25, ← hc25] at hcut25
                                have HR316 := Aside0.mk hr25
                                have HC316 := Aside0.mk (show y313.length ≤ c25 from by rw [hy25, hc25]; exact Nat.sub_le_sub_right (Nat.le_trans (by omega) hroom25) _)
                                clear hr25 hC25 hroom25 hi025 hsz25 hc25
                                have KY25 := Aside0.mk hy25
                                have KA25 := Aside0.mk hA25
                                clear hy25 hA25
                                have KL25 := Aside0.mk (show ((ji20) : Int).toNat ≤ x5_2.length from by omega)
                                have KM25 := Aside0.mk (show ((ji12) : Int).toNat ≤ ((ji20) : Int).toNat from by omega)
                                replace q25 := eq_true q25
                                have hcv26 := Kd.C_string (P := Try.prog) (A := A25) (c := c25) Try.underlying34 Try.underlying5 Try.underlying9 (by repeat (first | (with_reducible exact HR316.out) | (with_reducible refine Kd.C_alloc ?_ _) | (with_reducible refine Kd.C_drewN ?_ _) | (with_reducible refine Kd.C_drew ?_) | exact HR316.out))
                                have q27 : ((ji12) : Int) ≤ ((x5_2.length : Int) : Int) := of_decide_eq_true (by first | (with_reducible assumption) | assumption)
                                obtain ⟨i027, hi027, _, hsz27, _⟩ := info_parts info5
                                have hroom27 : x5_2.length ≤ co24 := (Kd.R_reads' HO_5.out).2.1
                                have hC27 : Kd.C (Kd.int .u8) _ Ao24 x5_2.length x5_2 := (Kd.R_reads' HO_5.out).2.2
                                have hcut27 := cut_to (P := Try.prog) 34 5 .i64 Try.underlying34 hi027 Ao24 x5_2.length co24 (ji12) (of_decide_eq_true (by first | (with_reducible assumption) | assumption)) q27 hroom27
                                have hr27 := Kd.C_take (m := ((ji12) : Int).toNat) hC27 (by omega)
                                have hy27 : y317.length = ((ji12) : Int).toNat := (by rw [Ny317.out, List.length_take]; omega)
                                rw [← Ny317.out] at hr27
                                rw [← hy27] at hcut27
                                have HR320 := Aside0.mk hr27
                                have HC320 := Aside0.mk (show y317.length ≤ co24 from by omega)
                                clear hr27 hC27 hroom27 hi027 hsz27
                                have KY27 := Aside0.mk hy27
                                clear hy27
                                have KL27 := Aside0.mk (show ((ji12) : Int).toNat ≤ x5_2.length from by omega)
                                replace q27 := eq_true q27
                                go_wp2_with (first | ((with_reducible refine gate_builtin (b := .append) (xs := #[.tmp 45, .tmp 48]) rfl ?_); at_builtin; refine Kd.R_append_rows (Kd.int .u8) (w0 := w) w.heap.size rfl (.tmp 45) (.tmp 48) 34 5 (.int .u8 0) 1 rfl Try.underlying34 info5 rfl (by decide) (by omega) (.slice none 0 0) ([] : List Int) y317 _ _ _ (fun k_ => some k_ ≠ (.slice Ao24 x5_2.length co24 : Value).ownBlock) (fun _ => False) rfl rfl ?aO ?aR (fun _ _ h => h) (fun _ h => h.elim) ?aF ?aB ?aS ?aL ?_; (case aR => repeat (first | exact (by repeat (first | (with_reducible exact HR320.out) | (with_reducible refine Kd.C_alloc ?_ _) | (with_reducible refine Kd.C_drewN ?_ _) | (with_reducible refine Kd.C_drew ?_) | exact HR320.out)) | (with_reducible refine Kd.C_alloc ?_ _) | (with_reducible refine Kd.C_drewN ?_ _) | (with_reducible refine Kd.C_drew ?_))); (case aB => exact (by repeat (first | (with_reducible first | exact HB.out | apply below_alloc | apply pw_below_drewN | apply below_drew1) | exact HB.out))); (case aF => exact (fun k_ hk => Kd.fresh' (Kd.R_lt (by (with_reducible repeat (first | apply Kd.R_alloc | apply Kd.R_drewN | apply Kd.R_drew)); exact HO_5.out)) k_ hk)); (case aO => exact ((Kd.R_nil _ _ _ _ (fun k_ => some k_ ≠ (.slice Ao24 x5_2.length co24 : Value).ownBlock)))); (case aS => exact (below_size (by repeat (first | (with_reducible first | exact HB.out | apply below_alloc | apply pw_below_drewN | apply below_drew1) | exact HB.out)))); (case aL => have := LMc19.out; omega); intro v322 w28 ho hb hg hat; rw [← Ny321.out] at ho; have n0_ := Aside0.mk (Kd.R_after (Kd.R_apart_nil (by (with_reducible repeat (first | apply Kd.R_alloc | apply Kd.R_drewN | apply Kd.R_drew)); exact HO_5.out)) hg hat); have n1_ := Aside0.mk (hb); have n2_ := Aside0.mk ((show Kd.C (Kd.int .u8) w28 A25 y313.length y313 from by rw [Ny313.out, KA25.out]; exact Kd.C_mid (lo := ((ji12) : Int).toNat) (hi := ((ji20) : Int).toNat) (c := co24) ((Kd.R_reads' (Kd.R_after (Kd.R_apart_nil (by (with_reducible repeat (first | apply Kd.R_alloc | apply Kd.R_drewN | apply Kd.R_drew)); exact HO_5.out)) hg hat)).2.2) KM25.out KL25.out ((Kd.R_reads' (Kd.R_after (Kd.R_apart_nil (by (with_reducible repeat (first | apply Kd.R_alloc | apply Kd.R_drewN | apply Kd.R_drew)); exact HO_5.out)) hg hat)).2.1))); have n3_ := Aside0.mk ((show Kd.C (Kd.int .u8) w28 Ao24 y317.length y317 from by rw [Ny317.out]; exact Kd.C_take (m := ((ji12) : Int).toNat) ((Kd.R_reads' (Kd.R_after (Kd.R_apart_nil (by (with_reducible repeat (first | apply Kd.R_alloc | apply Kd.R_drewN | apply Kd.R_drew)); exact HO_5.out)) hg hat)).2.2) KL27.out)); have n4_ := Aside0.mk (ho); clear HO_5; clear HB; clear HR316; clear HR320; have HO_5 := n0_; have HB := n1_; have HR316 := n2_; have HR320 := n3_; have HO323 := n4_; clear n0_ n1_ n2_ n3_ n4_; clear ho hb hg hat; have q29 : ((ji20) : Int) ≤ ((x5_2.length : Int) : Int) := of_decide_eq_true (by first | (with_reducible assumption) | assumption); obtain ⟨i029, hi029, _, hsz29, _⟩ := info_parts info5; have hroom29 : x5_2.length ≤ co24 := (Kd.R_reads' HO_5.out).2.1; have hC29 : Kd.C (Kd.int .u8) _ Ao24 x5_2.length x5_2 := (Kd.R_reads' HO_5.out).2.2; have q029 : (0 : Int) ≤ ((ji20) : Int) := of_decide_eq_true (by first | (with_reducible assumption) | assumption); have hcut29 := cut_from (P := Try.prog) 34 5 .i64 Try.underlying34 hi029 1 hsz29 Ao24 x5_2.length co24 (ji20) q029 q29; have hr29 := Kd.C_drop (m := ((ji20) : Int).toNat) (c := co24) hC29 (by omega) hroom29; obtain ⟨A29, hA29⟩ : ∃ A1, A1 = (if co24 = ((ji20) : Int).toNat then Ao24 else (Ao24 : Option Addr).map (·.add (((ji20) : Int).toNat * 1))) := ⟨_, rfl⟩; obtain ⟨c29, hc29⟩ : ∃ c1, c1 = co24 - ((ji20) : Int).toNat := ⟨_, rfl⟩; have hy29 : y324.length = x5_2.length - ((ji20) : Int).toNat := (by rw [Ny324.out, List.length_drop] <;> omega); rw [show (x5_2).drop ((ji20) : Int).toNat = y324 from Ny324.out.symm] at hr29; replace hr29 : Kd.C (Kd.int .u8) _ A29 y324.length y324 := (by rw [hA29]; exact hr29); rw [← hy29, ← hA29, ← hc29] at hcut29; have HR327 := Aside0.mk hr29; have HC327 := Aside0.mk (show y324.length ≤ c29 from by rw [hy29, hc29]; exact Nat.sub_le_sub_right hroom29 _); clear hr29 hC29 hroom29 hi029 hsz29 hc29; have KY29 := Aside0.mk hy29; have KA29 := Aside0.mk hA29; clear hy29 hA29; have KL29 := Aside0.mk (show ((ji20) : Int).toNat ≤ x5_2.length from by omega); replace q29 := eq_true q29) | ((with_reducible refine gate_builtin (b := .append) (xs := #[.tmp 50, .tmp 54]) rfl ?_); at_builtin; refine Kd.R_append_rows (Kd.int .u8) (w0 := w) w.heap.size rfl (.tmp 50) (.tmp 54) 34 5 (.int .u8 0) 1 rfl Try.underlying34 info5 rfl (by decide) (by omega) v322 y321 y324 _ _ _ (fun k_ => some k_ ≠ (.slice Ao24 x5_2.length co24 : Value).ownBlock) (fun _ => False) rfl rfl ?aO ?aR (fun _ _ h => h) (fun _ h => h.elim) ?aF ?aB ?aS ?aL ?_; (case aR => repeat (first | exact (by repeat (first | (with_reducible exact HR327.out) | (with_reducible refine Kd.C_alloc ?_ _) | (with_reducible refine Kd.C_drewN ?_ _) | (with_reducible refine Kd.C_drew ?_) | exact HR327.out)) | (with_reducible refine Kd.C_alloc ?_ _) | (with_reducible refine Kd.C_drewN ?_ _) | (with_reducible refine Kd.C_drew ?_))); (case aB => exact (by repeat (first | (with_reducible first | exact HB.out | apply below_alloc | apply pw_below_drewN | apply below_drew1) | exact HB.out))); (case aF => exact (fun k_ hk => Kd.fresh' (Kd.R_lt (by (with_reducible repeat (first | apply Kd.R_alloc | apply Kd.R_drewN | apply Kd.R_drew)); exact HO_5.out)) k_ hk)); (case aO => exact (by (with_reducible repeat (first | apply Kd.R_alloc | apply Kd.R_drewN | apply Kd.R_drew)); exact HO323.out)); (case aS => exact (below_size (by repeat (first | (with_reducible first | exact HB.out | apply below_alloc | apply pw_below_drewN | apply below_drew1) | exact HB.out)))); (case aL => have := LMc23.out; omega); intro v329 w30 ho hb hg hat; rw [← Ny328.out] at ho; have n0_ := Aside0.mk (Kd.R_after (ok := (fun _ => True)) (by (with_reducible repeat (first | apply Kd.R_alloc | apply Kd.R_drewN | apply Kd.R_drew)); exact HO_5.out) hg hat); have n1_ := Aside0.mk (hb); have n2_ := Aside0.mk ((show Kd.C (Kd.int .u8) w30 A25 y313.length y313 from by rw [Ny313.out, KA25.out]; exact Kd.C_mid (lo := ((ji12) : Int).toNat) (hi := ((ji20) : Int).toNat) (c := co24) ((Kd.R_reads' (Kd.R_after (ok := (fun _ => True)) (by (with_reducible repeat (first | apply Kd.R_alloc | apply Kd.R_drewN | apply Kd.R_drew)); exact HO_5.out) hg hat)).2.2) KM25.out KL25.out ((Kd.R_reads' (Kd.R_after (ok := (fun _ => True)) (by (with_reducible repeat (first | apply Kd.R_alloc | apply Kd.R_drewN | apply Kd.R_drew)); exact HO_5.out) hg hat)).2.1))); have n3_ := Aside0.mk ((show Kd.C (Kd.int .u8) w30 Ao24 y317.length y317 from by rw [Ny317.out]; exact Kd.C_take (m := ((ji12) : Int).toNat) ((Kd.R_reads' (Kd.R_after (ok := (fun _ => True)) (by (with_reducible repeat (first | apply Kd.R_alloc | apply Kd.R_drewN | apply Kd.R_drew)); exact HO_5.out) hg hat)).2.2) KL27.out)); have n4_ := Aside0.mk ((show Kd.C (Kd.int .u8) w30 A29 y324.length y324 from by rw [Ny324.out, KA29.out]; exact Kd.C_drop (m := ((ji20) : Int).toNat) (c := co24) ((Kd.R_reads' (Kd.R_after (ok := (fun _ => True)) (by (with_reducible repeat (first | apply Kd.R_alloc | apply Kd.R_drewN | apply Kd.R_drew)); exact HO_5.out) hg hat)).2.2) KL29.out ((Kd.R_reads' (Kd.R_after (ok := (fun _ => True)) (by (with_reducible repeat (first | apply Kd.R_alloc | apply Kd.R_drewN | apply Kd.R_drew)); exact HO_5.out) hg hat)).2.1))); have n5_ := Aside0.mk (ho); clear HO_5; clear HB; clear HR316; clear HR320; clear HR327; clear HO323; have HO_5 := n0_; have HB := n1_; have HR316 := n2_; have HR320 := n3_; have HR327 := n4_; have HO330 := n5_; clear n0_ n1_ n2_ n3_ n4_ n5_; clear ho hb hg hat))
                                go_roundg k2
                                case measure => have := HK1.out; have := HK2.out; omega
                                case rel => exact ⟨(IntKind.u64.wrap (Int.tdiv x1_2 3)), (y328), (x7_2 ++ (strOfNums y313)), (by first | rfl | (simp; done) | (simp [*]; done)), (by first | rfl | (simp; done) | (simp [*]; done)), H', ⟨by have := HK1.out; have := HK2.out; omega⟩, ⟨by (with_reducible repeat (first | apply Kd.R_alloc | apply Kd.R_drewN | apply Kd.R_drew)); exact Kd.R_mono HO330.out (fun _ hk => trivial)⟩, ⟨by repeat (first | (with_reducible first | exact HB.out | apply below_alloc | apply pw_below_drewN | apply below_drew1) | exact HB.out)⟩⟩
                              · rw [if_neg c23] at H
                                exact absurd H (by simp)
                            · rw [if_neg c21] at H
                              exact absurd H (by simp)
                          · rw [if_neg c19] at H
                            exact absurd H (by simp)
                        · rw [if_neg c18] at H
                          exact absurd H (by simp)
                      · rw [if_neg c16] at H
                        exact absurd H (by simp)
                    · rw [if_neg c15] at H
                      exact absurd H (by simp)
                  · rw [if_neg c14] at H
                    exact absurd H (by simp)
                · rw [if_neg c13] at H
                  exact absurd H (by simp)
            · rw [if_neg c10] at H
              have c10b0 : decide (0 < (x5_2.length : Int)) = false := decide_eq_false c10
              have c10b1 : decide (0 < x5_2.length) = false := decide_eq_false (by omega)
              clear c10
              obtain rfl := Option.some.inj H
              obtain ⟨Ao31, co31, eo31⟩ := Kd.R_slice HO_5.out
              subst eo31
              go_wp2
              go_ret
              exact ⟨by first | rfl | (simp [errW_none, errW_some] <;> rfl) | (simp [*, errW_none, errW_some] <;> rfl), by repeat (first | (with_reducible first | exact HB.out | apply below_alloc | apply pw_below_drewN | apply below_drew1) | exact HB.out)⟩

end Go.Proofs.Ytfgonglcmgahkaa.P

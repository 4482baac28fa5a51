-- Written by a program of this session (wip/tools/mk.py) that runs the kit's printer.
import Derived.Test.YtkahgdkpehlanaaP0
namespace Go.Proofs.Ytkahgdkpehlanaa.P
open Go.RowKit Go.Proofs.YtkahgdkpehlanaaW.PrintWords Go.Proofs.YtkahgdkpehlanaaW.PrintLast Go.Proofs.YtkahgdkpehlanaaW.PrintMore
attribute [local go_sem] max2_int min2_int max_two min_two max_three min_three max_four min_four   -- for this text's walks alone
set_option linter.unusedVariables false
set_option linter.unusedSimpArgs false

/-! ### vivariumref03_Tag: function 25 -/
mutual
def vivariumref03_Tag.j0 : Nat → Bool → Int → Bool → Option (ByteArray)
  | 0, _, _, _ => none
  | k + 1, x1, x5, x8 => if x8 = true then (some (⟨#[98]⟩ : ByteArray)) else (if x1 = true then (vivariumref03_Tag.j1 k x1 x5 false) else (vivariumref03_Tag.j1 k x1 x5 (x5 == 1)))
def vivariumref03_Tag.j1 : Nat → Bool → Int → Bool → Option (ByteArray)
  | 0, _, _, _ => none
  | k + 1, x1, x5, x15 => if x15 = true then (some (⟨#[111]⟩ : ByteArray)) else (if x1 = true then (if x5 = 0 then (some (⟨#[46]⟩ : ByteArray)) else (if x5 ≤ 24 then (some (strOfNums (([(wrap64 ((wrap64 (65 + x5)) - 1)) % 256] : List Int)))) else (some (strOfNums (([(wrap64 (112 + (wrap64 (Int.tdiv (wrap64 (x5 - 25)) 24)))) % 256, (wrap64 (65 + (Int.tmod (wrap64 (x5 - 25)) 24))) % 256] : List Int)))))) else (some (⟨#[]⟩ : ByteArray)))
end
def vivariumref03_Tag.f (k : Nat) (a0 : Int) (a1 : Bool) : Option (ByteArray) := if a1 = true then (vivariumref03_Tag.j0 k a1 (wrap64 (a0)) false) else (vivariumref03_Tag.j0 k a1 (wrap64 (a0)) ((wrap64 (a0)) == 0))
theorem vivariumref03_Tag.mono_l : ∀ k, (∀ y0 y1 y2, LeO (vivariumref03_Tag.j0 k y0 y1 y2) (vivariumref03_Tag.j0 (k + 1) y0 y1 y2)) ∧ (∀ y0 y1 y2, LeO (vivariumref03_Tag.j1 k y0 y1 y2) (vivariumref03_Tag.j1 (k + 1) y0 y1 y2))
  | 0 => ⟨fun _ _ _ r h => by simp [vivariumref03_Tag.j0] at h, fun _ _ _ r h => by simp [vivariumref03_Tag.j1] at h⟩
  | k + 1 => by
    obtain ⟨ih0, ih1⟩ := vivariumref03_Tag.mono_l k
    refine ⟨?_, ?_⟩
    · intro y0 y1 y2
      unfold vivariumref03_Tag.j0
      repeat' first
      | (with_reducible exact ih0 _ _ _)
      | (with_reducible exact ih1 _ _ _)
      | (with_reducible exact LeO.refl _)
      | (with_reducible exact LeO.none _)
      | (with_reducible refine LeO.ite ?_ ?_)
      | (with_reducible refine LeO.bind ?_ (fun _ => ?_))
      | exact ih0 _ _ _
      | exact ih1 _ _ _
      | exact LeO.none _
      | refine LeO.ite ?_ ?_
      | refine LeO.bind ?_ (fun _ => ?_)
    · intro y0 y1 y2
      unfold vivariumref03_Tag.j1
      repeat' first
      | (with_reducible exact ih0 _ _ _)
      | (with_reducible exact ih1 _ _ _)
      | (with_reducible exact LeO.refl _)
      | (with_reducible exact LeO.none _)
      | (with_reducible refine LeO.ite ?_ ?_)
      | (with_reducible refine LeO.bind ?_ (fun _ => ?_))
      | exact ih0 _ _ _
      | exact ih1 _ _ _
      | exact LeO.none _
      | refine LeO.ite ?_ ?_
      | refine LeO.bind ?_ (fun _ => ?_)
theorem vivariumref03_Tag.mono : ∀ a0 a1 k, LeO (vivariumref03_Tag.f k a0 a1) (vivariumref03_Tag.f (k + 1) a0 a1) := by
  intro a0 a1 k
  obtain ⟨ih0, ih1⟩ := vivariumref03_Tag.mono_l k
  unfold vivariumref03_Tag.f
  repeat' first
      | (with_reducible exact ih0 _ _ _)
      | (with_reducible exact ih1 _ _ _)
      | (with_reducible exact LeO.refl _)
      | (with_reducible exact LeO.none _)
      | (with_reducible refine LeO.ite ?_ ?_)
      | (with_reducible refine LeO.bind ?_ (fun _ => ?_))
      | exact ih0 _ _ _
      | exact ih1 _ _ _
      | exact LeO.none _
      | refine LeO.ite ?_ ?_
      | refine LeO.bind ?_ (fun _ => ?_)
set_option maxHeartbeats 8000000 in
set_option maxRecDepth 100000 in
theorem vivariumref03_Tag.calls (k : Nat) (a0 : Int) (a1 : Bool) (r : ByteArray) (w : World) (h : vivariumref03_Tag.f k a0 a1 = some r) :
    Calls Try.prog 25 #[.int .u8 a0, .bool a1] w fun e w' => e = .returned (.string r) ∧ Below w.heap.size w w' := by
  have HB := Aside0.mk (Below.refl w.heap.size w)
  have H : (if a1 = true then (vivariumref03_Tag.j0 k a1 (wrap64 (a0)) false) else (vivariumref03_Tag.j0 k a1 (wrap64 (a0)) ((wrap64 (a0)) == 0))) = some r := h
  clear h
  have HC3 := Aside0.mk H
  clear H
  go_enter Try.func25, Try.ntmps25
  go_upto_region 2 with (fail)
  go_cut [8] (fun v8 wc => ∃ (kq : Nat) (x8_2 : Bool), v8 = .bool x8_2 ∧ Aside0 (vivariumref03_Tag.j0 kq a1 (wrap64 (a0)) x8_2 = some r) ∧ Aside0 (kq ≤ k) ∧ Aside0 (Below w.heap.size w wc))
  case first =>
    have H := HC3.out
    clear HC3
    by_cases c4 : a1 = true
    · subst c4
      have H1 : (vivariumref03_Tag.j0 k true (wrap64 (a0)) false) = some r := by rw [if_pos rfl] at H; exact H
      clear H
      have H := H1
      clear H1
      have H' := Aside0.mk H
      clear H
      go_wp2
      go_meet
      case rel => exact ⟨_, (false), (by first | rfl | (simp; done) | (simp [*]; done)), H', ⟨by first | omega | exact Nat.le_refl _⟩, ⟨by repeat (first | (with_reducible first | exact HB.out | apply below_alloc | apply pw_below_drewN | apply below_drew1) | exact HB.out)⟩⟩
    · replace c4 := Bool.eq_false_iff.mpr c4
      subst c4
      have H1 : (vivariumref03_Tag.j0 k false (wrap64 (a0)) ((wrap64 (a0)) == 0)) = some r := by rw [if_neg (show ¬ (false = true) by decide)] at H; exact H
      clear H
      have H := H1
      clear H1
      have H' := Aside0.mk H
      clear H
      go_wp2
      go_meet
      case rel => exact ⟨_, (((wrap64 (a0)) == 0)), (by first | rfl | (simp; done) | (simp [*]; done)), H', ⟨by first | omega | exact Nat.le_refl _⟩, ⟨by repeat (first | (with_reducible first | exact HB.out | apply below_alloc | apply pw_below_drewN | apply below_drew1) | exact HB.out)⟩⟩
  case rest =>
    clear HC3
    try clear c2
    try clear p2
    try clear c4
    obtain ⟨kq, x8_2, rfl, HA, HJ2, HB⟩ := hcut
    cases kq with
    | zero => exact absurd HA.out (by simp [vivariumref03_Tag.j0])
    | succ kj2 =>
      have H := HA.out
      clear HA
      simp only [vivariumref03_Tag.j0] at H
      by_cases c5 : x8_2 = true
      · subst c5
        have H1 : (some (⟨#[98]⟩ : ByteArray)) = some r := by rw [if_pos rfl] at H; exact H
        clear H
        have H := H1
        clear H1
        obtain rfl := Option.some.inj H
        go_wp2
        go_ret
        exact ⟨by first | rfl | (simp [errW_none, errW_some] <;> rfl) | (simp [*, errW_none, errW_some] <;> rfl), by repeat (first | (with_reducible first | exact HB.out | apply below_alloc | apply pw_below_drewN | apply below_drew1) | exact HB.out)⟩
      · replace c5 := Bool.eq_false_iff.mpr c5
        subst c5
        have H1 : (if a1 = true then (vivariumref03_Tag.j1 kj2 a1 (wrap64 (a0)) false) else (vivariumref03_Tag.j1 kj2 a1 (wrap64 (a0)) ((wrap64 (a0)) == 1))) = some r := by rw [if_neg (show ¬ (false = true) by decide)] at H; exact H
        clear H
        have H := H1
        clear H1
        have HC6 := Aside0.mk H
        clear H
        go_upto_region 4 with (fail)
        go_cut [15] (fun v15 wc => ∃ (kq : Nat) (x15_5 : Bool), v15 = .bool x15_5 ∧ Aside0 (vivariumref03_Tag.j1 kq a1 (wrap64 (a0)) x15_5 = some r) ∧ Aside0 (kq ≤ kj2) ∧ Aside0 (Below w.heap.size w wc))
        case first =>
          have H := HC6.out
          clear HC6
          by_cases c7 : a1 = true
          · subst c7
            have H1 : (vivariumref03_Tag.j1 kj2 true (wrap64 (a0)) false) = some r := by rw [if_pos rfl] at H; exact H
            clear H
            have H := H1
            clear H1
            have H' := Aside0.mk H
            clear H
            go_wp2
            go_meet
            case rel => exact ⟨_, (false), (by first | rfl | (simp; done) | (simp [*]; done)), H', ⟨by have := HJ2.out; first | omega | exact Nat.le_refl _⟩, ⟨by repeat (first | (with_reducible first | exact HB.out | apply below_alloc | apply pw_below_drewN | apply below_drew1) | exact HB.out)⟩⟩
          · replace c7 := Bool.eq_false_iff.mpr c7
            subst c7
            have H1 : (vivariumref03_Tag.j1 kj2 false (wrap64 (a0)) ((wrap64 (a0)) == 1)) = some r := by rw [if_neg (show ¬ (false = true) by decide)] at H; exact H
            clear H
            have H := H1
            clear H1
            have H' := Aside0.mk H
            clear H
            go_wp2
            go_meet
            case rel => exact ⟨_, (((wrap64 (a0)) == 1)), (by first | rfl | (simp; done) | (simp [*]; done)), H', ⟨by have := HJ2.out; first | omega | exact Nat.le_refl _⟩, ⟨by repeat (first | (with_reducible first | exact HB.out | apply below_alloc | apply pw_below_drewN | apply below_drew1) | exact HB.out)⟩⟩
        case rest =>
          clear HC6
          try clear c2
          try clear p2
          try clear c4
          try clear c5
          try clear p6
          try clear c7
          try clear p2
          obtain ⟨kq, x15_5, rfl, HA, HJ5, HB⟩ := hcut
          cases kq with
          | zero => exact absurd HA.out (by simp [vivariumref03_Tag.j1])
          | succ kj5 =>
            have H := HA.out
            clear HA
            simp only [vivariumref03_Tag.j1] at H
            by_cases c8 : x15_5 = true
            · subst c8
              have H1 : (some (⟨#[111]⟩ : ByteArray)) = some r := by rw [if_pos rfl] at H; exact H
              clear H
              have H := H1
              clear H1
              obtain rfl := Option.some.inj H
              go_wp2
              go_ret
              exact ⟨by first | rfl | (simp [errW_none, errW_some] <;> rfl) | (simp [*, errW_none, errW_some] <;> rfl), by repeat (first | (with_reducible first | exact HB.out | apply below_alloc | apply pw_below_drewN | apply below_drew1) | exact HB.out)⟩
            · replace c8 := Bool.eq_false_iff.mpr c8
              subst c8
              have H1 : (if a1 = true then (if (wrap64 (a0)) = 0 then (some (⟨#[46]⟩ : ByteArray)) else (if (wrap64 (a0)) ≤ 24 then (some (strOfNums (([(wrap64 ((wrap64 (65 + (wrap64 (a0)))) - 1)) % 256] : List Int)))) else (some (strOfNums (([(wrap64 (112 + (wrap64 (Int.tdiv (wrap64 ((wrap64 (a0)) - 25)) 24)))) % 256, (wrap64 (65 + (Int.tmod (wrap64 ((wrap64 (a0)) - 25)) 24))) % 256] : List Int)))))) else (some (⟨#[]⟩ : ByteArray))) = some r := by rw [if_neg (show ¬ (false = true) by decide)] at H; exact H
              clear H
              have H := H1
              clear H1
              by_cases c9 : a1 = true
              · subst c9
                have H1 : (if (wrap64 (a0)) = 0 then (some (⟨#[46]⟩ : ByteArray)) else (if (wrap64 (a0)) ≤ 24 then (some (strOfNums (([(wrap64 ((wrap64 (65 + (wrap64 (a0)))) - 1)) % 256] : List Int)))) else (some (strOfNums (([(wrap64 (112 + (wrap64 (Int.tdiv (wrap64 ((wrap64 (a0)) - 25)) 24)))) % 256, (wrap64 (65 + (Int.tmod (wrap64 ((wrap64 (a0)) - 25)) 24))) % 256] : List Int)))))) = some r := by rw [if_pos rfl] at H; exact H
                clear H
                have H := H1
                clear H1
                by_cases c10 : (wrap64 (a0)) = 0
                · rw [if_pos c10] at H
                  have c10b0 : ((wrap64 (a0)) == 0) = true := beq_iff_eq.mpr c10
                  have c10b1 : ((wrap64 (a0)) != 0) = false := bne_eq_false_iff_eq.mpr c10
                  clear c10
                  obtain rfl := Option.some.inj H
                  go_wp2
                  go_ret
                  exact ⟨by first | rfl | (simp [errW_none, errW_some] <;> rfl) | (simp [*, errW_none, errW_some] <;> rfl), by repeat (first | (with_reducible first | exact HB.out | apply below_alloc | apply pw_below_drewN | apply below_drew1) | exact HB.out)⟩
                · rw [if_neg c10] at H
                  have c10b0 : ((wrap64 (a0)) == 0) = false := beq_eq_false_iff_ne.mpr c10
                  have c10b1 : ((wrap64 (a0)) != 0) = true := bne_iff_ne.mpr c10
                  by_cases c11 : (wrap64 (a0)) ≤ 24
                  · rw [if_pos c11] at H
                    have c11b0 : decide ((wrap64 (a0)) ≤ 24) = true := decide_eq_true c11
                    clear c11
                    obtain ⟨y228, hy228⟩ : ∃ y_ : List Int, y_ = (([(wrap64 ((wrap64 (65 + (wrap64 (a0)))) - 1)) % 256] : List Int)) := ⟨_, rfl⟩
                    replace H : (some (strOfNums y228)) = some r := by first | (rw [hy228]; with_reducible exact H) | (have H2_ := (Option.bind_some _ _).symm.trans H; rw [hy228]; with_reducible exact H2_) | (have H2_ := (Option.bind_some _ _).symm.trans H; with_reducible exact H2_) | with_reducible exact H | (rw [hy228]; exact H) | exact H
                    have Ny228 := Aside0.mk hy228
                    clear hy228
                    obtain rfl := Option.some.inj H
                    go_wp2_with (first | ((with_reducible refine gate_dst (N := 35) rfl ?_); refine Kd.R_lit (Kd.int .u8) _ 5 ?hg (N := 35) ?hd (xs := ([(wrap64 ((wrap64 (65 + (wrap64 (a0)))) - 1)) % 256] : List Int)) (inner := [.int .u8 ((wrap64 ((wrap64 (65 + (wrap64 (a0)))) - 1)) % 256)]) (ok := fun _ => True) (okp := fun _ => True) ?hr ?hp (fun _ hk => hk) trivial (Below.refl _ _) (Nat.le_refl _) (by simp) ?_; (case hd => rfl); (case hg => rfl); (case hr => first | (go_simp; done) | (go_simp; rfl)); (case hp => exact (Reps.one (show Kd.M (Kd.int .u8) _ _ _ ((wrap64 ((wrap64 (65 + (wrap64 (a0)))) - 1)) % 256) [.int .u8 ((wrap64 ((wrap64 (65 + (wrap64 (a0)))) - 1)) % 256)] from rfl) (Reps.none _ _))); intro v229 w12 ho13 hb hg_ hnew_; clear hg_ hnew_; (first | rw [← Ny228.out] at ho13 | (simp only [Int.reduceToNat] at ho13; rw [← Ny228.out] at ho13)); have n0_ := Aside0.mk (Kd.R_lower ho13 (below_size (by repeat (first | (with_reducible first | exact HB.out | apply below_alloc | apply pw_below_drewN | apply below_drew1) | exact HB.out)))); have n1_ := Aside0.mk (below_step (by repeat (first | (with_reducible first | exact HB.out | apply below_alloc | apply pw_below_drewN | apply below_drew1) | exact HB.out)) hb); clear HB; have HO230 := n0_; have HB := n1_; clear n0_ n1_; clear hb ho13; have hcv14 := own_string (P := Try.prog) Try.underlying36 Try.underlying5 Try.underlying9 (Kd.own_of_R HO230.out)))
                    go_ret
                    exact ⟨by first | rfl | (simp [errW_none, errW_some] <;> rfl) | (simp [*, errW_none, errW_some] <;> rfl), by repeat (first | (with_reducible first | exact HB.out | apply below_alloc | apply pw_below_drewN | apply below_drew1) | exact HB.out)⟩
                  · rw [if_neg c11] at H
                    have c11b0 : decide ((wrap64 (a0)) ≤ 24) = false := decide_eq_false c11
                    clear c11
                    obtain ⟨y231, hy231⟩ : ∃ y_ : List Int, y_ = (([(wrap64 (112 + (wrap64 (Int.tdiv (wrap64 ((wrap64 (a0)) - 25)) 24)))) % 256, (wrap64 (65 + (Int.tmod (wrap64 ((wrap64 (a0)) - 25)) 24))) % 256] : List Int)) := ⟨_, rfl⟩
                    replace H : (some (strOfNums y231)) = some r := by first | (rw [hy231]; with_reducible exact H) | (have H2_ := (Option.bind_some _ _).symm.trans H; rw [hy231]; with_reducible exact H2_) | (have H2_ := (Option.bind_some _ _).symm.trans H; with_reducible exact H2_) | with_reducible exact H | (rw [hy231]; exact H) | exact H
                    have Ny231 := Aside0.mk hy231
                    clear hy231
                    obtain rfl := Option.some.inj H
                    go_wp2_with (first | ((with_reducible refine gate_dst (N := 47) rfl ?_); refine Kd.R_lit (Kd.int .u8) _ 5 ?hg (N := 47) ?hd (xs := ([(wrap64 (112 + (wrap64 (Int.tdiv (wrap64 ((wrap64 (a0)) - 25)) 24)))) % 256, (wrap64 (65 + (Int.tmod (wrap64 ((wrap64 (a0)) - 25)) 24))) % 256] : List Int)) (inner := [.int .u8 ((wrap64 (112 + (wrap64 (Int.tdiv (wrap64 ((wrap64 (a0)) - 25)) 24)))) % 256), .int .u8 ((wrap64 (65 + (Int.tmod (wrap64 ((wrap64 (a0)) - 25)) 24))) % 256)]) (ok := fun _ => True) (okp := fun _ => True) ?hr ?hp (fun _ hk => hk) trivial (Below.refl _ _) (Nat.le_refl _) (by simp) ?_; (case hd => rfl); (case hg => rfl); (case hr => first | (go_simp; done) | (go_simp; rfl)); (case hp => exact (Reps.one (show Kd.M (Kd.int .u8) _ _ _ ((wrap64 (112 + (wrap64 (Int.tdiv (wrap64 ((wrap64 (a0)) - 25)) 24)))) % 256) [.int .u8 ((wrap64 (112 + (wrap64 (Int.tdiv (wrap64 ((wrap64 (a0)) - 25)) 24)))) % 256)] from rfl) (Reps.one (show Kd.M (Kd.int .u8) _ _ _ ((wrap64 (65 + (Int.tmod (wrap64 ((wrap64 (a0)) - 25)) 24))) % 256) [.int .u8 ((wrap64 (65 + (Int.tmod (wrap64 ((wrap64 (a0)) - 25)) 24))) % 256)] from rfl) (Reps.none _ _)))); intro v232 w15 ho16 hb hg_ hnew_; clear hg_ hnew_; (first | rw [← Ny231.out] at ho16 | (simp only [Int.reduceToNat] at ho16; rw [← Ny231.out] at ho16)); have n0_ := Aside0.mk (Kd.R_lower ho16 (below_size (by repeat (first | (with_reducible first | exact HB.out | apply below_alloc | apply pw_below_drewN | apply below_drew1) | exact HB.out)))); have n1_ := Aside0.mk (below_step (by repeat (first | (with_reducible first | exact HB.out | apply below_alloc | apply pw_below_drewN | apply below_drew1) | exact HB.out)) hb); clear HB; have HO233 := n0_; have HB := n1_; clear n0_ n1_; clear hb ho16; have hcv17 := own_string (P := Try.prog) Try.underlying36 Try.underlying5 Try.underlying9 (Kd.own_of_R HO233.out)))
                    go_ret
                    exact ⟨by first | rfl | (simp [errW_none, errW_some] <;> rfl) | (simp [*, errW_none, errW_some] <;> rfl), by repeat (first | (with_reducible first | exact HB.out | apply below_alloc | apply pw_below_drewN | apply below_drew1) | exact HB.out)⟩
              · replace c9 := Bool.eq_false_iff.mpr c9
                subst c9
                have H1 : (some (⟨#[]⟩ : ByteArray)) = some r := by rw [if_neg (show ¬ (false = true) by decide)] at H; exact H
                clear H
                have H := H1
                clear H1
                obtain rfl := Option.some.inj H
                go_wp2
                go_ret
                exact ⟨by first | rfl | (simp [errW_none, errW_some] <;> rfl) | (simp [*, errW_none, errW_some] <;> rfl), by repeat (first | (with_reducible first | exact HB.out | apply below_alloc | apply pw_below_drewN | apply below_drew1) | exact HB.out)⟩

end Go.Proofs.Ytkahgdkpehlanaa.P

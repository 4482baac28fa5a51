-- Written by a program of this session (wip/tools/mk.py) that runs the kit's printer.
import Derived.Test.YtfgonglcmgahkaaP0
import Derived.Test.YtfgonglcmgahkaaP35
namespace Go.Proofs.Ytfgonglcmgahkaa.P
open Go.RowKit Go.Proofs.YtfgonglcmgahkaaW.PrintWords Go.Proofs.YtfgonglcmgahkaaW.PrintLast Go.Proofs.YtfgonglcmgahkaaW.PrintMore
attribute [local go_sem] max2_int min2_int max_two min_two max_three min_three max_four min_four   -- for this text's walks alone
set_option linter.unusedVariables false
set_option linter.unusedSimpArgs false

/-! ### vivariumlaw08_made: function 28 -/
def vivariumlaw08_made.f (a0 : Int) (a1 : Int) (a2 : Int) : Option (Int × Int × Int) := (some (([1, 2, 3] : List Int) : List Int)).bind fun y305 => (if 0 ≤ (Int.tmod a0 3) then (if (Int.tmod a0 3) < (y305.length : Int) then ((vivariumlaw08_most.f (rd y305 (Int.tmod a0 3))).bind fun t309 => (if 0 ≤ (IntKind.u64.wrap (wrap64 (t309 + 1))) then (some (rd y305 (Int.tmod a0 3), Go.bits .and .u16 a1 (IntKind.u16.wrap ((shl .u16 1 (IntKind.u64.wrap (wrap64 (t309 + 1)))) - 1)), Go.bits .and .u16 a2 (IntKind.u16.wrap ((shl .u16 1 (IntKind.u64.wrap (wrap64 (t309 + 1)))) - 1)))) else (none))) else (none)) else (none))
set_option maxHeartbeats 8000000 in
set_option maxRecDepth 100000 in
theorem vivariumlaw08_made.calls (a0 : Int) (a1 : Int) (a2 : Int) (r1 : Int) (r2 : Int) (r3 : Int) (w : World) (h : vivariumlaw08_made.f a0 a1 a2 = some (r1, r2, r3)) :
    Calls Try.prog 28 #[.int .u8 a0, .int .u16 a1, .int .u16 a2] w fun e w' => e = .returned (.agg #[.int .u8 r1, .int .u16 r2, .int .u16 r3]) ∧ Below w.heap.size w w' := by
  have hu37 := Try.underlying37
  have HB := Aside0.mk (Below.refl w.heap.size w)
  have H : ((some (([1, 2, 3] : List Int) : List Int)).bind fun y305 => (if 0 ≤ (Int.tmod a0 3) then (if (Int.tmod a0 3) < (y305.length : Int) then ((vivariumlaw08_most.f (rd y305 (Int.tmod a0 3))).bind fun t309 => (if 0 ≤ (IntKind.u64.wrap (wrap64 (t309 + 1))) then (some (rd y305 (Int.tmod a0 3), Go.bits .and .u16 a1 (IntKind.u16.wrap ((shl .u16 1 (IntKind.u64.wrap (wrap64 (t309 + 1)))) - 1)), Go.bits .and .u16 a2 (IntKind.u16.wrap ((shl .u16 1 (IntKind.u64.wrap (wrap64 (t309 + 1)))) - 1)))) else (none))) else (none)) else (none))) = some (r1, r2, r3) := h
  clear h
  obtain ⟨y305, hy305⟩ : ∃ y_ : List Int, y_ = (([1, 2, 3] : List Int)) := ⟨_, rfl⟩
  replace H : (if 0 ≤ (Int.tmod a0 3) then (if (Int.tmod a0 3) < (y305.length : Int) then ((vivariumlaw08_most.f (rd y305 (Int.tmod a0 3))).bind fun t309 => (if 0 ≤ (IntKind.u64.wrap (wrap64 (t309 + 1))) then (some (rd y305 (Int.tmod a0 3), Go.bits .and .u16 a1 (IntKind.u16.wrap ((shl .u16 1 (IntKind.u64.wrap (wrap64 (t309 + 1)))) - 1)), Go.bits .and .u16 a2 (IntKind.u16.wrap ((shl .u16 1 (IntKind.u64.wrap (wrap64 (t309 + 1)))) - 1)))) else (none))) else (none)) else (none)) = some (r1, r2, r3) := by first | (rw [hy305]; with_reducible exact H) | (have H2_ := (Option.bind_some _ _).symm.trans H; rw [hy305]; with_reducible exact H2_) | (have H2_ := (Option.bind_some _ _).symm.trans H; with_reducible exact H2_) | with_reducible exact H | (rw [hy305]; exact H) | exact H
  have Ny305 := Aside0.mk hy305
  clear hy305
  obtain ⟨ji4, hji4⟩ : ∃ j_ : Int, (Int.tmod a0 3) = j_ := ⟨_, rfl⟩
  replace H : (if 0 ≤ (ji4) then (if (ji4) < (y305.length : Int) then ((vivariumlaw08_most.f (rd y305 (ji4))).bind fun t309 => (if 0 ≤ (IntKind.u64.wrap (wrap64 (t309 + 1))) then (some (rd y305 (ji4), Go.bits .and .u16 a1 (IntKind.u16.wrap ((shl .u16 1 (IntKind.u64.wrap (wrap64 (t309 + 1)))) - 1)), Go.bits .and .u16 a2 (IntKind.u16.wrap ((shl .u16 1 (IntKind.u64.wrap (wrap64 (t309 + 1)))) - 1)))) else (none))) else (none)) else (none)) = some (r1, r2, r3) := by first | (rw [hji4] at H; exact H) | (simp only [hji4] at H ⊢; exact H)
  by_cases c5 : 0 ≤ (ji4)
  · rw [if_pos c5] at H
    have c5b0 : decide (0 ≤ (ji4)) = true := decide_eq_true c5
    clear c5
    by_cases c6 : (ji4) < (y305.length : Int)
    · rw [if_pos c6] at H
      have c6b0 : decide ((ji4) < (y305.length : Int)) = true := decide_eq_true c6
      clear c6
      replace H := Option.bind_eq_some_iff.mp H
      obtain ⟨t309, A70, H⟩ := H
      replace H : (if 0 ≤ (IntKind.u64.wrap (wrap64 (t309 + 1))) then (some (rd y305 (ji4), Go.bits .and .u16 a1 (IntKind.u16.wrap ((shl .u16 1 (IntKind.u64.wrap (wrap64 (t309 + 1)))) - 1)), Go.bits .and .u16 a2 (IntKind.u16.wrap ((shl .u16 1 (IntKind.u64.wrap (wrap64 (t309 + 1)))) - 1)))) else (none)) = some (r1, r2, r3) := H
      have A7 := Aside0.mk A70
      clear A70
      obtain ⟨ji8, hji8⟩ : ∃ j_ : Int, (IntKind.u64.wrap (wrap64 (t309 + 1))) = j_ := ⟨_, rfl⟩
      replace H : (if 0 ≤ (ji8) then (some (rd y305 (ji4), Go.bits .and .u16 a1 (IntKind.u16.wrap ((shl .u16 1 (ji8)) - 1)), Go.bits .and .u16 a2 (IntKind.u16.wrap ((shl .u16 1 (ji8)) - 1)))) else (none)) = some (r1, r2, r3) := by first | (rw [hji8] at H; exact H) | (simp only [hji8] at H ⊢; exact H)
      (try rw [hji8] at A7)
      by_cases c9 : 0 ≤ (ji8)
      · rw [if_pos c9] at H
        have c9b0 := eq_true c9
        have c9b1 : decide (0 ≤ (ji8)) = true := decide_eq_true c9
        clear c9
        obtain ⟨ji10, hji10⟩ : ∃ j_ : Int, (shl .u16 1 (ji8)) = j_ := ⟨_, rfl⟩
        replace H : (some (rd y305 (ji4), Go.bits .and .u16 a1 (IntKind.u16.wrap ((ji10) - 1)), Go.bits .and .u16 a2 (IntKind.u16.wrap ((ji10) - 1)))) = some (r1, r2, r3) := by first | (rw [hji10] at H; exact H) | (simp only [hji10] at H ⊢; exact H)
        (try rw [hji10] at A7)
        have hji10_ : (IntKind.u16.wrap (1 * 2 ^ min (ji8).toNat 16)) = ji10 := hji10
        have hji10z : (ji8) ≤ 16 → (IntKind.u16.wrap (1 * 2 ^ (ji8).toNat)) = ji10 := shl_small hji10
        have hji10u : (IntKind.u16.wrap (2 ^ min (ji8).toNat 16)) = ji10 := by have h_ := hji10_; rw [Int.one_mul] at h_; exact h_
        have hji10v : (ji8) ≤ 16 → (IntKind.u16.wrap (2 ^ (ji8).toNat)) = ji10 := fun hle_ => by have h_ := hji10z hle_; rw [Int.one_mul] at h_; exact h_
        simp only [Option.some.injEq, Prod.mk.injEq] at H
        obtain ⟨rfl, rfl, rfl⟩ := H
        go_enter Try.func28, Try.ntmps28
        go_wp2_with (first | ((with_reducible refine gate_dst (N := 6) rfl ?_); refine box_event ?hg (N := 6) ?hd (cs := #[.int .u8 0, .int .u16 0, .int .u16 0]) (t := 37) ?hr ?_; (case hd => rfl); (case hg => rfl); (case hr => first | (go_simp; done) | (go_simp; rfl)); intro gb304 hg w11 hbox hb; have n0_ := Aside0.mk (below_step (by repeat (first | (with_reducible first | exact HB.out | apply below_alloc | apply pw_below_drewN | apply below_drew1) | exact HB.out)) hb); have n1_ := Aside0.mk (hbox); have n2_ := Aside0.mk ((by rw [hg]; exact (below_size (by repeat (first | (with_reducible first | exact HB.out | apply below_alloc | apply pw_below_drewN | apply below_drew1) | exact HB.out))) : w.heap.size ≤ gb304)); have n3_ := Aside0.mk ((by rw [hg]; exact (below_size (by repeat (first | (with_reducible first | exact HB.out | apply below_alloc | apply pw_below_drewN | apply below_drew1) | exact HB.out))) : w.heap.size ≤ gb304)); clear HB; have HB := n0_; have BK304 := n1_; have GW304 := n2_; have GE304 := n3_; clear n0_ n1_ n2_ n3_; clear hb hbox hg) | ((with_reducible refine gate_dst (N := 9) rfl ?_); refine Kd.R_lit (Kd.int .u8) _ 5 ?hg (N := 9) ?hd (xs := ([1, 2, 3] : List Int)) (inner := [.int .u8 1, .int .u8 2, .int .u8 3]) (ok := fun _ => True) (okp := fun _ => True) ?hr ?hp (fun _ hk => hk) trivial (Below.refl _ _) (Nat.le_refl _) (by simp) ?_; (case hd => rfl); (case hg => rfl); (case hr => first | (go_simp; done) | (go_simp; rfl)); (case hp => exact (Reps.one (show Kd.M (Kd.int .u8) _ _ _ 1 [.int .u8 1] from rfl) (Reps.one (show Kd.M (Kd.int .u8) _ _ _ 2 [.int .u8 2] from rfl) (Reps.one (show Kd.M (Kd.int .u8) _ _ _ 3 [.int .u8 3] from rfl) (Reps.none _ _))))); intro v306 w12 ho13 hb hg_ hnew_; clear hg_ hnew_; (first | rw [← Ny305.out] at ho13 | (simp only [Int.reduceToNat] at ho13; rw [← Ny305.out] at ho13)); have n0_ := Aside0.mk (Kd.R_lower ho13 (below_size (by repeat (first | (with_reducible first | exact HB.out | apply below_alloc | apply pw_below_drewN | apply below_drew1 | refine below_set ?_ GE304.out) | exact HB.out)))); have n1_ := Aside0.mk (blk_below (g := gb304) (o := .cells #[.int .u8 0, .int .u16 0, .int .u16 0] 37 (0, 0)) (by (with_reducible repeat (first | refine blk_drewN ?_ _ | refine blk_drew ?_ | refine blk_alloc ?_ _)); exact BK304.out) hb); have n2_ := Aside0.mk (below_step (by repeat (first | (with_reducible first | exact HB.out | apply below_alloc | apply pw_below_drewN | apply below_drew1 | refine below_set ?_ GE304.out) | exact HB.out)) hb); clear BK304; clear HB; have HO307 := n0_; have BK304 := n1_; have HB := n2_; clear n0_ n1_ n2_; clear hb ho13; obtain ⟨Ao14, co14, eo14⟩ := Kd.R_slice HO307.out; subst eo14; have p308 : 0 ≤ ((ji4) : Int) := of_decide_eq_true (by first | (with_reducible assumption) | assumption); have q308 : (ji4) < (y305.length : Int) := of_decide_eq_true (by first | (with_reducible assumption) | assumption); obtain ⟨ad308, e308, hx308_0⟩ := Kd.at_int (Kd.R_reads' HO307.out).2.2 (ji4) p308 q308; cases e308; replace p308 := eq_true p308; replace q308 := eq_true q308) | ((with_reducible refine gate_callee (f := 35) rfl ?_); refine goesL_ (some 15) rfl rfl Try.func35 (by kernel_rfl) rfl #[.int .u8 (rd y305 (ji4))] rfl (by (try simp only [List.map_toArray, List.map_cons, List.map_nil]); first | done | (simp only [hji4]; rfl) | rfl | (simp only [List.length_drop, List.length_take]; rfl)) ?_; (with_reducible refine (vivariumlaw08_most.calls (rd y305 (ji4)) t309 _ A7.out).mono ?_); rintro e w' ⟨rfl, ⟨nd, rfl⟩⟩; refine ⟨_, rfl, ?_⟩; (try (rw [drewN_self w12]; generalize hq_ : World.drewN w12 _ = w12; have n0_ : Aside0 (Kd.R (Kd.int .u8) 5 w12 w.heap.size (fun _ => True) (.slice (some ad308) y305.length co14) y305) := ⟨by rw [← hq_]; exact (by (with_reducible repeat (first | apply Kd.R_alloc | apply Kd.R_drewN | apply Kd.R_drew)); exact HO307.out)⟩; have n1_ : Aside0 (w12.heap[gb304]? = some (.cells #[.int .u8 0, .int .u16 0, .int .u16 0] 37 (0, 0))) := ⟨by rw [← hq_]; exact (by (with_reducible repeat (first | refine blk_drewN ?_ _ | refine blk_drew ?_ | refine blk_alloc ?_ _)); exact BK304.out)⟩; have n2_ : Aside0 (Below w.heap.size w w12) := ⟨by rw [← hq_]; exact (by repeat (first | (with_reducible first | exact HB.out | apply below_alloc | apply pw_below_drewN | apply below_drew1 | refine below_set ?_ GE304.out) | exact HB.out))⟩; clear HO307 BK304 HB hq_; have HO307 := n0_; have BK304 := n1_; have HB := n2_; clear n0_ n1_ n2_)); have hcz15_0 : w12.cell? ⟨gb304, 0, none⟩ = some (.int .u8 0) := (blk_cell BK304.out 0).trans rfl; have hcz15_1 : w12.cell? ⟨gb304, 1, none⟩ = some (.int .u16 0) := (blk_cell BK304.out 1).trans rfl; have hcz15_2 : w12.cell? ⟨gb304, 2, none⟩ = some (.int .u16 0) := (blk_cell BK304.out 2).trans rfl; have hfz15_0 := blk_frozen BK304.out 0; have hfz15_1 := blk_frozen BK304.out 1; have hfz15_2 := blk_frozen BK304.out 2))
        refine bodyPost_ret (results_cell_row rfl _ _ gb304 37 #[.int .u8 (rd y305 (ji4)), .int .u16 (Go.bits .and .u16 a1 (IntKind.u16.wrap ((ji10) - 1))), .int .u16 (Go.bits .and .u16 a2 (IntKind.u16.wrap ((ji10) - 1)))] (0, 0) _ rfl (by (with_reducible repeat (first | refine blk_drewN ?_ _ | refine blk_drew ?_ | refine blk_alloc ?_ _)); refine blk_put (cs := #[.int .u8 (rd y305 (ji4)), .int .u16 (Go.bits .and .u16 a1 (IntKind.u16.wrap ((ji10) - 1))), .int .u16 0]) ?_ 2 _ rfl; (with_reducible repeat (first | refine blk_drewN ?_ _ | refine blk_drew ?_ | refine blk_alloc ?_ _)); refine blk_put (cs := #[.int .u8 (rd y305 (ji4)), .int .u16 0, .int .u16 0]) ?_ 1 _ rfl; (with_reducible repeat (first | refine blk_drewN ?_ _ | refine blk_drew ?_ | refine blk_alloc ?_ _)); refine blk_put (cs := #[.int .u8 0, .int .u16 0, .int .u16 0]) ?_ 0 _ rfl; (with_reducible repeat (first | refine blk_drewN ?_ _ | refine blk_drew ?_ | refine blk_alloc ?_ _)); exact BK304.out) Try.underlying37 rfl (by kernel_rfl)) rfl ?_
        exact ⟨by first | rfl | (simp [errW_none, errW_some] <;> rfl) | (simp only [← hji4, ← hji8, ← hji10]; first | rfl | (simp [errW_none, errW_some] <;> rfl)) | (simp [*, errW_none, errW_some] <;> rfl), by repeat (first | (with_reducible first | exact HB.out | apply below_alloc | apply pw_below_drewN | apply below_drew1 | refine below_set ?_ GE304.out) | exact HB.out)⟩
      · rw [if_neg c9] at H
        exact absurd H (by simp)
    · rw [if_neg c6] at H
      exact absurd H (by simp)
  · rw [if_neg c5] at H
    exact absurd H (by simp)

end Go.Proofs.Ytfgonglcmgahkaa.P

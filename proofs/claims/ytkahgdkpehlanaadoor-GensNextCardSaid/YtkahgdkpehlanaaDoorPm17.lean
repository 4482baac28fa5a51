-- Written by a program of this session (wip/tools/mk.py) that runs the kit's printer; several functions' texts in one.
import Derived.Test.YtkahgdkpehlanaaDoorP0
import Derived.Test.YtkahgdkpehlanaaDoorPm13
import Derived.Test.YtkahgdkpehlanaaDoorPm14
import Derived.Test.YtkahgdkpehlanaaDoorPm16
namespace Go.Proofs.YtkahgdkpehlanaaDoor.P
open Go.RowKit Go.Proofs.YtkahgdkpehlanaaDoorW.PrintWords Go.Proofs.YtkahgdkpehlanaaDoorW.PrintLast Go.Proofs.YtkahgdkpehlanaaDoorW.PrintMore
attribute [local go_sem] max2_int min2_int max_two min_two   -- for this text's walks alone
set_option linter.unusedVariables false
set_option linter.unusedSimpArgs false

/-! ### vivariumlaw09_GensNext: function 6 -/
def vivariumlaw09_GensNext.f0 (k : Nat) (a0_0 : Int) (a0_1 : Int) (a0_2 : Int) (a0_3 : Int) (a1 : Int) (a2 : Int) : Option (Bool) := (vivariumlaw09_awake.f k).bind fun t267 => ((gens_Next.f k a0_0 a0_1 a0_2 a0_3 a1 a2).bind fun bt268 => ((vivariumref09_Next.f k a0_0 a0_1 a0_2 a0_3 a1 a2).bind fun bt270 => (if t267 = true then (if bt268.1 = bt270.1 then (some (bt268.2 == bt270.2)) else (some false)) else (some false))))
theorem vivariumlaw09_GensNext.mono0 : ∀ a0 a1 a2 a3 a4 a5 k, LeO (vivariumlaw09_GensNext.f0 k a0 a1 a2 a3 a4 a5) (vivariumlaw09_GensNext.f0 (k + 1) a0 a1 a2 a3 a4 a5) := by
  intro a0 a1 a2 a3 a4 a5 k
  unfold vivariumlaw09_GensNext.f0
  repeat' first
      | (with_reducible exact gens_Next.mono _ _ _ _ _ _ _)
      | (with_reducible exact vivariumlaw09_awake.mono _)
      | (with_reducible exact vivariumref09_Next.mono _ _ _ _ _ _ _)
      | (with_reducible exact LeO.refl _)
      | (with_reducible exact LeO.none _)
      | (with_reducible refine LeO.ite ?_ ?_)
      | (with_reducible refine LeO.bind ?_ (fun _ => ?_))
      | exact gens_Next.mono _ _ _ _ _ _ _
      | exact vivariumlaw09_awake.mono _
      | exact vivariumref09_Next.mono _ _ _ _ _ _ _
      | exact LeO.none _
      | refine LeO.ite ?_ ?_
      | refine LeO.bind ?_ (fun _ => ?_)
set_option maxHeartbeats 8000000 in
set_option maxRecDepth 100000 in
theorem vivariumlaw09_GensNext.calls0 (k : Nat) (a0_0 : Int) (a0_1 : Int) (a0_2 : Int) (a0_3 : Int) (a1 : Int) (a2 : Int) (r : Bool) (w : World) (h : vivariumlaw09_GensNext.f0 k a0_0 a0_1 a0_2 a0_3 a1 a2 = some r) (hr : Aside0 (r = true)) :
    Calls Tryd.prog 6 #[.agg #[.int .u8 a0_0, .int .u16 a0_1, .int .u16 a0_2, .int .i64 a0_3], .int .u8 a1, .int .i64 a2] w fun e w' => e = .returned (.bool r) ∧ Below w.heap.size w w' := by
  have hu42 := Tryd.underlying42
  have HB := Aside0.mk (Below.refl w.heap.size w)
  have H : ((vivariumlaw09_awake.f k).bind fun t267 => ((gens_Next.f k a0_0 a0_1 a0_2 a0_3 a1 a2).bind fun bt268 => ((vivariumref09_Next.f k a0_0 a0_1 a0_2 a0_3 a1 a2).bind fun bt270 => (if t267 = true then (if bt268.1 = bt270.1 then (some (bt268.2 == bt270.2)) else (some false)) else (some false))))) = some r := h
  clear h
  replace H := Option.bind_eq_some_iff.mp H
  obtain ⟨t267, A40, H⟩ := H
  replace H : ((gens_Next.f k a0_0 a0_1 a0_2 a0_3 a1 a2).bind fun bt268 => ((vivariumref09_Next.f k a0_0 a0_1 a0_2 a0_3 a1 a2).bind fun bt270 => (if t267 = true then (if bt268.1 = bt270.1 then (some (bt268.2 == bt270.2)) else (some false)) else (some false)))) = some r := H
  have A4 := Aside0.mk A40
  clear A40
  replace H := Option.bind_eq_some_iff.mp H
  obtain ⟨⟨t268, t269⟩, A50, H⟩ := H
  replace H : ((vivariumref09_Next.f k a0_0 a0_1 a0_2 a0_3 a1 a2).bind fun bt270 => (if t267 = true then (if t268 = bt270.1 then (some (t269 == bt270.2)) else (some false)) else (some false))) = some r := H
  have A5 := Aside0.mk A50
  clear A50
  replace H := Option.bind_eq_some_iff.mp H
  obtain ⟨⟨t270, t271⟩, A60, H⟩ := H
  replace H : (if t267 = true then (if t268 = t270 then (some (t269 == t271)) else (some false)) else (some false)) = some r := H
  have A6 := Aside0.mk A60
  clear A60
  by_cases c7 : t267 = true
  · subst c7
    have H1 : (if t268 = t270 then (some (t269 == t271)) else (some false)) = some r := by rw [if_pos rfl] at H; exact H
    clear H
    have H := H1
    clear H1
    by_cases c8 : t268 = t270
    · rw [if_pos c8] at H
      have c8b0 : (t268 == t270) = true := beq_iff_eq.mpr c8
      have c8b1 : (t268 != t270) = false := bne_eq_false_iff_eq.mpr c8
      clear c8
      obtain rfl := Option.some.inj H
      go_enter Tryd.func6, Tryd.ntmps6
      go_wp2_with (first | ((with_reducible refine gate_dst (N := 3) rfl ?_); refine box_event ?hg (N := 3) ?hd (cs := #[.int .u8 a0_0, .int .u16 a0_1, .int .u16 a0_2, .int .i64 a0_3]) (t := 42) ?hr ?_; (case hd => rfl); (case hg => rfl); (case hr => first | (go_simp; done) | (go_simp; rfl)); intro gb266 hg w9 hbox hb; have n0_ := Aside0.mk (below_step (by repeat (first | (with_reducible first | exact HB.out | apply below_alloc | apply pw_below_drewN | apply below_drew1) | exact HB.out)) hb); have n1_ := Aside0.mk (hbox); have n2_ := Aside0.mk ((by rw [hg]; exact (below_size (by repeat (first | (with_reducible first | exact HB.out | apply below_alloc | apply pw_below_drewN | apply below_drew1) | exact HB.out))) : w.heap.size ≤ gb266)); have n3_ := Aside0.mk ((by rw [hg]; exact (below_size (by repeat (first | (with_reducible first | exact HB.out | apply below_alloc | apply pw_below_drewN | apply below_drew1) | exact HB.out))) : w.heap.size ≤ gb266)); clear HB; have HB := n0_; have BK266 := n1_; have GW266 := n2_; have GE266 := n3_; clear n0_ n1_ n2_ n3_; clear hb hbox hg) | ((with_reducible refine gate_callee (f := 13) rfl ?_); refine goesL_ (some 12) rfl rfl Tryd.func13 (by kernel_rfl) rfl #[] rfl (by (try simp only [List.map_toArray, List.map_cons, List.map_nil]); first | done | rfl | (simp only [List.length_drop, List.length_take]; rfl)) ?_; (with_reducible refine (vivariumlaw09_awake.calls k  true _ A4.out).mono ?_); rintro e w10 ⟨rfl, hb⟩; refine ⟨_, rfl, ?_⟩; have n0_ := Aside0.mk (blk_below (g := gb266) (o := .cells #[.int .u8 a0_0, .int .u16 a0_1, .int .u16 a0_2, .int .i64 a0_3] 42 (0, 0)) (by (with_reducible repeat (first | refine blk_drewN ?_ _ | refine blk_drew ?_ | refine blk_alloc ?_ _)); exact BK266.out) hb); have n1_ := Aside0.mk (below_step (by repeat (first | (with_reducible first | exact HB.out | apply below_alloc | apply pw_below_drewN | apply below_drew1 | refine below_set ?_ GE266.out) | exact HB.out)) hb); clear BK266; clear HB; have BK266 := n0_; have HB := n1_; clear n0_ n1_; (try clear hb); (try clear hb2); (try clear hk); (try clear hi); have hcz11_0 : w10.cell? ⟨gb266, 0, none⟩ = some (.int .u8 a0_0) := (blk_cell BK266.out 0).trans rfl; have hcz11_1 : w10.cell? ⟨gb266, 1, none⟩ = some (.int .u16 a0_1) := (blk_cell BK266.out 1).trans rfl; have hcz11_2 : w10.cell? ⟨gb266, 2, none⟩ = some (.int .u16 a0_2) := (blk_cell BK266.out 2).trans rfl; have hcz11_3 : w10.cell? ⟨gb266, 3, none⟩ = some (.int .i64 a0_3) := (blk_cell BK266.out 3).trans rfl; have hfz11_0 := blk_frozen BK266.out 0; have hfz11_1 := blk_frozen BK266.out 1; have hfz11_2 := blk_frozen BK266.out 2; have hfz11_3 := blk_frozen BK266.out 3) | ((with_reducible refine gate_callee (f := 20) rfl ?_); refine goesL_ (some 17) rfl rfl Tryd.func20 (by kernel_rfl) rfl #[.agg #[.int .u8 a0_0, .int .u16 a0_1, .int .u16 a0_2, .int .i64 a0_3], .int .u8 a1, .int .i64 a2] rfl (by (try simp only [List.map_toArray, List.map_cons, List.map_nil]); first | done | rfl | (simp only [List.length_drop, List.length_take]; rfl)) ?_; (with_reducible refine (gens_Next.calls k a0_0 a0_1 a0_2 a0_3 a1 a2 t268 t269 _ A5.out).mono ?_); rintro e w12 ⟨rfl, hb⟩; refine ⟨_, rfl, ?_⟩; have n0_ := Aside0.mk (blk_below (g := gb266) (o := .cells #[.int .u8 a0_0, .int .u16 a0_1, .int .u16 a0_2, .int .i64 a0_3] 42 (0, 0)) (by (with_reducible repeat (first | refine blk_drewN ?_ _ | refine blk_drew ?_ | refine blk_alloc ?_ _)); exact BK266.out) hb); have n1_ := Aside0.mk (below_step (by repeat (first | (with_reducible first | exact HB.out | apply below_alloc | apply pw_below_drewN | apply below_drew1 | refine below_set ?_ GE266.out) | exact HB.out)) hb); clear BK266; clear HB; have BK266 := n0_; have HB := n1_; clear n0_ n1_; (try clear hb); (try clear hb2); (try clear hk); (try clear hi); have hcz13_0 : w12.cell? ⟨gb266, 0, none⟩ = some (.int .u8 a0_0) := (blk_cell BK266.out 0).trans rfl; have hcz13_1 : w12.cell? ⟨gb266, 1, none⟩ = some (.int .u16 a0_1) := (blk_cell BK266.out 1).trans rfl; have hcz13_2 : w12.cell? ⟨gb266, 2, none⟩ = some (.int .u16 a0_2) := (blk_cell BK266.out 2).trans rfl; have hcz13_3 : w12.cell? ⟨gb266, 3, none⟩ = some (.int .i64 a0_3) := (blk_cell BK266.out 3).trans rfl; have hfz13_0 := blk_frozen BK266.out 0; have hfz13_1 := blk_frozen BK266.out 1; have hfz13_2 := blk_frozen BK266.out 2; have hfz13_3 := blk_frozen BK266.out 3) | ((with_reducible refine gate_callee (f := 21) rfl ?_); refine goesL_ (some 24) rfl rfl Tryd.func21 (by kernel_rfl) rfl #[.agg #[.int .u8 a0_0, .int .u16 a0_1, .int .u16 a0_2, .int .i64 a0_3], .int .u8 a1, .int .i64 a2] rfl (by (try simp only [List.map_toArray, List.map_cons, List.map_nil]); first | done | rfl | (simp only [List.length_drop, List.length_take]; rfl)) ?_; (with_reducible refine (vivariumref09_Next.calls k a0_0 a0_1 a0_2 a0_3 a1 a2 t270 t271 _ A6.out).mono ?_); rintro e w14 ⟨rfl, hb⟩; refine ⟨_, rfl, ?_⟩; have n0_ := Aside0.mk (blk_below (g := gb266) (o := .cells #[.int .u8 a0_0, .int .u16 a0_1, .int .u16 a0_2, .int .i64 a0_3] 42 (0, 0)) (by (with_reducible repeat (first | refine blk_drewN ?_ _ | refine blk_drew ?_ | refine blk_alloc ?_ _)); exact BK266.out) hb); have n1_ := Aside0.mk (below_step (by repeat (first | (with_reducible first | exact HB.out | apply below_alloc | apply pw_below_drewN | apply below_drew1 | refine below_set ?_ GE266.out) | exact HB.out)) hb); clear BK266; clear HB; have BK266 := n0_; have HB := n1_; clear n0_ n1_; (try clear hb); (try clear hb2); (try clear hk); (try clear hi)))
      go_ret
      exact ⟨by first | rfl | (simp [errW_none, errW_some] <;> rfl) | (simp [*, errW_none, errW_some] <;> rfl), by repeat (first | (with_reducible first | exact HB.out | apply below_alloc | apply pw_below_drewN | apply below_drew1 | refine below_set ?_ GE266.out) | exact HB.out)⟩
    · rw [if_neg c8] at H
      have c8b0 : (t268 == t270) = false := beq_eq_false_iff_ne.mpr c8
      have c8b1 : (t268 != t270) = true := bne_iff_ne.mpr c8
      exact absurd ((Option.some.inj H).trans hr.out) (by decide)
  · replace c7 := Bool.eq_false_iff.mpr c7
    subst c7
    have H1 : (some false) = some r := by rw [if_neg (show ¬ (false = true) by decide)] at H; exact H
    clear H
    have H := H1
    clear H1
    exact absurd ((Option.some.inj H).trans hr.out) (by decide)
/-- Told where it is true. -/
def vivariumlaw09_GensNext.f (k : Nat) (a0_0 : Int) (a0_1 : Int) (a0_2 : Int) (a0_3 : Int) (a1 : Int) (a2 : Int) : Option (Bool) := (vivariumlaw09_GensNext.f0 k a0_0 a0_1 a0_2 a0_3 a1 a2).bind fun b => if b = true then some true else none
theorem vivariumlaw09_GensNext.to0 (k : Nat) (a0_0 : Int) (a0_1 : Int) (a0_2 : Int) (a0_3 : Int) (a1 : Int) (a2 : Int) (r : Bool) (h : vivariumlaw09_GensNext.f k a0_0 a0_1 a0_2 a0_3 a1 a2 = some r) : vivariumlaw09_GensNext.f0 k a0_0 a0_1 a0_2 a0_3 a1 a2 = some r ∧ r = true := by
  unfold vivariumlaw09_GensNext.f at h
  obtain ⟨b, h0, h⟩ := Option.bind_eq_some_iff.mp h
  cases b with
  | true => rw [if_pos rfl] at h; cases h; exact ⟨h0, rfl⟩
  | false => rw [if_neg (by decide)] at h; cases h
theorem vivariumlaw09_GensNext.mono : ∀ a0_0 a0_1 a0_2 a0_3 a1 a2 k, LeO (vivariumlaw09_GensNext.f k a0_0 a0_1 a0_2 a0_3 a1 a2) (vivariumlaw09_GensNext.f (k + 1) a0_0 a0_1 a0_2 a0_3 a1 a2) := by
  intro a0_0 a0_1 a0_2 a0_3 a1 a2 k
  exact LeO.bind (vivariumlaw09_GensNext.mono0 a0_0 a0_1 a0_2 a0_3 a1 a2 k) (fun _ => LeO.refl _)
theorem vivariumlaw09_GensNext.calls (k : Nat) (a0_0 : Int) (a0_1 : Int) (a0_2 : Int) (a0_3 : Int) (a1 : Int) (a2 : Int) (r : Bool) (w : World) (h : vivariumlaw09_GensNext.f k a0_0 a0_1 a0_2 a0_3 a1 a2 = some r) :
    Calls Tryd.prog 6 #[.agg #[.int .u8 a0_0, .int .u16 a0_1, .int .u16 a0_2, .int .i64 a0_3], .int .u8 a1, .int .i64 a2] w fun e w' => e = .returned (.bool r) ∧ Below w.heap.size w w' := vivariumlaw09_GensNext.calls0 k a0_0 a0_1 a0_2 a0_3 a1 a2 r w  (vivariumlaw09_GensNext.to0 k a0_0 a0_1 a0_2 a0_3 a1 a2 r h).1 ⟨(vivariumlaw09_GensNext.to0 k a0_0 a0_1 a0_2 a0_3 a1 a2 r h).2⟩

/-- THE ONE PURE STATEMENT of vivariumlaw09_GensNext. -/
def vivariumlaw09_GensNext.Pure : Prop := ∀ (a0_0 : Int) (a0_1 : Int) (a0_2 : Int) (a0_3 : Int) (a1 : Int) (a2 : Int), (Lit.int .u8 a0_0).wf = true → (Lit.int .u16 a0_1).wf = true → (Lit.int .u16 a0_2).wf = true → (Lit.int .i64 a0_3).wf = true → (Lit.int .u8 a1).wf = true → (Lit.int .i64 a2).wf = true → ∃ k, vivariumlaw09_GensNext.f k a0_0 a0_1 a0_2 a0_3 a1 a2 = some true
theorem vivariumlaw09_GensNext.walk (P : vivariumlaw09_GensNext.Pure) (a0_0 : Int) (a0_1 : Int) (a0_2 : Int) (a0_3 : Int) (a1 : Int) (a2 : Int) (w : World) (w0_0 : (Lit.int .u8 a0_0).wf = true) (w0_1 : (Lit.int .u16 a0_1).wf = true) (w0_2 : (Lit.int .u16 a0_2).wf = true) (w0_3 : (Lit.int .i64 a0_3).wf = true) (w1 : (Lit.int .u8 a1).wf = true) (w2 : (Lit.int .i64 a2).wf = true) :
    Calls Tryd.prog 6 #[.agg #[.int .u8 a0_0, .int .u16 a0_1, .int .u16 a0_2, .int .i64 a0_3], .int .u8 a1, .int .i64 a2] w fun e w' => e = .returned (.bool true) ∧ Below w.heap.size w w' := by
  obtain ⟨k, h⟩ := P a0_0 a0_1 a0_2 a0_3 a1 a2 w0_0 w0_1 w0_2 w0_3 w1 w2
  refine (vivariumlaw09_GensNext.calls k a0_0 a0_1 a0_2 a0_3 a1 a2 true w h).mono ?_
  rintro e w' ⟨rfl, hd⟩
  exact ⟨rfl, hd⟩

end Go.Proofs.YtkahgdkpehlanaaDoor.P

-- Written by a program of this session (wip/tools/mk.py) that runs the kit's printer.
import Derived.Test.YtfgonglcmgahkaaP0
import Derived.Test.YtfgonglcmgahkaaPe1
import Derived.Test.YtfgonglcmgahkaaP22
import Derived.Test.YtfgonglcmgahkaaP27
import Derived.Test.YtfgonglcmgahkaaP21
import Derived.Test.YtfgonglcmgahkaaP26
namespace Go.Proofs.Ytfgonglcmgahkaa.P
open Go.RowKit Go.Proofs.YtfgonglcmgahkaaW.PrintWords Go.Proofs.YtfgonglcmgahkaaW.PrintLast Go.Proofs.YtfgonglcmgahkaaW.PrintMore
attribute [local go_sem] max2_int min2_int max_two min_two max_three min_three max_four min_four   -- for this text's walks alone
set_option linter.unusedVariables false
set_option linter.unusedSimpArgs false

attribute [local go_sem high] eqA37
/-! ### vivariumlaw08_LifeForm: function 8 -/
def vivariumlaw08_LifeForm.j0 : Nat → ByteArray → Int → Int → Bool → Int → Int → Int → Option (Bool)
  | 0, _, _, _, _, _, _, _ => none
  | k + 1, x0, x5, x6, x55, x285000, x285001, x285002 => if x55 = true then (some false) else (if x6 = 0 then ((life_Print.f k x285000 x285001 x285002).bind fun bt292 => ((life_Parse.f bt292.1).bind fun bt294 => (if bt292.2 = 0 then (if bt294.2.2.2.2 = 0 then (if (bt292.1.size : Int) ≤ (x0.size : Int) then (if (bt294.1 == x285000 && (bt294.2.1 == x285001 && (bt294.2.2.1 == x285002))) = true then (if bt294.2.2.2.1 = 0 then (some (x5 == 0)) else (some false)) else (some false)) else (some false)) else (some false)) else (some false)))) else (some (x285000 == 0 && (x285001 == 0 && (x285002 == 0)))))
def vivariumlaw08_LifeForm.f (k : Nat) (a0 : ByteArray) : Option (Bool) := (vivariumlaw08_alive.f k).bind fun t278 => ((life_Parse.f a0).bind fun bt279 => ((vivariumlaw08_small.f k a0).bind fun t285 => ((life_Parse.f t285).bind fun bt286 => (if t278 = true then (if (!(bt286.1 == bt279.1) || (!(bt286.2.1 == bt279.2.1) || (!(bt286.2.2.1 == bt279.2.2.1)))) = true then (vivariumlaw08_LifeForm.j0 k a0 bt279.2.2.2.1 bt279.2.2.2.2 true bt279.1 bt279.2.1 bt279.2.2.1) else (if bt286.2.2.2.1 = bt279.2.2.2.1 then (if bt286.2.2.2.2 = bt279.2.2.2.2 then (if bt279.2.2.2.1 < 0 then (vivariumlaw08_LifeForm.j0 k a0 bt279.2.2.2.1 bt279.2.2.2.2 true bt279.1 bt279.2.1 bt279.2.2.1) else (vivariumlaw08_LifeForm.j0 k a0 bt279.2.2.2.1 bt279.2.2.2.2 (decide (bt279.2.2.2.1 > (a0.size : Int))) bt279.1 bt279.2.1 bt279.2.2.1)) else (vivariumlaw08_LifeForm.j0 k a0 bt279.2.2.2.1 bt279.2.2.2.2 true bt279.1 bt279.2.1 bt279.2.2.1)) else (vivariumlaw08_LifeForm.j0 k a0 bt279.2.2.2.1 bt279.2.2.2.2 true bt279.1 bt279.2.1 bt279.2.2.1))) else (vivariumlaw08_LifeForm.j0 k a0 bt279.2.2.2.1 bt279.2.2.2.2 true bt279.1 bt279.2.1 bt279.2.2.1)))))
theorem vivariumlaw08_LifeForm.mono_l : ∀ k, (∀ y0 y1 y2 y3 y4 y5 y6, LeO (vivariumlaw08_LifeForm.j0 k y0 y1 y2 y3 y4 y5 y6) (vivariumlaw08_LifeForm.j0 (k + 1) y0 y1 y2 y3 y4 y5 y6))
  | 0 => fun _ _ _ _ _ _ _ r h => by simp [vivariumlaw08_LifeForm.j0] at h
  | k + 1 => by
    have ih0 := vivariumlaw08_LifeForm.mono_l k
    · intro y0 y1 y2 y3 y4 y5 y6
      unfold vivariumlaw08_LifeForm.j0
      repeat' first
      | (with_reducible exact ih0 _ _ _ _ _ _ _)
      | (with_reducible exact life_Print.mono _ _ _ _)
      | (with_reducible exact vivariumlaw08_alive.mono _)
      | (with_reducible exact vivariumlaw08_small.mono _ _)
      | (with_reducible exact LeO.refl _)
      | (with_reducible exact LeO.none _)
      | (with_reducible refine LeO.ite ?_ ?_)
      | (with_reducible refine LeO.bind ?_ (fun _ => ?_))
      | exact ih0 _ _ _ _ _ _ _
      | exact life_Print.mono _ _ _ _
      | exact vivariumlaw08_alive.mono _
      | exact vivariumlaw08_small.mono _ _
      | exact LeO.none _
      | refine LeO.ite ?_ ?_
      | refine LeO.bind ?_ (fun _ => ?_)
theorem vivariumlaw08_LifeForm.mono : ∀ a0 k, LeO (vivariumlaw08_LifeForm.f k a0) (vivariumlaw08_LifeForm.f (k + 1) a0) := by
  intro a0 k
  have ih0 := vivariumlaw08_LifeForm.mono_l k
  unfold vivariumlaw08_LifeForm.f
  repeat' first
      | (with_reducible exact ih0 _ _ _ _ _ _ _)
      | (with_reducible exact life_Print.mono _ _ _ _)
      | (with_reducible exact vivariumlaw08_alive.mono _)
      | (with_reducible exact vivariumlaw08_small.mono _ _)
      | (with_reducible exact LeO.refl _)
      | (with_reducible exact LeO.none _)
      | (with_reducible refine LeO.ite ?_ ?_)
      | (with_reducible refine LeO.bind ?_ (fun _ => ?_))
      | exact ih0 _ _ _ _ _ _ _
      | exact life_Print.mono _ _ _ _
      | exact vivariumlaw08_alive.mono _
      | exact vivariumlaw08_small.mono _ _
      | exact LeO.none _
      | refine LeO.ite ?_ ?_
      | refine LeO.bind ?_ (fun _ => ?_)
set_option maxHeartbeats 8000000 in
set_option maxRecDepth 100000 in
theorem vivariumlaw08_LifeForm.calls (k : Nat) (a0 : ByteArray) (r : Bool) (w : World) (h : vivariumlaw08_LifeForm.f k a0 = some r) :
    Calls Try.prog 8 #[.string a0] w fun e w' => e = .returned (.bool r) ∧ Below w.heap.size w w' := by
  have hu37 := Try.underlying37
  have HB := Aside0.mk (Below.refl w.heap.size w)
  have H : ((vivariumlaw08_alive.f k).bind fun t278 => ((life_Parse.f a0).bind fun bt279 => ((vivariumlaw08_small.f k a0).bind fun t285 => ((life_Parse.f t285).bind fun bt286 => (if t278 = true then (if (!(bt286.1 == bt279.1) || (!(bt286.2.1 == bt279.2.1) || (!(bt286.2.2.1 == bt279.2.2.1)))) = true then (vivariumlaw08_LifeForm.j0 k a0 bt279.2.2.2.1 bt279.2.2.2.2 true bt279.1 bt279.2.1 bt279.2.2.1) else (if bt286.2.2.2.1 = bt279.2.2.2.1 then (if bt286.2.2.2.2 = bt279.2.2.2.2 then (if bt279.2.2.2.1 < 0 then (vivariumlaw08_LifeForm.j0 k a0 bt279.2.2.2.1 bt279.2.2.2.2 true bt279.1 bt279.2.1 bt279.2.2.1) else (vivariumlaw08_LifeForm.j0 k a0 bt279.2.2.2.1 bt279.2.2.2.2 (decide (bt279.2.2.2.1 > (a0.size : Int))) bt279.1 bt279.2.1 bt279.2.2.1)) else (vivariumlaw08_LifeForm.j0 k a0 bt279.2.2.2.1 bt279.2.2.2.2 true bt279.1 bt279.2.1 bt279.2.2.1)) else (vivariumlaw08_LifeForm.j0 k a0 bt279.2.2.2.1 bt279.2.2.2.2 true bt279.1 bt279.2.1 bt279.2.2.1))) else (vivariumlaw08_LifeForm.j0 k a0 bt279.2.2.2.1 bt279.2.2.2.2 true bt279.1 bt279.2.1 bt279.2.2.1)))))) = some r := h
  clear h
  replace H := Option.bind_eq_some_iff.mp H
  obtain ⟨t278, A20, H⟩ := H
  replace H : ((life_Parse.f a0).bind fun bt279 => ((vivariumlaw08_small.f k a0).bind fun t285 => ((life_Parse.f t285).bind fun bt286 => (if t278 = true then (if (!(bt286.1 == bt279.1) || (!(bt286.2.1 == bt279.2.1) || (!(bt286.2.2.1 == bt279.2.2.1)))) = true then (vivariumlaw08_LifeForm.j0 k a0 bt279.2.2.2.1 bt279.2.2.2.2 true bt279.1 bt279.2.1 bt279.2.2.1) else (if bt286.2.2.2.1 = bt279.2.2.2.1 then (if bt286.2.2.2.2 = bt279.2.2.2.2 then (if bt279.2.2.2.1 < 0 then (vivariumlaw08_LifeForm.j0 k a0 bt279.2.2.2.1 bt279.2.2.2.2 true bt279.1 bt279.2.1 bt279.2.2.1) else (vivariumlaw08_LifeForm.j0 k a0 bt279.2.2.2.1 bt279.2.2.2.2 (decide (bt279.2.2.2.1 > (a0.size : Int))) bt279.1 bt279.2.1 bt279.2.2.1)) else (vivariumlaw08_LifeForm.j0 k a0 bt279.2.2.2.1 bt279.2.2.2.2 true bt279.1 bt279.2.1 bt279.2.2.1)) else (vivariumlaw08_LifeForm.j0 k a0 bt279.2.2.2.1 bt279.2.2.2.2 true bt279.1 bt279.2.1 bt279.2.2.1))) else (vivariumlaw08_LifeForm.j0 k a0 bt279.2.2.2.1 bt279.2.2.2.2 true bt279.1 bt279.2.1 bt279.2.2.1))))) = some r := H
  have A2 := Aside0.mk A20
  clear A20
  replace H := Option.bind_eq_some_iff.mp H
  obtain ⟨⟨t279, t280, t281, t282, t283⟩, A30, H⟩ := H
  replace H : ((vivariumlaw08_small.f k a0).bind fun t285 => ((life_Parse.f t285).bind fun bt286 => (if t278 = true then (if (!(bt286.1 == t279) || (!(bt286.2.1 == t280) || (!(bt286.2.2.1 == t281)))) = true then (vivariumlaw08_LifeForm.j0 k a0 t282 t283 true t279 t280 t281) else (if bt286.2.2.2.1 = t282 then (if bt286.2.2.2.2 = t283 then (if t282 < 0 then (vivariumlaw08_LifeForm.j0 k a0 t282 t283 true t279 t280 t281) else (vivariumlaw08_LifeForm.j0 k a0 t282 t283 (decide (t282 > (a0.size : Int))) t279 t280 t281)) else (vivariumlaw08_LifeForm.j0 k a0 t282 t283 true t279 t280 t281)) else (vivariumlaw08_LifeForm.j0 k a0 t282 t283 true t279 t280 t281))) else (vivariumlaw08_LifeForm.j0 k a0 t282 t283 true t279 t280 t281)))) = some r := H
  have A3 := Aside0.mk A30
  clear A30
  replace H := Option.bind_eq_some_iff.mp H
  obtain ⟨t285, A40, H⟩ := H
  replace H : ((life_Parse.f t285).bind fun bt286 => (if t278 = true then (if (!(bt286.1 == t279) || (!(bt286.2.1 == t280) || (!(bt286.2.2.1 == t281)))) = true then (vivariumlaw08_LifeForm.j0 k a0 t282 t283 true t279 t280 t281) else (if bt286.2.2.2.1 = t282 then (if bt286.2.2.2.2 = t283 then (if t282 < 0 then (vivariumlaw08_LifeForm.j0 k a0 t282 t283 true t279 t280 t281) else (vivariumlaw08_LifeForm.j0 k a0 t282 t283 (decide (t282 > (a0.size : Int))) t279 t280 t281)) else (vivariumlaw08_LifeForm.j0 k a0 t282 t283 true t279 t280 t281)) else (vivariumlaw08_LifeForm.j0 k a0 t282 t283 true t279 t280 t281))) else (vivariumlaw08_LifeForm.j0 k a0 t282 t283 true t279 t280 t281))) = some r := H
  have A4 := Aside0.mk A40
  clear A40
  replace H := Option.bind_eq_some_iff.mp H
  obtain ⟨⟨t286, t287, t288, t289, t290⟩, A50, H⟩ := H
  replace H : (if t278 = true then (if (!(t286 == t279) || (!(t287 == t280) || (!(t288 == t281)))) = true then (vivariumlaw08_LifeForm.j0 k a0 t282 t283 true t279 t280 t281) else (if t289 = t282 then (if t290 = t283 then (if t282 < 0 then (vivariumlaw08_LifeForm.j0 k a0 t282 t283 true t279 t280 t281) else (vivariumlaw08_LifeForm.j0 k a0 t282 t283 (decide (t282 > (a0.size : Int))) t279 t280 t281)) else (vivariumlaw08_LifeForm.j0 k a0 t282 t283 true t279 t280 t281)) else (vivariumlaw08_LifeForm.j0 k a0 t282 t283 true t279 t280 t281))) else (vivariumlaw08_LifeForm.j0 k a0 t282 t283 true t279 t280 t281)) = some r := H
  have A5 := Aside0.mk A50
  clear A50
  have HC6 := Aside0.mk H
  clear H
  go_enter Try.func8, Try.ntmps8
  go_upto_region 4 with (first | ((with_reducible refine gate_callee (f := 21) rfl ?_); refine goesL_ (some 15) rfl rfl Try.func21 (by kernel_rfl) rfl #[] rfl (by (try simp only [List.map_toArray, List.map_cons, List.map_nil]); first | done | rfl | (simp only [List.length_drop, List.length_take]; rfl)) ?_; (with_reducible refine (vivariumlaw08_alive.calls k  t278 _ A2.out).mono ?_); rintro e w7 ⟨rfl, hb⟩; refine ⟨_, rfl, ?_⟩; have n0_ := Aside0.mk (below_step (by repeat (first | (with_reducible first | exact HB.out | apply below_alloc | apply pw_below_drewN | apply below_drew1) | exact HB.out)) hb); clear HB; have HB := n0_; clear n0_; (try clear hb); (try clear hb2); (try clear hk); (try clear hi)) | ((with_reducible refine gate_callee (f := 22) rfl ?_); refine goesL_ (some 18) rfl rfl Try.func22 (by kernel_rfl) rfl #[.string a0] rfl (by (try simp only [List.map_toArray, List.map_cons, List.map_nil]); first | done | rfl | (simp only [List.length_drop, List.length_take]; rfl)) ?_; (with_reducible refine (life_Parse.calls a0 t279 t280 t281 t282 t283 _ A3.out).mono ?_); rintro e w8 ⟨rfl, hb⟩; refine ⟨_, rfl, ?_⟩; have n0_ := Aside0.mk (below_step (by repeat (first | (with_reducible first | exact HB.out | apply below_alloc | apply pw_below_drewN | apply below_drew1) | exact HB.out)) hb); clear HB; have HB := n0_; clear n0_; (try clear hb); (try clear hb2); (try clear hk); (try clear hi)) | ((with_reducible refine gate_dst (N := 4) rfl ?_); (try (refine gate_guard (by rfl) ?_; dsimp only)); refine box_event ?hg (N := 4) ?hd (cs := #[.int .u8 0, .int .u16 0, .int .u16 0]) (t := 37) ?hr ?_; (case hd => rfl); (case hg => rfl); (case hr => first | (go_simp; done) | (go_simp; rfl)); intro gb284 hg w9 hbox hb; have n0_ := Aside0.mk (below_step (by repeat (first | (with_reducible first | exact HB.out | apply below_alloc | apply pw_below_drewN | apply below_drew1) | exact HB.out)) hb); have n1_ := Aside0.mk (hbox); have n2_ := Aside0.mk ((by rw [hg]; exact (below_size (by repeat (first | (with_reducible first | exact HB.out | apply below_alloc | apply pw_below_drewN | apply below_drew1) | exact HB.out))) : w.heap.size ≤ gb284)); have n3_ := Aside0.mk ((by rw [hg]; exact (below_size (by repeat (first | (with_reducible first | exact HB.out | apply below_alloc | apply pw_below_drewN | apply below_drew1) | exact HB.out))) : w.heap.size ≤ gb284)); clear HB; have HB := n0_; have BK284 := n1_; have GW284 := n2_; have GE284 := n3_; clear n0_ n1_ n2_ n3_; clear hb hbox hg; have hcz10_0 : w9.cell? ⟨gb284, 0, none⟩ = some (.int .u8 0) := (blk_cell BK284.out 0).trans rfl; have hcz10_1 : w9.cell? ⟨gb284, 1, none⟩ = some (.int .u16 0) := (blk_cell BK284.out 1).trans rfl; have hcz10_2 : w9.cell? ⟨gb284, 2, none⟩ = some (.int .u16 0) := (blk_cell BK284.out 2).trans rfl; have hfz10_0 := blk_frozen BK284.out 0; have hfz10_1 := blk_frozen BK284.out 1; have hfz10_2 := blk_frozen BK284.out 2) | ((with_reducible refine gate_callee (f := 26) rfl ?_); refine goesL_ (some 24) rfl rfl Try.func26 (by kernel_rfl) rfl #[.string a0] rfl (by (try simp only [List.map_toArray, List.map_cons, List.map_nil]); first | done | rfl | (simp only [List.length_drop, List.length_take]; rfl)) ?_; (with_reducible refine (vivariumlaw08_small.calls k a0 t285 _ A4.out).mono ?_); rintro e w11 ⟨rfl, hb⟩; refine ⟨_, rfl, ?_⟩; have n0_ := Aside0.mk (blk_below (g := gb284) (o := .cells #[.int .u8 t279, .int .u16 t280, .int .u16 t281] 37 (0, 0)) (by (with_reducible repeat (first | refine blk_drewN ?_ _ | refine blk_drew ?_ | refine blk_alloc ?_ _)); refine blk_put (cs := #[.int .u8 t279, .int .u16 t280, .int .u16 0]) ?_ 2 _ rfl; (with_reducible repeat (first | refine blk_drewN ?_ _ | refine blk_drew ?_ | refine blk_alloc ?_ _)); refine blk_put (cs := #[.int .u8 t279, .int .u16 0, .int .u16 0]) ?_ 1 _ rfl; (with_reducible repeat (first | refine blk_drewN ?_ _ | refine blk_drew ?_ | refine blk_alloc ?_ _)); refine blk_put (cs := #[.int .u8 0, .int .u16 0, .int .u16 0]) ?_ 0 _ rfl; (with_reducible repeat (first | refine blk_drewN ?_ _ | refine blk_drew ?_ | refine blk_alloc ?_ _)); exact BK284.out) hb); have n1_ := Aside0.mk (below_step (by repeat (first | (with_reducible first | exact HB.out | apply below_alloc | apply pw_below_drewN | apply below_drew1 | refine below_set ?_ GE284.out) | exact HB.out)) hb); clear BK284; clear HB; have BK284 := n0_; have HB := n1_; clear n0_ n1_; (try clear hb); (try clear hb2); (try clear hk); (try clear hi)) | ((with_reducible refine gate_callee (f := 22) rfl ?_); refine goesL_ (some 25) rfl rfl Try.func22 (by kernel_rfl) rfl #[.string t285] rfl (by (try simp only [List.map_toArray, List.map_cons, List.map_nil]); first | done | rfl | (simp only [List.length_drop, List.length_take]; rfl)) ?_; (with_reducible refine (life_Parse.calls t285 t286 t287 t288 t289 t290 _ A5.out).mono ?_); rintro e w12 ⟨rfl, hb⟩; refine ⟨_, rfl, ?_⟩; have n0_ := Aside0.mk (blk_below (g := gb284) (o := .cells #[.int .u8 t279, .int .u16 t280, .int .u16 t281] 37 (0, 0)) (by (with_reducible repeat (first | refine blk_drewN ?_ _ | refine blk_drew ?_ | refine blk_alloc ?_ _)); exact BK284.out) hb); have n1_ := Aside0.mk (below_step (by repeat (first | (with_reducible first | exact HB.out | apply below_alloc | apply pw_below_drewN | apply below_drew1 | refine below_set ?_ GE284.out) | exact HB.out)) hb); clear BK284; clear HB; have BK284 := n0_; have HB := n1_; clear n0_ n1_; (try clear hb); (try clear hb2); (try clear hk); (try clear hi)) | ((with_reducible refine gate_dst (N := 7) rfl ?_); (try (refine gate_guard (by rfl) ?_; dsimp only)); refine box_event ?hg (N := 7) ?hd (cs := #[.int .u8 0, .int .u16 0, .int .u16 0]) (t := 37) ?hr ?_; (case hd => rfl); (case hg => rfl); (case hr => first | (go_simp; done) | (go_simp; rfl)); intro gb291 hg w13 hbox hb; have n0_ := Aside0.mk (blk_below (g := gb284) (o := .cells #[.int .u8 t279, .int .u16 t280, .int .u16 t281] 37 (0, 0)) (by (with_reducible repeat (first | refine blk_drewN ?_ _ | refine blk_drew ?_ | refine blk_alloc ?_ _)); exact BK284.out) hb); have n1_ := Aside0.mk (below_step (by repeat (first | (with_reducible first | exact HB.out | apply below_alloc | apply pw_below_drewN | apply below_drew1 | refine below_set ?_ GE284.out) | exact HB.out)) hb); have n2_ := Aside0.mk (hbox); have n3_ := Aside0.mk ((by rw [hg]; exact (below_size (by repeat (first | (with_reducible first | exact HB.out | apply below_alloc | apply pw_below_drewN | apply below_drew1 | refine below_set ?_ GE284.out) | exact HB.out))) : w.heap.size ≤ gb291)); have n4_ := Aside0.mk ((by rw [hg]; exact (below_size (by repeat (first | (with_reducible first | exact HB.out | apply below_alloc | apply pw_below_drewN | apply below_drew1 | refine below_set ?_ GE284.out) | exact HB.out))) : w.heap.size ≤ gb291)); have n5_ := Aside0.mk ((by rw [hg]; exact Nat.ne_of_lt (blk_lt (g := gb284) (o := .cells #[.int .u8 t279, .int .u16 t280, .int .u16 t281] 37 (0, 0)) (by (with_reducible repeat (first | refine blk_drewN ?_ _ | refine blk_drew ?_ | refine blk_alloc ?_ _)); exact BK284.out)) : gb284 ≠ gb291)); have n6_ := Aside0.mk ((by rw [hg]; exact Nat.ne_of_gt (blk_lt (g := gb284) (o := .cells #[.int .u8 t279, .int .u16 t280, .int .u16 t281] 37 (0, 0)) (by (with_reducible repeat (first | refine blk_drewN ?_ _ | refine blk_drew ?_ | refine blk_alloc ?_ _)); exact BK284.out)) : gb291 ≠ gb284)); clear BK284; clear HB; have BK284 := n0_; have HB := n1_; have BK291 := n2_; have GW291 := n3_; have GE291 := n4_; have NB284_291 := n5_; have NB291_284 := n6_; clear n0_ n1_ n2_ n3_ n4_ n5_ n6_; clear hb hbox hg; have hnb14 := NB291_284.out; have hnc14 := NB284_291.out; have hcz15_0 : w13.cell? ⟨gb291, 0, none⟩ = some (.int .u8 0) := (blk_cell BK291.out 0).trans rfl; have hcz15_1 : w13.cell? ⟨gb291, 1, none⟩ = some (.int .u16 0) := (blk_cell BK291.out 1).trans rfl; have hcz15_2 : w13.cell? ⟨gb291, 2, none⟩ = some (.int .u16 0) := (blk_cell BK291.out 2).trans rfl; have hfz15_0 := blk_frozen BK291.out 0; have hfz15_1 := blk_frozen BK291.out 1; have hfz15_2 := blk_frozen BK291.out 2))
  (try simp only [Act.put, List.setIfInBounds_toArray, List.set_cons_zero, List.set_cons_succ])
  go_cut [55] (fun v55 wc => ∃ (kq : Nat) (x55_5 : Bool), v55 = .bool x55_5 ∧ Aside0 (vivariumlaw08_LifeForm.j0 kq a0 t282 t283 x55_5 t279 t280 t281 = some r) ∧ Aside0 (kq ≤ k) ∧ Aside0 (wc.heap[gb284]? = some (.cells #[.int .u8 t279, .int .u16 t280, .int .u16 t281] 37 (0, 0))) ∧ Aside0 (wc.heap[gb291]? = some (.cells #[.int .u8 t286, .int .u16 t287, .int .u16 t288] 37 (0, 0))) ∧ Aside0 (Below w.heap.size w wc))
  case first =>
    have H := HC6.out
    clear HC6
    by_cases c16 : t278 = true
    · subst c16
      have H1 : (if (!(t286 == t279) || (!(t287 == t280) || (!(t288 == t281)))) = true then (vivariumlaw08_LifeForm.j0 k a0 t282 t283 true t279 t280 t281) else (if t289 = t282 then (if t290 = t283 then (if t282 < 0 then (vivariumlaw08_LifeForm.j0 k a0 t282 t283 true t279 t280 t281) else (vivariumlaw08_LifeForm.j0 k a0 t282 t283 (decide (t282 > (a0.size : Int))) t279 t280 t281)) else (vivariumlaw08_LifeForm.j0 k a0 t282 t283 true t279 t280 t281)) else (vivariumlaw08_LifeForm.j0 k a0 t282 t283 true t279 t280 t281))) = some r := by rw [if_pos rfl] at H; exact H
      clear H
      have H := H1
      clear H1
      by_cases c17 : (!(t286 == t279) || (!(t287 == t280) || (!(t288 == t281)))) = true
      · rw [if_pos c17] at H
        have c17b0 : (!(t286 == t279) || (!(t287 == t280) || (!(t288 == t281)))) = true := c17
        clear c17
        (first | rw [c17b0] | (simp only [i64_w, i32_w]; rw [c17b0]) | skip)
        have H' := Aside0.mk H
        clear H
        have hnb18 := NB291_284.out
        have hnc18 := NB284_291.out
        have hcz19_0 : w13.cell? ⟨gb291, 0, none⟩ = some (.int .u8 0) := (blk_cell BK291.out 0).trans rfl
        have hcz19_1 : w13.cell? ⟨gb291, 1, none⟩ = some (.int .u16 0) := (blk_cell BK291.out 1).trans rfl
        have hcz19_2 : w13.cell? ⟨gb291, 2, none⟩ = some (.int .u16 0) := (blk_cell BK291.out 2).trans rfl
        have hfz19_0 := blk_frozen BK291.out 0
        have hfz19_1 := blk_frozen BK291.out 1
        have hfz19_2 := blk_frozen BK291.out 2
        have hcz20_0 : w13.cell? ⟨gb284, 0, none⟩ = some (.int .u8 t279) := (blk_cell BK284.out 0).trans rfl
        have hcz20_1 : w13.cell? ⟨gb284, 1, none⟩ = some (.int .u16 t280) := (blk_cell BK284.out 1).trans rfl
        have hcz20_2 : w13.cell? ⟨gb284, 2, none⟩ = some (.int .u16 t281) := (blk_cell BK284.out 2).trans rfl
        have hfz20_0 := blk_frozen BK284.out 0
        have hfz20_1 := blk_frozen BK284.out 1
        have hfz20_2 := blk_frozen BK284.out 2
        go_wp2
        go_meet
        case rel => exact ⟨_, (true), (by first | rfl | (simp; done) | (simp [*]; done)), H', ⟨by first | omega | exact Nat.le_refl _⟩, ⟨by (with_reducible repeat (first | refine blk_drewN ?_ _ | refine blk_drew ?_ | refine blk_alloc ?_ _)); refine blk_far ?_ NB284_291.out _; (with_reducible repeat (first | refine blk_drewN ?_ _ | refine blk_drew ?_ | refine blk_alloc ?_ _)); refine blk_far ?_ NB284_291.out _; (with_reducible repeat (first | refine blk_drewN ?_ _ | refine blk_drew ?_ | refine blk_alloc ?_ _)); refine blk_far ?_ NB284_291.out _; (with_reducible repeat (first | refine blk_drewN ?_ _ | refine blk_drew ?_ | refine blk_alloc ?_ _)); exact BK284.out⟩, ⟨by (with_reducible repeat (first | refine blk_drewN ?_ _ | refine blk_drew ?_ | refine blk_alloc ?_ _)); refine blk_put (cs := #[.int .u8 t286, .int .u16 t287, .int .u16 0]) ?_ 2 _ rfl; (with_reducible repeat (first | refine blk_drewN ?_ _ | refine blk_drew ?_ | refine blk_alloc ?_ _)); refine blk_put (cs := #[.int .u8 t286, .int .u16 0, .int .u16 0]) ?_ 1 _ rfl; (with_reducible repeat (first | refine blk_drewN ?_ _ | refine blk_drew ?_ | refine blk_alloc ?_ _)); refine blk_put (cs := #[.int .u8 0, .int .u16 0, .int .u16 0]) ?_ 0 _ rfl; (with_reducible repeat (first | refine blk_drewN ?_ _ | refine blk_drew ?_ | refine blk_alloc ?_ _)); exact BK291.out⟩, ⟨by repeat (first | (with_reducible first | exact HB.out | apply below_alloc | apply pw_below_drewN | apply below_drew1 | refine below_set ?_ GE284.out | refine below_set ?_ GE291.out) | exact HB.out)⟩⟩
      · rw [if_neg c17] at H
        have c17b0 : (!(t286 == t279) || (!(t287 == t280) || (!(t288 == t281)))) = false := by simpa using c17
        clear c17
        (first | rw [c17b0] | (simp only [i64_w, i32_w]; rw [c17b0]) | skip)
        by_cases c21 : t289 = t282
        · rw [if_pos c21] at H
          have c21b0 : (t289 == t282) = true := beq_iff_eq.mpr c21
          have c21b1 : (t289 != t282) = false := bne_eq_false_iff_eq.mpr c21
          clear c21
          by_cases c22 : t290 = t283
          · rw [if_pos c22] at H
            have c22b0 : (t290 == t283) = true := beq_iff_eq.mpr c22
            have c22b1 : (t290 != t283) = false := bne_eq_false_iff_eq.mpr c22
            clear c22
            by_cases c23 : t282 < 0
            · rw [if_pos c23] at H
              have c23b0 : decide (t282 < 0) = true := decide_eq_true c23
              clear c23
              have H' := Aside0.mk H
              clear H
              have hnb24 := NB291_284.out
              have hnc24 := NB284_291.out
              have hcz25_0 : w13.cell? ⟨gb291, 0, none⟩ = some (.int .u8 0) := (blk_cell BK291.out 0).trans rfl
              have hcz25_1 : w13.cell? ⟨gb291, 1, none⟩ = some (.int .u16 0) := (blk_cell BK291.out 1).trans rfl
              have hcz25_2 : w13.cell? ⟨gb291, 2, none⟩ = some (.int .u16 0) := (blk_cell BK291.out 2).trans rfl
              have hfz25_0 := blk_frozen BK291.out 0
              have hfz25_1 := blk_frozen BK291.out 1
              have hfz25_2 := blk_frozen BK291.out 2
              have hcz26_0 : w13.cell? ⟨gb284, 0, none⟩ = some (.int .u8 t279) := (blk_cell BK284.out 0).trans rfl
              have hcz26_1 : w13.cell? ⟨gb284, 1, none⟩ = some (.int .u16 t280) := (blk_cell BK284.out 1).trans rfl
              have hcz26_2 : w13.cell? ⟨gb284, 2, none⟩ = some (.int .u16 t281) := (blk_cell BK284.out 2).trans rfl
              have hfz26_0 := blk_frozen BK284.out 0
              have hfz26_1 := blk_frozen BK284.out 1
              have hfz26_2 := blk_frozen BK284.out 2
              go_wp2
              go_meet
              case rel => exact ⟨_, (true), (by first | rfl | (simp; done) | (simp [*]; done)), H', ⟨by first | omega | exact Nat.le_refl _⟩, ⟨by (with_reducible repeat (first | refine blk_drewN ?_ _ | refine blk_drew ?_ | refine blk_alloc ?_ _)); refine blk_far ?_ NB284_291.out _; (with_reducible repeat (first | refine blk_drewN ?_ _ | refine blk_drew ?_ | refine blk_alloc ?_ _)); refine blk_far ?_ NB284_291.out _; (with_reducible repeat (first | refine blk_drewN ?_ _ | refine blk_drew ?_ | refine blk_alloc ?_ _)); refine blk_far ?_ NB284_291.out _; (with_reducible repeat (first | refine blk_drewN ?_ _ | refine blk_drew ?_ | refine blk_alloc ?_ _)); exact BK284.out⟩, ⟨by (with_reducible repeat (first | refine blk_drewN ?_ _ | refine blk_drew ?_ | refine blk_alloc ?_ _)); refine blk_put (cs := #[.int .u8 t286, .int .u16 t287, .int .u16 0]) ?_ 2 _ rfl; (with_reducible repeat (first | refine blk_drewN ?_ _ | refine blk_drew ?_ | refine blk_alloc ?_ _)); refine blk_put (cs := #[.int .u8 t286, .int .u16 0, .int .u16 0]) ?_ 1 _ rfl; (with_reducible repeat (first | refine blk_drewN ?_ _ | refine blk_drew ?_ | refine blk_alloc ?_ _)); refine blk_put (cs := #[.int .u8 0, .int .u16 0, .int .u16 0]) ?_ 0 _ rfl; (with_reducible repeat (first | refine blk_drewN ?_ _ | refine blk_drew ?_ | refine blk_alloc ?_ _)); exact BK291.out⟩, ⟨by repeat (first | (with_reducible first | exact HB.out | apply below_alloc | apply pw_below_drewN | apply below_drew1 | refine below_set ?_ GE284.out | refine below_set ?_ GE291.out) | exact HB.out)⟩⟩
            · rw [if_neg c23] at H
              have c23b0 : decide (t282 < 0) = false := decide_eq_false c23
              clear c23
              have H' := Aside0.mk H
              clear H
              have hnb27 := NB291_284.out
              have hnc27 := NB284_291.out
              have hcz28_0 : w13.cell? ⟨gb291, 0, none⟩ = some (.int .u8 0) := (blk_cell BK291.out 0).trans rfl
              have hcz28_1 : w13.cell? ⟨gb291, 1, none⟩ = some (.int .u16 0) := (blk_cell BK291.out 1).trans rfl
              have hcz28_2 : w13.cell? ⟨gb291, 2, none⟩ = some (.int .u16 0) := (blk_cell BK291.out 2).trans rfl
              have hfz28_0 := blk_frozen BK291.out 0
              have hfz28_1 := blk_frozen BK291.out 1
              have hfz28_2 := blk_frozen BK291.out 2
              have hcz29_0 : w13.cell? ⟨gb284, 0, none⟩ = some (.int .u8 t279) := (blk_cell BK284.out 0).trans rfl
              have hcz29_1 : w13.cell? ⟨gb284, 1, none⟩ = some (.int .u16 t280) := (blk_cell BK284.out 1).trans rfl
              have hcz29_2 : w13.cell? ⟨gb284, 2, none⟩ = some (.int .u16 t281) := (blk_cell BK284.out 2).trans rfl
              have hfz29_0 := blk_frozen BK284.out 0
              have hfz29_1 := blk_frozen BK284.out 1
              have hfz29_2 := blk_frozen BK284.out 2
              go_wp2
              go_meet
              case rel => exact ⟨_, (decide (t282 > (a0.size : Int))), (by first | rfl | (simp; done) | (simp [*]; done)), H', ⟨by first | omega | exact Nat.le_refl _⟩, ⟨by (with_reducible repeat (first | refine blk_drewN ?_ _ | refine blk_drew ?_ | refine blk_alloc ?_ _)); refine blk_far ?_ NB284_291.out _; (with_reducible repeat (first | refine blk_drewN ?_ _ | refine blk_drew ?_ | refine blk_alloc ?_ _)); refine blk_far ?_ NB284_291.out _; (with_reducible repeat (first | refine blk_drewN ?_ _ | refine blk_drew ?_ | refine blk_alloc ?_ _)); refine blk_far ?_ NB284_291.out _; (with_reducible repeat (first | refine blk_drewN ?_ _ | refine blk_drew ?_ | refine blk_alloc ?_ _)); exact BK284.out⟩, ⟨by (with_reducible repeat (first | refine blk_drewN ?_ _ | refine blk_drew ?_ | refine blk_alloc ?_ _)); refine blk_put (cs := #[.int .u8 t286, .int .u16 t287, .int .u16 0]) ?_ 2 _ rfl; (with_reducible repeat (first | refine blk_drewN ?_ _ | refine blk_drew ?_ | refine blk_alloc ?_ _)); refine blk_put (cs := #[.int .u8 t286, .int .u16 0, .int .u16 0]) ?_ 1 _ rfl; (with_reducible repeat (first | refine blk_drewN ?_ _ | refine blk_drew ?_ | refine blk_alloc ?_ _)); refine blk_put (cs := #[.int .u8 0, .int .u16 0, .int .u16 0]) ?_ 0 _ rfl; (with_reducible repeat (first | refine blk_drewN ?_ _ | refine blk_drew ?_ | refine blk_alloc ?_ _)); exact BK291.out⟩, ⟨by repeat (first | (with_reducible first | exact HB.out | apply below_alloc | apply pw_below_drewN | apply below_drew1 | refine below_set ?_ GE284.out | refine below_set ?_ GE291.out) | exact HB.out)⟩⟩
          · rw [if_neg c22] at H
            have c22b0 : (t290 == t283) = false := beq_eq_false_iff_ne.mpr c22
            have c22b1 : (t290 != t283) = true := bne_iff_ne.mpr c22
            have H' := Aside0.mk H
            clear H
            have hnb30 := NB291_284.out
            have hnc30 := NB284_291.out
            have hcz31_0 : w13.cell? ⟨gb291, 0, none⟩ = some (.int .u8 0) := (blk_cell BK291.out 0).trans rfl
            have hcz31_1 : w13.cell? ⟨gb291, 1, none⟩ = some (.int .u16 0) := (blk_cell BK291.out 1).trans rfl
            have hcz31_2 : w13.cell? ⟨gb291, 2, none⟩ = some (.int .u16 0) := (blk_cell BK291.out 2).trans rfl
            have hfz31_0 := blk_frozen BK291.out 0
            have hfz31_1 := blk_frozen BK291.out 1
            have hfz31_2 := blk_frozen BK291.out 2
            have hcz32_0 : w13.cell? ⟨gb284, 0, none⟩ = some (.int .u8 t279) := (blk_cell BK284.out 0).trans rfl
            have hcz32_1 : w13.cell? ⟨gb284, 1, none⟩ = some (.int .u16 t280) := (blk_cell BK284.out 1).trans rfl
            have hcz32_2 : w13.cell? ⟨gb284, 2, none⟩ = some (.int .u16 t281) := (blk_cell BK284.out 2).trans rfl
            have hfz32_0 := blk_frozen BK284.out 0
            have hfz32_1 := blk_frozen BK284.out 1
            have hfz32_2 := blk_frozen BK284.out 2
            go_wp2
            go_meet
            case rel => exact ⟨_, (true), (by first | rfl | (simp; done) | (simp [*]; done)), H', ⟨by first | omega | exact Nat.le_refl _⟩, ⟨by (with_reducible repeat (first | refine blk_drewN ?_ _ | refine blk_drew ?_ | refine blk_alloc ?_ _)); refine blk_far ?_ NB284_291.out _; (with_reducible repeat (first | refine blk_drewN ?_ _ | refine blk_drew ?_ | refine blk_alloc ?_ _)); refine blk_far ?_ NB284_291.out _; (with_reducible repeat (first | refine blk_drewN ?_ _ | refine blk_drew ?_ | refine blk_alloc ?_ _)); refine blk_far ?_ NB284_291.out _; (with_reducible repeat (first | refine blk_drewN ?_ _ | refine blk_drew ?_ | refine blk_alloc ?_ _)); exact BK284.out⟩, ⟨by (with_reducible repeat (first | refine blk_drewN ?_ _ | refine blk_drew ?_ | refine blk_alloc ?_ _)); refine blk_put (cs := #[.int .u8 t286, .int .u16 t287, .int .u16 0]) ?_ 2 _ rfl; (with_reducible repeat (first | refine blk_drewN ?_ _ | refine blk_drew ?_ | refine blk_alloc ?_ _)); refine blk_put (cs := #[.int .u8 t286, .int .u16 0, .int .u16 0]) ?_ 1 _ rfl; (with_reducible repeat (first | refine blk_drewN ?_ _ | refine blk_drew ?_ | refine blk_alloc ?_ _)); refine blk_put (cs := #[.int .u8 0, .int .u16 0, .int .u16 0]) ?_ 0 _ rfl; (with_reducible repeat (first | refine blk_drewN ?_ _ | refine blk_drew ?_ | refine blk_alloc ?_ _)); exact BK291.out⟩, ⟨by repeat (first | (with_reducible first | exact HB.out | apply below_alloc | apply pw_below_drewN | apply below_drew1 | refine below_set ?_ GE284.out | refine below_set ?_ GE291.out) | exact HB.out)⟩⟩
        · rw [if_neg c21] at H
          have c21b0 : (t289 == t282) = false := beq_eq_false_iff_ne.mpr c21
          have c21b1 : (t289 != t282) = true := bne_iff_ne.mpr c21
          have H' := Aside0.mk H
          clear H
          have hnb33 := NB291_284.out
          have hnc33 := NB284_291.out
          have hcz34_0 : w13.cell? ⟨gb291, 0, none⟩ = some (.int .u8 0) := (blk_cell BK291.out 0).trans rfl
          have hcz34_1 : w13.cell? ⟨gb291, 1, none⟩ = some (.int .u16 0) := (blk_cell BK291.out 1).trans rfl
          have hcz34_2 : w13.cell? ⟨gb291, 2, none⟩ = some (.int .u16 0) := (blk_cell BK291.out 2).trans rfl
          have hfz34_0 := blk_frozen BK291.out 0
          have hfz34_1 := blk_frozen BK291.out 1
          have hfz34_2 := blk_frozen BK291.out 2
          have hcz35_0 : w13.cell? ⟨gb284, 0, none⟩ = some (.int .u8 t279) := (blk_cell BK284.out 0).trans rfl
          have hcz35_1 : w13.cell? ⟨gb284, 1, none⟩ = some (.int .u16 t280) := (blk_cell BK284.out 1).trans rfl
          have hcz35_2 : w13.cell? ⟨gb284, 2, none⟩ = some (.int .u16 t281) := (blk_cell BK284.out 2).trans rfl
          have hfz35_0 := blk_frozen BK284.out 0
          have hfz35_1 := blk_frozen BK284.out 1
          have hfz35_2 := blk_frozen BK284.out 2
          go_wp2
          go_meet
          case rel => exact ⟨_, (true), (by first | rfl | (simp; done) | (simp [*]; done)), H', ⟨by first | omega | exact Nat.le_refl _⟩, ⟨by (with_reducible repeat (first | refine blk_drewN ?_ _ | refine blk_drew ?_ | refine blk_alloc ?_ _)); refine blk_far ?_ NB284_291.out _; (with_reducible repeat (first | refine blk_drewN ?_ _ | refine blk_drew ?_ | refine blk_alloc ?_ _)); refine blk_far ?_ NB284_291.out _; (with_reducible repeat (first | refine blk_drewN ?_ _ | refine blk_drew ?_ | refine blk_alloc ?_ _)); refine blk_far ?_ NB284_291.out _; (with_reducible repeat (first | refine blk_drewN ?_ _ | refine blk_drew ?_ | refine blk_alloc ?_ _)); exact BK284.out⟩, ⟨by (with_reducible repeat (first | refine blk_drewN ?_ _ | refine blk_drew ?_ | refine blk_alloc ?_ _)); refine blk_put (cs := #[.int .u8 t286, .int .u16 t287, .int .u16 0]) ?_ 2 _ rfl; (with_reducible repeat (first | refine blk_drewN ?_ _ | refine blk_drew ?_ | refine blk_alloc ?_ _)); refine blk_put (cs := #[.int .u8 t286, .int .u16 0, .int .u16 0]) ?_ 1 _ rfl; (with_reducible repeat (first | refine blk_drewN ?_ _ | refine blk_drew ?_ | refine blk_alloc ?_ _)); refine blk_put (cs := #[.int .u8 0, .int .u16 0, .int .u16 0]) ?_ 0 _ rfl; (with_reducible repeat (first | refine blk_drewN ?_ _ | refine blk_drew ?_ | refine blk_alloc ?_ _)); exact BK291.out⟩, ⟨by repeat (first | (with_reducible first | exact HB.out | apply below_alloc | apply pw_below_drewN | apply below_drew1 | refine below_set ?_ GE284.out | refine below_set ?_ GE291.out) | exact HB.out)⟩⟩
    · replace c16 := Bool.eq_false_iff.mpr c16
      subst c16
      have H1 : (vivariumlaw08_LifeForm.j0 k a0 t282 t283 true t279 t280 t281) = some r := by rw [if_neg (show ¬ (false = true) by decide)] at H; exact H
      clear H
      have H := H1
      clear H1
      have H' := Aside0.mk H
      clear H
      go_wp2
      go_meet
      case rel => exact ⟨_, (true), (by first | rfl | (simp; done) | (simp [*]; done)), H', ⟨by first | omega | exact Nat.le_refl _⟩, ⟨by (with_reducible repeat (first | refine blk_drewN ?_ _ | refine blk_drew ?_ | refine blk_alloc ?_ _)); refine blk_far ?_ NB284_291.out _; (with_reducible repeat (first | refine blk_drewN ?_ _ | refine blk_drew ?_ | refine blk_alloc ?_ _)); refine blk_far ?_ NB284_291.out _; (with_reducible repeat (first | refine blk_drewN ?_ _ | refine blk_drew ?_ | refine blk_alloc ?_ _)); refine blk_far ?_ NB284_291.out _; (with_reducible repeat (first | refine blk_drewN ?_ _ | refine blk_drew ?_ | refine blk_alloc ?_ _)); exact BK284.out⟩, ⟨by (with_reducible repeat (first | refine blk_drewN ?_ _ | refine blk_drew ?_ | refine blk_alloc ?_ _)); refine blk_put (cs := #[.int .u8 t286, .int .u16 t287, .int .u16 0]) ?_ 2 _ rfl; (with_reducible repeat (first | refine blk_drewN ?_ _ | refine blk_drew ?_ | refine blk_alloc ?_ _)); refine blk_put (cs := #[.int .u8 t286, .int .u16 0, .int .u16 0]) ?_ 1 _ rfl; (with_reducible repeat (first | refine blk_drewN ?_ _ | refine blk_drew ?_ | refine blk_alloc ?_ _)); refine blk_put (cs := #[.int .u8 0, .int .u16 0, .int .u16 0]) ?_ 0 _ rfl; (with_reducible repeat (first | refine blk_drewN ?_ _ | refine blk_drew ?_ | refine blk_alloc ?_ _)); exact BK291.out⟩, ⟨by repeat (first | (with_reducible first | exact HB.out | apply below_alloc | apply pw_below_drewN | apply below_drew1 | refine below_set ?_ GE284.out | refine below_set ?_ GE291.out) | exact HB.out)⟩⟩
  case rest =>
    clear HC6
    try clear c1
    try clear c2
    try clear p2
    try clear c3
    try clear c8
    try clear c14
    try clear c16
    try clear c17
    try clear c17b0
    try clear c18
    try clear c21
    try clear c21b0
    try clear c21b1
    try clear c22
    try clear c22b0
    try clear c22b1
    try clear c23
    try clear c23b0
    try clear c24
    try clear c26
    try clear c27
    try clear c30
    try clear c33
    try clear hcz10_0
    try clear hcz10_1
    try clear hcz10_2
    try clear hcz15_0
    try clear hcz15_1
    try clear hcz15_2
    try clear hcz19_0
    try clear hcz19_1
    try clear hcz19_2
    try clear hcz20_0
    try clear hcz20_1
    try clear hcz20_2
    try clear hcz25_0
    try clear hcz25_1
    try clear hcz25_2
    try clear hcz26_0
    try clear hcz26_1
    try clear hcz26_2
    try clear hcz28_0
    try clear hcz28_1
    try clear hcz28_2
    try clear hcz29_0
    try clear hcz29_1
    try clear hcz29_2
    try clear hcz31_0
    try clear hcz31_1
    try clear hcz31_2
    try clear hcz32_0
    try clear hcz32_1
    try clear hcz32_2
    try clear hcz34_0
    try clear hcz34_1
    try clear hcz34_2
    try clear hcz35_0
    try clear hcz35_1
    try clear hcz35_2
    try clear hfz10_0
    try clear hfz10_1
    try clear hfz10_2
    try clear hfz15_0
    try clear hfz15_1
    try clear hfz15_2
    try clear hfz19_0
    try clear hfz19_1
    try clear hfz19_2
    try clear hfz20_0
    try clear hfz20_1
    try clear hfz20_2
    try clear hfz25_0
    try clear hfz25_1
    try clear hfz25_2
    try clear hfz26_0
    try clear hfz26_1
    try clear hfz26_2
    try clear hfz28_0
    try clear hfz28_1
    try clear hfz28_2
    try clear hfz29_0
    try clear hfz29_1
    try clear hfz29_2
    try clear hfz31_0
    try clear hfz31_1
    try clear hfz31_2
    try clear hfz32_0
    try clear hfz32_1
    try clear hfz32_2
    try clear hfz34_0
    try clear hfz34_1
    try clear hfz34_2
    try clear hfz35_0
    try clear hfz35_1
    try clear hfz35_2
    obtain ⟨kq, x55_5, rfl, HA, HJ5, BK284, BK291, HB⟩ := hcut
    cases kq with
    | zero => exact absurd HA.out (by simp [vivariumlaw08_LifeForm.j0])
    | succ kj5 =>
      have H := HA.out
      clear HA
      simp only [vivariumlaw08_LifeForm.j0] at H
      by_cases c36 : x55_5 = true
      · subst c36
        have H1 : (some false) = some r := by rw [if_pos rfl] at H; exact H
        clear H
        have H := H1
        clear H1
        obtain rfl := Option.some.inj H
        go_wp2
        go_ret
        exact ⟨by first | rfl | (simp [errW_none, errW_some] <;> rfl) | (simp [*, errW_none, errW_some] <;> rfl), by repeat (first | (with_reducible first | exact HB.out | apply below_alloc | apply pw_below_drewN | apply below_drew1 | refine below_set ?_ GE284.out | refine below_set ?_ GE291.out) | exact HB.out)⟩
      · replace c36 := Bool.eq_false_iff.mpr c36
        subst c36
        have H1 : (if t283 = 0 then ((life_Print.f kj5 t279 t280 t281).bind fun bt292 => ((life_Parse.f bt292.1).bind fun bt294 => (if bt292.2 = 0 then (if bt294.2.2.2.2 = 0 then (if (bt292.1.size : Int) ≤ (a0.size : Int) then (if (bt294.1 == t279 && (bt294.2.1 == t280 && (bt294.2.2.1 == t281))) = true then (if bt294.2.2.2.1 = 0 then (some (t282 == 0)) else (some false)) else (some false)) else (some false)) else (some false)) else (some false)))) else (some (t279 == 0 && (t280 == 0 && (t281 == 0))))) = some r := by rw [if_neg (show ¬ (false = true) by decide)] at H; exact H
        clear H
        have H := H1
        clear H1
        by_cases c37 : t283 = 0
        · rw [if_pos c37] at H
          have c37b0 : (t283 == 0) = true := beq_iff_eq.mpr c37
          have c37b1 : (t283 != 0) = false := bne_eq_false_iff_eq.mpr c37
          clear c37
          replace H := Option.bind_eq_some_iff.mp H
          obtain ⟨⟨t292, t293⟩, A380, H⟩ := H
          replace H : ((life_Parse.f t292).bind fun bt294 => (if t293 = 0 then (if bt294.2.2.2.2 = 0 then (if (t292.size : Int) ≤ (a0.size : Int) then (if (bt294.1 == t279 && (bt294.2.1 == t280 && (bt294.2.2.1 == t281))) = true then (if bt294.2.2.2.1 = 0 then (some (t282 == 0)) else (some false)) else (some false)) else (some false)) else (some false)) else (some false))) = some r := H
          have A38 := Aside0.mk A380
          clear A380
          replace H := Option.bind_eq_some_iff.mp H
          obtain ⟨⟨t294, t295, t296, t297, t298⟩, A390, H⟩ := H
          replace H : (if t293 = 0 then (if t298 = 0 then (if (t292.size : Int) ≤ (a0.size : Int) then (if (t294 == t279 && (t295 == t280 && (t296 == t281))) = true then (if t297 = 0 then (some (t282 == 0)) else (some false)) else (some false)) else (some false)) else (some false)) else (some false)) = some r := H
          have A39 := Aside0.mk A390
          clear A390
          by_cases c40 : t293 = 0
          · rw [if_pos c40] at H
            have c40b0 : (t293 == 0) = true := beq_iff_eq.mpr c40
            have c40b1 : (t293 != 0) = false := bne_eq_false_iff_eq.mpr c40
            clear c40
            by_cases c41 : t298 = 0
            · rw [if_pos c41] at H
              have c41b0 : (t298 == 0) = true := beq_iff_eq.mpr c41
              have c41b1 : (t298 != 0) = false := bne_eq_false_iff_eq.mpr c41
              clear c41
              by_cases c42 : (t292.size : Int) ≤ (a0.size : Int)
              · rw [if_pos c42] at H
                have c42b0 : decide ((t292.size : Int) ≤ (a0.size : Int)) = true := decide_eq_true c42
                have c42b1 : decide (t292.size ≤ a0.size) = true := decide_eq_true (Int.ofNat_le.mp c42)
                clear c42
                by_cases c43 : (t294 == t279 && (t295 == t280 && (t296 == t281))) = true
                · rw [if_pos c43] at H
                  have c43b0 : (t294 == t279 && (t295 == t280 && (t296 == t281))) = true := c43
                  (try (have c43b1 : decide (t294 = t279 && (t295 == t280 && (t296 == t281))) = true := by simpa using c43))
                  (try (have c43b2 : (t294 == t279 && (t295 == t280 && (t296 == t281))) = true := by simpa using c43))
                  clear c43
                  by_cases c44 : t297 = 0
                  · rw [if_pos c44] at H
                    have c44b0 : (t297 == 0) = true := beq_iff_eq.mpr c44
                    have c44b1 : (t297 != 0) = false := bne_eq_false_iff_eq.mpr c44
                    clear c44
                    obtain rfl := Option.some.inj H
                    have hnb45 := NB284_291.out
                    have hnc45 := NB291_284.out
                    have hcz46_0 : wc.cell? ⟨gb284, 0, none⟩ = some (.int .u8 t279) := (blk_cell BK284.out 0).trans rfl
                    have hcz46_1 : wc.cell? ⟨gb284, 1, none⟩ = some (.int .u16 t280) := (blk_cell BK284.out 1).trans rfl
                    have hcz46_2 : wc.cell? ⟨gb284, 2, none⟩ = some (.int .u16 t281) := (blk_cell BK284.out 2).trans rfl
                    have hfz46_0 := blk_frozen BK284.out 0
                    have hfz46_1 := blk_frozen BK284.out 1
                    have hfz46_2 := blk_frozen BK284.out 2
                    go_wp2_with (first | ((with_reducible refine gate_callee (f := 27) rfl ?_); refine goesL_ (some 63) rfl rfl Try.func27 (by kernel_rfl) rfl #[.agg #[.int .u8 t279, .int .u16 t280, .int .u16 t281]] rfl (by (try simp only [List.map_toArray, List.map_cons, List.map_nil]); first | done | rfl | (simp only [List.length_drop, List.length_take]; rfl)) ?_; (with_reducible refine (life_Print.calls kj5 t279 t280 t281 t292 t293 _ A38.out).mono ?_); rintro e w47 ⟨rfl, hb⟩; refine ⟨_, rfl, ?_⟩; have n0_ := Aside0.mk (blk_below (g := gb284) (o := .cells #[.int .u8 t279, .int .u16 t280, .int .u16 t281] 37 (0, 0)) (by (with_reducible repeat (first | refine blk_drewN ?_ _ | refine blk_drew ?_ | refine blk_alloc ?_ _)); exact BK284.out) hb); have n1_ := Aside0.mk (blk_below (g := gb291) (o := .cells #[.int .u8 t286, .int .u16 t287, .int .u16 t288] 37 (0, 0)) (by (with_reducible repeat (first | refine blk_drewN ?_ _ | refine blk_drew ?_ | refine blk_alloc ?_ _)); exact BK291.out) hb); have n2_ := Aside0.mk (below_step (by repeat (first | (with_reducible first | exact HB.out | apply below_alloc | apply pw_below_drewN | apply below_drew1 | refine below_set ?_ GE284.out | refine below_set ?_ GE291.out) | exact HB.out)) hb); clear BK284; clear BK291; clear HB; have BK284 := n0_; have BK291 := n1_; have HB := n2_; clear n0_ n1_ n2_; (try clear hb); (try clear hb2); (try clear hk); (try clear hi)) | ((with_reducible refine gate_callee (f := 22) rfl ?_); refine goesL_ (some 68) rfl rfl Try.func22 (by kernel_rfl) rfl #[.string t292] rfl (by (try simp only [List.map_toArray, List.map_cons, List.map_nil]); first | done | rfl | (simp only [List.length_drop, List.length_take]; rfl)) ?_; (with_reducible refine (life_Parse.calls t292 t294 t295 t296 t297 t298 _ A39.out).mono ?_); rintro e w48 ⟨rfl, hb⟩; refine ⟨_, rfl, ?_⟩; have n0_ := Aside0.mk (blk_below (g := gb284) (o := .cells #[.int .u8 t279, .int .u16 t280, .int .u16 t281] 37 (0, 0)) (by (with_reducible repeat (first | refine blk_drewN ?_ _ | refine blk_drew ?_ | refine blk_alloc ?_ _)); exact BK284.out) hb); have n1_ := Aside0.mk (blk_below (g := gb291) (o := .cells #[.int .u8 t286, .int .u16 t287, .int .u16 t288] 37 (0, 0)) (by (with_reducible repeat (first | refine blk_drewN ?_ _ | refine blk_drew ?_ | refine blk_alloc ?_ _)); exact BK291.out) hb); have n2_ := Aside0.mk (below_step (by repeat (first | (with_reducible first | exact HB.out | apply below_alloc | apply pw_below_drewN | apply below_drew1 | refine below_set ?_ GE284.out | refine below_set ?_ GE291.out) | exact HB.out)) hb); clear BK284; clear BK291; clear HB; have BK284 := n0_; have BK291 := n1_; have HB := n2_; clear n0_ n1_ n2_; (try clear hb); (try clear hb2); (try clear hk); (try clear hi)) | ((with_reducible refine gate_dst (N := 12) rfl ?_); (try (refine gate_guard (by rfl) ?_; dsimp only)); refine box_event ?hg (N := 12) ?hd (cs := #[.int .u8 0, .int .u16 0, .int .u16 0]) (t := 37) ?hr ?_; (case hd => rfl); (case hg => rfl); (case hr => first | (go_simp; done) | (go_simp; rfl)); intro gb299 hg w49 hbox hb; have n0_ := Aside0.mk (blk_below (g := gb284) (o := .cells #[.int .u8 t279, .int .u16 t280, .int .u16 t281] 37 (0, 0)) (by (with_reducible repeat (first | refine blk_drewN ?_ _ | refine blk_drew ?_ | refine blk_alloc ?_ _)); exact BK284.out) hb); have n1_ := Aside0.mk (blk_below (g := gb291) (o := .cells #[.int .u8 t286, .int .u16 t287, .int .u16 t288] 37 (0, 0)) (by (with_reducible repeat (first | refine blk_drewN ?_ _ | refine blk_drew ?_ | refine blk_alloc ?_ _)); exact BK291.out) hb); have n2_ := Aside0.mk (below_step (by repeat (first | (with_reducible first | exact HB.out | apply below_alloc | apply pw_below_drewN | apply below_drew1 | refine below_set ?_ GE284.out | refine below_set ?_ GE291.out) | exact HB.out)) hb); have n3_ := Aside0.mk (hbox); have n4_ := Aside0.mk ((by rw [hg]; exact (below_size (by repeat (first | (with_reducible first | exact HB.out | apply below_alloc | apply pw_below_drewN | apply below_drew1 | refine below_set ?_ GE284.out | refine below_set ?_ GE291.out) | exact HB.out))) : w.heap.size ≤ gb299)); have n5_ := Aside0.mk ((by rw [hg]; exact (below_size (by repeat (first | (with_reducible first | exact HB.out | apply below_alloc | apply pw_below_drewN | apply below_drew1 | refine below_set ?_ GE284.out | refine below_set ?_ GE291.out) | exact HB.out))) : w.heap.size ≤ gb299)); have n6_ := Aside0.mk ((by rw [hg]; exact Nat.ne_of_lt (blk_lt (g := gb284) (o := .cells #[.int .u8 t279, .int .u16 t280, .int .u16 t281] 37 (0, 0)) (by (with_reducible repeat (first | refine blk_drewN ?_ _ | refine blk_drew ?_ | refine blk_alloc ?_ _)); exact BK284.out)) : gb284 ≠ gb299)); have n7_ := Aside0.mk ((by rw [hg]; exact Nat.ne_of_gt (blk_lt (g := gb284) (o := .cells #[.int .u8 t279, .int .u16 t280, .int .u16 t281] 37 (0, 0)) (by (with_reducible repeat (first | refine blk_drewN ?_ _ | refine blk_drew ?_ | refine blk_alloc ?_ _)); exact BK284.out)) : gb299 ≠ gb284)); have n8_ := Aside0.mk ((by rw [hg]; exact Nat.ne_of_lt (blk_lt (g := gb291) (o := .cells #[.int .u8 t286, .int .u16 t287, .int .u16 t288] 37 (0, 0)) (by (with_reducible repeat (first | refine blk_drewN ?_ _ | refine blk_drew ?_ | refine blk_alloc ?_ _)); exact BK291.out)) : gb291 ≠ gb299)); have n9_ := Aside0.mk ((by rw [hg]; exact Nat.ne_of_gt (blk_lt (g := gb291) (o := .cells #[.int .u8 t286, .int .u16 t287, .int .u16 t288] 37 (0, 0)) (by (with_reducible repeat (first | refine blk_drewN ?_ _ | refine blk_drew ?_ | refine blk_alloc ?_ _)); exact BK291.out)) : gb299 ≠ gb291)); clear BK284; clear BK291; clear HB; have BK284 := n0_; have BK291 := n1_; have HB := n2_; have BK299 := n3_; have GW299 := n4_; have GE299 := n5_; have NB284_299 := n6_; have NB299_284 := n7_; have NB291_299 := n8_; have NB299_291 := n9_; clear n0_ n1_ n2_ n3_ n4_ n5_ n6_ n7_ n8_ n9_; clear hb hbox hg; have hnb50 := NB299_284.out; have hnc50 := NB284_299.out; have hnb51 := NB299_291.out; have hnc51 := NB291_299.out; have hcz52_0 : w49.cell? ⟨gb299, 0, none⟩ = some (.int .u8 0) := (blk_cell BK299.out 0).trans rfl; have hcz52_1 : w49.cell? ⟨gb299, 1, none⟩ = some (.int .u16 0) := (blk_cell BK299.out 1).trans rfl; have hcz52_2 : w49.cell? ⟨gb299, 2, none⟩ = some (.int .u16 0) := (blk_cell BK299.out 2).trans rfl; have hfz52_0 := blk_frozen BK299.out 0; have hfz52_1 := blk_frozen BK299.out 1; have hfz52_2 := blk_frozen BK299.out 2; have hcz53_0 : w49.cell? ⟨gb284, 0, none⟩ = some (.int .u8 t279) := (blk_cell BK284.out 0).trans rfl; have hcz53_1 : w49.cell? ⟨gb284, 1, none⟩ = some (.int .u16 t280) := (blk_cell BK284.out 1).trans rfl; have hcz53_2 : w49.cell? ⟨gb284, 2, none⟩ = some (.int .u16 t281) := (blk_cell BK284.out 2).trans rfl; have hfz53_0 := blk_frozen BK284.out 0; have hfz53_1 := blk_frozen BK284.out 1; have hfz53_2 := blk_frozen BK284.out 2))
                    go_ret
                    exact ⟨by first | rfl | (simp [errW_none, errW_some] <;> rfl) | (simp [*, errW_none, errW_some] <;> rfl), by repeat (first | (with_reducible first | exact HB.out | apply below_alloc | apply pw_below_drewN | apply below_drew1 | refine below_set ?_ GE284.out | refine below_set ?_ GE291.out | refine below_set ?_ GE299.out) | exact HB.out)⟩
                  · rw [if_neg c44] at H
                    have c44b0 : (t297 == 0) = false := beq_eq_false_iff_ne.mpr c44
                    have c44b1 : (t297 != 0) = true := bne_iff_ne.mpr c44
                    obtain rfl := Option.some.inj H
                    have hnb54 := NB284_291.out
                    have hnc54 := NB291_284.out
                    have hcz55_0 : wc.cell? ⟨gb284, 0, none⟩ = some (.int .u8 t279) := (blk_cell BK284.out 0).trans rfl
                    have hcz55_1 : wc.cell? ⟨gb284, 1, none⟩ = some (.int .u16 t280) := (blk_cell BK284.out 1).trans rfl
                    have hcz55_2 : wc.cell? ⟨gb284, 2, none⟩ = some (.int .u16 t281) := (blk_cell BK284.out 2).trans rfl
                    have hfz55_0 := blk_frozen BK284.out 0
                    have hfz55_1 := blk_frozen BK284.out 1
                    have hfz55_2 := blk_frozen BK284.out 2
                    go_wp2_with (first | ((with_reducible refine gate_callee (f := 27) rfl ?_); refine goesL_ (some 63) rfl rfl Try.func27 (by kernel_rfl) rfl #[.agg #[.int .u8 t279, .int .u16 t280, .int .u16 t281]] rfl (by (try simp only [List.map_toArray, List.map_cons, List.map_nil]); first | done | rfl | (simp only [List.length_drop, List.length_take]; rfl)) ?_; (with_reducible refine (life_Print.calls kj5 t279 t280 t281 t292 t293 _ A38.out).mono ?_); rintro e w56 ⟨rfl, hb⟩; refine ⟨_, rfl, ?_⟩; have n0_ := Aside0.mk (blk_below (g := gb284) (o := .cells #[.int .u8 t279, .int .u16 t280, .int .u16 t281] 37 (0, 0)) (by (with_reducible repeat (first | refine blk_drewN ?_ _ | refine blk_drew ?_ | refine blk_alloc ?_ _)); exact BK284.out) hb); have n1_ := Aside0.mk (blk_below (g := gb291) (o := .cells #[.int .u8 t286, .int .u16 t287, .int .u16 t288] 37 (0, 0)) (by (with_reducible repeat (first | refine blk_drewN ?_ _ | refine blk_drew ?_ | refine blk_alloc ?_ _)); exact BK291.out) hb); have n2_ := Aside0.mk (below_step (by repeat (first | (with_reducible first | exact HB.out | apply below_alloc | apply pw_below_drewN | apply below_drew1 | refine below_set ?_ GE284.out | refine below_set ?_ GE291.out) | exact HB.out)) hb); clear BK284; clear BK291; clear HB; have BK284 := n0_; have BK291 := n1_; have HB := n2_; clear n0_ n1_ n2_; (try clear hb); (try clear hb2); (try clear hk); (try clear hi)) | ((with_reducible refine gate_callee (f := 22) rfl ?_); refine goesL_ (some 68) rfl rfl Try.func22 (by kernel_rfl) rfl #[.string t292] rfl (by (try simp only [List.map_toArray, List.map_cons, List.map_nil]); first | done | rfl | (simp only [List.length_drop, List.length_take]; rfl)) ?_; (with_reducible refine (life_Parse.calls t292 t294 t295 t296 t297 t298 _ A39.out).mono ?_); rintro e w57 ⟨rfl, hb⟩; refine ⟨_, rfl, ?_⟩; have n0_ := Aside0.mk (blk_below (g := gb284) (o := .cells #[.int .u8 t279, .int .u16 t280, .int .u16 t281] 37 (0, 0)) (by (with_reducible repeat (first | refine blk_drewN ?_ _ | refine blk_drew ?_ | refine blk_alloc ?_ _)); exact BK284.out) hb); have n1_ := Aside0.mk (blk_below (g := gb291) (o := .cells #[.int .u8 t286, .int .u16 t287, .int .u16 t288] 37 (0, 0)) (by (with_reducible repeat (first | refine blk_drewN ?_ _ | refine blk_drew ?_ | refine blk_alloc ?_ _)); exact BK291.out) hb); have n2_ := Aside0.mk (below_step (by repeat (first | (with_reducible first | exact HB.out | apply below_alloc | apply pw_below_drewN | apply below_drew1 | refine below_set ?_ GE284.out | refine below_set ?_ GE291.out) | exact HB.out)) hb); clear BK284; clear BK291; clear HB; have BK284 := n0_; have BK291 := n1_; have HB := n2_; clear n0_ n1_ n2_; (try clear hb); (try clear hb2); (try clear hk); (try clear hi)) | ((with_reducible refine gate_dst (N := 12) rfl ?_); (try (refine gate_guard (by rfl) ?_; dsimp only)); refine box_event ?hg (N := 12) ?hd (cs := #[.int .u8 0, .int .u16 0, .int .u16 0]) (t := 37) ?hr ?_; (case hd => rfl); (case hg => rfl); (case hr => first | (go_simp; done) | (go_simp; rfl)); intro gb299 hg w58 hbox hb; have n0_ := Aside0.mk (blk_below (g := gb284) (o := .cells #[.int .u8 t279, .int .u16 t280, .int .u16 t281] 37 (0, 0)) (by (with_reducible repeat (first | refine blk_drewN ?_ _ | refine blk_drew ?_ | refine blk_alloc ?_ _)); exact BK284.out) hb); have n1_ := Aside0.mk (blk_below (g := gb291) (o := .cells #[.int .u8 t286, .int .u16 t287, .int .u16 t288] 37 (0, 0)) (by (with_reducible repeat (first | refine blk_drewN ?_ _ | refine blk_drew ?_ | refine blk_alloc ?_ _)); exact BK291.out) hb); have n2_ := Aside0.mk (below_step (by repeat (first | (with_reducible first | exact HB.out | apply below_alloc | apply pw_below_drewN | apply below_drew1 | refine below_set ?_ GE284.out | refine below_set ?_ GE291.out) | exact HB.out)) hb); have n3_ := Aside0.mk (hbox); have n4_ := Aside0.mk ((by rw [hg]; exact (below_size (by repeat (first | (with_reducible first | exact HB.out | apply below_alloc | apply pw_below_drewN | apply below_drew1 | refine below_set ?_ GE284.out | refine below_set ?_ GE291.out) | exact HB.out))) : w.heap.size ≤ gb299)); have n5_ := Aside0.mk ((by rw [hg]; exact (below_size (by repeat (first | (with_reducible first | exact HB.out | apply below_alloc | apply pw_below_drewN | apply below_drew1 | refine below_set ?_ GE284.out | refine below_set ?_ GE291.out) | exact HB.out))) : w.heap.size ≤ gb299)); have n6_ := Aside0.mk ((by rw [hg]; exact Nat.ne_of_lt (blk_lt (g := gb284) (o := .cells #[.int .u8 t279, .int .u16 t280, .int .u16 t281] 37 (0, 0)) (by (with_reducible repeat (first | refine blk_drewN ?_ _ | refine blk_drew ?_ | refine blk_alloc ?_ _)); exact BK284.out)) : gb284 ≠ gb299)); have n7_ := Aside0.mk ((by rw [hg]; exact Nat.ne_of_gt (blk_lt (g := gb284) (o := .cells #[.int .u8 t279, .int .u16 t280, .int .u16 t281] 37 (0, 0)) (by (with_reducible repeat (first | refine blk_drewN ?_ _ | refine blk_drew ?_ | refine blk_alloc ?_ _)); exact BK284.out)) : gb299 ≠ gb284)); have n8_ := Aside0.mk ((by rw [hg]; exact Nat.ne_of_lt (blk_lt (g := gb291) (o := .cells #[.int .u8 t286, .int .u16 t287, .int .u16 t288] 37 (0, 0)) (by (with_reducible repeat (first | refine blk_drewN ?_ _ | refine blk_drew ?_ | refine blk_alloc ?_ _)); exact BK291.out)) : gb291 ≠ gb299)); have n9_ := Aside0.mk ((by rw [hg]; exact Nat.ne_of_gt (blk_lt (g := gb291) (o := .cells #[.int .u8 t286, .int .u16 t287, .int .u16 t288] 37 (0, 0)) (by (with_reducible repeat (first | refine blk_drewN ?_ _ | refine blk_drew ?_ | refine blk_alloc ?_ _)); exact BK291.out)) : gb299 ≠ gb291)); clear BK284; clear BK291; clear HB; have BK284 := n0_; have BK291 := n1_; have HB := n2_; have BK299 := n3_; have GW299 := n4_; have GE299 := n5_; have NB284_299 := n6_; have NB299_284 := n7_; have NB291_299 := n8_; have NB299_291 := n9_; clear n0_ n1_ n2_ n3_ n4_ n5_ n6_ n7_ n8_ n9_; clear hb hbox hg; have hnb59 := NB299_284.out; have hnc59 := NB284_299.out; have hnb60 := NB299_291.out; have hnc60 := NB291_299.out; have hcz61_0 : w58.cell? ⟨gb299, 0, none⟩ = some (.int .u8 0) := (blk_cell BK299.out 0).trans rfl; have hcz61_1 : w58.cell? ⟨gb299, 1, none⟩ = some (.int .u16 0) := (blk_cell BK299.out 1).trans rfl; have hcz61_2 : w58.cell? ⟨gb299, 2, none⟩ = some (.int .u16 0) := (blk_cell BK299.out 2).trans rfl; have hfz61_0 := blk_frozen BK299.out 0; have hfz61_1 := blk_frozen BK299.out 1; have hfz61_2 := blk_frozen BK299.out 2; have hcz62_0 : w58.cell? ⟨gb284, 0, none⟩ = some (.int .u8 t279) := (blk_cell BK284.out 0).trans rfl; have hcz62_1 : w58.cell? ⟨gb284, 1, none⟩ = some (.int .u16 t280) := (blk_cell BK284.out 1).trans rfl; have hcz62_2 : w58.cell? ⟨gb284, 2, none⟩ = some (.int .u16 t281) := (blk_cell BK284.out 2).trans rfl; have hfz62_0 := blk_frozen BK284.out 0; have hfz62_1 := blk_frozen BK284.out 1; have hfz62_2 := blk_frozen BK284.out 2))
                    go_ret
                    exact ⟨by first | rfl | (simp [errW_none, errW_some] <;> rfl) | (simp [*, errW_none, errW_some] <;> rfl), by repeat (first | (with_reducible first | exact HB.out | apply below_alloc | apply pw_below_drewN | apply below_drew1 | refine below_set ?_ GE284.out | refine below_set ?_ GE291.out | refine below_set ?_ GE299.out) | exact HB.out)⟩
                · rw [if_neg c43] at H
                  have c43b0 : (t294 == t279 && (t295 == t280 && (t296 == t281))) = false := by simpa using c43
                  (try (have c43b1 : decide (t294 = t279 && (t295 == t280 && (t296 == t281))) = false := by simpa using c43))
                  (try (have c43b2 : (t294 == t279 && (t295 == t280 && (t296 == t281))) = false := by simpa using c43))
                  (try (have c43b3 : ¬ (t294 = t279 && (t295 == t280 && (t296 == t281))) := by simpa using c43))
                  clear c43
                  obtain rfl := Option.some.inj H
                  have hnb63 := NB284_291.out
                  have hnc63 := NB291_284.out
                  have hcz64_0 : wc.cell? ⟨gb284, 0, none⟩ = some (.int .u8 t279) := (blk_cell BK284.out 0).trans rfl
                  have hcz64_1 : wc.cell? ⟨gb284, 1, none⟩ = some (.int .u16 t280) := (blk_cell BK284.out 1).trans rfl
                  have hcz64_2 : wc.cell? ⟨gb284, 2, none⟩ = some (.int .u16 t281) := (blk_cell BK284.out 2).trans rfl
                  have hfz64_0 := blk_frozen BK284.out 0
                  have hfz64_1 := blk_frozen BK284.out 1
                  have hfz64_2 := blk_frozen BK284.out 2
                  go_wp2_with (first | ((with_reducible refine gate_callee (f := 27) rfl ?_); refine goesL_ (some 63) rfl rfl Try.func27 (by kernel_rfl) rfl #[.agg #[.int .u8 t279, .int .u16 t280, .int .u16 t281]] rfl (by (try simp only [List.map_toArray, List.map_cons, List.map_nil]); first | done | rfl | (simp only [List.length_drop, List.length_take]; rfl)) ?_; (with_reducible refine (life_Print.calls kj5 t279 t280 t281 t292 t293 _ A38.out).mono ?_); rintro e w65 ⟨rfl, hb⟩; refine ⟨_, rfl, ?_⟩; have n0_ := Aside0.mk (blk_below (g := gb284) (o := .cells #[.int .u8 t279, .int .u16 t280, .int .u16 t281] 37 (0, 0)) (by (with_reducible repeat (first | refine blk_drewN ?_ _ | refine blk_drew ?_ | refine blk_alloc ?_ _)); exact BK284.out) hb); have n1_ := Aside0.mk (blk_below (g := gb291) (o := .cells #[.int .u8 t286, .int .u16 t287, .int .u16 t288] 37 (0, 0)) (by (with_reducible repeat (first | refine blk_drewN ?_ _ | refine blk_drew ?_ | refine blk_alloc ?_ _)); exact BK291.out) hb); have n2_ := Aside0.mk (below_step (by repeat (first | (with_reducible first | exact HB.out | apply below_alloc | apply pw_below_drewN | apply below_drew1 | refine below_set ?_ GE284.out | refine below_set ?_ GE291.out) | exact HB.out)) hb); clear BK284; clear BK291; clear HB; have BK284 := n0_; have BK291 := n1_; have HB := n2_; clear n0_ n1_ n2_; (try clear hb); (try clear hb2); (try clear hk); (try clear hi)) | ((with_reducible refine gate_callee (f := 22) rfl ?_); refine goesL_ (some 68) rfl rfl Try.func22 (by kernel_rfl) rfl #[.string t292] rfl (by (try simp only [List.map_toArray, List.map_cons, List.map_nil]); first | done | rfl | (simp only [List.length_drop, List.length_take]; rfl)) ?_; (with_reducible refine (life_Parse.calls t292 t294 t295 t296 t297 t298 _ A39.out).mono ?_); rintro e w66 ⟨rfl, hb⟩; refine ⟨_, rfl, ?_⟩; have n0_ := Aside0.mk (blk_below (g := gb284) (o := .cells #[.int .u8 t279, .int .u16 t280, .int .u16 t281] 37 (0, 0)) (by (with_reducible repeat (first | refine blk_drewN ?_ _ | refine blk_drew ?_ | refine blk_alloc ?_ _)); exact BK284.out) hb); have n1_ := Aside0.mk (blk_below (g := gb291) (o := .cells #[.int .u8 t286, .int .u16 t287, .int .u16 t288] 37 (0, 0)) (by (with_reducible repeat (first | refine blk_drewN ?_ _ | refine blk_drew ?_ | refine blk_alloc ?_ _)); exact BK291.out) hb); have n2_ := Aside0.mk (below_step (by repeat (first | (with_reducible first | exact HB.out | apply below_alloc | apply pw_below_drewN | apply below_drew1 | refine below_set ?_ GE284.out | refine below_set ?_ GE291.out) | exact HB.out)) hb); clear BK284; clear BK291; clear HB; have BK284 := n0_; have BK291 := n1_; have HB := n2_; clear n0_ n1_ n2_; (try clear hb); (try clear hb2); (try clear hk); (try clear hi)) | ((with_reducible refine gate_dst (N := 12) rfl ?_); (try (refine gate_guard (by rfl) ?_; dsimp only)); refine box_event ?hg (N := 12) ?hd (cs := #[.int .u8 0, .int .u16 0, .int .u16 0]) (t := 37) ?hr ?_; (case hd => rfl); (case hg => rfl); (case hr => first | (go_simp; done) | (go_simp; rfl)); intro gb299 hg w67 hbox hb; have n0_ := Aside0.mk (blk_below (g := gb284) (o := .cells #[.int .u8 t279, .int .u16 t280, .int .u16 t281] 37 (0, 0)) (by (with_reducible repeat (first | refine blk_drewN ?_ _ | refine blk_drew ?_ | refine blk_alloc ?_ _)); exact BK284.out) hb); have n1_ := Aside0.mk (blk_below (g := gb291) (o := .cells #[.int .u8 t286, .int .u16 t287, .int .u16 t288] 37 (0, 0)) (by (with_reducible repeat (first | refine blk_drewN ?_ _ | refine blk_drew ?_ | refine blk_alloc ?_ _)); exact BK291.out) hb); have n2_ := Aside0.mk (below_step (by repeat (first | (with_reducible first | exact HB.out | apply below_alloc | apply pw_below_drewN | apply below_drew1 | refine below_set ?_ GE284.out | refine below_set ?_ GE291.out) | exact HB.out)) hb); have n3_ := Aside0.mk (hbox); have n4_ := Aside0.mk ((by rw [hg]; exact (below_size (by repeat (first | (with_reducible first | exact HB.out | apply below_alloc | apply pw_below_drewN | apply below_drew1 | refine below_set ?_ GE284.out | refine below_set ?_ GE291.out) | exact HB.out))) : w.heap.size ≤ gb299)); have n5_ := Aside0.mk ((by rw [hg]; exact (below_size (by repeat (first | (with_reducible first | exact HB.out | apply below_alloc | apply pw_below_drewN | apply below_drew1 | refine below_set ?_ GE284.out | refine below_set ?_ GE291.out) | exact HB.out))) : w.heap.size ≤ gb299)); have n6_ := Aside0.mk ((by rw [hg]; exact Nat.ne_of_lt (blk_lt (g := gb284) (o := .cells #[.int .u8 t279, .int .u16 t280, .int .u16 t281] 37 (0, 0)) (by (with_reducible repeat (first | refine blk_drewN ?_ _ | refine blk_drew ?_ | refine blk_alloc ?_ _)); exact BK284.out)) : gb284 ≠ gb299)); have n7_ := Aside0.mk ((by rw [hg]; exact Nat.ne_of_gt (blk_lt (g := gb284) (o := .cells #[.int .u8 t279, .int .u16 t280, .int .u16 t281] 37 (0, 0)) (by (with_reducible repeat (first | refine blk_drewN ?_ _ | refine blk_drew ?_ | refine blk_alloc ?_ _)); exact BK284.out)) : gb299 ≠ gb284)); have n8_ := Aside0.mk ((by rw [hg]; exact Nat.ne_of_lt (blk_lt (g := gb291) (o := .cells #[.int .u8 t286, .int .u16 t287, .int .u16 t288] 37 (0, 0)) (by (with_reducible repeat (first | refine blk_drewN ?_ _ | refine blk_drew ?_ | refine blk_alloc ?_ _)); exact BK291.out)) : gb291 ≠ gb299)); have n9_ := Aside0.mk ((by rw [hg]; exact Nat.ne_of_gt (blk_lt (g := gb291) (o := .cells #[.int .u8 t286, .int .u16 t287, .int .u16 t288] 37 (0, 0)) (by (with_reducible repeat (first | refine blk_drewN ?_ _ | refine blk_drew ?_ | refine blk_alloc ?_ _)); exact BK291.out)) : gb299 ≠ gb291)); clear BK284; clear BK291; clear HB; have BK284 := n0_; have BK291 := n1_; have HB := n2_; have BK299 := n3_; have GW299 := n4_; have GE299 := n5_; have NB284_299 := n6_; have NB299_284 := n7_; have NB291_299 := n8_; have NB299_291 := n9_; clear n0_ n1_ n2_ n3_ n4_ n5_ n6_ n7_ n8_ n9_; clear hb hbox hg; have hnb68 := NB299_284.out; have hnc68 := NB284_299.out; have hnb69 := NB299_291.out; have hnc69 := NB291_299.out; have hcz70_0 : w67.cell? ⟨gb299, 0, none⟩ = some (.int .u8 0) := (blk_cell BK299.out 0).trans rfl; have hcz70_1 : w67.cell? ⟨gb299, 1, none⟩ = some (.int .u16 0) := (blk_cell BK299.out 1).trans rfl; have hcz70_2 : w67.cell? ⟨gb299, 2, none⟩ = some (.int .u16 0) := (blk_cell BK299.out 2).trans rfl; have hfz70_0 := blk_frozen BK299.out 0; have hfz70_1 := blk_frozen BK299.out 1; have hfz70_2 := blk_frozen BK299.out 2; have hcz71_0 : w67.cell? ⟨gb284, 0, none⟩ = some (.int .u8 t279) := (blk_cell BK284.out 0).trans rfl; have hcz71_1 : w67.cell? ⟨gb284, 1, none⟩ = some (.int .u16 t280) := (blk_cell BK284.out 1).trans rfl; have hcz71_2 : w67.cell? ⟨gb284, 2, none⟩ = some (.int .u16 t281) := (blk_cell BK284.out 2).trans rfl; have hfz71_0 := blk_frozen BK284.out 0; have hfz71_1 := blk_frozen BK284.out 1; have hfz71_2 := blk_frozen BK284.out 2))
                  go_ret
                  exact ⟨by first | rfl | (simp [errW_none, errW_some] <;> rfl) | (simp [*, errW_none, errW_some] <;> rfl), by repeat (first | (with_reducible first | exact HB.out | apply below_alloc | apply pw_below_drewN | apply below_drew1 | refine below_set ?_ GE284.out | refine below_set ?_ GE291.out | refine below_set ?_ GE299.out) | exact HB.out)⟩
              · rw [if_neg c42] at H
                have c42b0 : decide ((t292.size : Int) ≤ (a0.size : Int)) = false := decide_eq_false c42
                have c42b1 : decide (t292.size ≤ a0.size) = false := decide_eq_false (fun h => c42 (Int.ofNat_le.mpr h))
                clear c42
                obtain rfl := Option.some.inj H
                have hnb72 := NB284_291.out
                have hnc72 := NB291_284.out
                have hcz73_0 : wc.cell? ⟨gb284, 0, none⟩ = some (.int .u8 t279) := (blk_cell BK284.out 0).trans rfl
                have hcz73_1 : wc.cell? ⟨gb284, 1, none⟩ = some (.int .u16 t280) := (blk_cell BK284.out 1).trans rfl
                have hcz73_2 : wc.cell? ⟨gb284, 2, none⟩ = some (.int .u16 t281) := (blk_cell BK284.out 2).trans rfl
                have hfz73_0 := blk_frozen BK284.out 0
                have hfz73_1 := blk_frozen BK284.out 1
                have hfz73_2 := blk_frozen BK284.out 2
                go_wp2_with (first | ((with_reducible refine gate_callee (f := 27) rfl ?_); refine goesL_ (some 63) rfl rfl Try.func27 (by kernel_rfl) rfl #[.agg #[.int .u8 t279, .int .u16 t280, .int .u16 t281]] rfl (by (try simp only [List.map_toArray, List.map_cons, List.map_nil]); first | done | rfl | (simp only [List.length_drop, List.length_take]; rfl)) ?_; (with_reducible refine (life_Print.calls kj5 t279 t280 t281 t292 t293 _ A38.out).mono ?_); rintro e w74 ⟨rfl, hb⟩; refine ⟨_, rfl, ?_⟩; have n0_ := Aside0.mk (blk_below (g := gb284) (o := .cells #[.int .u8 t279, .int .u16 t280, .int .u16 t281] 37 (0, 0)) (by (with_reducible repeat (first | refine blk_drewN ?_ _ | refine blk_drew ?_ | refine blk_alloc ?_ _)); exact BK284.out) hb); have n1_ := Aside0.mk (blk_below (g := gb291) (o := .cells #[.int .u8 t286, .int .u16 t287, .int .u16 t288] 37 (0, 0)) (by (with_reducible repeat (first | refine blk_drewN ?_ _ | refine blk_drew ?_ | refine blk_alloc ?_ _)); exact BK291.out) hb); have n2_ := Aside0.mk (below_step (by repeat (first | (with_reducible first | exact HB.out | apply below_alloc | apply pw_below_drewN | apply below_drew1 | refine below_set ?_ GE284.out | refine below_set ?_ GE291.out) | exact HB.out)) hb); clear BK284; clear BK291; clear HB; have BK284 := n0_; have BK291 := n1_; have HB := n2_; clear n0_ n1_ n2_; (try clear hb); (try clear hb2); (try clear hk); (try clear hi)) | ((with_reducible refine gate_callee (f := 22) rfl ?_); refine goesL_ (some 68) rfl rfl Try.func22 (by kernel_rfl) rfl #[.string t292] rfl (by (try simp only [List.map_toArray, List.map_cons, List.map_nil]); first | done | rfl | (simp only [List.length_drop, List.length_take]; rfl)) ?_; (with_reducible refine (life_Parse.calls t292 t294 t295 t296 t297 t298 _ A39.out).mono ?_); rintro e w75 ⟨rfl, hb⟩; refine ⟨_, rfl, ?_⟩; have n0_ := Aside0.mk (blk_below (g := gb284) (o := .cells #[.int .u8 t279, .int .u16 t280, .int .u16 t281] 37 (0, 0)) (by (with_reducible repeat (first | refine blk_drewN ?_ _ | refine blk_drew ?_ | refine blk_alloc ?_ _)); exact BK284.out) hb); have n1_ := Aside0.mk (blk_below (g := gb291) (o := .cells #[.int .u8 t286, .int .u16 t287, .int .u16 t288] 37 (0, 0)) (by (with_reducible repeat (first | refine blk_drewN ?_ _ | refine blk_drew ?_ | refine blk_alloc ?_ _)); exact BK291.out) hb); have n2_ := Aside0.mk (below_step (by repeat (first | (with_reducible first | exact HB.out | apply below_alloc | apply pw_below_drewN | apply below_drew1 | refine below_set ?_ GE284.out | refine below_set ?_ GE291.out) | exact HB.out)) hb); clear BK284; clear BK291; clear HB; have BK284 := n0_; have BK291 := n1_; have HB := n2_; clear n0_ n1_ n2_; (try clear hb); (try clear hb2); (try clear hk); (try clear hi)) | ((with_reducible refine gate_dst (N := 12) rfl ?_); (try (refine gate_guard (by rfl) ?_; dsimp only)); refine box_event ?hg (N := 12) ?hd (cs := #[.int .u8 0, .int .u16 0, .int .u16 0]) (t := 37) ?hr ?_; (case hd => rfl); (case hg => rfl); (case hr => first | (go_simp; done) | (go_simp; rfl)); intro gb299 hg w76 hbox hb; have n0_ := Aside0.mk (blk_below (g := gb284) (o := .cells #[.int .u8 t279, .int .u16 t280, .int .u16 t281] 37 (0, 0)) (by (with_reducible repeat (first | refine blk_drewN ?_ _ | refine blk_drew ?_ | refine blk_alloc ?_ _)); exact BK284.out) hb); have n1_ := Aside0.mk (blk_below (g := gb291) (o := .cells #[.int .u8 t286, .int .u16 t287, .int .u16 t288] 37 (0, 0)) (by (with_reducible repeat (first | refine blk_drewN ?_ _ | refine blk_drew ?_ | refine blk_alloc ?_ _)); exact BK291.out) hb); have n2_ := Aside0.mk (below_step (by repeat (first | (with_reducible first | exact HB.out | apply below_alloc | apply pw_below_drewN | apply below_drew1 | refine below_set ?_ GE284.out | refine below_set ?_ GE291.out) | exact HB.out)) hb); have n3_ := Aside0.mk (hbox); have n4_ := Aside0.mk ((by rw [hg]; exact (below_size (by repeat (first | (with_reducible first | exact HB.out | apply below_alloc | apply pw_below_drewN | apply below_drew1 | refine below_set ?_ GE284.out | refine below_set ?_ GE291.out) | exact HB.out))) : w.heap.size ≤ gb299)); have n5_ := Aside0.mk ((by rw [hg]; exact (below_size (by repeat (first | (with_reducible first | exact HB.out | apply below_alloc | apply pw_below_drewN | apply below_drew1 | refine below_set ?_ GE284.out | refine below_set ?_ GE291.out) | exact HB.out))) : w.heap.size ≤ gb299)); have n6_ := Aside0.mk ((by rw [hg]; exact Nat.ne_of_lt (blk_lt (g := gb284) (o := .cells #[.int .u8 t279, .int .u16 t280, .int .u16 t281] 37 (0, 0)) (by (with_reducible repeat (first | refine blk_drewN ?_ _ | refine blk_drew ?_ | refine blk_alloc ?_ _)); exact BK284.out)) : gb284 ≠ gb299)); have n7_ := Aside0.mk ((by rw [hg]; exact Nat.ne_of_gt (blk_lt (g := gb284) (o := .cells #[.int .u8 t279, .int .u16 t280, .int .u16 t281] 37 (0, 0)) (by (with_reducible repeat (first | refine blk_drewN ?_ _ | refine blk_drew ?_ | refine blk_alloc ?_ _)); exact BK284.out)) : gb299 ≠ gb284)); have n8_ := Aside0.mk ((by rw [hg]; exact Nat.ne_of_lt (blk_lt (g := gb291) (o := .cells #[.int .u8 t286, .int .u16 t287, .int .u16 t288] 37 (0, 0)) (by (with_reducible repeat (first | refine blk_drewN ?_ _ | refine blk_drew ?_ | refine blk_alloc ?_ _)); exact BK291.out)) : gb291 ≠ gb299)); have n9_ := Aside0.mk ((by rw [hg]; exact Nat.ne_of_gt (blk_lt (g := gb291) (o := .cells #[.int .u8 t286, .int .u16 t287, .int .u16 t288] 37 (0, 0)) (by (with_reducible repeat (first | refine blk_drewN ?_ _ | refine blk_drew ?_ | refine blk_alloc ?_ _)); exact BK291.out)) : gb299 ≠ gb291)); clear BK284; clear BK291; clear HB; have BK284 := n0_; have BK291 := n1_; have HB := n2_; have BK299 := n3_; have GW299 := n4_; have GE299 := n5_; have NB284_299 := n6_; have NB299_284 := n7_; have NB291_299 := n8_; have NB299_291 := n9_; clear n0_ n1_ n2_ n3_ n4_ n5_ n6_ n7_ n8_ n9_; clear hb hbox hg; have hnb77 := NB299_284.out; have hnc77 := NB284_299.out; have hnb78 := NB299_291.out; have hnc78 := NB291_299.out; have hcz79_0 : w76.cell? ⟨gb299, 0, none⟩ = some (.int .u8 0) := (blk_cell BK299.out 0).trans rfl; have hcz79_1 : w76.cell? ⟨gb299, 1, none⟩ = some (.int .u16 0) := (blk_cell BK299.out 1).trans rfl; have hcz79_2 : w76.cell? ⟨gb299, 2, none⟩ = some (.int .u16 0) := (blk_cell BK299.out 2).trans rfl; have hfz79_0 := blk_frozen BK299.out 0; have hfz79_1 := blk_frozen BK299.out 1; have hfz79_2 := blk_frozen BK299.out 2))
                go_ret
                exact ⟨by first | rfl | (simp [errW_none, errW_some] <;> rfl) | (simp [*, errW_none, errW_some] <;> rfl), by repeat (first | (with_reducible first | exact HB.out | apply below_alloc | apply pw_below_drewN | apply below_drew1 | refine below_set ?_ GE284.out | refine below_set ?_ GE291.out | refine below_set ?_ GE299.out) | exact HB.out)⟩
            · rw [if_neg c41] at H
              have c41b0 : (t298 == 0) = false := beq_eq_false_iff_ne.mpr c41
              have c41b1 : (t298 != 0) = true := bne_iff_ne.mpr c41
              obtain rfl := Option.some.inj H
              have hnb80 := NB284_291.out
              have hnc80 := NB291_284.out
              have hcz81_0 : wc.cell? ⟨gb284, 0, none⟩ = some (.int .u8 t279) := (blk_cell BK284.out 0).trans rfl
              have hcz81_1 : wc.cell? ⟨gb284, 1, none⟩ = some (.int .u16 t280) := (blk_cell BK284.out 1).trans rfl
              have hcz81_2 : wc.cell? ⟨gb284, 2, none⟩ = some (.int .u16 t281) := (blk_cell BK284.out 2).trans rfl
              have hfz81_0 := blk_frozen BK284.out 0
              have hfz81_1 := blk_frozen BK284.out 1
              have hfz81_2 := blk_frozen BK284.out 2
              go_wp2_with (first | ((with_reducible refine gate_callee (f := 27) rfl ?_); refine goesL_ (some 63) rfl rfl Try.func27 (by kernel_rfl) rfl #[.agg #[.int .u8 t279, .int .u16 t280, .int .u16 t281]] rfl (by (try simp only [List.map_toArray, List.map_cons, List.map_nil]); first | done | rfl | (simp only [List.length_drop, List.length_take]; rfl)) ?_; (with_reducible refine (life_Print.calls kj5 t279 t280 t281 t292 t293 _ A38.out).mono ?_); rintro e w82 ⟨rfl, hb⟩; refine ⟨_, rfl, ?_⟩; have n0_ := Aside0.mk (blk_below (g := gb284) (o := .cells #[.int .u8 t279, .int .u16 t280, .int .u16 t281] 37 (0, 0)) (by (with_reducible repeat (first | refine blk_drewN ?_ _ | refine blk_drew ?_ | refine blk_alloc ?_ _)); exact BK284.out) hb); have n1_ := Aside0.mk (blk_below (g := gb291) (o := .cells #[.int .u8 t286, .int .u16 t287, .int .u16 t288] 37 (0, 0)) (by (with_reducible repeat (first | refine blk_drewN ?_ _ | refine blk_drew ?_ | refine blk_alloc ?_ _)); exact BK291.out) hb); have n2_ := Aside0.mk (below_step (by repeat (first | (with_reducible first | exact HB.out | apply below_alloc | apply pw_below_drewN | apply below_drew1 | refine below_set ?_ GE284.out | refine below_set ?_ GE291.out) | exact HB.out)) hb); clear BK284; clear BK291; clear HB; have BK284 := n0_; have BK291 := n1_; have HB := n2_; clear n0_ n1_ n2_; (try clear hb); (try clear hb2); (try clear hk); (try clear hi)) | ((with_reducible refine gate_callee (f := 22) rfl ?_); refine goesL_ (some 68) rfl rfl Try.func22 (by kernel_rfl) rfl #[.string t292] rfl (by (try simp only [List.map_toArray, List.map_cons, List.map_nil]); first | done | rfl | (simp only [List.length_drop, List.length_take]; rfl)) ?_; (with_reducible refine (life_Parse.calls t292 t294 t295 t296 t297 t298 _ A39.out).mono ?_); rintro e w83 ⟨rfl, hb⟩; refine ⟨_, rfl, ?_⟩; have n0_ := Aside0.mk (blk_below (g := gb284) (o := .cells #[.int .u8 t279, .int .u16 t280, .int .u16 t281] 37 (0, 0)) (by (with_reducible repeat (first | refine blk_drewN ?_ _ | refine blk_drew ?_ | refine blk_alloc ?_ _)); exact BK284.out) hb); have n1_ := Aside0.mk (blk_below (g := gb291) (o := .cells #[.int .u8 t286, .int .u16 t287, .int .u16 t288] 37 (0, 0)) (by (with_reducible repeat (first | refine blk_drewN ?_ _ | refine blk_drew ?_ | refine blk_alloc ?_ _)); exact BK291.out) hb); have n2_ := Aside0.mk (below_step (by repeat (first | (with_reducible first | exact HB.out | apply below_alloc | apply pw_below_drewN | apply below_drew1 | refine below_set ?_ GE284.out | refine below_set ?_ GE291.out) | exact HB.out)) hb); clear BK284; clear BK291; clear HB; have BK284 := n0_; have BK291 := n1_; have HB := n2_; clear n0_ n1_ n2_; (try clear hb); (try clear hb2); (try clear hk); (try clear hi)) | ((with_reducible refine gate_dst (N := 12) rfl ?_); (try (refine gate_guard (by rfl) ?_; dsimp only)); refine box_event ?hg (N := 12) ?hd (cs := #[.int .u8 0, .int .u16 0, .int .u16 0]) (t := 37) ?hr ?_; (case hd => rfl); (case hg => rfl); (case hr => first | (go_simp; done) | (go_simp; rfl)); intro gb299 hg w84 hbox hb; have n0_ := Aside0.mk (blk_below (g := gb284) (o := .cells #[.int .u8 t279, .int .u16 t280, .int .u16 t281] 37 (0, 0)) (by (with_reducible repeat (first | refine blk_drewN ?_ _ | refine blk_drew ?_ | refine blk_alloc ?_ _)); exact BK284.out) hb); have n1_ := Aside0.mk (blk_below (g := gb291) (o := .cells #[.int .u8 t286, .int .u16 t287, .int .u16 t288] 37 (0, 0)) (by (with_reducible repeat (first | refine blk_drewN ?_ _ | refine blk_drew ?_ | refine blk_alloc ?_ _)); exact BK291.out) hb); have n2_ := Aside0.mk (below_step (by repeat (first | (with_reducible first | exact HB.out | apply below_alloc | apply pw_below_drewN | apply below_drew1 | refine below_set ?_ GE284.out | refine below_set ?_ GE291.out) | exact HB.out)) hb); have n3_ := Aside0.mk (hbox); have n4_ := Aside0.mk ((by rw [hg]; exact (below_size (by repeat (first | (with_reducible first | exact HB.out | apply below_alloc | apply pw_below_drewN | apply below_drew1 | refine below_set ?_ GE284.out | refine below_set ?_ GE291.out) | exact HB.out))) : w.heap.size ≤ gb299)); have n5_ := Aside0.mk ((by rw [hg]; exact (below_size (by repeat (first | (with_reducible first | exact HB.out | apply below_alloc | apply pw_below_drewN | apply below_drew1 | refine below_set ?_ GE284.out | refine below_set ?_ GE291.out) | exact HB.out))) : w.heap.size ≤ gb299)); have n6_ := Aside0.mk ((by rw [hg]; exact Nat.ne_of_lt (blk_lt (g := gb284) (o := .cells #[.int .u8 t279, .int .u16 t280, .int .u16 t281] 37 (0, 0)) (by (with_reducible repeat (first | refine blk_drewN ?_ _ | refine blk_drew ?_ | refine blk_alloc ?_ _)); exact BK284.out)) : gb284 ≠ gb299)); have n7_ := Aside0.mk ((by rw [hg]; exact Nat.ne_of_gt (blk_lt (g := gb284) (o := .cells #[.int .u8 t279, .int .u16 t280, .int .u16 t281] 37 (0, 0)) (by (with_reducible repeat (first | refine blk_drewN ?_ _ | refine blk_drew ?_ | refine blk_alloc ?_ _)); exact BK284.out)) : gb299 ≠ gb284)); have n8_ := Aside0.mk ((by rw [hg]; exact Nat.ne_of_lt (blk_lt (g := gb291) (o := .cells #[.int .u8 t286, .int .u16 t287, .int .u16 t288] 37 (0, 0)) (by (with_reducible repeat (first | refine blk_drewN ?_ _ | refine blk_drew ?_ | refine blk_alloc ?_ _)); exact BK291.out)) : gb291 ≠ gb299)); have n9_ := Aside0.mk ((by rw [hg]; exact Nat.ne_of_gt (blk_lt (g := gb291) (o := .cells #[.int .u8 t286, .int .u16 t287, .int .u16 t288] 37 (0, 0)) (by (with_reducible repeat (first | refine blk_drewN ?_ _ | refine blk_drew ?_ | refine blk_alloc ?_ _)); exact BK291.out)) : gb299 ≠ gb291)); clear BK284; clear BK291; clear HB; have BK284 := n0_; have BK291 := n1_; have HB := n2_; have BK299 := n3_; have GW299 := n4_; have GE299 := n5_; have NB284_299 := n6_; have NB299_284 := n7_; have NB291_299 := n8_; have NB299_291 := n9_; clear n0_ n1_ n2_ n3_ n4_ n5_ n6_ n7_ n8_ n9_; clear hb hbox hg; have hnb85 := NB299_284.out; have hnc85 := NB284_299.out; have hnb86 := NB299_291.out; have hnc86 := NB291_299.out; have hcz87_0 : w84.cell? ⟨gb299, 0, none⟩ = some (.int .u8 0) := (blk_cell BK299.out 0).trans rfl; have hcz87_1 : w84.cell? ⟨gb299, 1, none⟩ = some (.int .u16 0) := (blk_cell BK299.out 1).trans rfl; have hcz87_2 : w84.cell? ⟨gb299, 2, none⟩ = some (.int .u16 0) := (blk_cell BK299.out 2).trans rfl; have hfz87_0 := blk_frozen BK299.out 0; have hfz87_1 := blk_frozen BK299.out 1; have hfz87_2 := blk_frozen BK299.out 2))
              go_ret
              exact ⟨by first | rfl | (simp [errW_none, errW_some] <;> rfl) | (simp [*, errW_none, errW_some] <;> rfl), by repeat (first | (with_reducible first | exact HB.out | apply below_alloc | apply pw_below_drewN | apply below_drew1 | refine below_set ?_ GE284.out | refine below_set ?_ GE291.out | refine below_set ?_ GE299.out) | exact HB.out)⟩
          · rw [if_neg c40] at H
            have c40b0 : (t293 == 0) = false := beq_eq_false_iff_ne.mpr c40
            have c40b1 : (t293 != 0) = true := bne_iff_ne.mpr c40
            obtain rfl := Option.some.inj H
            have hnb88 := NB284_291.out
            have hnc88 := NB291_284.out
            have hcz89_0 : wc.cell? ⟨gb284, 0, none⟩ = some (.int .u8 t279) := (blk_cell BK284.out 0).trans rfl
            have hcz89_1 : wc.cell? ⟨gb284, 1, none⟩ = some (.int .u16 t280) := (blk_cell BK284.out 1).trans rfl
            have hcz89_2 : wc.cell? ⟨gb284, 2, none⟩ = some (.int .u16 t281) := (blk_cell BK284.out 2).trans rfl
            have hfz89_0 := blk_frozen BK284.out 0
            have hfz89_1 := blk_frozen BK284.out 1
            have hfz89_2 := blk_frozen BK284.out 2
            go_wp2_with (first | ((with_reducible refine gate_callee (f := 27) rfl ?_); refine goesL_ (some 63) rfl rfl Try.func27 (by kernel_rfl) rfl #[.agg #[.int .u8 t279, .int .u16 t280, .int .u16 t281]] rfl (by (try simp only [List.map_toArray, List.map_cons, List.map_nil]); first | done | rfl | (simp only [List.length_drop, List.length_take]; rfl)) ?_; (with_reducible refine (life_Print.calls kj5 t279 t280 t281 t292 t293 _ A38.out).mono ?_); rintro e w90 ⟨rfl, hb⟩; refine ⟨_, rfl, ?_⟩; have n0_ := Aside0.mk (blk_below (g := gb284) (o := .cells #[.int .u8 t279, .int .u16 t280, .int .u16 t281] 37 (0, 0)) (by (with_reducible repeat (first | refine blk_drewN ?_ _ | refine blk_drew ?_ | refine blk_alloc ?_ _)); exact BK284.out) hb); have n1_ := Aside0.mk (blk_below (g := gb291) (o := .cells #[.int .u8 t286, .int .u16 t287, .int .u16 t288] 37 (0, 0)) (by (with_reducible repeat (first | refine blk_drewN ?_ _ | refine blk_drew ?_ | refine blk_alloc ?_ _)); exact BK291.out) hb); have n2_ := Aside0.mk (below_step (by repeat (first | (with_reducible first | exact HB.out | apply below_alloc | apply pw_below_drewN | apply below_drew1 | refine below_set ?_ GE284.out | refine below_set ?_ GE291.out) | exact HB.out)) hb); clear BK284; clear BK291; clear HB; have BK284 := n0_; have BK291 := n1_; have HB := n2_; clear n0_ n1_ n2_; (try clear hb); (try clear hb2); (try clear hk); (try clear hi)) | ((with_reducible refine gate_callee (f := 22) rfl ?_); refine goesL_ (some 68) rfl rfl Try.func22 (by kernel_rfl) rfl #[.string t292] rfl (by (try simp only [List.map_toArray, List.map_cons, List.map_nil]); first | done | rfl | (simp only [List.length_drop, List.length_take]; rfl)) ?_; (with_reducible refine (life_Parse.calls t292 t294 t295 t296 t297 t298 _ A39.out).mono ?_); rintro e w91 ⟨rfl, hb⟩; refine ⟨_, rfl, ?_⟩; have n0_ := Aside0.mk (blk_below (g := gb284) (o := .cells #[.int .u8 t279, .int .u16 t280, .int .u16 t281] 37 (0, 0)) (by (with_reducible repeat (first | refine blk_drewN ?_ _ | refine blk_drew ?_ | refine blk_alloc ?_ _)); exact BK284.out) hb); have n1_ := Aside0.mk (blk_below (g := gb291) (o := .cells #[.int .u8 t286, .int .u16 t287, .int .u16 t288] 37 (0, 0)) (by (with_reducible repeat (first | refine blk_drewN ?_ _ | refine blk_drew ?_ | refine blk_alloc ?_ _)); exact BK291.out) hb); have n2_ := Aside0.mk (below_step (by repeat (first | (with_reducible first | exact HB.out | apply below_alloc | apply pw_below_drewN | apply below_drew1 | refine below_set ?_ GE284.out | refine below_set ?_ GE291.out) | exact HB.out)) hb); clear BK284; clear BK291; clear HB; have BK284 := n0_; have BK291 := n1_; have HB := n2_; clear n0_ n1_ n2_; (try clear hb); (try clear hb2); (try clear hk); (try clear hi)) | ((with_reducible refine gate_dst (N := 12) rfl ?_); (try (refine gate_guard (by rfl) ?_; dsimp only)); refine box_event ?hg (N := 12) ?hd (cs := #[.int .u8 0, .int .u16 0, .int .u16 0]) (t := 37) ?hr ?_; (case hd => rfl); (case hg => rfl); (case hr => first | (go_simp; done) | (go_simp; rfl)); intro gb299 hg w92 hbox hb; have n0_ := Aside0.mk (blk_below (g := gb284) (o := .cells #[.int .u8 t279, .int .u16 t280, .int .u16 t281] 37 (0, 0)) (by (with_reducible repeat (first | refine blk_drewN ?_ _ | refine blk_drew ?_ | refine blk_alloc ?_ _)); exact BK284.out) hb); have n1_ := Aside0.mk (blk_below (g := gb291) (o := .cells #[.int .u8 t286, .int .u16 t287, .int .u16 t288] 37 (0, 0)) (by (with_reducible repeat (first | refine blk_drewN ?_ _ | refine blk_drew ?_ | refine blk_alloc ?_ _)); exact BK291.out) hb); have n2_ := Aside0.mk (below_step (by repeat (first | (with_reducible first | exact HB.out | apply below_alloc | apply pw_below_drewN | apply below_drew1 | refine below_set ?_ GE284.out | refine below_set ?_ GE291.out) | exact HB.out)) hb); have n3_ := Aside0.mk (hbox); have n4_ := Aside0.mk ((by rw [hg]; exact (below_size (by repeat (first | (with_reducible first | exact HB.out | apply below_alloc | apply pw_below_drewN | apply below_drew1 | refine below_set ?_ GE284.out | refine below_set ?_ GE291.out) | exact HB.out))) : w.heap.size ≤ gb299)); have n5_ := Aside0.mk ((by rw [hg]; exact (below_size (by repeat (first | (with_reducible first | exact HB.out | apply below_alloc | apply pw_below_drewN | apply below_drew1 | refine below_set ?_ GE284.out | refine below_set ?_ GE291.out) | exact HB.out))) : w.heap.size ≤ gb299)); have n6_ := Aside0.mk ((by rw [hg]; exact Nat.ne_of_lt (blk_lt (g := gb284) (o := .cells #[.int .u8 t279, .int .u16 t280, .int .u16 t281] 37 (0, 0)) (by (with_reducible repeat (first | refine blk_drewN ?_ _ | refine blk_drew ?_ | refine blk_alloc ?_ _)); exact BK284.out)) : gb284 ≠ gb299)); have n7_ := Aside0.mk ((by rw [hg]; exact Nat.ne_of_gt (blk_lt (g := gb284) (o := .cells #[.int .u8 t279, .int .u16 t280, .int .u16 t281] 37 (0, 0)) (by (with_reducible repeat (first | refine blk_drewN ?_ _ | refine blk_drew ?_ | refine blk_alloc ?_ _)); exact BK284.out)) : gb299 ≠ gb284)); have n8_ := Aside0.mk ((by rw [hg]; exact Nat.ne_of_lt (blk_lt (g := gb291) (o := .cells #[.int .u8 t286, .int .u16 t287, .int .u16 t288] 37 (0, 0)) (by (with_reducible repeat (first | refine blk_drewN ?_ _ | refine blk_drew ?_ | refine blk_alloc ?_ _)); exact BK291.out)) : gb291 ≠ gb299)); have n9_ := Aside0.mk ((by rw [hg]; exact Nat.ne_of_gt (blk_lt (g := gb291) (o := .cells #[.int .u8 t286, .int .u16 t287, .int .u16 t288] 37 (0, 0)) (by (with_reducible repeat (first | refine blk_drewN ?_ _ | refine blk_drew ?_ | refine blk_alloc ?_ _)); exact BK291.out)) : gb299 ≠ gb291)); clear BK284; clear BK291; clear HB; have BK284 := n0_; have BK291 := n1_; have HB := n2_; have BK299 := n3_; have GW299 := n4_; have GE299 := n5_; have NB284_299 := n6_; have NB299_284 := n7_; have NB291_299 := n8_; have NB299_291 := n9_; clear n0_ n1_ n2_ n3_ n4_ n5_ n6_ n7_ n8_ n9_; clear hb hbox hg; have hnb93 := NB299_284.out; have hnc93 := NB284_299.out; have hnb94 := NB299_291.out; have hnc94 := NB291_299.out; have hcz95_0 : w92.cell? ⟨gb299, 0, none⟩ = some (.int .u8 0) := (blk_cell BK299.out 0).trans rfl; have hcz95_1 : w92.cell? ⟨gb299, 1, none⟩ = some (.int .u16 0) := (blk_cell BK299.out 1).trans rfl; have hcz95_2 : w92.cell? ⟨gb299, 2, none⟩ = some (.int .u16 0) := (blk_cell BK299.out 2).trans rfl; have hfz95_0 := blk_frozen BK299.out 0; have hfz95_1 := blk_frozen BK299.out 1; have hfz95_2 := blk_frozen BK299.out 2))
            go_ret
            exact ⟨by first | rfl | (simp [errW_none, errW_some] <;> rfl) | (simp [*, errW_none, errW_some] <;> rfl), by repeat (first | (with_reducible first | exact HB.out | apply below_alloc | apply pw_below_drewN | apply below_drew1 | refine below_set ?_ GE284.out | refine below_set ?_ GE291.out | refine below_set ?_ GE299.out) | exact HB.out)⟩
        · rw [if_neg c37] at H
          have c37b0 : (t283 == 0) = false := beq_eq_false_iff_ne.mpr c37
          have c37b1 : (t283 != 0) = true := bne_iff_ne.mpr c37
          obtain rfl := Option.some.inj H
          have hnb96 := NB284_291.out
          have hnc96 := NB291_284.out
          have hcz97_0 : wc.cell? ⟨gb284, 0, none⟩ = some (.int .u8 t279) := (blk_cell BK284.out 0).trans rfl
          have hcz97_1 : wc.cell? ⟨gb284, 1, none⟩ = some (.int .u16 t280) := (blk_cell BK284.out 1).trans rfl
          have hcz97_2 : wc.cell? ⟨gb284, 2, none⟩ = some (.int .u16 t281) := (blk_cell BK284.out 2).trans rfl
          have hfz97_0 := blk_frozen BK284.out 0
          have hfz97_1 := blk_frozen BK284.out 1
          have hfz97_2 := blk_frozen BK284.out 2
          go_wp2
          go_ret
          exact ⟨by first | rfl | (simp [errW_none, errW_some] <;> rfl) | (simp [*, errW_none, errW_some] <;> rfl), by repeat (first | (with_reducible first | exact HB.out | apply below_alloc | apply pw_below_drewN | apply below_drew1 | refine below_set ?_ GE284.out | refine below_set ?_ GE291.out) | exact HB.out)⟩

/-- THE ONE PURE STATEMENT of vivariumlaw08_LifeForm: yours. -/
def vivariumlaw08_LifeForm.Pure : Prop := ∀ (a0 : ByteArray), a0.size ≤ 140737488351232 → ∃ k, vivariumlaw08_LifeForm.f k a0 = some true
theorem vivariumlaw08_LifeForm.walk (P : vivariumlaw08_LifeForm.Pure) (a0 : ByteArray) (w : World) (w0 : a0.size ≤ 140737488351232) :
    Calls Try.prog 8 #[.string a0] w fun e w' => e = .returned (.bool true) ∧ Below w.heap.size w w' := by
  obtain ⟨k, h⟩ := P a0 w0
  refine (vivariumlaw08_LifeForm.calls k a0 true w h).mono ?_
  rintro e w' ⟨rfl, hd⟩
  exact ⟨rfl, hd⟩

end Go.Proofs.Ytfgonglcmgahkaa.P

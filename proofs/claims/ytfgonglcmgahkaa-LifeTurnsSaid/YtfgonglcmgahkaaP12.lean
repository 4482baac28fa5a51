-- Written by a program of this session (wip/tools/mk.py) that runs the kit's printer.
import Derived.Test.YtfgonglcmgahkaaP0
import Derived.Test.YtfgonglcmgahkaaP24
import Derived.Test.YtfgonglcmgahkaaP21
import Derived.Test.YtfgonglcmgahkaaP35
import Derived.Test.YtfgonglcmgahkaaP28
import Derived.Test.YtfgonglcmgahkaaP31
namespace Go.Proofs.Ytfgonglcmgahkaa.P
open Go.RowKit Go.Proofs.YtfgonglcmgahkaaW.PrintWords Go.Proofs.YtfgonglcmgahkaaW.PrintLast Go.Proofs.YtfgonglcmgahkaaW.PrintMore
attribute [local go_sem] max2_int min2_int max_two min_two max_three min_three max_four min_four   -- for this text's walks alone
set_option linter.unusedVariables false
set_option linter.unusedSimpArgs false

/-! ### vivariumlaw08_LifeTurns: function 12 -/
mutual
def vivariumlaw08_LifeTurns.j0 : Nat → Bool → Int → Int → Int → Int → Int → Int → Option (Bool)
  | 0, _, _, _, _, _, _, _ => none
  | k + 1, x43, x415000, x415001, x415002, x420000, x420001, x420002 => if x43 = true then (some false) else ((vivariumlaw08_most.f x415000).bind fun t420 => (vivariumlaw08_LifeTurns.l0 k t420 0 x415000 x415001 x415002 x420000 x420001 x420002))
def vivariumlaw08_LifeTurns.l0 : Nat → Int → Int → Int → Int → Int → Int → Int → Int → Option (Bool)
  | 0, _, _, _, _, _, _, _, _ => none
  | k + 1, x11, x12, x415000, x415001, x415002, x420000, x420001, x420002 => if x12 ≤ x11 then ((life_Next.f k x415000 x415001 x415002 0 x12).bind fun bt421 => ((life_Next.f k x415000 x415001 x415002 1 x12).bind fun bt423 => ((life_Next.f k x420000 x420001 x420002 0 (wrap64 (x11 - x12))).bind fun bt425 => ((life_Next.f k x420000 x420001 x420002 1 (wrap64 (x11 - x12))).bind fun bt427 => (if bt421.2 = 0 then (if bt423.2 = 0 then (if bt425.2 = 0 then (vivariumlaw08_LifeTurns.j2 k x11 x12 bt421.1 bt423.1 bt425.1 bt427.1 (bt427.2 != 0) x415000 x415001 x415002 x420000 x420001 x420002) else (vivariumlaw08_LifeTurns.j2 k x11 x12 bt421.1 bt423.1 bt425.1 bt427.1 true x415000 x415001 x415002 x420000 x420001 x420002)) else (vivariumlaw08_LifeTurns.j2 k x11 x12 bt421.1 bt423.1 bt425.1 bt427.1 true x415000 x415001 x415002 x420000 x420001 x420002)) else (vivariumlaw08_LifeTurns.j2 k x11 x12 bt421.1 bt423.1 bt425.1 bt427.1 true x415000 x415001 x415002 x420000 x420001 x420002)))))) else (some true)
def vivariumlaw08_LifeTurns.j2 : Nat → Int → Int → Int → Int → Int → Int → Bool → Int → Int → Int → Int → Int → Int → Option (Bool)
  | 0, _, _, _, _, _, _, _, _, _, _, _, _, _ => none
  | k + 1, x11, x12, x13, x15, x17, x19, x93, x415000, x415001, x415002, x420000, x420001, x420002 => if x93 = true then (some false) else (if 0 ≤ (IntKind.u64.wrap (x12)) then (if (IntKind.u16.wrap (x13)) = (Go.bits .and .u16 (shr .u16 x415001 (IntKind.u64.wrap (x12))) 1) then (if (IntKind.u16.wrap (x15)) = (Go.bits .and .u16 (shr .u16 x415002 (IntKind.u64.wrap (x12))) 1) then (if ((x17 + x15) % 256) = 1 then (if ((x19 + x13) % 256) = 1 then (vivariumlaw08_LifeTurns.l0 k x11 (wrap64 (x12 + 1)) x415000 x415001 x415002 x420000 x420001 x420002) else (some false)) else (some false)) else (some false)) else (some false)) else (none))
end
def vivariumlaw08_LifeTurns.f (k : Nat) (a0 : Int) (a1 : Int) (a2 : Int) : Option (Bool) := (vivariumlaw08_alive.f k).bind fun t410 => ((vivariumlaw08_made.f a0 a1 a2).bind fun bt411 => ((life_Turned.f k bt411.1 bt411.2.1 bt411.2.2).bind fun bt415 => (if t410 = true then (if bt415.2.2.2 = 0 then (vivariumlaw08_LifeTurns.j0 k (bt415.1 != bt411.1) bt411.1 bt411.2.1 bt411.2.2 bt415.1 bt415.2.1 bt415.2.2.1) else (vivariumlaw08_LifeTurns.j0 k true bt411.1 bt411.2.1 bt411.2.2 bt415.1 bt415.2.1 bt415.2.2.1)) else (vivariumlaw08_LifeTurns.j0 k true bt411.1 bt411.2.1 bt411.2.2 bt415.1 bt415.2.1 bt415.2.2.1))))
theorem vivariumlaw08_LifeTurns.mono_l : ∀ k, (∀ y0 y1 y2 y3 y4 y5 y6, LeO (vivariumlaw08_LifeTurns.j0 k y0 y1 y2 y3 y4 y5 y6) (vivariumlaw08_LifeTurns.j0 (k + 1) y0 y1 y2 y3 y4 y5 y6)) ∧ (∀ y0 y1 y2 y3 y4 y5 y6 y7, LeO (vivariumlaw08_LifeTurns.l0 k y0 y1 y2 y3 y4 y5 y6 y7) (vivariumlaw08_LifeTurns.l0 (k + 1) y0 y1 y2 y3 y4 y5 y6 y7)) ∧ (∀ y0 y1 y2 y3 y4 y5 y6 y7 y8 y9 y10 y11 y12, LeO (vivariumlaw08_LifeTurns.j2 k y0 y1 y2 y3 y4 y5 y6 y7 y8 y9 y10 y11 y12) (vivariumlaw08_LifeTurns.j2 (k + 1) y0 y1 y2 y3 y4 y5 y6 y7 y8 y9 y10 y11 y12))
  | 0 => ⟨fun _ _ _ _ _ _ _ r h => by simp [vivariumlaw08_LifeTurns.j0] at h, fun _ _ _ _ _ _ _ _ r h => by simp [vivariumlaw08_LifeTurns.l0] at h, fun _ _ _ _ _ _ _ _ _ _ _ _ _ r h => by simp [vivariumlaw08_LifeTurns.j2] at h⟩
  | k + 1 => by
    obtain ⟨ih0, ih1, ih2⟩ := vivariumlaw08_LifeTurns.mono_l k
    refine ⟨?_, ?_, ?_⟩
    · intro y0 y1 y2 y3 y4 y5 y6
      unfold vivariumlaw08_LifeTurns.j0
      repeat' first
      | (with_reducible exact ih0 _ _ _ _ _ _ _)
      | (with_reducible exact ih1 _ _ _ _ _ _ _ _)
      | (with_reducible exact ih2 _ _ _ _ _ _ _ _ _ _ _ _ _)
      | (with_reducible exact life_Next.mono _ _ _ _ _ _)
      | (with_reducible exact life_Turned.mono _ _ _ _)
      | (with_reducible exact vivariumlaw08_alive.mono _)
      | (with_reducible exact LeO.refl _)
      | (with_reducible exact LeO.none _)
      | (with_reducible refine LeO.ite ?_ ?_)
      | (with_reducible refine LeO.bind ?_ (fun _ => ?_))
      | exact ih0 _ _ _ _ _ _ _
      | exact ih1 _ _ _ _ _ _ _ _
      | exact ih2 _ _ _ _ _ _ _ _ _ _ _ _ _
      | exact life_Next.mono _ _ _ _ _ _
      | exact life_Turned.mono _ _ _ _
      | exact vivariumlaw08_alive.mono _
      | exact LeO.none _
      | refine LeO.ite ?_ ?_
      | refine LeO.bind ?_ (fun _ => ?_)
    · intro y0 y1 y2 y3 y4 y5 y6 y7
      unfold vivariumlaw08_LifeTurns.l0
      repeat' first
      | (with_reducible exact ih0 _ _ _ _ _ _ _)
      | (with_reducible exact ih1 _ _ _ _ _ _ _ _)
      | (with_reducible exact ih2 _ _ _ _ _ _ _ _ _ _ _ _ _)
      | (with_reducible exact life_Next.mono _ _ _ _ _ _)
      | (with_reducible exact life_Turned.mono _ _ _ _)
      | (with_reducible exact vivariumlaw08_alive.mono _)
      | (with_reducible exact LeO.refl _)
      | (with_reducible exact LeO.none _)
      | (with_reducible refine LeO.ite ?_ ?_)
      | (with_reducible refine LeO.bind ?_ (fun _ => ?_))
      | exact ih0 _ _ _ _ _ _ _
      | exact ih1 _ _ _ _ _ _ _ _
      | exact ih2 _ _ _ _ _ _ _ _ _ _ _ _ _
      | exact life_Next.mono _ _ _ _ _ _
      | exact life_Turned.mono _ _ _ _
      | exact vivariumlaw08_alive.mono _
      | exact LeO.none _
      | refine LeO.ite ?_ ?_
      | refine LeO.bind ?_ (fun _ => ?_)
    · intro y0 y1 y2 y3 y4 y5 y6 y7 y8 y9 y10 y11 y12
      unfold vivariumlaw08_LifeTurns.j2
      repeat' first
      | (with_reducible exact ih0 _ _ _ _ _ _ _)
      | (with_reducible exact ih1 _ _ _ _ _ _ _ _)
      | (with_reducible exact ih2 _ _ _ _ _ _ _ _ _ _ _ _ _)
      | (with_reducible exact life_Next.mono _ _ _ _ _ _)
      | (with_reducible exact life_Turned.mono _ _ _ _)
      | (with_reducible exact vivariumlaw08_alive.mono _)
      | (with_reducible exact LeO.refl _)
      | (with_reducible exact LeO.none _)
      | (with_reducible refine LeO.ite ?_ ?_)
      | (with_reducible refine LeO.bind ?_ (fun _ => ?_))
      | exact ih0 _ _ _ _ _ _ _
      | exact ih1 _ _ _ _ _ _ _ _
      | exact ih2 _ _ _ _ _ _ _ _ _ _ _ _ _
      | exact life_Next.mono _ _ _ _ _ _
      | exact life_Turned.mono _ _ _ _
      | exact vivariumlaw08_alive.mono _
      | exact LeO.none _
      | refine LeO.ite ?_ ?_
      | refine LeO.bind ?_ (fun _ => ?_)
theorem vivariumlaw08_LifeTurns.mono : ∀ a0 a1 a2 k, LeO (vivariumlaw08_LifeTurns.f k a0 a1 a2) (vivariumlaw08_LifeTurns.f (k + 1) a0 a1 a2) := by
  intro a0 a1 a2 k
  obtain ⟨ih0, ih1, ih2⟩ := vivariumlaw08_LifeTurns.mono_l k
  unfold vivariumlaw08_LifeTurns.f
  repeat' first
      | (with_reducible exact ih0 _ _ _ _ _ _ _)
      | (with_reducible exact ih1 _ _ _ _ _ _ _ _)
      | (with_reducible exact ih2 _ _ _ _ _ _ _ _ _ _ _ _ _)
      | (with_reducible exact life_Next.mono _ _ _ _ _ _)
      | (with_reducible exact life_Turned.mono _ _ _ _)
      | (with_reducible exact vivariumlaw08_alive.mono _)
      | (with_reducible exact LeO.refl _)
      | (with_reducible exact LeO.none _)
      | (with_reducible refine LeO.ite ?_ ?_)
      | (with_reducible refine LeO.bind ?_ (fun _ => ?_))
      | exact ih0 _ _ _ _ _ _ _
      | exact ih1 _ _ _ _ _ _ _ _
      | exact ih2 _ _ _ _ _ _ _ _ _ _ _ _ _
      | exact life_Next.mono _ _ _ _ _ _
      | exact life_Turned.mono _ _ _ _
      | exact vivariumlaw08_alive.mono _
      | exact LeO.none _
      | refine LeO.ite ?_ ?_
      | refine LeO.bind ?_ (fun _ => ?_)
set_option maxHeartbeats 8000000 in
set_option maxRecDepth 100000 in
theorem vivariumlaw08_LifeTurns.calls (k : Nat) (a0 : Int) (a1 : Int) (a2 : Int) (r : Bool) (w : World) (h : vivariumlaw08_LifeTurns.f k a0 a1 a2 = some r) :
    Calls Try.prog 12 #[.int .u8 a0, .int .u16 a1, .int .u16 a2] w fun e w' => e = .returned (.bool r) ∧ Below w.heap.size w w' := by
  have hu37 := Try.underlying37
  have HB := Aside0.mk (Below.refl w.heap.size w)
  have H : ((vivariumlaw08_alive.f k).bind fun t410 => ((vivariumlaw08_made.f a0 a1 a2).bind fun bt411 => ((life_Turned.f k bt411.1 bt411.2.1 bt411.2.2).bind fun bt415 => (if t410 = true then (if bt415.2.2.2 = 0 then (vivariumlaw08_LifeTurns.j0 k (bt415.1 != bt411.1) bt411.1 bt411.2.1 bt411.2.2 bt415.1 bt415.2.1 bt415.2.2.1) else (vivariumlaw08_LifeTurns.j0 k true bt411.1 bt411.2.1 bt411.2.2 bt415.1 bt415.2.1 bt415.2.2.1)) else (vivariumlaw08_LifeTurns.j0 k true bt411.1 bt411.2.1 bt411.2.2 bt415.1 bt415.2.1 bt415.2.2.1))))) = some r := h
  clear h
  replace H := Option.bind_eq_some_iff.mp H
  obtain ⟨t410, A40, H⟩ := H
  replace H : ((vivariumlaw08_made.f a0 a1 a2).bind fun bt411 => ((life_Turned.f k bt411.1 bt411.2.1 bt411.2.2).bind fun bt415 => (if t410 = true then (if bt415.2.2.2 = 0 then (vivariumlaw08_LifeTurns.j0 k (bt415.1 != bt411.1) bt411.1 bt411.2.1 bt411.2.2 bt415.1 bt415.2.1 bt415.2.2.1) else (vivariumlaw08_LifeTurns.j0 k true bt411.1 bt411.2.1 bt411.2.2 bt415.1 bt415.2.1 bt415.2.2.1)) else (vivariumlaw08_LifeTurns.j0 k true bt411.1 bt411.2.1 bt411.2.2 bt415.1 bt415.2.1 bt415.2.2.1)))) = some r := H
  have A4 := Aside0.mk A40
  clear A40
  replace H := Option.bind_eq_some_iff.mp H
  obtain ⟨⟨t411, t412, t413⟩, A50, H⟩ := H
  replace H : ((life_Turned.f k t411 t412 t413).bind fun bt415 => (if t410 = true then (if bt415.2.2.2 = 0 then (vivariumlaw08_LifeTurns.j0 k (bt415.1 != t411) t411 t412 t413 bt415.1 bt415.2.1 bt415.2.2.1) else (vivariumlaw08_LifeTurns.j0 k true t411 t412 t413 bt415.1 bt415.2.1 bt415.2.2.1)) else (vivariumlaw08_LifeTurns.j0 k true t411 t412 t413 bt415.1 bt415.2.1 bt415.2.2.1))) = some r := H
  have A5 := Aside0.mk A50
  clear A50
  replace H := Option.bind_eq_some_iff.mp H
  obtain ⟨⟨t415, t416, t417, t418⟩, A60, H⟩ := H
  replace H : (if t410 = true then (if t418 = 0 then (vivariumlaw08_LifeTurns.j0 k (t415 != t411) t411 t412 t413 t415 t416 t417) else (vivariumlaw08_LifeTurns.j0 k true t411 t412 t413 t415 t416 t417)) else (vivariumlaw08_LifeTurns.j0 k true t411 t412 t413 t415 t416 t417)) = some r := H
  have A6 := Aside0.mk A60
  clear A60
  have HC7 := Aside0.mk H
  clear H
  go_enter Try.func12, Try.ntmps12
  go_upto_region 4 with (first | ((with_reducible refine gate_callee (f := 21) rfl ?_); refine goesL_ (some 21) rfl rfl Try.func21 (by kernel_rfl) rfl #[] rfl (by (try simp only [List.map_toArray, List.map_cons, List.map_nil]); first | done | rfl | (simp only [List.length_drop, List.length_take]; rfl)) ?_; (with_reducible refine (vivariumlaw08_alive.calls k  t410 _ A4.out).mono ?_); rintro e w8 ⟨rfl, hb⟩; refine ⟨_, rfl, ?_⟩; have n0_ := Aside0.mk (below_step (by repeat (first | (with_reducible first | exact HB.out | apply below_alloc | apply pw_below_drewN | apply below_drew1) | exact HB.out)) hb); clear HB; have HB := n0_; clear n0_; (try clear hb); (try clear hb2); (try clear hk); (try clear hi)) | ((with_reducible refine gate_callee (f := 28) rfl ?_); refine goesL_ (some 25) rfl rfl Try.func28 (by kernel_rfl) rfl #[.int .u8 a0, .int .u16 a1, .int .u16 a2] rfl (by (try simp only [List.map_toArray, List.map_cons, List.map_nil]); first | done | rfl | (simp only [List.length_drop, List.length_take]; rfl)) ?_; (with_reducible refine (vivariumlaw08_made.calls a0 a1 a2 t411 t412 t413 _ A5.out).mono ?_); rintro e w9 ⟨rfl, hb⟩; refine ⟨_, rfl, ?_⟩; have n0_ := Aside0.mk (below_step (by repeat (first | (with_reducible first | exact HB.out | apply below_alloc | apply pw_below_drewN | apply below_drew1) | exact HB.out)) hb); clear HB; have HB := n0_; clear n0_; (try clear hb); (try clear hb2); (try clear hk); (try clear hi)) | ((with_reducible refine gate_dst (N := 8) rfl ?_); refine box_event ?hg (N := 8) ?hd (cs := #[.int .u8 0, .int .u16 0, .int .u16 0]) (t := 37) ?hr ?_; (case hd => rfl); (case hg => rfl); (case hr => first | (go_simp; done) | (go_simp; rfl)); intro gb414 hg w10 hbox hb; have n0_ := Aside0.mk (below_step (by repeat (first | (with_reducible first | exact HB.out | apply below_alloc | apply pw_below_drewN | apply below_drew1) | exact HB.out)) hb); have n1_ := Aside0.mk (hbox); have n2_ := Aside0.mk ((by rw [hg]; exact (below_size (by repeat (first | (with_reducible first | exact HB.out | apply below_alloc | apply pw_below_drewN | apply below_drew1) | exact HB.out))) : w.heap.size ≤ gb414)); have n3_ := Aside0.mk ((by rw [hg]; exact (below_size (by repeat (first | (with_reducible first | exact HB.out | apply below_alloc | apply pw_below_drewN | apply below_drew1) | exact HB.out))) : w.heap.size ≤ gb414)); clear HB; have HB := n0_; have BK414 := n1_; have GW414 := n2_; have GE414 := n3_; clear n0_ n1_ n2_ n3_; clear hb hbox hg; have hcz11_0 : w10.cell? ⟨gb414, 0, none⟩ = some (.int .u8 0) := (blk_cell BK414.out 0).trans rfl; have hcz11_1 : w10.cell? ⟨gb414, 1, none⟩ = some (.int .u16 0) := (blk_cell BK414.out 1).trans rfl; have hcz11_2 : w10.cell? ⟨gb414, 2, none⟩ = some (.int .u16 0) := (blk_cell BK414.out 2).trans rfl; have hfz11_0 := blk_frozen BK414.out 0; have hfz11_1 := blk_frozen BK414.out 1; have hfz11_2 := blk_frozen BK414.out 2) | ((with_reducible refine gate_callee (f := 31) rfl ?_); refine goesL_ (some 28) rfl rfl Try.func31 (by kernel_rfl) rfl #[.agg #[.int .u8 t411, .int .u16 t412, .int .u16 t413]] rfl (by (try simp only [List.map_toArray, List.map_cons, List.map_nil]); first | done | rfl | (simp only [List.length_drop, List.length_take]; rfl)) ?_; (with_reducible refine (life_Turned.calls k t411 t412 t413 t415 t416 t417 t418 _ A6.out).mono ?_); rintro e w12 ⟨rfl, hb⟩; refine ⟨_, rfl, ?_⟩; have n0_ := Aside0.mk (blk_below (g := gb414) (o := .cells #[.int .u8 t411, .int .u16 t412, .int .u16 t413] 37 (0, 0)) (by (with_reducible repeat (first | refine blk_drewN ?_ _ | refine blk_drew ?_ | refine blk_alloc ?_ _)); refine blk_put (cs := #[.int .u8 t411, .int .u16 t412, .int .u16 0]) ?_ 2 _ rfl; (with_reducible repeat (first | refine blk_drewN ?_ _ | refine blk_drew ?_ | refine blk_alloc ?_ _)); refine blk_put (cs := #[.int .u8 t411, .int .u16 0, .int .u16 0]) ?_ 1 _ rfl; (with_reducible repeat (first | refine blk_drewN ?_ _ | refine blk_drew ?_ | refine blk_alloc ?_ _)); refine blk_put (cs := #[.int .u8 0, .int .u16 0, .int .u16 0]) ?_ 0 _ rfl; (with_reducible repeat (first | refine blk_drewN ?_ _ | refine blk_drew ?_ | refine blk_alloc ?_ _)); exact BK414.out) hb); have n1_ := Aside0.mk (below_step (by repeat (first | (with_reducible first | exact HB.out | apply below_alloc | apply pw_below_drewN | apply below_drew1 | refine below_set ?_ GE414.out) | exact HB.out)) hb); clear BK414; clear HB; have BK414 := n0_; have HB := n1_; clear n0_ n1_; (try clear hb); (try clear hb2); (try clear hk); (try clear hi)) | ((with_reducible refine gate_dst (N := 9) rfl ?_); refine box_event ?hg (N := 9) ?hd (cs := #[.int .u8 0, .int .u16 0, .int .u16 0]) (t := 37) ?hr ?_; (case hd => rfl); (case hg => rfl); (case hr => first | (go_simp; done) | (go_simp; rfl)); intro gb419 hg w13 hbox hb; have n0_ := Aside0.mk (blk_below (g := gb414) (o := .cells #[.int .u8 t411, .int .u16 t412, .int .u16 t413] 37 (0, 0)) (by (with_reducible repeat (first | refine blk_drewN ?_ _ | refine blk_drew ?_ | refine blk_alloc ?_ _)); exact BK414.out) hb); have n1_ := Aside0.mk (below_step (by repeat (first | (with_reducible first | exact HB.out | apply below_alloc | apply pw_below_drewN | apply below_drew1 | refine below_set ?_ GE414.out) | exact HB.out)) hb); have n2_ := Aside0.mk (hbox); have n3_ := Aside0.mk ((by rw [hg]; exact (below_size (by repeat (first | (with_reducible first | exact HB.out | apply below_alloc | apply pw_below_drewN | apply below_drew1 | refine below_set ?_ GE414.out) | exact HB.out))) : w.heap.size ≤ gb419)); have n4_ := Aside0.mk ((by rw [hg]; exact (below_size (by repeat (first | (with_reducible first | exact HB.out | apply below_alloc | apply pw_below_drewN | apply below_drew1 | refine below_set ?_ GE414.out) | exact HB.out))) : w.heap.size ≤ gb419)); have n5_ := Aside0.mk ((by rw [hg]; exact Nat.ne_of_lt (blk_lt (g := gb414) (o := .cells #[.int .u8 t411, .int .u16 t412, .int .u16 t413] 37 (0, 0)) (by (with_reducible repeat (first | refine blk_drewN ?_ _ | refine blk_drew ?_ | refine blk_alloc ?_ _)); exact BK414.out)) : gb414 ≠ gb419)); have n6_ := Aside0.mk ((by rw [hg]; exact Nat.ne_of_gt (blk_lt (g := gb414) (o := .cells #[.int .u8 t411, .int .u16 t412, .int .u16 t413] 37 (0, 0)) (by (with_reducible repeat (first | refine blk_drewN ?_ _ | refine blk_drew ?_ | refine blk_alloc ?_ _)); exact BK414.out)) : gb419 ≠ gb414)); clear BK414; clear HB; have BK414 := n0_; have HB := n1_; have BK419 := n2_; have GW419 := n3_; have GE419 := n4_; have NB414_419 := n5_; have NB419_414 := n6_; clear n0_ n1_ n2_ n3_ n4_ n5_ n6_; clear hb hbox hg; have hnb14 := NB419_414.out; have hnc14 := NB414_419.out; have hcz15_0 : w13.cell? ⟨gb419, 0, none⟩ = some (.int .u8 0) := (blk_cell BK419.out 0).trans rfl; have hcz15_1 : w13.cell? ⟨gb419, 1, none⟩ = some (.int .u16 0) := (blk_cell BK419.out 1).trans rfl; have hcz15_2 : w13.cell? ⟨gb419, 2, none⟩ = some (.int .u16 0) := (blk_cell BK419.out 2).trans rfl; have hfz15_0 := blk_frozen BK419.out 0; have hfz15_1 := blk_frozen BK419.out 1; have hfz15_2 := blk_frozen BK419.out 2))
  (try simp only [Act.put, List.setIfInBounds_toArray, List.set_cons_zero, List.set_cons_succ])
  go_cut [43] (fun v43 wc => ∃ (kq : Nat) (x43_6 : Bool), v43 = .bool x43_6 ∧ Aside0 (vivariumlaw08_LifeTurns.j0 kq x43_6 t411 t412 t413 t415 t416 t417 = some r) ∧ Aside0 (kq ≤ k) ∧ Aside0 (wc.heap[gb414]? = some (.cells #[.int .u8 t411, .int .u16 t412, .int .u16 t413] 37 (0, 0))) ∧ Aside0 (wc.heap[gb419]? = some (.cells #[.int .u8 t415, .int .u16 t416, .int .u16 t417] 37 (0, 0))) ∧ Aside0 (Below w.heap.size w wc))
  case first =>
    have H := HC7.out
    clear HC7
    by_cases c16 : t410 = true
    · subst c16
      have H1 : (if t418 = 0 then (vivariumlaw08_LifeTurns.j0 k (t415 != t411) t411 t412 t413 t415 t416 t417) else (vivariumlaw08_LifeTurns.j0 k true t411 t412 t413 t415 t416 t417)) = some r := by rw [if_pos rfl] at H; exact H
      clear H
      have H := H1
      clear H1
      by_cases c17 : t418 = 0
      · rw [if_pos c17] at H
        have c17b0 : (t418 == 0) = true := beq_iff_eq.mpr c17
        have c17b1 : (t418 != 0) = false := bne_eq_false_iff_eq.mpr c17
        clear c17
        (first | rw [c17b0] | (simp only [i64_w, i32_w]; rw [c17b0]) | skip)
        have H' := Aside0.mk H
        clear H
        have hnb18 := NB419_414.out
        have hnc18 := NB414_419.out
        have hcz19_0 : w13.cell? ⟨gb419, 0, none⟩ = some (.int .u8 0) := (blk_cell BK419.out 0).trans rfl
        have hcz19_1 : w13.cell? ⟨gb419, 1, none⟩ = some (.int .u16 0) := (blk_cell BK419.out 1).trans rfl
        have hcz19_2 : w13.cell? ⟨gb419, 2, none⟩ = some (.int .u16 0) := (blk_cell BK419.out 2).trans rfl
        have hfz19_0 := blk_frozen BK419.out 0
        have hfz19_1 := blk_frozen BK419.out 1
        have hfz19_2 := blk_frozen BK419.out 2
        have hcz20_0 : w13.cell? ⟨gb414, 0, none⟩ = some (.int .u8 t411) := (blk_cell BK414.out 0).trans rfl
        have hcz20_1 : w13.cell? ⟨gb414, 1, none⟩ = some (.int .u16 t412) := (blk_cell BK414.out 1).trans rfl
        have hcz20_2 : w13.cell? ⟨gb414, 2, none⟩ = some (.int .u16 t413) := (blk_cell BK414.out 2).trans rfl
        have hfz20_0 := blk_frozen BK414.out 0
        have hfz20_1 := blk_frozen BK414.out 1
        have hfz20_2 := blk_frozen BK414.out 2
        go_wp2
        go_meet
        case rel => exact ⟨_, ((t415 != t411)), (by first | rfl | (simp; done) | (simp [*]; done)), H', ⟨by first | omega | exact Nat.le_refl _⟩, ⟨by (with_reducible repeat (first | refine blk_drewN ?_ _ | refine blk_drew ?_ | refine blk_alloc ?_ _)); refine blk_far ?_ NB414_419.out _; (with_reducible repeat (first | refine blk_drewN ?_ _ | refine blk_drew ?_ | refine blk_alloc ?_ _)); refine blk_far ?_ NB414_419.out _; (with_reducible repeat (first | refine blk_drewN ?_ _ | refine blk_drew ?_ | refine blk_alloc ?_ _)); refine blk_far ?_ NB414_419.out _; (with_reducible repeat (first | refine blk_drewN ?_ _ | refine blk_drew ?_ | refine blk_alloc ?_ _)); exact BK414.out⟩, ⟨by (with_reducible repeat (first | refine blk_drewN ?_ _ | refine blk_drew ?_ | refine blk_alloc ?_ _)); refine blk_put (cs := #[.int .u8 t415, .int .u16 t416, .int .u16 0]) ?_ 2 _ rfl; (with_reducible repeat (first | refine blk_drewN ?_ _ | refine blk_drew ?_ | refine blk_alloc ?_ _)); refine blk_put (cs := #[.int .u8 t415, .int .u16 0, .int .u16 0]) ?_ 1 _ rfl; (with_reducible repeat (first | refine blk_drewN ?_ _ | refine blk_drew ?_ | refine blk_alloc ?_ _)); refine blk_put (cs := #[.int .u8 0, .int .u16 0, .int .u16 0]) ?_ 0 _ rfl; (with_reducible repeat (first | refine blk_drewN ?_ _ | refine blk_drew ?_ | refine blk_alloc ?_ _)); exact BK419.out⟩, ⟨by repeat (first | (with_reducible first | exact HB.out | apply below_alloc | apply pw_below_drewN | apply below_drew1 | refine below_set ?_ GE414.out | refine below_set ?_ GE419.out) | exact HB.out)⟩⟩
      · rw [if_neg c17] at H
        have c17b0 : (t418 == 0) = false := beq_eq_false_iff_ne.mpr c17
        have c17b1 : (t418 != 0) = true := bne_iff_ne.mpr c17
        (first | rw [c17b0] | (simp only [i64_w, i32_w]; rw [c17b0]) | skip)
        have H' := Aside0.mk H
        clear H
        go_wp2
        go_meet
        case rel => exact ⟨_, (true), (by first | rfl | (simp; done) | (simp [*]; done)), H', ⟨by first | omega | exact Nat.le_refl _⟩, ⟨by (with_reducible repeat (first | refine blk_drewN ?_ _ | refine blk_drew ?_ | refine blk_alloc ?_ _)); refine blk_far ?_ NB414_419.out _; (with_reducible repeat (first | refine blk_drewN ?_ _ | refine blk_drew ?_ | refine blk_alloc ?_ _)); refine blk_far ?_ NB414_419.out _; (with_reducible repeat (first | refine blk_drewN ?_ _ | refine blk_drew ?_ | refine blk_alloc ?_ _)); refine blk_far ?_ NB414_419.out _; (with_reducible repeat (first | refine blk_drewN ?_ _ | refine blk_drew ?_ | refine blk_alloc ?_ _)); exact BK414.out⟩, ⟨by (with_reducible repeat (first | refine blk_drewN ?_ _ | refine blk_drew ?_ | refine blk_alloc ?_ _)); refine blk_put (cs := #[.int .u8 t415, .int .u16 t416, .int .u16 0]) ?_ 2 _ rfl; (with_reducible repeat (first | refine blk_drewN ?_ _ | refine blk_drew ?_ | refine blk_alloc ?_ _)); refine blk_put (cs := #[.int .u8 t415, .int .u16 0, .int .u16 0]) ?_ 1 _ rfl; (with_reducible repeat (first | refine blk_drewN ?_ _ | refine blk_drew ?_ | refine blk_alloc ?_ _)); refine blk_put (cs := #[.int .u8 0, .int .u16 0, .int .u16 0]) ?_ 0 _ rfl; (with_reducible repeat (first | refine blk_drewN ?_ _ | refine blk_drew ?_ | refine blk_alloc ?_ _)); exact BK419.out⟩, ⟨by repeat (first | (with_reducible first | exact HB.out | apply below_alloc | apply pw_below_drewN | apply below_drew1 | refine below_set ?_ GE414.out | refine below_set ?_ GE419.out) | exact HB.out)⟩⟩
    · replace c16 := Bool.eq_false_iff.mpr c16
      subst c16
      have H1 : (vivariumlaw08_LifeTurns.j0 k true t411 t412 t413 t415 t416 t417) = some r := by rw [if_neg (show ¬ (false = true) by decide)] at H; exact H
      clear H
      have H := H1
      clear H1
      have H' := Aside0.mk H
      clear H
      go_wp2
      go_meet
      case rel => exact ⟨_, (true), (by first | rfl | (simp; done) | (simp [*]; done)), H', ⟨by first | omega | exact Nat.le_refl _⟩, ⟨by (with_reducible repeat (first | refine blk_drewN ?_ _ | refine blk_drew ?_ | refine blk_alloc ?_ _)); refine blk_far ?_ NB414_419.out _; (with_reducible repeat (first | refine blk_drewN ?_ _ | refine blk_drew ?_ | refine blk_alloc ?_ _)); refine blk_far ?_ NB414_419.out _; (with_reducible repeat (first | refine blk_drewN ?_ _ | refine blk_drew ?_ | refine blk_alloc ?_ _)); refine blk_far ?_ NB414_419.out _; (with_reducible repeat (first | refine blk_drewN ?_ _ | refine blk_drew ?_ | refine blk_alloc ?_ _)); exact BK414.out⟩, ⟨by (with_reducible repeat (first | refine blk_drewN ?_ _ | refine blk_drew ?_ | refine blk_alloc ?_ _)); refine blk_put (cs := #[.int .u8 t415, .int .u16 t416, .int .u16 0]) ?_ 2 _ rfl; (with_reducible repeat (first | refine blk_drewN ?_ _ | refine blk_drew ?_ | refine blk_alloc ?_ _)); refine blk_put (cs := #[.int .u8 t415, .int .u16 0, .int .u16 0]) ?_ 1 _ rfl; (with_reducible repeat (first | refine blk_drewN ?_ _ | refine blk_drew ?_ | refine blk_alloc ?_ _)); refine blk_put (cs := #[.int .u8 0, .int .u16 0, .int .u16 0]) ?_ 0 _ rfl; (with_reducible repeat (first | refine blk_drewN ?_ _ | refine blk_drew ?_ | refine blk_alloc ?_ _)); exact BK419.out⟩, ⟨by repeat (first | (with_reducible first | exact HB.out | apply below_alloc | apply pw_below_drewN | apply below_drew1 | refine below_set ?_ GE414.out | refine below_set ?_ GE419.out) | exact HB.out)⟩⟩
  case rest =>
    clear HC7
    try clear c1
    try clear c2
    try clear p2
    try clear c3
    try clear c12
    try clear c14
    try clear c16
    try clear c17
    try clear c17b0
    try clear c17b1
    try clear c18
    try clear hcz11_0
    try clear hcz11_1
    try clear hcz11_2
    try clear hcz15_0
    try clear hcz15_1
    try clear hcz15_2
    try clear hcz19_0
    try clear hcz19_1
    try clear hcz19_2
    try clear hcz20_0
    try clear hcz20_1
    try clear hcz20_2
    try clear hfz11_0
    try clear hfz11_1
    try clear hfz11_2
    try clear hfz15_0
    try clear hfz15_1
    try clear hfz15_2
    try clear hfz19_0
    try clear hfz19_1
    try clear hfz19_2
    try clear hfz20_0
    try clear hfz20_1
    try clear hfz20_2
    obtain ⟨kq, x43_6, rfl, HA, HJ6, BK414, BK419, HB⟩ := hcut
    cases kq with
    | zero => exact absurd HA.out (by simp [vivariumlaw08_LifeTurns.j0])
    | succ kj6 =>
      have H := HA.out
      clear HA
      simp only [vivariumlaw08_LifeTurns.j0] at H
      by_cases c21 : x43_6 = true
      · subst c21
        have H1 : (some false) = some r := by rw [if_pos rfl] at H; exact H
        clear H
        have H := H1
        clear H1
        obtain rfl := Option.some.inj H
        go_wp2
        go_ret
        exact ⟨by first | rfl | (simp [errW_none, errW_some] <;> rfl) | (simp [*, errW_none, errW_some] <;> rfl), by repeat (first | (with_reducible first | exact HB.out | apply below_alloc | apply pw_below_drewN | apply below_drew1 | refine below_set ?_ GE414.out | refine below_set ?_ GE419.out) | exact HB.out)⟩
      · replace c21 := Bool.eq_false_iff.mpr c21
        subst c21
        have H1 : ((vivariumlaw08_most.f t411).bind fun t420 => (vivariumlaw08_LifeTurns.l0 kj6 t420 0 t411 t412 t413 t415 t416 t417)) = some r := by rw [if_neg (show ¬ (false = true) by decide)] at H; exact H
        clear H
        have H := H1
        clear H1
        replace H := Option.bind_eq_some_iff.mp H
        obtain ⟨t420, A220, H⟩ := H
        replace H : (vivariumlaw08_LifeTurns.l0 kj6 t420 0 t411 t412 t413 t415 t416 t417) = some r := H
        have A22 := Aside0.mk A220
        clear A220
        have H' := Aside0.mk H
        clear H
        have hnb23 := NB414_419.out
        have hnc23 := NB419_414.out
        have hcz24_0 : wc.cell? ⟨gb414, 0, none⟩ = some (.int .u8 t411) := (blk_cell BK414.out 0).trans rfl
        have hcz24_1 : wc.cell? ⟨gb414, 1, none⟩ = some (.int .u16 t412) := (blk_cell BK414.out 1).trans rfl
        have hcz24_2 : wc.cell? ⟨gb414, 2, none⟩ = some (.int .u16 t413) := (blk_cell BK414.out 2).trans rfl
        have hfz24_0 := blk_frozen BK414.out 0
        have hfz24_1 := blk_frozen BK414.out 1
        have hfz24_2 := blk_frozen BK414.out 2
        go_wp2_with (first | ((with_reducible refine gate_callee (f := 35) rfl ?_); refine goesL_ (some 46) rfl rfl Try.func35 (by kernel_rfl) rfl #[.int .u8 t411] rfl (by (try simp only [List.map_toArray, List.map_cons, List.map_nil]); first | done | rfl | (simp only [List.length_drop, List.length_take]; rfl)) ?_; (with_reducible refine (vivariumlaw08_most.calls t411 t420 _ A22.out).mono ?_); rintro e w' ⟨rfl, ⟨nd, rfl⟩⟩; refine ⟨_, rfl, ?_⟩))
        go_loopg [12] kj6 (fun kq v12 w' => ∃ (x12_2 : Int), v12 = .int .i64 x12_2 ∧ Aside0 (vivariumlaw08_LifeTurns.l0 kq t420 x12_2 t411 t412 t413 t415 t416 t417 = some r) ∧ Aside0 (kq ≤ kj6) ∧ Aside0 (w'.heap[gb414]? = some (.cells #[.int .u8 t411, .int .u16 t412, .int .u16 t413] 37 (0, 0))) ∧ Aside0 (w'.heap[gb419]? = some (.cells #[.int .u8 t415, .int .u16 t416, .int .u16 t417] 37 (0, 0))) ∧ Aside0 (Below w.heap.size w w'))
        case atStart => exact ⟨(0), (by first | rfl | (simp; done) | (simp [*]; done)), H', ⟨Nat.le_refl _⟩, ⟨by (with_reducible repeat (first | refine blk_drewN ?_ _ | refine blk_drew ?_ | refine blk_alloc ?_ _)); exact BK414.out⟩, ⟨by (with_reducible repeat (first | refine blk_drewN ?_ _ | refine blk_drew ?_ | refine blk_alloc ?_ _)); exact BK419.out⟩, ⟨by repeat (first | (with_reducible first | exact HB.out | apply below_alloc | apply pw_below_drewN | apply below_drew1 | refine below_set ?_ GE414.out | refine below_set ?_ GE419.out) | exact HB.out)⟩⟩
        case round =>
          clear H'
          try clear c1
          try clear c2
          try clear p2
          try clear c3
          try clear c12
          try clear c14
          try clear c16
          try clear c17
          try clear c17b0
          try clear c17b1
          try clear c18
          try clear c21
          try clear c23
          try clear hcz11_0
          try clear hcz11_1
          try clear hcz11_2
          try clear hcz15_0
          try clear hcz15_1
          try clear hcz15_2
          try clear hcz19_0
          try clear hcz19_1
          try clear hcz19_2
          try clear hcz20_0
          try clear hcz20_1
          try clear hcz20_2
          try clear hcz24_0
          try clear hcz24_1
          try clear hcz24_2
          try clear hfz11_0
          try clear hfz11_1
          try clear hfz11_2
          try clear hfz15_0
          try clear hfz15_1
          try clear hfz15_2
          try clear hfz19_0
          try clear hfz19_1
          try clear hfz19_2
          try clear hfz20_0
          try clear hfz20_1
          try clear hfz20_2
          try clear hfz24_0
          try clear hfz24_1
          try clear hfz24_2
          try clear p2
          obtain ⟨x12_2, rfl, HA, HK2, BK414, BK419, HB⟩ := hrel
          cases gk with
          | zero => exact absurd HA.out (by simp [vivariumlaw08_LifeTurns.l0])
          | succ k2 =>
            have H := HA.out
            clear HA
            simp only [vivariumlaw08_LifeTurns.l0] at H
            by_cases c25 : x12_2 ≤ t420
            · rw [if_pos c25] at H
              have c25b0 : decide (x12_2 ≤ t420) = true := decide_eq_true c25
              clear c25
              replace H := Option.bind_eq_some_iff.mp H
              obtain ⟨⟨t421, t422⟩, A260, H⟩ := H
              replace H : ((life_Next.f k2 t411 t412 t413 1 x12_2).bind fun bt423 => ((life_Next.f k2 t415 t416 t417 0 (wrap64 (t420 - x12_2))).bind fun bt425 => ((life_Next.f k2 t415 t416 t417 1 (wrap64 (t420 - x12_2))).bind fun bt427 => (if t422 = 0 then (if bt423.2 = 0 then (if bt425.2 = 0 then (vivariumlaw08_LifeTurns.j2 k2 t420 x12_2 t421 bt423.1 bt425.1 bt427.1 (bt427.2 != 0) t411 t412 t413 t415 t416 t417) else (vivariumlaw08_LifeTurns.j2 k2 t420 x12_2 t421 bt423.1 bt425.1 bt427.1 true t411 t412 t413 t415 t416 t417)) else (vivariumlaw08_LifeTurns.j2 k2 t420 x12_2 t421 bt423.1 bt425.1 bt427.1 true t411 t412 t413 t415 t416 t417)) else (vivariumlaw08_LifeTurns.j2 k2 t420 x12_2 t421 bt423.1 bt425.1 bt427.1 true t411 t412 t413 t415 t416 t417))))) = some r := H
              have A26 := Aside0.mk A260
              clear A260
              replace H := Option.bind_eq_some_iff.mp H
              obtain ⟨⟨t423, t424⟩, A270, H⟩ := H
              replace H : ((life_Next.f k2 t415 t416 t417 0 (wrap64 (t420 - x12_2))).bind fun bt425 => ((life_Next.f k2 t415 t416 t417 1 (wrap64 (t420 - x12_2))).bind fun bt427 => (if t422 = 0 then (if t424 = 0 then (if bt425.2 = 0 then (vivariumlaw08_LifeTurns.j2 k2 t420 x12_2 t421 t423 bt425.1 bt427.1 (bt427.2 != 0) t411 t412 t413 t415 t416 t417) else (vivariumlaw08_LifeTurns.j2 k2 t420 x12_2 t421 t423 bt425.1 bt427.1 true t411 t412 t413 t415 t416 t417)) else (vivariumlaw08_LifeTurns.j2 k2 t420 x12_2 t421 t423 bt425.1 bt427.1 true t411 t412 t413 t415 t416 t417)) else (vivariumlaw08_LifeTurns.j2 k2 t420 x12_2 t421 t423 bt425.1 bt427.1 true t411 t412 t413 t415 t416 t417)))) = some r := H
              have A27 := Aside0.mk A270
              clear A270
              replace H := Option.bind_eq_some_iff.mp H
              obtain ⟨⟨t425, t426⟩, A280, H⟩ := H
              replace H : ((life_Next.f k2 t415 t416 t417 1 (wrap64 (t420 - x12_2))).bind fun bt427 => (if t422 = 0 then (if t424 = 0 then (if t426 = 0 then (vivariumlaw08_LifeTurns.j2 k2 t420 x12_2 t421 t423 t425 bt427.1 (bt427.2 != 0) t411 t412 t413 t415 t416 t417) else (vivariumlaw08_LifeTurns.j2 k2 t420 x12_2 t421 t423 t425 bt427.1 true t411 t412 t413 t415 t416 t417)) else (vivariumlaw08_LifeTurns.j2 k2 t420 x12_2 t421 t423 t425 bt427.1 true t411 t412 t413 t415 t416 t417)) else (vivariumlaw08_LifeTurns.j2 k2 t420 x12_2 t421 t423 t425 bt427.1 true t411 t412 t413 t415 t416 t417))) = some r := H
              have A28 := Aside0.mk A280
              clear A280
              replace H := Option.bind_eq_some_iff.mp H
              obtain ⟨⟨t427, t428⟩, A290, H⟩ := H
              replace H : (if t422 = 0 then (if t424 = 0 then (if t426 = 0 then (vivariumlaw08_LifeTurns.j2 k2 t420 x12_2 t421 t423 t425 t427 (t428 != 0) t411 t412 t413 t415 t416 t417) else (vivariumlaw08_LifeTurns.j2 k2 t420 x12_2 t421 t423 t425 t427 true t411 t412 t413 t415 t416 t417)) else (vivariumlaw08_LifeTurns.j2 k2 t420 x12_2 t421 t423 t425 t427 true t411 t412 t413 t415 t416 t417)) else (vivariumlaw08_LifeTurns.j2 k2 t420 x12_2 t421 t423 t425 t427 true t411 t412 t413 t415 t416 t417)) = some r := H
              have A29 := Aside0.mk A290
              clear A290
              have HC30 := Aside0.mk H
              clear H
              have hnb31 := NB414_419.out
              have hnc31 := NB419_414.out
              have hcz32_0 : wr.cell? ⟨gb414, 0, none⟩ = some (.int .u8 t411) := (blk_cell BK414.out 0).trans rfl
              have hcz32_1 : wr.cell? ⟨gb414, 1, none⟩ = some (.int .u16 t412) := (blk_cell BK414.out 1).trans rfl
              have hcz32_2 : wr.cell? ⟨gb414, 2, none⟩ = some (.int .u16 t413) := (blk_cell BK414.out 2).trans rfl
              have hfz32_0 := blk_frozen BK414.out 0
              have hfz32_1 := blk_frozen BK414.out 1
              have hfz32_2 := blk_frozen BK414.out 2
              go_upto_region 14 with (first | ((with_reducible refine gate_callee (f := 24) rfl ?_); refine goesL_ (some 55) rfl rfl Try.func24 (by kernel_rfl) rfl #[.agg #[.int .u8 t411, .int .u16 t412, .int .u16 t413], .int .u8 0, .int .i64 x12_2] rfl (by (try simp only [List.map_toArray, List.map_cons, List.map_nil]); first | done | rfl | (simp only [List.length_drop, List.length_take]; rfl)) ?_; (with_reducible refine (life_Next.calls k2 t411 t412 t413 0 x12_2 t421 t422 _ A26.out).mono ?_); rintro e w33 ⟨rfl, hb⟩; refine ⟨_, rfl, ?_⟩; have n0_ := Aside0.mk (blk_below (g := gb414) (o := .cells #[.int .u8 t411, .int .u16 t412, .int .u16 t413] 37 (0, 0)) (by (with_reducible repeat (first | refine blk_drewN ?_ _ | refine blk_drew ?_ | refine blk_alloc ?_ _)); exact BK414.out) hb); have n1_ := Aside0.mk (blk_below (g := gb419) (o := .cells #[.int .u8 t415, .int .u16 t416, .int .u16 t417] 37 (0, 0)) (by (with_reducible repeat (first | refine blk_drewN ?_ _ | refine blk_drew ?_ | refine blk_alloc ?_ _)); exact BK419.out) hb); have n2_ := Aside0.mk (below_step (by repeat (first | (with_reducible first | exact HB.out | apply below_alloc | apply pw_below_drewN | apply below_drew1 | refine below_set ?_ GE414.out | refine below_set ?_ GE419.out) | exact HB.out)) hb); clear BK414; clear BK419; clear HB; have BK414 := n0_; have BK419 := n1_; have HB := n2_; clear n0_ n1_ n2_; (try clear hb); (try clear hb2); (try clear hk); (try clear hi); have hcz34_0 : w33.cell? ⟨gb414, 0, none⟩ = some (.int .u8 t411) := (blk_cell BK414.out 0).trans rfl; have hcz34_1 : w33.cell? ⟨gb414, 1, none⟩ = some (.int .u16 t412) := (blk_cell BK414.out 1).trans rfl; have hcz34_2 : w33.cell? ⟨gb414, 2, none⟩ = some (.int .u16 t413) := (blk_cell BK414.out 2).trans rfl; have hfz34_0 := blk_frozen BK414.out 0; have hfz34_1 := blk_frozen BK414.out 1; have hfz34_2 := blk_frozen BK414.out 2) | ((with_reducible refine gate_callee (f := 24) rfl ?_); refine goesL_ (some 61) rfl rfl Try.func24 (by kernel_rfl) rfl #[.agg #[.int .u8 t411, .int .u16 t412, .int .u16 t413], .int .u8 1, .int .i64 x12_2] rfl (by (try simp only [List.map_toArray, List.map_cons, List.map_nil]); first | done | rfl | (simp only [List.length_drop, List.length_take]; rfl)) ?_; (with_reducible refine (life_Next.calls k2 t411 t412 t413 1 x12_2 t423 t424 _ A27.out).mono ?_); rintro e w35 ⟨rfl, hb⟩; refine ⟨_, rfl, ?_⟩; have n0_ := Aside0.mk (blk_below (g := gb414) (o := .cells #[.int .u8 t411, .int .u16 t412, .int .u16 t413] 37 (0, 0)) (by (with_reducible repeat (first | refine blk_drewN ?_ _ | refine blk_drew ?_ | refine blk_alloc ?_ _)); exact BK414.out) hb); have n1_ := Aside0.mk (blk_below (g := gb419) (o := .cells #[.int .u8 t415, .int .u16 t416, .int .u16 t417] 37 (0, 0)) (by (with_reducible repeat (first | refine blk_drewN ?_ _ | refine blk_drew ?_ | refine blk_alloc ?_ _)); exact BK419.out) hb); have n2_ := Aside0.mk (below_step (by repeat (first | (with_reducible first | exact HB.out | apply below_alloc | apply pw_below_drewN | apply below_drew1 | refine below_set ?_ GE414.out | refine below_set ?_ GE419.out) | exact HB.out)) hb); clear BK414; clear BK419; clear HB; have BK414 := n0_; have BK419 := n1_; have HB := n2_; clear n0_ n1_ n2_; (try clear hb); (try clear hb2); (try clear hk); (try clear hi); have hcz36_0 : w35.cell? ⟨gb419, 0, none⟩ = some (.int .u8 t415) := (blk_cell BK419.out 0).trans rfl; have hcz36_1 : w35.cell? ⟨gb419, 1, none⟩ = some (.int .u16 t416) := (blk_cell BK419.out 1).trans rfl; have hcz36_2 : w35.cell? ⟨gb419, 2, none⟩ = some (.int .u16 t417) := (blk_cell BK419.out 2).trans rfl; have hfz36_0 := blk_frozen BK419.out 0; have hfz36_1 := blk_frozen BK419.out 1; have hfz36_2 := blk_frozen BK419.out 2) | ((with_reducible refine gate_callee (f := 24) rfl ?_); refine goesL_ (some 69) rfl rfl Try.func24 (by kernel_rfl) rfl #[.agg #[.int .u8 t415, .int .u16 t416, .int .u16 t417], .int .u8 0, .int .i64 (wrap64 (t420 - x12_2))] rfl (by (try simp only [List.map_toArray, List.map_cons, List.map_nil]); first | done | rfl | (simp only [List.length_drop, List.length_take]; rfl)) ?_; (with_reducible refine (life_Next.calls k2 t415 t416 t417 0 (wrap64 (t420 - x12_2)) t425 t426 _ A28.out).mono ?_); rintro e w37 ⟨rfl, hb⟩; refine ⟨_, rfl, ?_⟩; have n0_ := Aside0.mk (blk_below (g := gb414) (o := .cells #[.int .u8 t411, .int .u16 t412, .int .u16 t413] 37 (0, 0)) (by (with_reducible repeat (first | refine blk_drewN ?_ _ | refine blk_drew ?_ | refine blk_alloc ?_ _)); exact BK414.out) hb); have n1_ := Aside0.mk (blk_below (g := gb419) (o := .cells #[.int .u8 t415, .int .u16 t416, .int .u16 t417] 37 (0, 0)) (by (with_reducible repeat (first | refine blk_drewN ?_ _ | refine blk_drew ?_ | refine blk_alloc ?_ _)); exact BK419.out) hb); have n2_ := Aside0.mk (below_step (by repeat (first | (with_reducible first | exact HB.out | apply below_alloc | apply pw_below_drewN | apply below_drew1 | refine below_set ?_ GE414.out | refine below_set ?_ GE419.out) | exact HB.out)) hb); clear BK414; clear BK419; clear HB; have BK414 := n0_; have BK419 := n1_; have HB := n2_; clear n0_ n1_ n2_; (try clear hb); (try clear hb2); (try clear hk); (try clear hi); have hcz38_0 : w37.cell? ⟨gb419, 0, none⟩ = some (.int .u8 t415) := (blk_cell BK419.out 0).trans rfl; have hcz38_1 : w37.cell? ⟨gb419, 1, none⟩ = some (.int .u16 t416) := (blk_cell BK419.out 1).trans rfl; have hcz38_2 : w37.cell? ⟨gb419, 2, none⟩ = some (.int .u16 t417) := (blk_cell BK419.out 2).trans rfl; have hfz38_0 := blk_frozen BK419.out 0; have hfz38_1 := blk_frozen BK419.out 1; have hfz38_2 := blk_frozen BK419.out 2) | ((with_reducible refine gate_callee (f := 24) rfl ?_); refine goesL_ (some 77) rfl rfl Try.func24 (by kernel_rfl) rfl #[.agg #[.int .u8 t415, .int .u16 t416, .int .u16 t417], .int .u8 1, .int .i64 (wrap64 (t420 - x12_2))] rfl (by (try simp only [List.map_toArray, List.map_cons, List.map_nil]); first | done | rfl | (simp only [List.length_drop, List.length_take]; rfl)) ?_; (with_reducible refine (life_Next.calls k2 t415 t416 t417 1 (wrap64 (t420 - x12_2)) t427 t428 _ A29.out).mono ?_); rintro e w39 ⟨rfl, hb⟩; refine ⟨_, rfl, ?_⟩; have n0_ := Aside0.mk (blk_below (g := gb414) (o := .cells #[.int .u8 t411, .int .u16 t412, .int .u16 t413] 37 (0, 0)) (by (with_reducible repeat (first | refine blk_drewN ?_ _ | refine blk_drew ?_ | refine blk_alloc ?_ _)); exact BK414.out) hb); have n1_ := Aside0.mk (blk_below (g := gb419) (o := .cells #[.int .u8 t415, .int .u16 t416, .int .u16 t417] 37 (0, 0)) (by (with_reducible repeat (first | refine blk_drewN ?_ _ | refine blk_drew ?_ | refine blk_alloc ?_ _)); exact BK419.out) hb); have n2_ := Aside0.mk (below_step (by repeat (first | (with_reducible first | exact HB.out | apply below_alloc | apply pw_below_drewN | apply below_drew1 | refine below_set ?_ GE414.out | refine below_set ?_ GE419.out) | exact HB.out)) hb); clear BK414; clear BK419; clear HB; have BK414 := n0_; have BK419 := n1_; have HB := n2_; clear n0_ n1_ n2_; (try clear hb); (try clear hb2); (try clear hk); (try clear hi)))
              (try simp only [Act.put, List.setIfInBounds_toArray, List.set_cons_zero, List.set_cons_succ])
              go_cut [93] (fun v93 wc => ∃ (kq : Nat) (x93_29 : Bool), v93 = .bool x93_29 ∧ Aside0 (vivariumlaw08_LifeTurns.j2 kq t420 x12_2 t421 t423 t425 t427 x93_29 t411 t412 t413 t415 t416 t417 = some r) ∧ Aside0 (kq ≤ k2) ∧ Aside0 (wc.heap[gb414]? = some (.cells #[.int .u8 t411, .int .u16 t412, .int .u16 t413] 37 (0, 0))) ∧ Aside0 (wc.heap[gb419]? = some (.cells #[.int .u8 t415, .int .u16 t416, .int .u16 t417] 37 (0, 0))) ∧ Aside0 (Below w.heap.size w wc))
              case first =>
                have H := HC30.out
                clear HC30
                by_cases c40 : t422 = 0
                · rw [if_pos c40] at H
                  have c40b0 : (t422 == 0) = true := beq_iff_eq.mpr c40
                  have c40b1 : (t422 != 0) = false := bne_eq_false_iff_eq.mpr c40
                  clear c40
                  (first | rw [c40b0] | (simp only [i64_w, i32_w]; rw [c40b0]) | skip)
                  by_cases c41 : t424 = 0
                  · rw [if_pos c41] at H
                    have c41b0 : (t424 == 0) = true := beq_iff_eq.mpr c41
                    have c41b1 : (t424 != 0) = false := bne_eq_false_iff_eq.mpr c41
                    clear c41
                    by_cases c42 : t426 = 0
                    · rw [if_pos c42] at H
                      have c42b0 : (t426 == 0) = true := beq_iff_eq.mpr c42
                      have c42b1 : (t426 != 0) = false := bne_eq_false_iff_eq.mpr c42
                      clear c42
                      have H' := Aside0.mk H
                      clear H
                      go_wp2
                      go_meet
                      case rel => exact ⟨_, ((t428 != 0)), (by first | rfl | (simp; done) | (simp [*]; done)), H', ⟨by have := HJ6.out; have := HK2.out; first | omega | exact Nat.le_refl _⟩, ⟨by (with_reducible repeat (first | refine blk_drewN ?_ _ | refine blk_drew ?_ | refine blk_alloc ?_ _)); exact BK414.out⟩, ⟨by (with_reducible repeat (first | refine blk_drewN ?_ _ | refine blk_drew ?_ | refine blk_alloc ?_ _)); exact BK419.out⟩, ⟨by repeat (first | (with_reducible first | exact HB.out | apply below_alloc | apply pw_below_drewN | apply below_drew1 | refine below_set ?_ GE414.out | refine below_set ?_ GE419.out) | exact HB.out)⟩⟩
                    · rw [if_neg c42] at H
                      have c42b0 : (t426 == 0) = false := beq_eq_false_iff_ne.mpr c42
                      have c42b1 : (t426 != 0) = true := bne_iff_ne.mpr c42
                      have H' := Aside0.mk H
                      clear H
                      go_wp2
                      go_meet
                      case rel => exact ⟨_, (true), (by first | rfl | (simp; done) | (simp [*]; done)), H', ⟨by have := HJ6.out; have := HK2.out; first | omega | exact Nat.le_refl _⟩, ⟨by (with_reducible repeat (first | refine blk_drewN ?_ _ | refine blk_drew ?_ | refine blk_alloc ?_ _)); exact BK414.out⟩, ⟨by (with_reducible repeat (first | refine blk_drewN ?_ _ | refine blk_drew ?_ | refine blk_alloc ?_ _)); exact BK419.out⟩, ⟨by repeat (first | (with_reducible first | exact HB.out | apply below_alloc | apply pw_below_drewN | apply below_drew1 | refine below_set ?_ GE414.out | refine below_set ?_ GE419.out) | exact HB.out)⟩⟩
                  · rw [if_neg c41] at H
                    have c41b0 : (t424 == 0) = false := beq_eq_false_iff_ne.mpr c41
                    have c41b1 : (t424 != 0) = true := bne_iff_ne.mpr c41
                    have H' := Aside0.mk H
                    clear H
                    go_wp2
                    go_meet
                    case rel => exact ⟨_, (true), (by first | rfl | (simp; done) | (simp [*]; done)), H', ⟨by have := HJ6.out; have := HK2.out; first | omega | exact Nat.le_refl _⟩, ⟨by (with_reducible repeat (first | refine blk_drewN ?_ _ | refine blk_drew ?_ | refine blk_alloc ?_ _)); exact BK414.out⟩, ⟨by (with_reducible repeat (first | refine blk_drewN ?_ _ | refine blk_drew ?_ | refine blk_alloc ?_ _)); exact BK419.out⟩, ⟨by repeat (first | (with_reducible first | exact HB.out | apply below_alloc | apply pw_below_drewN | apply below_drew1 | refine below_set ?_ GE414.out | refine below_set ?_ GE419.out) | exact HB.out)⟩⟩
                · rw [if_neg c40] at H
                  have c40b0 : (t422 == 0) = false := beq_eq_false_iff_ne.mpr c40
                  have c40b1 : (t422 != 0) = true := bne_iff_ne.mpr c40
                  (first | rw [c40b0] | (simp only [i64_w, i32_w]; rw [c40b0]) | skip)
                  have H' := Aside0.mk H
                  clear H
                  go_wp2
                  go_meet
                  case rel => exact ⟨_, (true), (by first | rfl | (simp; done) | (simp [*]; done)), H', ⟨by have := HJ6.out; have := HK2.out; first | omega | exact Nat.le_refl _⟩, ⟨by (with_reducible repeat (first | refine blk_drewN ?_ _ | refine blk_drew ?_ | refine blk_alloc ?_ _)); exact BK414.out⟩, ⟨by (with_reducible repeat (first | refine blk_drewN ?_ _ | refine blk_drew ?_ | refine blk_alloc ?_ _)); exact BK419.out⟩, ⟨by repeat (first | (with_reducible first | exact HB.out | apply below_alloc | apply pw_below_drewN | apply below_drew1 | refine below_set ?_ GE414.out | refine below_set ?_ GE419.out) | exact HB.out)⟩⟩
              case rest =>
                clear HC30
                try clear c1
                try clear c2
                try clear p2
                try clear c3
                try clear c4
                try clear p6
                try clear c12
                try clear c14
                try clear c16
                try clear c17
                try clear c17b0
                try clear c17b1
                try clear c18
                try clear c21
                try clear c23
                try clear c24
                try clear c25
                try clear c25b0
                try clear c28
                try clear c31
                try clear c35
                try clear c40
                try clear c40b0
                try clear c40b1
                try clear c41
                try clear c41b0
                try clear c41b1
                try clear c42
                try clear c42b0
                try clear c42b1
                try clear hcz11_0
                try clear hcz11_1
                try clear hcz11_2
                try clear hcz15_0
                try clear hcz15_1
                try clear hcz15_2
                try clear hcz19_0
                try clear hcz19_1
                try clear hcz19_2
                try clear hcz20_0
                try clear hcz20_1
                try clear hcz20_2
                try clear hcz24_0
                try clear hcz24_1
                try clear hcz24_2
                try clear hcz32_0
                try clear hcz32_1
                try clear hcz32_2
                try clear hcz34_0
                try clear hcz34_1
                try clear hcz34_2
                try clear hcz36_0
                try clear hcz36_1
                try clear hcz36_2
                try clear hcz38_0
                try clear hcz38_1
                try clear hcz38_2
                try clear hfz11_0
                try clear hfz11_1
                try clear hfz11_2
                try clear hfz15_0
                try clear hfz15_1
                try clear hfz15_2
                try clear hfz19_0
                try clear hfz19_1
                try clear hfz19_2
                try clear hfz20_0
                try clear hfz20_1
                try clear hfz20_2
                try clear hfz24_0
                try clear hfz24_1
                try clear hfz24_2
                try clear hfz32_0
                try clear hfz32_1
                try clear hfz32_2
                try clear hfz34_0
                try clear hfz34_1
                try clear hfz34_2
                try clear hfz36_0
                try clear hfz36_1
                try clear hfz36_2
                try clear hfz38_0
                try clear hfz38_1
                try clear hfz38_2
                try clear p2
                obtain ⟨kq, x93_29, rfl, HA, HJ29, BK414, BK419, HB⟩ := hcut
                cases kq with
                | zero => exact absurd HA.out (by simp [vivariumlaw08_LifeTurns.j2])
                | succ kj29 =>
                  have H := HA.out
                  clear HA
                  simp only [vivariumlaw08_LifeTurns.j2] at H
                  by_cases c43 : x93_29 = true
                  · subst c43
                    have H1 : (some false) = some r := by rw [if_pos rfl] at H; exact H
                    clear H
                    have H := H1
                    clear H1
                    obtain rfl := Option.some.inj H
                    go_wp2
                    go_ret
                    exact ⟨by first | rfl | (simp [errW_none, errW_some] <;> rfl) | (simp [*, errW_none, errW_some] <;> rfl), by repeat (first | (with_reducible first | exact HB.out | apply below_alloc | apply pw_below_drewN | apply below_drew1 | refine below_set ?_ GE414.out | refine below_set ?_ GE419.out) | exact HB.out)⟩
                  · replace c43 := Bool.eq_false_iff.mpr c43
                    subst c43
                    have H1 : (if 0 ≤ (IntKind.u64.wrap (x12_2)) then (if (IntKind.u16.wrap (t421)) = (Go.bits .and .u16 (shr .u16 t412 (IntKind.u64.wrap (x12_2))) 1) then (if (IntKind.u16.wrap (t423)) = (Go.bits .and .u16 (shr .u16 t413 (IntKind.u64.wrap (x12_2))) 1) then (if ((t425 + t423) % 256) = 1 then (if ((t427 + t421) % 256) = 1 then (vivariumlaw08_LifeTurns.l0 kj29 t420 (wrap64 (x12_2 + 1)) t411 t412 t413 t415 t416 t417) else (some false)) else (some false)) else (some false)) else (some false)) else (none)) = some r := by rw [if_neg (show ¬ (false = true) by decide)] at H; exact H
                    clear H
                    have H := H1
                    clear H1
                    obtain ⟨ji44, hji44⟩ : ∃ j_ : Int, (IntKind.u64.wrap (x12_2)) = j_ := ⟨_, rfl⟩
                    replace H : (if 0 ≤ (ji44) then (if (IntKind.u16.wrap (t421)) = (Go.bits .and .u16 (shr .u16 t412 (ji44)) 1) then (if (IntKind.u16.wrap (t423)) = (Go.bits .and .u16 (shr .u16 t413 (ji44)) 1) then (if ((t425 + t423) % 256) = 1 then (if ((t427 + t421) % 256) = 1 then (vivariumlaw08_LifeTurns.l0 kj29 t420 (wrap64 (x12_2 + 1)) t411 t412 t413 t415 t416 t417) else (some false)) else (some false)) else (some false)) else (some false)) else (none)) = some r := by first | (rw [hji44] at H; exact H) | (simp only [hji44] at H ⊢; exact H)
                    by_cases c45 : 0 ≤ (ji44)
                    · rw [if_pos c45] at H
                      have c45b0 := eq_true c45
                      have c45b1 : decide (0 ≤ (ji44)) = true := decide_eq_true c45
                      clear c45
                      obtain ⟨ji46, hji46⟩ : ∃ j_ : Int, (shr .u16 t412 (ji44)) = j_ := ⟨_, rfl⟩
                      replace H : (if (IntKind.u16.wrap (t421)) = (Go.bits .and .u16 (ji46) 1) then (if (IntKind.u16.wrap (t423)) = (Go.bits .and .u16 (shr .u16 t413 (ji44)) 1) then (if ((t425 + t423) % 256) = 1 then (if ((t427 + t421) % 256) = 1 then (vivariumlaw08_LifeTurns.l0 kj29 t420 (wrap64 (x12_2 + 1)) t411 t412 t413 t415 t416 t417) else (some false)) else (some false)) else (some false)) else (some false)) = some r := by first | (rw [hji46] at H; exact H) | (simp only [hji46] at H ⊢; exact H)
                      have hji46_ : (t412 / 2 ^ min (ji44).toNat 16) = ji46 := hji46
                      have hji46z : (ji44) ≤ 16 → (t412 / 2 ^ (ji44).toNat) = ji46 := shr_small hji46
                      by_cases c47 : (IntKind.u16.wrap (t421)) = (Go.bits .and .u16 (ji46) 1)
                      · rw [if_pos c47] at H
                        have c47b0 : ((IntKind.u16.wrap (t421)) == (Go.bits .and .u16 (ji46) 1)) = true := beq_iff_eq.mpr c47
                        have c47b1 : ((IntKind.u16.wrap (t421)) != (Go.bits .and .u16 (ji46) 1)) = false := bne_eq_false_iff_eq.mpr c47
                        clear c47
                        have c48b0 := eq_true (of_decide_eq_true (by first | (with_reducible assumption) | assumption) : 0 ≤ (ji44))
                        obtain ⟨ji49, hji49⟩ : ∃ j_ : Int, (shr .u16 t413 (ji44)) = j_ := ⟨_, rfl⟩
                        replace H : (if (IntKind.u16.wrap (t423)) = (Go.bits .and .u16 (ji49) 1) then (if ((t425 + t423) % 256) = 1 then (if ((t427 + t421) % 256) = 1 then (vivariumlaw08_LifeTurns.l0 kj29 t420 (wrap64 (x12_2 + 1)) t411 t412 t413 t415 t416 t417) else (some false)) else (some false)) else (some false)) = some r := by first | (rw [hji49] at H; exact H) | (simp only [hji49] at H ⊢; exact H)
                        have hji49_ : (t413 / 2 ^ min (ji44).toNat 16) = ji49 := hji49
                        have hji49z : (ji44) ≤ 16 → (t413 / 2 ^ (ji44).toNat) = ji49 := shr_small hji49
                        by_cases c50 : (IntKind.u16.wrap (t423)) = (Go.bits .and .u16 (ji49) 1)
                        · rw [if_pos c50] at H
                          have c50b0 : ((IntKind.u16.wrap (t423)) == (Go.bits .and .u16 (ji49) 1)) = true := beq_iff_eq.mpr c50
                          have c50b1 : ((IntKind.u16.wrap (t423)) != (Go.bits .and .u16 (ji49) 1)) = false := bne_eq_false_iff_eq.mpr c50
                          clear c50
                          by_cases c51 : ((t425 + t423) % 256) = 1
                          · rw [if_pos c51] at H
                            have c51b0 : (((t425 + t423) % 256) == 1) = true := beq_iff_eq.mpr c51
                            have c51b1 : (((t425 + t423) % 256) != 1) = false := bne_eq_false_iff_eq.mpr c51
                            clear c51
                            by_cases c52 : ((t427 + t421) % 256) = 1
                            · rw [if_pos c52] at H
                              have c52b0 : (((t427 + t421) % 256) == 1) = true := beq_iff_eq.mpr c52
                              have c52b1 : (((t427 + t421) % 256) != 1) = false := bne_eq_false_iff_eq.mpr c52
                              clear c52
                              have H' := Aside0.mk H
                              clear H
                              have hnb53 := NB414_419.out
                              have hnc53 := NB419_414.out
                              have hcz54_0 : wc.cell? ⟨gb414, 0, none⟩ = some (.int .u8 t411) := (blk_cell BK414.out 0).trans rfl
                              have hcz54_1 : wc.cell? ⟨gb414, 1, none⟩ = some (.int .u16 t412) := (blk_cell BK414.out 1).trans rfl
                              have hcz54_2 : wc.cell? ⟨gb414, 2, none⟩ = some (.int .u16 t413) := (blk_cell BK414.out 2).trans rfl
                              have hfz54_0 := blk_frozen BK414.out 0
                              have hfz54_1 := blk_frozen BK414.out 1
                              have hfz54_2 := blk_frozen BK414.out 2
                              go_wp2
                              go_roundg kj29
                              case measure => have := HJ6.out; have := HK2.out; have := HJ29.out; omega
                              case rel => exact ⟨(wrap64 (x12_2 + 1)), (by first | rfl | (simp; done) | (simp [*]; done)), H', ⟨by have := HJ6.out; have := HK2.out; have := HJ29.out; omega⟩, ⟨by (with_reducible repeat (first | refine blk_drewN ?_ _ | refine blk_drew ?_ | refine blk_alloc ?_ _)); exact BK414.out⟩, ⟨by (with_reducible repeat (first | refine blk_drewN ?_ _ | refine blk_drew ?_ | refine blk_alloc ?_ _)); exact BK419.out⟩, ⟨by repeat (first | (with_reducible first | exact HB.out | apply below_alloc | apply pw_below_drewN | apply below_drew1 | refine below_set ?_ GE414.out | refine below_set ?_ GE419.out) | exact HB.out)⟩⟩
                            · rw [if_neg c52] at H
                              have c52b0 : (((t427 + t421) % 256) == 1) = false := beq_eq_false_iff_ne.mpr c52
                              have c52b1 : (((t427 + t421) % 256) != 1) = true := bne_iff_ne.mpr c52
                              obtain rfl := Option.some.inj H
                              have hnb55 := NB414_419.out
                              have hnc55 := NB419_414.out
                              have hcz56_0 : wc.cell? ⟨gb414, 0, none⟩ = some (.int .u8 t411) := (blk_cell BK414.out 0).trans rfl
                              have hcz56_1 : wc.cell? ⟨gb414, 1, none⟩ = some (.int .u16 t412) := (blk_cell BK414.out 1).trans rfl
                              have hcz56_2 : wc.cell? ⟨gb414, 2, none⟩ = some (.int .u16 t413) := (blk_cell BK414.out 2).trans rfl
                              have hfz56_0 := blk_frozen BK414.out 0
                              have hfz56_1 := blk_frozen BK414.out 1
                              have hfz56_2 := blk_frozen BK414.out 2
                              go_wp2
                              go_ret
                              exact ⟨by first | rfl | (simp [errW_none, errW_some] <;> rfl) | (simp only [← hji44, ← hji46, ← hji49]; first | rfl | (simp [errW_none, errW_some] <;> rfl)) | (simp [*, errW_none, errW_some] <;> rfl), by repeat (first | (with_reducible first | exact HB.out | apply below_alloc | apply pw_below_drewN | apply below_drew1 | refine below_set ?_ GE414.out | refine below_set ?_ GE419.out) | exact HB.out)⟩
                          · rw [if_neg c51] at H
                            have c51b0 : (((t425 + t423) % 256) == 1) = false := beq_eq_false_iff_ne.mpr c51
                            have c51b1 : (((t425 + t423) % 256) != 1) = true := bne_iff_ne.mpr c51
                            obtain rfl := Option.some.inj H
                            have hnb57 := NB414_419.out
                            have hnc57 := NB419_414.out
                            have hcz58_0 : wc.cell? ⟨gb414, 0, none⟩ = some (.int .u8 t411) := (blk_cell BK414.out 0).trans rfl
                            have hcz58_1 : wc.cell? ⟨gb414, 1, none⟩ = some (.int .u16 t412) := (blk_cell BK414.out 1).trans rfl
                            have hcz58_2 : wc.cell? ⟨gb414, 2, none⟩ = some (.int .u16 t413) := (blk_cell BK414.out 2).trans rfl
                            have hfz58_0 := blk_frozen BK414.out 0
                            have hfz58_1 := blk_frozen BK414.out 1
                            have hfz58_2 := blk_frozen BK414.out 2
                            go_wp2
                            go_ret
                            exact ⟨by first | rfl | (simp [errW_none, errW_some] <;> rfl) | (simp only [← hji44, ← hji46, ← hji49]; first | rfl | (simp [errW_none, errW_some] <;> rfl)) | (simp [*, errW_none, errW_some] <;> rfl), by repeat (first | (with_reducible first | exact HB.out | apply below_alloc | apply pw_below_drewN | apply below_drew1 | refine below_set ?_ GE414.out | refine below_set ?_ GE419.out) | exact HB.out)⟩
                        · rw [if_neg c50] at H
                          have c50b0 : ((IntKind.u16.wrap (t423)) == (Go.bits .and .u16 (ji49) 1)) = false := beq_eq_false_iff_ne.mpr c50
                          have c50b1 : ((IntKind.u16.wrap (t423)) != (Go.bits .and .u16 (ji49) 1)) = true := bne_iff_ne.mpr c50
                          obtain rfl := Option.some.inj H
                          have hnb59 := NB414_419.out
                          have hnc59 := NB419_414.out
                          have hcz60_0 : wc.cell? ⟨gb414, 0, none⟩ = some (.int .u8 t411) := (blk_cell BK414.out 0).trans rfl
                          have hcz60_1 : wc.cell? ⟨gb414, 1, none⟩ = some (.int .u16 t412) := (blk_cell BK414.out 1).trans rfl
                          have hcz60_2 : wc.cell? ⟨gb414, 2, none⟩ = some (.int .u16 t413) := (blk_cell BK414.out 2).trans rfl
                          have hfz60_0 := blk_frozen BK414.out 0
                          have hfz60_1 := blk_frozen BK414.out 1
                          have hfz60_2 := blk_frozen BK414.out 2
                          go_wp2
                          go_ret
                          exact ⟨by first | rfl | (simp [errW_none, errW_some] <;> rfl) | (simp only [← hji44, ← hji46, ← hji49]; first | rfl | (simp [errW_none, errW_some] <;> rfl)) | (simp [*, errW_none, errW_some] <;> rfl), by repeat (first | (with_reducible first | exact HB.out | apply below_alloc | apply pw_below_drewN | apply below_drew1 | refine below_set ?_ GE414.out | refine below_set ?_ GE419.out) | exact HB.out)⟩
                      · rw [if_neg c47] at H
                        have c47b0 : ((IntKind.u16.wrap (t421)) == (Go.bits .and .u16 (ji46) 1)) = false := beq_eq_false_iff_ne.mpr c47
                        have c47b1 : ((IntKind.u16.wrap (t421)) != (Go.bits .and .u16 (ji46) 1)) = true := bne_iff_ne.mpr c47
                        obtain rfl := Option.some.inj H
                        have hnb61 := NB414_419.out
                        have hnc61 := NB419_414.out
                        have hcz62_0 : wc.cell? ⟨gb414, 0, none⟩ = some (.int .u8 t411) := (blk_cell BK414.out 0).trans rfl
                        have hcz62_1 : wc.cell? ⟨gb414, 1, none⟩ = some (.int .u16 t412) := (blk_cell BK414.out 1).trans rfl
                        have hcz62_2 : wc.cell? ⟨gb414, 2, none⟩ = some (.int .u16 t413) := (blk_cell BK414.out 2).trans rfl
                        have hfz62_0 := blk_frozen BK414.out 0
                        have hfz62_1 := blk_frozen BK414.out 1
                        have hfz62_2 := blk_frozen BK414.out 2
                        go_wp2
                        go_ret
                        exact ⟨by first | rfl | (simp [errW_none, errW_some] <;> rfl) | (simp only [← hji44, ← hji46]; first | rfl | (simp [errW_none, errW_some] <;> rfl)) | (simp [*, errW_none, errW_some] <;> rfl), by repeat (first | (with_reducible first | exact HB.out | apply below_alloc | apply pw_below_drewN | apply below_drew1 | refine below_set ?_ GE414.out | refine below_set ?_ GE419.out) | exact HB.out)⟩
                    · rw [if_neg c45] at H
                      exact absurd H (by simp)
            · rw [if_neg c25] at H
              have c25b0 : decide (x12_2 ≤ t420) = false := decide_eq_false c25
              clear c25
              obtain rfl := Option.some.inj H
              go_wp2
              go_ret
              exact ⟨by first | rfl | (simp [errW_none, errW_some] <;> rfl) | (simp [*, errW_none, errW_some] <;> rfl), by repeat (first | (with_reducible first | exact HB.out | apply below_alloc | apply pw_below_drewN | apply below_drew1 | refine below_set ?_ GE414.out | refine below_set ?_ GE419.out) | exact HB.out)⟩

/-- THE ONE PURE STATEMENT of vivariumlaw08_LifeTurns: yours. -/
def vivariumlaw08_LifeTurns.Pure : Prop := ∀ (a0 : Int) (a1 : Int) (a2 : Int), (Lit.int .u8 a0).wf = true → (Lit.int .u16 a1).wf = true → (Lit.int .u16 a2).wf = true → ∃ k, vivariumlaw08_LifeTurns.f k a0 a1 a2 = some true
theorem vivariumlaw08_LifeTurns.walk (P : vivariumlaw08_LifeTurns.Pure) (a0 : Int) (a1 : Int) (a2 : Int) (w : World) (w0 : (Lit.int .u8 a0).wf = true) (w1 : (Lit.int .u16 a1).wf = true) (w2 : (Lit.int .u16 a2).wf = true) :
    Calls Try.prog 12 #[.int .u8 a0, .int .u16 a1, .int .u16 a2] w fun e w' => e = .returned (.bool true) ∧ Below w.heap.size w w' := by
  obtain ⟨k, h⟩ := P a0 a1 a2 w0 w1 w2
  refine (vivariumlaw08_LifeTurns.calls k a0 a1 a2 true w h).mono ?_
  rintro e w' ⟨rfl, hd⟩
  exact ⟨rfl, hd⟩

end Go.Proofs.Ytfgonglcmgahkaa.P

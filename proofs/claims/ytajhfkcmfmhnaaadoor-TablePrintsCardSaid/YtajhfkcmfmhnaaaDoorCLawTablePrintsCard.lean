/- Whether any table may be, and its text: the program answers as the document; what is handed in stays. -/
import Derived.Test.YtajhfkcmfmhnaaaDoorC12
import Derived.Test.YtajhfkcmfmhnaaaDoorCards
import Derived.Test.YtajhfkcmfmhnaaaDoorTie
import Derived.WalkKit
import Derived.ProofKit
import Derived.OpenShut
import Derived.ShutString
import Derived.ChangeOld
import Derived.Below
import Derived.SizedLaws
import Derived.LaidMore
import Derived.MakeChecks
import Derived.Lib.LaidTab
import Derived.Stop.LaidErr
import Derived.Stop.Joined
import Derived.SevenTiedAt
import Derived.Lib.SmallJoins
namespace Go.Proofs.YtajhfkcmfmhnaaaDoor.tablePrints
open Go.ChangeShapes Go.WideShapes Go.ChangeAt Go.RowKit Go.Joins Go.Proofs.YtajhfkcmfmhnaaaDoorW.PrintWords Go.Proofs.YtajhfkcmfmhnaaaDoor.L
set_option linter.unusedVariables false
theorem own : ownKnob Tryd.prog.godebug = none := by kernel_rfl
theorem laidOut : laidOutB Tryd.prog = true := by kernel_rfl
theorem pure_law (t : Tb) (ht : wfTb t) : ∃ (k : Nat) (e0 : Int) (q1 : ByteArray) (q2 : Int),
    P.vivariumref10_Check.f k t.st t.hd t.sy t.vs t.rs = some e0 ∧ P.table_Check.f k t.st t.hd t.sy t.vs t.rs = some e0 ∧ P.vivariumref10_Print.f k t.st t.hd t.sy t.vs t.rs = some (q1, q2) ∧ P.table_Print.f k t.st t.hd t.sy t.vs t.rs = some (q1, q2) ∧ P.vivariumref10_Twin.f k t.st t.hd t.sy t.vs t.rs = some (t.st, t.hd, t.sy, t.vs, t.rs) := by
  obtain ⟨h1, h2, h3, ⟨h4, h5⟩, h6, h7⟩ := ht
  have u8 : ∀ s : Int, (Lit.int .u8 s).wf = true → 0 ≤ s ∧ s ≤ 255 := fun s h => Go.bounds_u8 h
  have hw : WfTb t.st t.hd t.sy t.vs t.rs := ⟨(u8 _ h3).1, fun v hv => ⟨(h4 v hv).1, by have := (h4 v hv).2.2; unfold B47; omega, fun s hs => u8 _ ((h4 v hv).2.1 s hs)⟩, fun r hr => ⟨u8 _ (h6 r hr).1.1, u8 _ (h6 r hr).2.2.1, by have := (h6 r hr).2.1.2; unfold B47; omega, fun x hx => u8 _ ((h6 r hr).2.1.1 x hx).1⟩⟩
  obtain ⟨nm, hnm⟩ := names
  obtain ⟨e0, ⟨q1, q2⟩, f1, f2, f3, f4⟩ := prints_both nm hnm t.st t.hd t.sy t.vs t.rs hw (by unfold B47; omega) (by unfold B47; omega)
  have ht := twin_ev t.st t.hd t.sy t.vs t.rs (by omega) (by omega) (fun v hv => by have := (h4 v hv).2.2; omega) (fun r hr => by have := (h6 r hr).2.1.2; omega)
  obtain ⟨k1, e1⟩ := f1
  obtain ⟨k2, e2⟩ := f2
  obtain ⟨k3, e3⟩ := f3
  obtain ⟨k4, e4⟩ := f4
  obtain ⟨k5, e5⟩ := ht
  exact ⟨k1 + k2 + k3 + k4 + k5, e0, q1, q2, e2 _ (by omega), e1 _ (by omega), e4 _ (by omega), e3 _ (by omega), e5 _ (by omega)⟩
theorem cells1 : Tryd.prog.cellsOf 5 = 1 := by kernel_rfl
theorem door_met (os : Os) (args : Array Value) : laidMetH Tryd.prog Rows.tablePrintsRow.laid ((World.doorLaid Tryd.prog 24 os).forCall (fun _ _ => 0) ⟨#[], args, []⟩).memory :=
  laidMetH_of_parts3 (fuel := 8) (laidMet_of_run' 8 (by kernel_rfl) (by kernel_rfl)) (by kernel_rfl) (by kernel_rfl)
set_option maxRecDepth 100000 in
theorem tabs_of {W : World} (h : laidMetH Tryd.prog Rows.tablePrintsRow.laid W) : P.TabsOk W := by
  rw [MakeChecks.laidMetH_plain _ _ _ (by kernel_rfl)] at h
  exact Lib.tabIs_of_head (g := 0) (t := 108) (e := 73) (n := 20) (by kernel_rfl) (by kernel_rfl) (by kernel_rfl) (by kernel_rfl) (by kernel_rfl) (by kernel_rfl) (laidMet.tail (laidMet.tail h))
set_option maxRecDepth 100000 in
theorem lifted (os : Os) (started : os.Started) (H : Type) (enc : TypeId × Value → H) :
    ReturnsInHanded {} Tryd.checked os 3 .any (fun w args => (Rows.tablePrintsSpec.pre enc Tryd.prog Tryd.f3 [] false w args ∧ laidMetH Tryd.prog Rows.tablePrintsRow.laid w) ∧ sizedMet enc Tryd.prog Tryd.f3 (OpenSpec.ofChange Rows.tablePrintsSpec) false w args)
      (Rows.tablePrintsSpec.post enc Tryd.prog Tryd.f3 false true false false) := by
  refine returnsInHanded_of_change_and (C := Tryd.checked) (X := fun w _ => laidMetH Tryd.prog Rows.tablePrintsRow.laid w) (fun _ _ _ hh h => h.of_heap hh) own started (by kernel_rfl) Tryd.func3
    (ChangeSpec.witness_shaped (enc := enc) (C := Tryd.checked) (os := os) (X := fun w _ => laidMetH Tryd.prog Rows.tablePrintsRow.laid w) false (World.doorLaid Tryd.prog 24 os) #[.agg #[.int .i64 0, .int .u8 0, .int .u8 0, .slice none 0 0, .slice none 0 0]] 8 rfl (World.shaped_of_RefB (by kernel_rfl) (by kernel_rfl)) (by kernel_rfl) (by kernel_rfl) (by kernel_rfl) (door_met os _)) ?_
  intro W base args ds gs before hval0 hW hcnd hsz0 hL _
  have hsz : (DataW.weightsEach Tryd.prog (Tryd.f3.params.toList ++ Rows.tablePrintsSpec.plain.varTypes Tryd.prog) (ds ++ gs)).all (· ≤ reachBytes) = true := hsz0
  have hval : ∀ (j : Nat) t v, Tryd.f3.params[j]? = some t → args[j]? = some v → Value.okWide Tryd.prog W .any base t v := hval0
  have hW' := hW
  obtain ⟨p, q, hA0, hV, rfl, hfz, hnd⟩ := hW
  have hA : DataW.TrodAll enc Tryd.prog W 0 (fun _ => true) true Tryd.f3.params.toList args.toList ds p := hA0
  rw [Tryd.params3] at hA hval hsz
  obtain ⟨v0, vs0, d0, ds0, p0, q0, hargs, rfl, rfl, h0, r0⟩ := trodAll_cons hA
  obtain ⟨rfl, rfl, rfl⟩ := trodAll_nil r0
  obtain rfl : args = #[v0] := by cases args; simp_all
  obtain ⟨rfl, rfl⟩ := trodVars_none hV
  have k0 := h0
  have lt0 : ∀ x ∈ p0, x.block < W.heap.size := by obtain ⟨m, hm⟩ := k0; exact DataW.trod_lt m _ _ _ hm
  obtain ⟨t, A3, c3, A4, c4, rfl, g3, g4, hC3, hC4, hwf⟩ := open_table (hval 0 25 v0 rfl rfl) h0 (L.light_at hsz (j := 0) rfl rfl)
  clear hA0 hval0 hsz0 hsz
  obtain ⟨k, e0, f1, f2, x1, x2, x3, x4, x5⟩ := pure_law t hwf
  refine (prints_law k t.st t.hd t.sy A3 c3 t.vs A4 c4 t.rs e0 f1 f2 W hC3 g3 hC4 g4 (tabs_of hL) x1 x2 x3 x4 x5).mono fun e W' ⟨he, bel⟩ => ?_
  subst he
  exact ⟨_, rfl, _, _, _, [], _, [], hW', trodAll_mk1 (shut_bool Tryd.underlying4 _), (trodAll_cons_mk (Below.trod laidOut (by kernel_rfl) (of_decide_eq_true (by kernel_rfl)) k0 bel lt0) trodAll_mk0), rfl, bel.frame _, fun h => by cases h⟩
theorem over : Rows.tablePrintsRow.holds Tryd.pinned (OpenSpec.ofChange Rows.tablePrintsSpec) :=
  OpenClaim.holds_of_wide 3 Tryd.f3 rfl rfl rfl rfl rfl rfl rfl ⟨rfl, rfl, rfl, rfl, rfl⟩ rfl rfl rfl rfl rfl (by kernel_rfl) Tryd.func3 (by kernel_rfl)
    (of_decide_eq_true (by kernel_rfl)) (by unfold Func.isWrapper; first | (rw [if_pos (by decide +kernel)]; kernel_rfl) | (rw [if_neg (by decide +kernel)]; exact ⟨rfl, rfl⟩))
    (fun os started H enc _ => lifted os started H enc)
theorem plain (f : FuncId) (fn : Func) (hf : Tryd.pinned.checked.prog.funcNamed "vivarium/vivariumlaw10.TablePrints" = some f) (hfn : Tryd.pinned.checked.prog.funcs[f]? = some fn) :
    false = Tryd.pinned.checked.prog.looks [] ∧ ∀ (j : Nat) t, fn.params[j]? = some t → Tryd.pinned.checked.prog.wantsStandIn t = false := by
  obtain rfl : f = 3 := Option.some.inj ((show Tryd.prog.funcNamed "vivarium/vivariumlaw10.TablePrints" = some 3 by kernel_rfl).symm.trans hf) |>.symm
  obtain rfl : fn = Tryd.f3 := (Option.some.inj (Tryd.func3.symm.trans hfn)).symm
  refine ⟨by kernel_rfl, fun j t ht => ?_⟩
  rw [Tryd.params3] at ht
  have hm : t ∈ [25] := by simpa using Array.mem_of_getElem? ht
  have hall : ([25].all fun u => !Tryd.prog.wantsStandIn u) = true := by kernel_rfl
  exact (show Tryd.prog.wantsStandIn t = false by simpa using List.all_eq_true.1 hall t hm)
theorem said : Rows.TablePrintsSaid := over
/-- The card. -/
theorem proved : Rows.TablePrintsCardSaid :=
  Claim7.holds_tied_plain_at .later [] _ _ _ _ said (fun _ h => by cases h) (by kernel_rfl) (fun _ h => by cases h) tablePrints_row_tie rfl ⟨rfl, rfl⟩ (by kernel_rfl) rfl plain (by kernel_rfl)
#print axioms proved
end Go.Proofs.YtajhfkcmfmhnaaaDoor.tablePrints
namespace Go.Proofs.YtajhfkcmfmhnaaaDoor
/-- The card, under a short name, for the claim. -/
theorem tablePrintsCard_holds : Rows.TablePrintsCardSaid := tablePrints.proved
end Go.Proofs.YtajhfkcmfmhnaaaDoor

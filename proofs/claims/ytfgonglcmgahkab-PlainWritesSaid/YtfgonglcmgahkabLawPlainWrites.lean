/- Of all cells and every rectangle both texts are the document's, or the error; the list stays, and may be written over. -/
import Derived.Test.YtfgonglcmgahkabRows
import Derived.Test.YtfgonglcmgahkabPm11
import Derived.Test.YtfgonglcmgahkabPurePlainWrites
import Derived.Test.YtfgonglcmgahkabOpenKd
import Derived.WalkKit
import Derived.ProofKit
import Derived.OpenShut
import Derived.ShutString
import Derived.ChangeOld
import Derived.Below
import Derived.SizedLaws
import Derived.Lib.SmallJoins
namespace Go.Proofs.Ytfgonglcmgahkab.plainWrites
open Go.ChangeShapes Go.WideShapes Go.ChangeAt Go.RowKit Go.Joins Go.Proofs.YtfgonglcmgahkabW.PrintWords
set_option linter.unusedVariables false
theorem own : ownKnob Try.prog.godebug = none := by kernel_rfl
theorem laidOut : laidOutB Try.prog = true := by kernel_rfl
theorem cellsR : Try.prog.cellsOf 23 = 4 := by kernel_rfl
theorem cellsC : Try.prog.cellsOf 35 = 3 := by kernel_rfl
theorem bytesC : Try.prog.bytesOf 35 = 24 := by kernel_rfl
theorem cells1 : Try.prog.cellsOf 3 = 1 := by kernel_rfl
theorem cells2 : Try.prog.cellsOf 5 = 1 := by kernel_rfl
theorem opens_cell {H : Type} {enc : TypeId × Value → H} {w : World} {base : Nat} {spare : Nat → Bool} {held : Bool} : L.Opens enc Try.prog w base spare held 35 P.k35 (fun c => Pure.wfC c = true) := by
  have h3 := L.opensF_cons (enc := enc) (w := w) (base := base) (spare := spare) (held := held) (f := ⟨"X", 3, 0, false, "", "", 0⟩) rfl cells1 (L.opens_int Try.underlying3) (L.opensF_cons (off := 1) (f := ⟨"Y", 3, 1, false, "", "", 8⟩) rfl cells1 (L.opens_int Try.underlying3) (L.opensF_one (off := 2) (f := ⟨"State", 5, 2, false, "", "", 16⟩) rfl cells2 (L.opens_int Try.underlying5)))
  have h4 := L.opens_iso (fun x : P.S35 => (x.f0, x.f1, x.f2)) (fun a => ⟨a.1, a.2.1, a.2.2⟩) (fun _ => rfl) (L.opens_struct Try.underlying35 cellsC h3)
  intro n cs x hx hl
  obtain ⟨a, hk, h1, h2, h3⟩ := h4 n cs x hx hl
  refine ⟨a, hk, ?_⟩
  unfold Pure.wfC
  simp only [Bool.and_eq_true]
  exact ⟨h1, h2, h3⟩
set_option maxRecDepth 100000 in
theorem lifted (os : Os) (started : os.Started) (H : Type) (enc : TypeId × Value → H) :
    ReturnsInHanded {} Try.checked os 7 .any (Rows.plainWritesSpec.pre6 enc Try.prog Try.f7 Rows.plainWritesRow.domain false) (Rows.plainWritesSpec.post enc Try.prog Try.f7 false true false false) := by
  refine returnsInHanded_of_change_sized (C := Try.checked) own started (by kernel_rfl) Try.func7
    (ChangeSpec.witness6 (enc := enc) (C := Try.checked) false ⟨#[], #[.slice none 0 0, .agg #[.int .i64 0, .int .i64 0, .int .i64 0, .int .i64 0]], []⟩ 8 (by kernel_rfl) (by kernel_rfl) (by kernel_rfl) (by kernel_rfl)) ?_
  intro W base args ds gs before hval0 hW hcnd hsz0 _
  have hsz : (DataW.weightsEach Try.prog (Try.f7.params.toList ++ Rows.plainWritesSpec.plain.varTypes Try.prog) (ds ++ gs)).all (· ≤ reachBytes) = true := hsz0
  have hval : ∀ (j : Nat) t v, Try.f7.params[j]? = some t → args[j]? = some v → Value.okWide Try.prog W .any base t v := hval0
  have hW' := hW
  obtain ⟨p, q, hA0, hV, rfl, hfz, hnd⟩ := hW
  have hA : DataW.TrodAll enc Try.prog W 0 (fun _ => true) true Try.f7.params.toList args.toList ds p := hA0
  rw [Try.params7] at hA hval hsz
  obtain ⟨v0, vs0, d0, ds0, p0, q0, hargs, rfl, rfl, h0, r0⟩ := trodAll_cons hA
  obtain ⟨v1, vs1, d1, ds1, p1, q1, rfl, rfl, rfl, h1, r1⟩ := trodAll_cons r0
  obtain ⟨rfl, rfl, rfl⟩ := trodAll_nil r1
  obtain rfl : args = #[v0, v1] := by cases args; simp_all
  obtain ⟨rfl, rfl⟩ := trodVars_none hV
  obtain ⟨c1_0, c1_1, c1_2, c1_3, y1_0, y1_1, y1_2, y1_3, m1, rfl, rfl, rfl, hy1_0, hy1_1, hy1_2, hy1_3⟩ := open_agg4 Try.underlying23 (by kernel_rfl) cellsR (hval 1 23 v1 rfl rfl) h1
  obtain ⟨a1_0, e1_0, rfl, w1_0⟩ := DataW.trod_int Try.underlying3 hy1_0
  obtain ⟨a1_1, e1_1, rfl, w1_1⟩ := DataW.trod_int Try.underlying3 hy1_1
  obtain ⟨a1_2, e1_2, rfl, w1_2⟩ := DataW.trod_int Try.underlying3 hy1_2
  obtain ⟨a1_3, e1_3, rfl, w1_3⟩ := DataW.trod_int Try.underlying3 hy1_3
  simp at e1_0 e1_1 e1_2 e1_3
  subst e1_0 e1_1 e1_2 e1_3
  obtain ⟨a0, len0, cap0, rfl⟩ := okWide_slice Try.underlying27 (hval 0 27 v0 rfl rfl)
  have k0 := h0
  have lt0 : ∀ x ∈ p0, x.block < W.heap.size := by obtain ⟨m, hm⟩ := k0; exact DataW.trod_lt m _ _ _ hm
  obtain ⟨xs, hxl, hC, hQ, hcap⟩ : ∃ xs : List P.S35, xs.length = len0 ∧ Kd.C P.k35 W a0 xs.length xs ∧ (∀ c ∈ xs, Pure.wfC c = true) ∧ len0 ≤ cap0 := by
    obtain ⟨fuel, hf⟩ := h0
    obtain ⟨A, c, xs, e, hc, hC, hQ, _⟩ := L.opens_row Try.underlying27 cellsC bytesC opens_cell hf (L.light_at hsz (j := 0) rfl rfl)
    have e2 : [Value.slice a0 len0 cap0] = [.slice A xs.length c] := e
    simp only [List.cons.injEq, Value.slice.injEq, and_true] at e2
    obtain ⟨rfl, rfl, rfl⟩ := e2
    exact ⟨xs, rfl, hC, hQ, hc⟩
  subst hxl
  clear hA0 hval0 hsz0 hsz
  obtain ⟨k, hk⟩ := Pure.PlainWrites xs hQ a1_0 a1_1 a1_2 a1_3 w1_0 w1_1 w1_2 w1_3
  refine (P.vivariumlaw23_PlainWrites.calls k a0 cap0 xs a1_0 a1_1 a1_2 a1_3 true W hC hcap hk).mono fun e W' ⟨he, bel⟩ => ?_
  subst he
  exact ⟨_, rfl, _, _, _, [], _, [], hW', trodAll_mk1 (shut_bool Try.underlying4 _), (trodAll_cons_mk (Below.trod laidOut (by kernel_rfl) (of_decide_eq_true (by kernel_rfl)) k0 bel lt0) (trodAll_cons_mk (shut_agg4 (y0 := (.lit (.int .i64 a1_0), [])) (y1 := (.lit (.int .i64 a1_1), [])) (y2 := (.lit (.int .i64 a1_2), [])) (y3 := (.lit (.int .i64 a1_3), [])) Try.underlying23 (by kernel_rfl) cellsR (field_of_Trod (shut_int Try.underlying3 w1_0) rfl) (field_of_Trod (shut_int Try.underlying3 w1_1) rfl) (field_of_Trod (shut_int Try.underlying3 w1_2) rfl) (field_of_Trod (shut_int Try.underlying3 w1_3) rfl)) trodAll_mk0)), rfl, bel.frame _, fun h => by cases h⟩
theorem over : Rows.plainWritesRow.holds Try.pinned (OpenSpec.ofChange Rows.plainWritesSpec) :=
  OpenClaim.holds_of_wide 7 Try.f7 rfl rfl rfl rfl rfl rfl rfl ⟨rfl, rfl, rfl, rfl, rfl⟩ rfl rfl rfl rfl rfl (by kernel_rfl) Try.func7 (by kernel_rfl)
    (of_decide_eq_true (by kernel_rfl)) (by unfold Func.isWrapper; first | (rw [if_pos (by decide +kernel)]; kernel_rfl) | (rw [if_neg (by decide +kernel)]; exact ⟨rfl, rfl⟩))
    (fun os started H enc _ => lifted os started H enc)
theorem proved : Rows.PlainWritesSaid := over
#print axioms proved
end Go.Proofs.Ytfgonglcmgahkab.plainWrites
namespace Go.Proofs.Ytfgonglcmgahkab
/-- The row, under a short name, for the claim. -/
theorem plainWrites_holds : Rows.PlainWritesSaid := plainWrites.proved
end Go.Proofs.Ytfgonglcmgahkab

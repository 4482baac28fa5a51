/- Any calls of two cutters in turns, and of one that is nil, and a zero one, between: every answer, and where they stand. -/
import Derived.Test.YtkahgdkpehlanaaRows
import Derived.Test.YtkahgdkpehlanaaCutLaw
import Derived.Test.YtkahgdkpehlanaaOpenKd
import Derived.WalkKit
import Derived.ProofKit
import Derived.OpenShut
import Derived.ShutString
import Derived.ChangeOld
import Derived.Below
import Derived.SizedLaws
import Derived.Lib.SmallJoins
namespace Go.Proofs.Ytkahgdkpehlanaa.scanCutter
open Go.ChangeMaps (open_string shut_string)
open Go.ChangeShapes Go.WideShapes Go.ChangeAt Go.RowKit Go.Joins Go.Proofs.YtkahgdkpehlanaaW.PrintWords
set_option linter.unusedVariables false
theorem own : ownKnob Try.prog.godebug = none := by kernel_rfl
theorem laidOut : laidOutB Try.prog = true := by kernel_rfl
theorem cellsO : Try.prog.cellsOf 45 = 3 := by kernel_rfl
theorem bytesO : Try.prog.bytesOf 45 = 24 := by kernel_rfl
theorem cells1 : Try.prog.cellsOf 3 = 1 := by kernel_rfl
theorem cells2 : Try.prog.cellsOf 5 = 1 := by kernel_rfl
theorem opens_op {H : Type} {enc : TypeId × Value → H} {w : World} {base : Nat} {spare : Nat → Bool} {held : Bool} : L.Opens enc Try.prog w base spare held 45 P.k45 (fun _ => True) := by
  have h3 := L.opensF_cons (enc := enc) (w := w) (base := base) (spare := spare) (held := held) (f := ⟨"Kind", 3, 0, false, "", "", 0⟩) rfl cells1 (L.opens_int Try.underlying3) (L.opensF_cons (off := 1) (f := ⟨"Which", 3, 1, false, "", "", 8⟩) rfl cells1 (L.opens_int Try.underlying3) (L.opensF_one (off := 2) (f := ⟨"B", 5, 2, false, "", "", 16⟩) rfl cells2 (L.opens_int Try.underlying5)))
  have h4 := L.opens_iso (fun x : P.S45 => (x.f0, x.f1, x.f2)) (fun a => ⟨a.1, a.2.1, a.2.2⟩) (fun _ => rfl) (L.opens_struct Try.underlying45 cellsO h3)
  intro n cs x hx hl
  obtain ⟨a, hk, _⟩ := h4 n cs x hx hl
  exact ⟨a, hk, trivial⟩
set_option maxRecDepth 100000 in
theorem lifted (os : Os) (started : os.Started) (H : Type) (enc : TypeId × Value → H) :
    ReturnsInHanded {} Try.checked os 6 .any (Rows.scanCutterSpec.pre6 enc Try.prog Try.f6 Rows.scanCutterRow.domain false) (Rows.scanCutterSpec.post enc Try.prog Try.f6 false true false false) := by
  refine returnsInHanded_of_change_sized (C := Try.checked) own started (by kernel_rfl) Try.func6
    (ChangeSpec.witness6 (enc := enc) (C := Try.checked) false ⟨#[], #[.string ByteArray.empty, .string ByteArray.empty, .slice none 0 0], []⟩ 8 (by kernel_rfl) (by kernel_rfl) (by kernel_rfl) (by kernel_rfl)) ?_
  intro W base args ds gs before hval0 hW hcnd hsz0 _
  have hsz : (DataW.weightsEach Try.prog (Try.f6.params.toList ++ Rows.scanCutterSpec.plain.varTypes Try.prog) (ds ++ gs)).all (· ≤ reachBytes) = true := hsz0
  have hval : ∀ (j : Nat) t v, Try.f6.params[j]? = some t → args[j]? = some v → Value.okWide Try.prog W .any base t v := hval0
  have hW' := hW
  obtain ⟨p, q, hA0, hV, rfl, hfz, hnd⟩ := hW
  have hA : DataW.TrodAll enc Try.prog W 0 (fun _ => true) true Try.f6.params.toList args.toList ds p := hA0
  rw [Try.params6] at hA hval hsz
  obtain ⟨v0, vs0, d0, ds0, p0, q0, hargs, rfl, rfl, h0, r0⟩ := trodAll_cons hA
  obtain ⟨v1, vs1, d1, ds1, p1, q1, rfl, rfl, rfl, h1, r1⟩ := trodAll_cons r0
  obtain ⟨v2, vs2, d2, ds2, p2, q2, rfl, rfl, rfl, h2, r2⟩ := trodAll_cons r1
  obtain ⟨rfl, rfl, rfl⟩ := trodAll_nil r2
  obtain rfl : args = #[v0, v1, v2] := by cases args; simp_all
  obtain ⟨rfl, rfl⟩ := trodVars_none hV
  obtain ⟨a0, rfl, rfl, rfl, y0⟩ := open_string Try.underlying9 (hval 0 9 v0 rfl rfl) h0
  have w0 : a0.size ≤ 140737488351232 := by
    have z := sized_string hsz (j := 0) (t := 9) rfl rfl
    rw [Array.length_toList] at z
    exact z
  obtain ⟨a1, rfl, rfl, rfl, y1⟩ := open_string Try.underlying9 (hval 1 9 v1 rfl rfl) h1
  have w1 : a1.size ≤ 140737488351232 := by
    have z := sized_string hsz (j := 1) (t := 9) rfl rfl
    rw [Array.length_toList] at z
    exact z
  obtain ⟨a2, len2, cap2, rfl⟩ := okWide_slice Try.underlying37 (hval 2 37 v2 rfl rfl)
  have k2 := h2
  have lt2 : ∀ x ∈ p2, x.block < W.heap.size := by obtain ⟨m, hm⟩ := k2; exact DataW.trod_lt m _ _ _ hm
  obtain ⟨xs, hxl, hC, hcap⟩ : ∃ xs : List P.S45, xs.length = len2 ∧ Kd.C P.k45 W a2 xs.length xs ∧ len2 ≤ cap2 := by
    obtain ⟨fuel, hf⟩ := h2
    obtain ⟨A, c, xs, e, hc, hC, _, _⟩ := L.opens_row Try.underlying37 cellsO bytesO opens_op hf (L.light_at hsz (j := 2) rfl rfl)
    have e2 : [Value.slice a2 len2 cap2] = [.slice A xs.length c] := e
    simp only [List.cons.injEq, Value.slice.injEq, and_true] at e2
    obtain ⟨rfl, rfl, rfl⟩ := e2
    exact ⟨xs, rfl, hC, hc⟩
  subst hxl
  clear hA0 hval0 hsz0 hsz
  refine (L.cutter_calls a0 a1 w0 w1 a2 cap2 xs W hC hcap).mono fun e W' ⟨he, bel⟩ => ?_
  subst he
  exact ⟨_, rfl, _, _, _, [], _, [], hW', trodAll_mk1 (shut_bool Try.underlying4 _), (trodAll_cons_mk (shut_string Try.underlying9 y0) (trodAll_cons_mk (shut_string Try.underlying9 y1) (trodAll_cons_mk (Below.trod laidOut (by kernel_rfl) (of_decide_eq_true (by kernel_rfl)) k2 bel lt2) trodAll_mk0))), rfl, bel.frame _, fun h => by cases h⟩
theorem over : Rows.scanCutterRow.holds Try.pinned (OpenSpec.ofChange Rows.scanCutterSpec) :=
  OpenClaim.holds_of_wide 6 Try.f6 rfl rfl rfl rfl rfl rfl rfl ⟨rfl, rfl, rfl, rfl, rfl⟩ rfl rfl rfl rfl rfl (by kernel_rfl) Try.func6 (by kernel_rfl)
    (of_decide_eq_true (by kernel_rfl)) (by unfold Func.isWrapper; first | (rw [if_pos (by decide +kernel)]; kernel_rfl) | (rw [if_neg (by decide +kernel)]; exact ⟨rfl, rfl⟩))
    (fun os started H enc _ => lifted os started H enc)
theorem proved : Rows.ScanCutterSaid := over
#print axioms proved
end Go.Proofs.Ytkahgdkpehlanaa.scanCutter
namespace Go.Proofs.Ytkahgdkpehlanaa
/-- The row, under a short name, for the claim. -/
theorem scanCutter_holds : Rows.ScanCutterSaid := scanCutter.proved
end Go.Proofs.Ytkahgdkpehlanaa

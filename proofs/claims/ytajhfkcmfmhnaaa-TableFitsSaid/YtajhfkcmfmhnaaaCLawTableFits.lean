/- Whether any row of any table fits any neighbours, and what comes of a centre among them: the program answers as the document; what is handed in stays. -/
import Derived.Test.YtajhfkcmfmhnaaaC15
import Derived.Test.YtajhfkcmfmhnaaaC16
import Derived.Test.YtajhfkcmfmhnaaaRows
import Derived.WalkKit
import Derived.ProofKit
import Derived.OpenShut
import Derived.ShutString
import Derived.ChangeOld
import Derived.Below
import Derived.SizedLaws
import Derived.Lib.SmallJoins
namespace Go.Proofs.Ytajhfkcmfmhnaaa.tableFits
open Go.ChangeShapes Go.WideShapes Go.ChangeAt Go.RowKit Go.Joins Go.Proofs.YtajhfkcmfmhnaaaW.PrintWords Go.Proofs.Ytajhfkcmfmhnaaa.L
set_option linter.unusedVariables false
theorem own : ownKnob Try.prog.godebug = none := by kernel_rfl
theorem laidOut : laidOutB Try.prog = true := by kernel_rfl
theorem pure_law (t : Tb) (ht : wfTb t) (row ce : Int) (l : List Int) (hce : (Lit.int .u8 ce).wf = true) (hl : (∀ s ∈ l, (Lit.int .u8 s).wf = true) ∧ l.length ≤ 140737488351232) : ∃ (k : Nat) (q1 : Int) (q2 : Bool) (q3 n1 n2 : Int),
    P.vivariumref10_Fits.f k t.st t.hd t.sy t.vs t.rs row ce l = some (q1, q2, q3) ∧ P.table_Fits.f k t.st t.hd t.sy t.vs t.rs row ce l = some (q1, q2, q3) ∧ P.vivariumref10_Next.f k t.st t.hd t.sy t.vs t.rs ce l = some (n1, n2) ∧ P.table_Next.f k t.st t.hd t.sy t.vs t.rs ce l = some (n1, n2) ∧ P.vivariumref10_Twin.f k t.st t.hd t.sy t.vs t.rs = some (t.st, t.hd, t.sy, t.vs, t.rs) ∧ P.vivariumlaw10_lent.f l = some l := by
  obtain ⟨h1, h2, h3, ⟨h4, h5⟩, h6, h7⟩ := ht
  have u8 : ∀ s : Int, (Lit.int .u8 s).wf = true → 0 ≤ s ∧ s ≤ 255 := fun s h => Go.bounds_u8 h
  have hs := u8 _ h3
  have hc := u8 _ hce
  have hV : ∀ v ∈ t.vs, v.f0.size ≤ B47 ∧ v.f1.length ≤ B47 := fun v hv => ⟨(h4 v hv).1, by have := (h4 v hv).2.2; unfold B47; omega⟩
  have hR : ∀ r ∈ t.rs, r.f1.length ≤ B47 := fun r hr => by have := (h6 r hr).2.1.2; unfold B47; omega
  have hu : P.okU l = true := by
    unfold P.okU
    rw [List.all_eq_true]
    exact fun s h => decide_eq_true (u8 s (hl.1 s h))
  obtain ⟨nm, hnm⟩ := names
  obtain ⟨⟨q1, q2, q3⟩, f1, f2⟩ := fits_both nm hnm t.st t.hd t.sy t.vs t.rs hs.1 (by unfold B47; omega) (by unfold B47; omega) hV hR row ce l hl.2 hc hu
  obtain ⟨_, _, _, _, _, g1, g2⟩ := next_both nm hnm t.st t.hd t.sy t.vs t.rs hs.1 (by unfold B47; omega) (by unfold B47; omega) hV hR ce l hl.2 hc hu
  have ht := twin_ev t.st t.hd t.sy t.vs t.rs (by omega) (by omega) (fun v hv => by have := (h4 v hv).2.2; omega) (fun r hr => by have := (h6 r hr).2.1.2; omega)
  obtain ⟨k1, e1⟩ := f1
  obtain ⟨k2, e2⟩ := f2
  obtain ⟨k3, e3⟩ := g1
  obtain ⟨k4, e4⟩ := g2
  obtain ⟨k5, e5⟩ := ht
  refine ⟨k1 + k2 + k3 + k4 + k5, q1, q2, q3, _, _, e2 _ (by omega), e1 _ (by omega), e4 _ (by omega), e3 _ (by omega), e5 _ (by omega), ?_⟩
  unfold P.vivariumlaw10_lent.f
  rw [if_pos (by have := hl.2; omega)]
theorem cells1 : Try.prog.cellsOf 5 = 1 := by kernel_rfl
set_option maxRecDepth 100000 in
theorem lifted (os : Os) (started : os.Started) (H : Type) (enc : TypeId × Value → H) :
    ReturnsInHanded {} Try.checked os 4 .any (Rows.tableFitsSpec.pre6 enc Try.prog Try.f4 Rows.tableFitsRow.domain false) (Rows.tableFitsSpec.post enc Try.prog Try.f4 false true false false) := by
  refine returnsInHanded_of_change_sized (C := Try.checked) own started (by kernel_rfl) Try.func4
    (ChangeSpec.witness6 (enc := enc) (C := Try.checked) false ⟨#[], #[.agg #[.int .i64 0, .int .u8 0, .int .u8 0, .slice none 0 0, .slice none 0 0], .int .i64 0, .int .u8 0, .slice none 0 0], []⟩ 8 (by kernel_rfl) (by kernel_rfl) (by kernel_rfl) (by kernel_rfl)) ?_
  intro W base args ds gs before hval0 hW hcnd hsz0 _
  have hsz : (DataW.weightsEach Try.prog (Try.f4.params.toList ++ Rows.tableFitsSpec.plain.varTypes Try.prog) (ds ++ gs)).all (· ≤ reachBytes) = true := hsz0
  have hval : ∀ (j : Nat) t v, Try.f4.params[j]? = some t → args[j]? = some v → Value.okWide Try.prog W .any base t v := hval0
  have hW' := hW
  obtain ⟨p, q, hA0, hV, rfl, hfz, hnd⟩ := hW
  have hA : DataW.TrodAll enc Try.prog W 0 (fun _ => true) true Try.f4.params.toList args.toList ds p := hA0
  rw [Try.params4] at hA hval hsz
  obtain ⟨v0, vs0, d0, ds0, p0, q0, hargs, rfl, rfl, h0, r0⟩ := trodAll_cons hA
  obtain ⟨v1, vs1, d1, ds1, p1, q1, rfl, rfl, rfl, h1, r1⟩ := trodAll_cons r0
  obtain ⟨v2, vs2, d2, ds2, p2, q2, rfl, rfl, rfl, h2, r2⟩ := trodAll_cons r1
  obtain ⟨v3, vs3, d3, ds3, p3, q3, rfl, rfl, rfl, h3, r3⟩ := trodAll_cons r2
  obtain ⟨rfl, rfl, rfl⟩ := trodAll_nil r3
  obtain rfl : args = #[v0, v1, v2, v3] := by cases args; simp_all
  obtain ⟨rfl, rfl⟩ := trodVars_none hV
  have k0 := h0
  have lt0 : ∀ x ∈ p0, x.block < W.heap.size := by obtain ⟨m, hm⟩ := k0; exact DataW.trod_lt m _ _ _ hm
  obtain ⟨t, A3, c3, A4, c4, rfl, g3, g4, hC3, hC4, hwf⟩ := open_table (hval 0 33 v0 rfl rfl) h0 (L.light_at hsz (j := 0) rfl rfl)
  obtain ⟨a1, rfl, rfl, rfl, w1⟩ := open_int Try.underlying3 (hval 1 3 v1 rfl rfl) h1
  obtain ⟨a2, rfl, rfl, rfl, w2⟩ := open_int Try.underlying5 (hval 2 5 v2 rfl rfl) h2
  obtain ⟨b3, len3, cap3, rfl⟩ := okWide_slice Try.underlying34 (hval 3 34 v3 rfl rfl)
  have k3 := h3
  have lt3 : ∀ x ∈ p3, x.block < W.heap.size := by obtain ⟨m, hm⟩ := k3; exact DataW.trod_lt m _ _ _ hm
  obtain ⟨l, hxl, hC, hQ, hcap⟩ : ∃ xs : List Int, xs.length = len3 ∧ Kd.C (Kd.int .u8) W b3 xs.length xs ∧ ((∀ s ∈ xs, (Lit.int .u8 s).wf = true) ∧ xs.length ≤ 140737488351232) ∧ len3 ≤ cap3 := by
    obtain ⟨fuel, hf⟩ := h3
    obtain ⟨A, c, xs, e, hc, hC, hQ, hB⟩ := L.opens_row Try.underlying34 L.cellsU L.bytesU8 (L.opens_int Try.underlying5) hf (L.light_at hsz (j := 3) rfl rfl)
    have e2 : [Value.slice b3 len3 cap3] = [.slice A xs.length c] := e
    simp only [List.cons.injEq, Value.slice.injEq, and_true] at e2
    obtain ⟨rfl, rfl, rfl⟩ := e2
    exact ⟨xs, rfl, hC, ⟨hQ, by omega⟩, hc⟩
  subst hxl
  clear hA0 hval0 hsz0 hsz
  obtain ⟨k, f1, f2, f3, n1, n2, x1, x2, x3, x4, x5, x6⟩ := pure_law t hwf a1 a2 l w2 hQ
  refine (fits_law k t.st t.hd t.sy A3 c3 t.vs A4 c4 t.rs a1 a2 b3 cap3 l f1 f2 f3 n1 n2 W hC3 g3 hC4 g4 hC hcap x1 x2 x3 x4 x5 x6).mono fun e W' ⟨he, bel⟩ => ?_
  subst he
  exact ⟨_, rfl, _, _, _, [], _, [], hW', trodAll_mk1 (shut_bool Try.underlying4 _), (trodAll_cons_mk (Below.trod laidOut (by kernel_rfl) (of_decide_eq_true (by kernel_rfl)) k0 bel lt0) (trodAll_cons_mk (shut_int Try.underlying3 w1) (trodAll_cons_mk (shut_int Try.underlying5 w2) (trodAll_cons_mk (Below.trod laidOut (by kernel_rfl) (of_decide_eq_true (by kernel_rfl)) k3 bel lt3) trodAll_mk0)))), rfl, bel.frame _, fun h => by cases h⟩
theorem over : Rows.tableFitsRow.holds Try.pinned (OpenSpec.ofChange Rows.tableFitsSpec) :=
  OpenClaim.holds_of_wide 4 Try.f4 rfl rfl rfl rfl rfl rfl rfl ⟨rfl, rfl, rfl, rfl, rfl⟩ rfl rfl rfl rfl rfl (by kernel_rfl) Try.func4 (by kernel_rfl)
    (of_decide_eq_true (by kernel_rfl)) (by unfold Func.isWrapper; first | (rw [if_pos (by decide +kernel)]; kernel_rfl) | (rw [if_neg (by decide +kernel)]; exact ⟨rfl, rfl⟩))
    (fun os started H enc _ => lifted os started H enc)
theorem proved : Rows.TableFitsSaid := over
#print axioms proved
end Go.Proofs.Ytajhfkcmfmhnaaa.tableFits
namespace Go.Proofs.Ytajhfkcmfmhnaaa
/-- The row, under a short name, for the claim. -/
theorem tableFits_holds : Rows.TableFitsSaid := tableFits.proved
end Go.Proofs.Ytajhfkcmfmhnaaa

/- A rule whose dead fade, as a parameter: read, and read again. -/
import Derived.Test.YtkahgdkpehlanaaDoorP0
import Derived.WalkKit
import Derived.ProofKit
import Derived.OpenShut
import Derived.ChangeSame
import Derived.Deep.Strs
import Derived.Lib.SmallJoins
namespace Go.Proofs.YtkahgdkpehlanaaDoor.L
open Go.ChangeShapes Go.WideShapes Go.RowKit Go.Joins Go.Deep
theorem cellsG : Tryd.prog.cellsOf 42 = 4 := by kernel_rfl
theorem cellsL : Tryd.prog.cellsOf 40 = 3 := by kernel_rfl
theorem cellsI : Tryd.prog.cellsOf 3 = 1 := by kernel_rfl
theorem cells8 : Tryd.prog.cellsOf 5 = 1 := by kernel_rfl
theorem cells16 : Tryd.prog.cellsOf 38 = 1 := by kernel_rfl
section
variable {H : Type} {enc : TypeId × Value → H} {w : World} {base : Nat} {spare : Nat → Bool} {held : Bool}
set_option maxRecDepth 100000 in
theorem open_gens {W : World} {r : Reach} {b0 : Nat} {v : Value} {d : DataW H} {p : List MemPlace} (hv : Value.okWide Tryd.prog W r b0 42 v) (h : DataW.Trod enc Tryd.prog w base spare held 42 v d p) :
    ∃ x y z n : Int, v = .agg #[.int .u8 x, .int .u16 y, .int .u16 z, .int .i64 n] ∧ d = .agg [.agg [.lit (.int .u8 x), .lit (.int .u16 y), .lit (.int .u16 z)], .lit (.int .i64 n)] ∧ p = [] ∧
      (Lit.int .u8 x).wf = true ∧ (Lit.int .u16 y).wf = true ∧ (Lit.int .u16 z).wf = true ∧ (Lit.int .i64 n).wf = true := by
  obtain ⟨cs, rfl, hsz⟩ := okWide_struct Tryd.underlying42 hv
  obtain ⟨c0, c1, c2, c3, rfl⟩ := array4 (hsz.trans cellsG)
  obtain ⟨fuel, hf⟩ := h
  obtain ⟨y0, y1, n, hx, _, h0, h1⟩ := trod_struct2 Tryd.underlying42 hf
  simp only [Value.cells, cellsL, cellsI] at h0 h1
  obtain ⟨z0, z1, z2, m, hy, _, g0, g1, g2⟩ := trod_struct3 Tryd.underlying40 h0
  simp only [cells8, cells16] at g0 g1 g2
  simp at g0 g1 g2 h1
  obtain ⟨a0, e0, q0, w0⟩ := DataW.trod_int Tryd.underlying5 g0
  obtain ⟨a1, e1, q1, w1⟩ := DataW.trod_int Tryd.underlying38 g1
  obtain ⟨a2, e2, q2, w2⟩ := DataW.trod_int Tryd.underlying38 g2
  obtain ⟨a3, e3, q3, w3⟩ := DataW.trod_int Tryd.underlying3 h1
  simp at e0 e1 e2 e3
  subst e0 e1 e2 e3
  subst q0 q1 q2 q3
  subst hy
  simp only [Prod.mk.injEq] at hx
  refine ⟨a0, a1, a2, a3, rfl, hx.1, ?_, w0, w1, w2, w3⟩
  rw [hx.2]
  rfl
set_option maxRecDepth 100000 in
theorem shut_gens {x y z n : Int} (w0 : (Lit.int .u8 x).wf = true) (w1 : (Lit.int .u16 y).wf = true) (w2 : (Lit.int .u16 z).wf = true) (w3 : (Lit.int .i64 n).wf = true) :
    DataW.Trod enc Tryd.prog w base spare held 42 (.agg #[.int .u8 x, .int .u16 y, .int .u16 z, .int .i64 n]) (.agg [.agg [.lit (.int .u8 x), .lit (.int .u16 y), .lit (.int .u16 z)], .lit (.int .i64 n)]) [] := by
  have t0 := trod_int_mk (enc := enc) (w := w) (base := base) (spare := spare) (held := held) 0 Tryd.underlying5 w0
  have t1 := trod_int_mk (enc := enc) (w := w) (base := base) (spare := spare) (held := held) 0 Tryd.underlying38 w1
  have t2 := trod_int_mk (enc := enc) (w := w) (base := base) (spare := spare) (held := held) 0 Tryd.underlying38 w2
  have t3 := trod_int_mk (enc := enc) (w := w) (base := base) (spare := spare) (held := held) 1 Tryd.underlying3 w3
  have l := trod_struct3_mk (enc := enc) (w := w) (base := base) (spare := spare) (held := held) (n := 1) (cs := [.int .u8 x, .int .u16 y, .int .u16 z]) Tryd.underlying40 (by rw [cellsL]; rfl) (by simpa [cells8, cells16] using t0) (by simpa [cells8, cells16] using t1) (by simpa [cells8, cells16] using t2)
  have g := trod_struct2_mk (enc := enc) (w := w) (base := base) (spare := spare) (held := held) (n := 2) (cs := [.int .u8 x, .int .u16 y, .int .u16 z, .int .i64 n]) Tryd.underlying42 (by rw [cellsG]; rfl) (by simpa [cellsL, cellsI] using l) (by simpa [cellsL, cellsI] using t3)
  exact ⟨_, g⟩
end
end Go.Proofs.YtkahgdkpehlanaaDoor.L

/- Places as a map's keys; the map of the living cells, as a datum. -/
import Derived.Test.YtfgonglcmgahkabPureLib
import Derived.Test.YtfgonglcmgahkabP0
import Derived.DeepKeys4
import Derived.Maps.Own
import Derived.Maps.OwnIn
import Derived.Maps.OwnSet
import Derived.Maps.Views
import Derived.WalkKit
namespace Go.Proofs.Ytfgonglcmgahkab.L
open Go.Maps Go.Proofs.Ytfgonglcmgahkab.P
theorem laidT : laidOutB Try.prog = true := by kernel_rfl
theorem pkey : Keyed Try.prog 55 := Keyed.of_law (deep_law_laid laidT (m := 2) (by omega) (of_decide_eq_true (by kernel_rfl)) (by kernel_rfl) (by rw [Try.underlying55]))
def klP (x y : Int) : Lit := .string (keyBytes [.int .i64 x, .int .i64 y])
theorem cellsPt : Try.prog.cellsOf 55 = 2 := by kernel_rfl
theorem cellsInt : Try.prog.cellsOf 3 = 1 := by kernel_rfl
theorem keyPt : Try.prog.keyType 55 = true := by kernel_rfl
theorem lit3 (d : Nat) (x : Int) (hx : (Lit.int .i64 x).wf = true) : Try.prog.keyLits (d + 1) 3 [.int .i64 x] = some [.int .i64 x] := by
 simp [Program.keyLits, Try.underlying3, hx]
theorem litsPt (d : Nat) (x y : Int) (hx : (Lit.int .i64 x).wf = true) (hy : (Lit.int .i64 y).wf = true) : Try.prog.keyLits (d + 1 + 1) 55 [.int .i64 x, .int .i64 y] = some [.int .i64 x, .int .i64 y] := by
 have h1 := lit3 d x hx
 have h2 := lit3 d y hy
 unfold Program.keyLits
 simp [Try.underlying55, cellsPt, cellsInt, h1, h2]
theorem key_of (x y : Int) (hx : (Lit.int .i64 x).wf = true) (hy : (Lit.int .i64 y).wf = true) : keyOf Try.prog 55 (.agg #[.int .i64 x, .int .i64 y]) = some (klP x y) := by
 obtain ⟨d, hd⟩ : ∃ d, Try.prog.types.size + 1 = d + 1 + 1 := ⟨Try.prog.types.size - 1, by have : 1 ≤ Try.prog.types.size := of_decide_eq_true (by kernel_rfl); omega⟩
 have h := litsPt d x y hx hy
 unfold keyOf klP
 rw [Try.underlying55]
 have hf : (Value.agg #[.int .i64 x, .int .i64 y]).formed Try.prog 55 = true := by simp [Value.formed, Try.underlying55, cellsPt]
 have hc : (Value.agg #[.int .i64 x, .int .i64 y]).cells.toList = [.int .i64 x, .int .i64 y] := rfl
 simp only [keyPt, hf, hc, hd, h, Bool.and_self, if_true, Option.map_some]
theorem klP_inj {x y x' y' : Int} (hx : (Lit.int .i64 x).wf = true) (hy : (Lit.int .i64 y).wf = true) (hx' : (Lit.int .i64 x').wf = true) (hy' : (Lit.int .i64 y').wf = true) (h : klP x y = klP x' y') : x = x' ∧ y = y' := by
 have h1 := key_of x y hx hy
 have h2 := key_of x' y' hx' hy'
 rw [← h] at h2
 have := pkey.inj h1 h2
 simpa using this
abbrev ClS := S35
def farI (n : Int) : Bool := decide (n < -1099511627776) || decide (1099511627776 < n)
/-- One cell more on the map. -/
def putC (D : DataW Unit) (c : ClS) : DataW Unit := D.put (klP c.f0 c.f1) (.lit (.int .u8 c.f2))
/-- The map of the living cells, up to the first that is too far; how many; whether one was too far. -/
def stD : List ClS → DataW Unit → Int → DataW Unit × Int × Bool
 | [], D, n => (D, n, false)
 | c :: cs, D, n => if c.f2 = 0 then stD cs D n else if (farI c.f0 || farI c.f1) = true then (D, n, true) else stD cs (putC D c) (n + 1)
theorem stD_len : ∀ (l : List ClS) (D : DataW Unit) (n : Int), n ≤ (stD l D n).2.1 ∧ (stD l D n).2.1 ≤ n + l.length
 | [], _, _ => by simp [stD]
 | c :: cs, D, n => by
  unfold stD
  by_cases h : c.f2 = 0
  ·rw [if_pos h, List.length_cons]; have := stD_len cs D n; omega
  ·rw [if_neg h]
   by_cases h2 : (farI c.f0 || farI c.f1) = true
   ·rw [if_pos h2]; simp; omega
   ·rw [if_neg h2, List.length_cons]; have := stD_len cs (putC D c) (n + 1); omega
end Go.Proofs.Ytfgonglcmgahkab.L

-- Written by a program of this session (wip/tools/shake.py): texts of this claim, of each what the claim names.
import Derived.Test.YtajhfkcmfmhnaaaC2
import Derived.Test.YtajhfkcmfmhnaaaC3
import Derived.Test.YtajhfkcmfmhnaaaC8
import Derived.Test.YtajhfkcmfmhnaaaC9
import Derived.Test.YtajhfkcmfmhnaaaC11
import Derived.Test.YtajhfkcmfmhnaaaC13
import Derived.Deep.DeepMust
import Derived.Laws.Rows
section
namespace Go.Proofs.Ytajhfkcmfmhnaaa.P
open Go.RowKit Go.Proofs.YtajhfkcmfmhnaaaW.PrintWords Go.Proofs.YtajhfkcmfmhnaaaW.PrintLast Go.Proofs.YtajhfkcmfmhnaaaW.PrintMore
attribute [local go_sem] max2_int min2_int max_two min_two max_three min_three max_four min_four   -- for this text's walks alone
set_option linter.unusedVariables false
set_option linter.unusedSimpArgs false
open Go.Proofs.Ytajhfkcmfmhnaaa.L
instance : DecidableEq S59 := fun a b => decidable_of_iff (a.f0 = b.f0 ∧ a.f1 = b.f1) ⟨fun h => by cases a; cases b; simp_all, fun h => by subst h; exact ⟨rfl, rfl⟩⟩
instance : DecidableEq S65 := fun a b => decidable_of_iff (a.f0.data.toList = b.f0.data.toList ∧ a.f1 = b.f1) ⟨fun h => by
 obtain ⟨⟨⟨a⟩⟩, c⟩ := a
 obtain ⟨⟨⟨b⟩⟩, d⟩ := b
 obtain ⟨h1, h2⟩ := h
 simp only at h1 h2
 subst h1 h2
 rfl, fun h => by subst h; exact ⟨rfl, rfl⟩⟩
instance : DecidableEq S62 := fun a b => decidable_of_iff (a.f0 = b.f0 ∧ a.f1 = b.f1 ∧ a.f2 = b.f2) ⟨fun h => by cases a; cases b; simp_all, fun h => by subst h; exact ⟨rfl, rfl, rfl⟩⟩
/-- Told for tables that are the same alone. -/
def vivariumref10_Same.f (a0_0 a0_1 a0_2 : Int) (l0_3 : List S65) (l0_4 : List S62) (a1_0 a1_1 a1_2 : Int) (l1_3 : List S65) (l1_4 : List S62) : Option Bool :=
 if a0_0 = a1_0 ∧ a0_1 = a1_1 ∧ a0_2 = a1_2 ∧ l0_3 = l1_3 ∧ l0_4 = l1_4 then some true else none
theorem eqS59 (d : Nat) (w : World) (x0 y0 : Int) (x1 y1 : Int) :
  (Op.equalIn (d + 2) 59 (.agg #[.int .u8 x0, .int .i64 x1]) (.agg #[.int .u8 y0, .int .i64 y1])).run Try.prog w = .ok (x0 == y0 && (x1 == y1)) w := by
 refine eqA_of Try.underlying59 (by kernel_rfl) ?_
 refine eqf_cons (by rfl) (by go_simp; rfl) (by go_simp; rfl) (by go_simp) ?_
 exact eqf_last (by rfl) (by go_simp; rfl) (by go_simp; rfl) (by go_simp)
attribute [local go_sem high] eqS59
set_option maxHeartbeats 8000000 in
set_option maxRecDepth 100000 in
theorem same_walk (a0_0 a0_1 a0_2 : Int) (vs : List S65) (rs : List S62) (A0_3 : Option Addr) (c0_3 : Nat) (A0_4 : Option Addr) (c0_4 : Nat) (A1_3 : Option Addr) (c1_3 : Nat) (A1_4 : Option Addr) (c1_4 : Nat) (w : World)
  (hr0_3 : Kd.C k65 w A0_3 vs.length vs) (hr0_4 : Kd.C k62 w A0_4 rs.length rs) (hr1_3 : Kd.C k65 w A1_3 vs.length vs) (hr1_4 : Kd.C k62 w A1_4 rs.length rs) :
  Calls Try.prog 16 #[.agg #[.int .i64 a0_0, .int .u8 a0_1, .int .u8 a0_2, .slice A0_3 vs.length c0_3, .slice A0_4 rs.length c0_4], .agg #[.int .i64 a0_0, .int .u8 a0_1, .int .u8 a0_2, .slice A1_3 vs.length c1_3, .slice A1_4 rs.length c1_4]] w fun e w' => e = .returned (.bool true) ∧ Below w.heap.size w w' := by
 have HV0 := Aside0.mk hr0_3
 have HR0 := Aside0.mk hr0_4
 have HV1 := Aside0.mk hr1_3
 have HR1 := Aside0.mk hr1_4
 clear hr0_3 hr0_4 hr1_3 hr1_4
 go_enter Try.func16, Try.ntmps16
 go_wp2
 obtain ⟨W0, hW0⟩ : ∃ W0, (w.alloc (Obj.cells #[.int .i64 a0_0, .int .u8 a0_1, .int .u8 a0_2, .slice A0_3 vs.length c0_3, .slice A0_4 rs.length c0_4] 33)).alloc (Obj.cells #[.int .i64 a0_0, .int .u8 a0_1, .int .u8 a0_2, .slice A1_3 vs.length c1_3, .slice A1_4 rs.length c1_4] 33) = W0 := ⟨_, rfl⟩
 have HB0 : Aside0 (Below w.heap.size w W0) := ⟨by rw [← hW0]; exact below_alloc (below_alloc (Below.refl _ _) _) _⟩
 have HT0 : Aside0 (W0.heap[w.heap.size]? = some (.cells #[.int .i64 a0_0, .int .u8 a0_1, .int .u8 a0_2, .slice A0_3 vs.length c0_3, .slice A0_4 rs.length c0_4] 33 (0, 0))) := ⟨by rw [← hW0]; exact blk_alloc (blk_new _ _) _⟩
 have HU0 : Aside0 (W0.heap[w.heap.size + 1]? = some (.cells #[.int .i64 a0_0, .int .u8 a0_1, .int .u8 a0_2, .slice A1_3 vs.length c1_3, .slice A1_4 rs.length c1_4] 33 (0, 0))) := ⟨by rw [← hW0]; have h := blk_new (w.alloc (Obj.cells #[.int .i64 a0_0, .int .u8 a0_1, .int .u8 a0_2, .slice A0_3 vs.length c0_3, .slice A0_4 rs.length c0_4] 33)) (Obj.cells #[.int .i64 a0_0, .int .u8 a0_1, .int .u8 a0_2, .slice A1_3 vs.length c1_3, .slice A1_4 rs.length c1_4] 33); rwa [show (w.alloc (Obj.cells #[.int .i64 a0_0, .int .u8 a0_1, .int .u8 a0_2, .slice A0_3 vs.length c0_3, .slice A0_4 rs.length c0_4] 33)).heap.size = w.heap.size + 1 from by simp] at h⟩
 rw [hW0]
 clear hW0
 go_loopw [5] (fun v wr => ∃ i : Nat, i ≤ vs.length ∧ v = .int .i64 i ∧ Aside0 (Below w.heap.size w wr) ∧ Aside0 (wr.heap[w.heap.size]? = some (.cells #[.int .i64 a0_0, .int .u8 a0_1, .int .u8 a0_2, .slice A0_3 vs.length c0_3, .slice A0_4 rs.length c0_4] 33 (0, 0))) ∧ Aside0 (wr.heap[w.heap.size + 1]? = some (.cells #[.int .i64 a0_0, .int .u8 a0_1, .int .u8 a0_2, .slice A1_3 vs.length c1_3, .slice A1_4 rs.length c1_4] 33 (0, 0)))) (fun v wr => vs.length - (intOf v).toNat)
 case atStart => exact ⟨0, Nat.zero_le _, rfl, HB0, HT0, HU0⟩
 case round =>
  rename World => wo
  clear HB0 HT0 HU0
  obtain ⟨i, hi, rfl, HB, HT, HU⟩ := hrel
  by_cases hlt : i < vs.length
  ·have q0 : (0 : Int) ≤ (i : Int) := by omega
   have q1 : (i : Int) < vs.length := by omega
   have q2 : (i : Int) < 9223372036854775807 := by have := HV0.out.2.1; omega
   have t3 : wo.cell? ⟨w.heap.size, 3, none⟩ = some (.slice A0_3 vs.length c0_3) := blk_cell HT.out 3
   have u3 : wo.cell? ⟨w.heap.size + 1, 3, none⟩ = some (.slice A1_3 vs.length c1_3) := blk_cell HU.out 3
   obtain ⟨ad, A1, c1, rfl, x0, x1, xl, xc⟩ := at_T65 (Kd.C_below HV0.out HB.out) (i : Int) q0 q1
   obtain ⟨bd, B1, d1, rfl, y0, y1, yl, yc⟩ := at_T65 (Kd.C_below HV1.out HB.out) (i : Int) q0 q1
   rw [Int.toNat_natCast] at x0 x1 y0 y1
   obtain ⟨v, hv⟩ : ∃ v, rd_T65 vs (i : Int) = v := ⟨_, rfl⟩
   rw [hv] at x0 x1 y0 y1 xl yl xc yc
   have hcx := fun n_ => Kd.C_string (P := Try.prog) (c := c1) Try.underlying34 Try.underlying5 Try.underlying9 (Kd.C_drewN xc n_)
   have hcy := fun n_ => Kd.C_string (P := Try.prog) (c := d1) Try.underlying34 Try.underlying5 Try.underlying9 (Kd.C_drewN yc n_)
   clear hv xc yc xl yl
   go_wp2
   go_quiet (fail)
   go_wp2
   go_roundw
   case rel => exact ⟨i + 1, by omega, by go_num, ⟨pw_below_drewN HB.out _⟩, ⟨HT.out⟩, ⟨HU.out⟩⟩
   case measure => simp [intOf]; omega
  ·have t3 : wo.cell? ⟨w.heap.size, 3, none⟩ = some (.slice A0_3 vs.length c0_3) := blk_cell HT.out 3
   obtain rfl : i = vs.length := by omega
   clear hlt hi
   go_wp2
   go_loopw [6] (fun v wr => ∃ i : Nat, i ≤ rs.length ∧ v = .int .i64 i ∧ Aside0 (Below w.heap.size w wr) ∧ Aside0 (wr.heap[w.heap.size]? = some (.cells #[.int .i64 a0_0, .int .u8 a0_1, .int .u8 a0_2, .slice A0_3 vs.length c0_3, .slice A0_4 rs.length c0_4] 33 (0, 0))) ∧ Aside0 (wr.heap[w.heap.size + 1]? = some (.cells #[.int .i64 a0_0, .int .u8 a0_1, .int .u8 a0_2, .slice A1_3 vs.length c1_3, .slice A1_4 rs.length c1_4] 33 (0, 0)))) (fun v wr => rs.length - (intOf v).toNat)
   case atStart => exact ⟨0, Nat.zero_le _, rfl, HB, HT, HU⟩
   case round =>
    rename World => wp
    clear HB HT HU t3
    obtain ⟨i, hi, rfl, HB, HT, HU⟩ := hrel
    by_cases hlt : i < rs.length
    ·have q0 : (0 : Int) ≤ (i : Int) := by omega
     have q1 : (i : Int) < rs.length := by omega
     have q2 : (i : Int) ≤ 9223372036854775806 := by have := HR0.out.2.1; omega
     have t4 : wp.cell? ⟨w.heap.size, 4, none⟩ = some (.slice A0_4 rs.length c0_4) := blk_cell HT.out 4
     have u4 : wp.cell? ⟨w.heap.size + 1, 4, none⟩ = some (.slice A1_4 rs.length c1_4) := blk_cell HU.out 4
     obtain ⟨ad, AT, cT, rfl, x0, x1, x2, x3, x4, hcT, hCT⟩ := at_T62 (Kd.C_below HR0.out HB.out) (i : Int) q0 q1
     obtain ⟨bd, BT, dT, rfl, y0, y1, y2, y3, y4, hdT, hDT⟩ := at_T62 (Kd.C_below HR1.out HB.out) (i : Int) q0 q1
     rw [Int.toNat_natCast] at x0 x1 x2 x3 x4 y0 y1 y2 y3 y4
     obtain ⟨x, hx⟩ : ∃ x, rd_T62 rs (i : Int) = x := ⟨_, rfl⟩
     rw [hx] at x0 x1 x2 x3 x4 y0 y1 y2 y3 y4 hCT hDT
     have s1 : w.heap.size + 1 < wp.heap.size := World.block_lt_of_cell? wp _ u4
     have s2 : (bd.add (i * 5)).block < wp.heap.size := World.block_lt_of_cell? wp (bd.add (i * 5)) y0
     have HCT := Aside0.mk hCT
     have HDT := Aside0.mk hDT
     clear hx hCT hDT hcT hdT
     go_wp2
     obtain ⟨W2, hW2⟩ : ∃ W2, (wp.alloc (Obj.cells #[.int .u8 x.f0.f0, .int .i64 x.f0.f1, .slice AT x.f1.length cT, .int .u8 x.f2.f0, .int .i64 x.f2.f1] 62)).alloc (Obj.cells #[.int .u8 x.f0.f0, .int .i64 x.f0.f1, .slice BT x.f1.length dT, .int .u8 x.f2.f0, .int .i64 x.f2.f1] 62) = W2 := ⟨_, rfl⟩
     have HB2 : Aside0 (Below w.heap.size w W2) := ⟨by rw [← hW2]; exact below_alloc (below_alloc HB.out _) _⟩
     have HBP : Aside0 (Below wp.heap.size wp W2) := ⟨by rw [← hW2]; exact below_alloc (below_alloc (Below.refl _ _) _) _⟩
     have HT2 : Aside0 (W2.heap[w.heap.size]? = some (.cells #[.int .i64 a0_0, .int .u8 a0_1, .int .u8 a0_2, .slice A0_3 vs.length c0_3, .slice (some ad) rs.length c0_4] 33 (0, 0))) := ⟨by rw [← hW2]; exact blk_alloc (blk_alloc HT.out _) _⟩
     have HU2 : Aside0 (W2.heap[w.heap.size + 1]? = some (.cells #[.int .i64 a0_0, .int .u8 a0_1, .int .u8 a0_2, .slice A1_3 vs.length c1_3, .slice (some bd) rs.length c1_4] 33 (0, 0))) := ⟨by rw [← hW2]; exact blk_alloc (blk_alloc HU.out _) _⟩
     have HX2 : Aside0 (W2.heap[wp.heap.size]? = some (.cells #[.int .u8 x.f0.f0, .int .i64 x.f0.f1, .slice AT x.f1.length cT, .int .u8 x.f2.f0, .int .i64 x.f2.f1] 62 (0, 0))) := ⟨by rw [← hW2]; exact blk_alloc (blk_new _ _) _⟩
     have HY2 : Aside0 (W2.heap[wp.heap.size + 1]? = some (.cells #[.int .u8 x.f0.f0, .int .i64 x.f0.f1, .slice BT x.f1.length dT, .int .u8 x.f2.f0, .int .i64 x.f2.f1] 62 (0, 0))) := ⟨by rw [← hW2]; have h := blk_new (wp.alloc (Obj.cells #[.int .u8 x.f0.f0, .int .i64 x.f0.f1, .slice AT x.f1.length cT, .int .u8 x.f2.f0, .int .i64 x.f2.f1] 62)) (Obj.cells #[.int .u8 x.f0.f0, .int .i64 x.f0.f1, .slice BT x.f1.length dT, .int .u8 x.f2.f0, .int .i64 x.f2.f1] 62); rwa [show (wp.alloc (Obj.cells #[.int .u8 x.f0.f0, .int .i64 x.f0.f1, .slice AT x.f1.length cT, .int .u8 x.f2.f0, .int .i64 x.f2.f1] 62)).heap.size = wp.heap.size + 1 from by simp] at h⟩
     have HCT2 := Aside0.mk (Kd.C_below HCT.out HBP.out)
     have HDT2 := Aside0.mk (Kd.C_below HDT.out HBP.out)
     rw [hW2]
     clear hW2 HBP HCT HDT HB HT HU t4 u4 x0 x1 x2 x3 x4 y0 y1 y2 y3 y4 s1 s2
     go_loopw [9] (fun v wr => ∃ j : Nat, j ≤ x.f1.length ∧ v = .int .i64 j ∧ Aside0 (Below w.heap.size w wr) ∧ Aside0 (wr.heap[w.heap.size]? = some (.cells #[.int .i64 a0_0, .int .u8 a0_1, .int .u8 a0_2, .slice A0_3 vs.length c0_3, .slice (some ad) rs.length c0_4] 33 (0, 0))) ∧ Aside0 (wr.heap[w.heap.size + 1]? = some (.cells #[.int .i64 a0_0, .int .u8 a0_1, .int .u8 a0_2, .slice A1_3 vs.length c1_3, .slice (some bd) rs.length c1_4] 33 (0, 0))) ∧ Aside0 (wr.heap[wp.heap.size]? = some (.cells #[.int .u8 x.f0.f0, .int .i64 x.f0.f1, .slice AT x.f1.length cT, .int .u8 x.f2.f0, .int .i64 x.f2.f1] 62 (0, 0))) ∧ Aside0 (wr.heap[wp.heap.size + 1]? = some (.cells #[.int .u8 x.f0.f0, .int .i64 x.f0.f1, .slice BT x.f1.length dT, .int .u8 x.f2.f0, .int .i64 x.f2.f1] 62 (0, 0))) ∧ Aside0 (k59.C wr AT x.f1.length x.f1) ∧ Aside0 (k59.C wr BT x.f1.length x.f1)) (fun v wr => x.f1.length - (intOf v).toNat)
     case atStart => exact ⟨0, Nat.zero_le _, rfl, HB2, HT2, HU2, HX2, HY2, HCT2, HDT2⟩
     case round =>
      rename World => wq
      clear HB2 HT2 HU2 HX2 HY2 HCT2 HDT2
      obtain ⟨j, hj, rfl, HB, HT, HU, HX, HY, HCT, HDT⟩ := hrel
      have z1 : wq.cell? ⟨wp.heap.size, 2, none⟩ = some (.slice AT x.f1.length cT) := blk_cell HX.out 2
      have z2 : wq.cell? ⟨wp.heap.size + 1, 2, none⟩ = some (.slice BT x.f1.length dT) := blk_cell HY.out 2
      by_cases hjl : j < x.f1.length
      ·have r0 : (0 : Int) ≤ (j : Int) := by omega
       have r1 : (j : Int) < x.f1.length := by omega
       have r2 : (j : Int) ≤ 9223372036854775806 := by have := HCT.out.2.1; omega
       obtain ⟨aT, rfl, m0, m1⟩ := at_T59 HCT.out (j : Int) r0 r1
       obtain ⟨bT, rfl, n0, n1⟩ := at_T59 HDT.out (j : Int) r0 r1
       rw [Int.toNat_natCast] at m0 m1 n0 n1
       obtain ⟨y, hy⟩ : ∃ y, rd_T59 x.f1 (j : Int) = y := ⟨_, rfl⟩
       rw [hy] at m0 m1 n0 n1
       clear hy
       go_wp2
       go_quiet (fail)
       go_wp2
       go_roundw
       case rel => exact ⟨j + 1, by omega, by go_num, ⟨pw_below_drewN HB.out _⟩, ⟨HT.out⟩, ⟨HU.out⟩, ⟨HX.out⟩, ⟨HY.out⟩, ⟨Kd.C_drewN HCT.out _⟩, ⟨Kd.C_drewN HDT.out _⟩⟩
       case measure => simp [intOf]; omega
      ·obtain rfl : j = x.f1.length := by omega
       clear hjl hj
       go_wp2
       go_roundw
       case rel => exact ⟨i + 1, by omega, by go_num, HB, HT, HU⟩
       case measure => simp [intOf]; omega
    ·have t4 : wp.cell? ⟨w.heap.size, 4, none⟩ = some (.slice A0_4 rs.length c0_4) := blk_cell HT.out 4
     obtain rfl : i = rs.length := by omega
     clear hlt hi
     go_wp2
     go_ret
     exact ⟨rfl, HB.out⟩
theorem vivariumref10_Same.calls (a0_0 a0_1 a0_2 : Int) (A0_3 : Option Addr) (c0_3 : Nat) (l0_3 : List S65) (A0_4 : Option Addr) (c0_4 : Nat) (l0_4 : List S62) (a1_0 a1_1 a1_2 : Int) (A1_3 : Option Addr) (c1_3 : Nat) (l1_3 : List S65) (A1_4 : Option Addr) (c1_4 : Nat) (l1_4 : List S62) (r : Bool) (w : World)
  (hr0_3 : Kd.C k65 w A0_3 l0_3.length l0_3) (hc0_3 : l0_3.length ≤ c0_3) (hr0_4 : Kd.C k62 w A0_4 l0_4.length l0_4) (hc0_4 : l0_4.length ≤ c0_4) (hr1_3 : Kd.C k65 w A1_3 l1_3.length l1_3) (hc1_3 : l1_3.length ≤ c1_3) (hr1_4 : Kd.C k62 w A1_4 l1_4.length l1_4) (hc1_4 : l1_4.length ≤ c1_4) (h : vivariumref10_Same.f a0_0 a0_1 a0_2 l0_3 l0_4 a1_0 a1_1 a1_2 l1_3 l1_4 = some r) :
  Calls Try.prog 16 #[.agg #[.int .i64 a0_0, .int .u8 a0_1, .int .u8 a0_2, .slice A0_3 l0_3.length c0_3, .slice A0_4 l0_4.length c0_4], .agg #[.int .i64 a1_0, .int .u8 a1_1, .int .u8 a1_2, .slice A1_3 l1_3.length c1_3, .slice A1_4 l1_4.length c1_4]] w fun e w' => e = .returned (.bool r) ∧ Below w.heap.size w w' := by
 unfold vivariumref10_Same.f at h
 by_cases c : a0_0 = a1_0 ∧ a0_1 = a1_1 ∧ a0_2 = a1_2 ∧ l0_3 = l1_3 ∧ l0_4 = l1_4
 ·rw [if_pos c] at h
  obtain rfl := Option.some.inj h
  obtain ⟨rfl, rfl, rfl, rfl, rfl⟩ := c
  exact same_walk a0_0 a0_1 a0_2 l0_3 l0_4 A0_3 c0_3 A0_4 c0_4 A1_3 c1_3 A1_4 c1_4 w hr0_3 hr0_4 hr1_3 hr1_4
 ·rw [if_neg c] at h; cases h
end Go.Proofs.Ytajhfkcmfmhnaaa.P
namespace Go.Proofs.Ytajhfkcmfmhnaaa.P
open Go.RowKit Go.Proofs.YtajhfkcmfmhnaaaW.PrintWords Go.Proofs.YtajhfkcmfmhnaaaW.PrintLast Go.Proofs.YtajhfkcmfmhnaaaW.PrintMore
attribute [local go_sem] max2_int min2_int max_two min_two max_three min_three max_four min_four   -- for this text's walks alone
set_option linter.unusedVariables false
set_option linter.unusedSimpArgs false
open Go.Proofs.Ytajhfkcmfmhnaaa.L
def vivariumref10_Fits.f (k : Nat) (a0_0 a0_1 a0_2 : Int) (l0_3 : List S65) (l0_4 : List S62) (a1 a2 : Int) (l3 : List Int) : Option (Int × Bool × Int) :=
 (vivariumref10_Check.f k a0_0 a0_1 a0_2 l0_3 l0_4).bind fun e => if e = 0 then ((vivariumref10_asked.f k a0_0 a0_1 a0_2 l0_3 l0_4 (decide (0 ≤ a1 ∧ a1 < (l0_4.length : Int))) a2 l3).bind fun e2 => if e2 = 0 then (if 0 ≤ a1 ∧ a1 < (l0_4.length : Int) then (vivariumref10_Says.f k a0_0 a0_1 a0_2 l0_3 l0_4 (rd_T62 l0_4 a1).f0.f0 (rd_T62 l0_4 a1).f0.f1 (rd_T62 l0_4 a1).f1 (rd_T62 l0_4 a1).f2.f0 (rd_T62 l0_4 a1).f2.f1 a2 l3).bind fun q => some (q.1, q.2, 0) else none) else some (0, false, e2)) else some (0, false, e)
set_option maxHeartbeats 4000000 in
set_option maxRecDepth 100000 in
theorem vivariumref10_Fits.calls (k : Nat) (a0_0 a0_1 a0_2 : Int) (A0_3 : Option Addr) (c0_3 : Nat) (l0_3 : List S65) (A0_4 : Option Addr) (c0_4 : Nat) (l0_4 : List S62) (a1 a2 : Int) (A3 : Option Addr) (c3 : Nat) (l3 : List Int) (r1 : Int) (r2 : Bool) (r3 : Int) (w : World)
  (hr0_3 : Kd.C k65 w A0_3 l0_3.length l0_3) (hc0_3 : l0_3.length ≤ c0_3) (hr0_4 : Kd.C k62 w A0_4 l0_4.length l0_4) (hc0_4 : l0_4.length ≤ c0_4) (hr3 : Kd.C (Kd.int .u8) w A3 l3.length l3) (hc3 : l3.length ≤ c3)
  (h : vivariumref10_Fits.f k a0_0 a0_1 a0_2 l0_3 l0_4 a1 a2 l3 = some (r1, r2, r3)) :
  Calls Try.prog 9 #[.agg #[.int .i64 a0_0, .int .u8 a0_1, .int .u8 a0_2, .slice A0_3 l0_3.length c0_3, .slice A0_4 l0_4.length c0_4], .int .i64 a1, .int .u8 a2, .slice A3 l3.length c3] w fun e w' => e = .returned (.tuple #[.int .u8 r1, .bool r2, .int .i64 r3]) ∧ Below w.heap.size w w' := by
 have HV := Aside0.mk hr0_3
 have HVc := Aside0.mk hc0_3
 have HR := Aside0.mk hr0_4
 have HRc := Aside0.mk hc0_4
 have HA := Aside0.mk hr3
 have HAc := Aside0.mk hc3
 clear hr0_3 hc0_3 hr0_4 hc0_4 hr3 hc3
 unfold vivariumref10_Fits.f at h
 replace h := Option.bind_eq_some_iff.1 h
 obtain ⟨e, he, h⟩ := h
 have HE := Aside0.mk he
 clear he
 by_cases h0 : e = 0
 ·subst h0
  rw [if_pos rfl] at h
  replace h := Option.bind_eq_some_iff.1 h
  obtain ⟨e2, he2, h⟩ := h
  by_cases hin : 0 ≤ a1 ∧ a1 < (l0_4.length : Int)
  ·rw [decide_eq_true hin] at he2
   have HE2 := Aside0.mk he2
   clear he2
   obtain ⟨b0, b1⟩ := hin
   by_cases h2 : e2 = 0
   ·subst h2
    rw [if_pos rfl, if_pos ⟨b0, b1⟩] at h
    replace h := Option.bind_eq_some_iff.1 h
    obtain ⟨⟨s, ok⟩, hq, h⟩ := h
    simp only [Option.some.injEq, Prod.mk.injEq] at h
    obtain ⟨rfl, rfl, rfl⟩ := h
    obtain ⟨x, hx⟩ : ∃ x, rd_T62 l0_4 a1 = x := ⟨_, rfl⟩
    rw [hx] at hq
    have HQ := Aside0.mk hq
    obtain ⟨ad, AT, cT, rfl, u0, u1, u2, u3, u4, hcT, hCT⟩ := at_T62 HR.out a1 b0 b1
    rw [hx] at u0 u1 u2 u3 u4 hcT hCT
    have HU0 := Aside0.mk u0
    have HU1 := Aside0.mk u1
    have HU2 := Aside0.mk u2
    have HU3 := Aside0.mk u3
    have HU4 := Aside0.mk u4
    have HCT := Aside0.mk hCT
    have HcT := Aside0.mk hcT
    clear hq hx u0 u1 u2 u3 u4 hCT hcT
    go_enter Try.func9, Try.ntmps9
    go_wp2_with (first | (go_at_call 27; go_must ((with_reducible refine (vivariumref10_Check.calls k a0_0 a0_1 a0_2 A0_3 c0_3 l0_3 (some ad) c0_4 l0_4 0 _ (Kd.C_alloc HV.out _) HVc.out (Kd.C_alloc HR.out _) HRc.out HE.out).mono ?_); rintro e' w1 ⟨rfl, hb1⟩; have ht1 := blk_below (blk_new w _) hb1; have HB1 := Aside0.mk (below_step (below_alloc (Below.refl w.heap.size w) (Obj.cells #[.int .i64 a0_0, .int .u8 a0_1, .int .u8 a0_2, .slice A0_3 l0_3.length c0_3, .slice (some ad) l0_4.length c0_4] 33)) hb1); have t0a : w1.cell? ⟨w.heap.size, 0, none⟩ = some (.int .i64 a0_0) := blk_cell ht1 0; have t1a : w1.cell? ⟨w.heap.size, 1, none⟩ = some (.int .u8 a0_1) := blk_cell ht1 1; have t2a : w1.cell? ⟨w.heap.size, 2, none⟩ = some (.int .u8 a0_2) := blk_cell ht1 2; have t3a : w1.cell? ⟨w.heap.size, 3, none⟩ = some (.slice A0_3 l0_3.length c0_3) := blk_cell ht1 3; have t4a : w1.cell? ⟨w.heap.size, 4, none⟩ = some (.slice (some ad) l0_4.length c0_4) := blk_cell ht1 4; have HT1 := Aside0.mk ht1; clear ht1 hb1)) | (go_at_call 28; go_must ((with_reducible refine (vivariumref10_asked.calls k a0_0 a0_1 a0_2 A0_3 c0_3 l0_3 (some ad) c0_4 l0_4 true a2 A3 c3 l3 0 _ (Kd.C_below HV.out HB1.out) HVc.out (Kd.C_below HR.out HB1.out) HRc.out (Kd.C_below HA.out HB1.out) HAc.out HE2.out).mono ?_); rintro e' w2 ⟨rfl, hb2⟩; have ht2 := blk_below HT1.out hb2; have HB2 := Aside0.mk (below_step HB1.out hb2); have t0b : w2.cell? ⟨w.heap.size, 0, none⟩ = some (.int .i64 a0_0) := blk_cell ht2 0; have t1b : w2.cell? ⟨w.heap.size, 1, none⟩ = some (.int .u8 a0_1) := blk_cell ht2 1; have t2b : w2.cell? ⟨w.heap.size, 2, none⟩ = some (.int .u8 a0_2) := blk_cell ht2 2; have t3b : w2.cell? ⟨w.heap.size, 3, none⟩ = some (.slice A0_3 l0_3.length c0_3) := blk_cell ht2 3; have t4b : w2.cell? ⟨w.heap.size, 4, none⟩ = some (.slice (some ad) l0_4.length c0_4) := blk_cell ht2 4; clear t0a t1a t2a t3a t4a; have HT2 := Aside0.mk ht2; clear ht2 hb2)))
    have u0 := pw_cell_below HB2.out HU0.out
    have u1 := pw_cell_below HB2.out HU1.out
    have u2 := pw_cell_below HB2.out HU2.out
    have u3 := pw_cell_below HB2.out HU3.out
    have u4 := pw_cell_below HB2.out HU4.out
    have HCALL := Aside0.mk (vivariumref10_Says.calls k a0_0 a0_1 a0_2 A0_3 c0_3 l0_3 (some ad) c0_4 l0_4 x.f0.f0 x.f0.f1 AT cT x.f1 x.f2.f0 x.f2.f1 a2 A3 c3 l3 s ok w2.drew (Kd.C_drew (Kd.C_below HV.out HB2.out)) HVc.out (Kd.C_drew (Kd.C_below HR.out HB2.out)) HRc.out (Kd.C_drew (Kd.C_below HCT.out HB2.out)) HcT.out (Kd.C_drew (Kd.C_below HA.out HB2.out)) HAc.out HQ.out)
    refine start_ (n := 14) (S := fun w' => w'.cell? ⟨w.heap.size, 0, none⟩ = some (.int .i64 a0_0) ∧ w'.cell? ⟨w.heap.size, 1, none⟩ = some (.int .u8 a0_1) ∧ w'.cell? ⟨w.heap.size, 2, none⟩ = some (.int .u8 a0_2) ∧ w'.cell? ⟨w.heap.size, 3, none⟩ = some (.slice A0_3 l0_3.length c0_3) ∧ w'.cell? ⟨w.heap.size, 4, none⟩ = some (.slice (some ad) l0_4.length c0_4) ∧ w'.cell? (ad.add (a1.toNat * 5)) = some (.int .u8 x.f0.f0) ∧ w'.cell? ⟨(ad.add (a1.toNat * 5)).block, (ad.add (a1.toNat * 5)).off + 1, none⟩ = some (.int .i64 x.f0.f1) ∧ w'.cell? ⟨(ad.add (a1.toNat * 5)).block, (ad.add (a1.toNat * 5)).off + 2, none⟩ = some (.slice AT x.f1.length cT) ∧ w'.cell? ⟨(ad.add (a1.toNat * 5)).block, (ad.add (a1.toNat * 5)).off + 3, none⟩ = some (.int .u8 x.f2.f0) ∧ w'.cell? ⟨(ad.add (a1.toNat * 5)).block, (ad.add (a1.toNat * 5)).off + 4, none⟩ = some (.int .i64 x.f2.f1)) (ds := [8]) #[false, false, false, false, false, false, false, false, false, false, false, false, false, false] (by kernel_rfl) rfl rfl ⟨t0b, t1b, t2b, t3b, t4b, u0, u1, u2, u3, u4⟩ (fun hHeld => ?_)
    refine pure_ (i := 1) (N := some 36) (v := ?_) (a' := ?_) #[false, true, false, false, false, false, false, false, false, false, false, false, false, false] rfl rfl (by kernel_rfl) (fun _ _ _ h => h) (Or.inl ⟨by rfl, ?_⟩) ?_ ?_
    rotate_left
    ·intro w'
     go_simp
     with_reducible rfl
    rotate_left
    ·simp only [Act.put, List.setIfInBounds_toArray, List.set_cons_zero, List.set_cons_succ, i64_w, i32_w]
     rfl
    refine pure_ (i := 3) (N := some 38) (v := ?_) (a' := ?_) #[false, true, false, true, false, false, false, false, false, false, false, false, false, false] rfl rfl (by kernel_rfl) (fun _ _ _ h => h) (Or.inl ⟨by rfl, ?_⟩) ?_ ?_
    rotate_left
    ·intro w'
     go_simp
     with_reducible rfl
    rotate_left
    ·simp only [Act.put, List.setIfInBounds_toArray, List.set_cons_zero, List.set_cons_succ, i64_w, i32_w]
     rfl
    refine pure_ (i := 6) (N := some 41) (v := ?_) (a' := ?_) #[false, true, false, true, false, false, true, false, false, false, false, false, false, false] rfl rfl (by kernel_rfl) (fun _ _ _ h => h) (Or.inl ⟨by rfl, ?_⟩) ?_ ?_
    rotate_left
    ·intro w'
     go_simp
     with_reducible rfl
    rotate_left
    ·simp only [Act.put, List.setIfInBounds_toArray, List.set_cons_zero, List.set_cons_succ, i64_w, i32_w]
     rfl
    refine pure_ (i := 7) (N := some 42) (v := ?_) (a' := ?_) #[false, true, false, true, false, false, true, true, false, false, false, false, false, false] rfl rfl (by kernel_rfl) (fun _ _ _ h => h) (Or.inl ⟨by rfl, ?_⟩) ?_ ?_
    rotate_left
    ·intro w'
     go_simp
     with_reducible rfl
    rotate_left
    ·simp only [Act.put, List.setIfInBounds_toArray, List.set_cons_zero, List.set_cons_succ, i64_w, i32_w]
     rfl
    refine take_ (i := 0) (N := some 35) (v := ?_) (a' := ?_) #[true, true, false, true, false, false, true, true, false, false, false, false, false, false] rfl rfl (by kernel_rfl) (fun _ _ _ h => h) (Or.inl ⟨by rfl, ?_⟩) hHeld ?_ ?_
    rotate_left
    ·rintro w' ⟨s0, s1, s2, s3, s4, s5, s6, s7, s8, s9⟩
     go_simp
     with_reducible rfl
    rotate_left
    ·simp only [Act.put, List.setIfInBounds_toArray, List.set_cons_zero, List.set_cons_succ, i64_w, i32_w]
     rfl
    refine take_ (i := 2) (N := some 37) (v := ?_) (a' := ?_) #[true, true, true, true, false, false, true, true, false, false, false, false, false, false] rfl rfl (by kernel_rfl) (fun _ _ _ h => h) (Or.inl ⟨by rfl, ?_⟩) hHeld ?_ ?_
    rotate_left
    ·rintro w' ⟨s0, s1, s2, s3, s4, s5, s6, s7, s8, s9⟩
     go_simp
     with_reducible rfl
    rotate_left
    ·simp only [Act.put, List.setIfInBounds_toArray, List.set_cons_zero, List.set_cons_succ, i64_w, i32_w]
     rfl
    refine pure_ (i := 4) (N := some 39) (v := ?_) (a' := ?_) #[true, true, true, true, true, false, true, true, false, false, false, false, false, false] rfl rfl (by kernel_rfl) (fun _ _ _ h => h) (Or.inl ⟨by rfl, ?_⟩) ?_ ?_
    rotate_left
    ·intro w'
     go_simp
     with_reducible rfl
    rotate_left
    ·simp only [Act.put, List.setIfInBounds_toArray, List.set_cons_zero, List.set_cons_succ, i64_w, i32_w]
     rfl
    refine take_ (i := 5) (N := some 40) (v := ?_) (a' := ?_) #[true, true, true, true, true, true, true, true, false, false, false, false, false, false] rfl rfl (by kernel_rfl) (fun _ _ _ h => h) (Or.inl ⟨by rfl, ?_⟩) hHeld ?_ ?_
    rotate_left
    ·rintro w' ⟨s0, s1, s2, s3, s4, s5, s6, s7, s8, s9⟩
     go_simp
     with_reducible rfl
    rotate_left
    ·simp only [Act.put, List.setIfInBounds_toArray, List.set_cons_zero, List.set_cons_succ, i64_w, i32_w]
     rfl
    refine last_ (i := 8) (N := some 43) #[true, true, true, true, true, true, true, true, true, false, false, false, false, false] rfl rfl (by kernel_rfl) (by decide) (fun K hK => ?_)
    refine goes_ Try.func29 (by kernel_rfl) rfl #[.agg #[.int .i64 a0_0, .int .u8 a0_1, .int .u8 a0_2, .slice A0_3 l0_3.length c0_3, .slice (some ad) l0_4.length c0_4], .agg #[.int .u8 x.f0.f0, .int .i64 x.f0.f1, .slice AT x.f1.length cT, .int .u8 x.f2.f0, .int .i64 x.f2.f1], .int .u8 a2, .slice A3 l3.length c3] (by rfl) rfl rfl (by simp only [List.map_toArray, List.map_cons, List.map_nil]; rfl) ?_
    with_reducible refine HCALL.out.mono ?_
    rintro e3 w3 ⟨rfl, hb3⟩
    have HB3 := Aside0.mk (below_step (below_drew1 HB2.out) hb3)
    clear hb3
    refine ⟨_, rfl, ?_⟩
    refine hK.out _ _ ?_
    clear hK K
    refine norm_ (a' := ?_) ?_ ?_
    rotate_left
    ·show Act.put _ (some 43) _ = _
     simp only [Act.put, List.setIfInBounds_toArray, List.set_cons_zero, List.set_cons_succ, i64_w, i32_w]
     rfl
    refine pure_ (i := 9) (N := some 34) (v := ?_) (a' := ?_) #[true, true, true, true, true, true, true, true, true, true, false, false, false, false] rfl rfl (by kernel_rfl) (fun _ _ _ h => h) (Or.inl ⟨by rfl, ?_⟩) ?_ ?_
    rotate_left
    ·intro w'
     go_simp
     with_reducible rfl
    rotate_left
    ·simp only [Act.put, List.setIfInBounds_toArray, List.set_cons_zero, List.set_cons_succ, i64_w, i32_w]
     rfl
    refine pure_ (i := 10) (N := some 44) (v := ?_) (a' := ?_) #[true, true, true, true, true, true, true, true, true, true, true, false, false, false] rfl rfl (by kernel_rfl) (fun _ _ _ h => h) (Or.inl ⟨by rfl, ?_⟩) ?_ ?_
    rotate_left
    ·intro w'
     go_simp
     with_reducible rfl
    rotate_left
    ·simp only [Act.put, List.setIfInBounds_toArray, List.set_cons_zero, List.set_cons_succ, i64_w, i32_w]
     rfl
    refine pure_ (i := 11) (N := some 45) (v := ?_) (a' := ?_) #[true, true, true, true, true, true, true, true, true, true, true, true, false, false] rfl rfl (by kernel_rfl) (fun _ _ _ h => h) (Or.inl ⟨by rfl, ?_⟩) ?_ ?_
    rotate_left
    ·intro w'
     go_simp
     with_reducible rfl
    rotate_left
    ·simp only [Act.put, List.setIfInBounds_toArray, List.set_cons_zero, List.set_cons_succ, i64_w, i32_w]
     rfl
    refine pure_ (i := 12) (N := some 12) (v := ?_) (a' := ?_) #[true, true, true, true, true, true, true, true, true, true, true, true, true, false] rfl rfl (by kernel_rfl) (fun _ _ _ h => h) (Or.inl ⟨by rfl, ?_⟩) ?_ ?_
    rotate_left
    ·intro w'
     go_simp
     with_reducible rfl
    rotate_left
    ·simp only [Act.put, List.setIfInBounds_toArray, List.set_cons_zero, List.set_cons_succ, i64_w, i32_w]
     rfl
    refine pure_ (i := 13) (N := some 13) (v := ?_) (a' := ?_) #[true, true, true, true, true, true, true, true, true, true, true, true, true, true] rfl rfl (by kernel_rfl) (fun _ _ _ h => h) (Or.inl ⟨by rfl, ?_⟩) ?_ ?_
    rotate_left
    ·intro w'
     go_simp
     with_reducible rfl
    rotate_left
    ·simp only [Act.put, List.setIfInBounds_toArray, List.set_cons_zero, List.set_cons_succ, i64_w, i32_w]
     rfl
    refine done_ (by kernel_rfl) ?_
    go_wp2
    go_ret3
    exact ⟨rfl, HB3.out⟩
   ·rw [if_neg h2] at h
    simp only [Option.some.injEq, Prod.mk.injEq] at h
    obtain ⟨rfl, rfl, rfl⟩ := h
    have h2b : (e2 == 0) = false := by rw [beq_eq_false_iff_ne]; exact h2
    have h2c : (e2 != 0) = true := bne_iff_ne.mpr h2
    clear h2
    go_enter Try.func9, Try.ntmps9
    go_wp2_with (first | (go_at_call 27; go_must ((with_reducible refine (vivariumref10_Check.calls k a0_0 a0_1 a0_2 A0_3 c0_3 l0_3 A0_4 c0_4 l0_4 0 _ (Kd.C_alloc HV.out _) HVc.out (Kd.C_alloc HR.out _) HRc.out HE.out).mono ?_); rintro e' w1 ⟨rfl, hb1⟩; have ht1 := blk_below (blk_new w _) hb1; have HB1 := Aside0.mk (below_step (below_alloc (Below.refl w.heap.size w) (Obj.cells #[.int .i64 a0_0, .int .u8 a0_1, .int .u8 a0_2, .slice A0_3 l0_3.length c0_3, .slice A0_4 l0_4.length c0_4] 33)) hb1); have t0a : w1.cell? ⟨w.heap.size, 0, none⟩ = some (.int .i64 a0_0) := blk_cell ht1 0; have t1a : w1.cell? ⟨w.heap.size, 1, none⟩ = some (.int .u8 a0_1) := blk_cell ht1 1; have t2a : w1.cell? ⟨w.heap.size, 2, none⟩ = some (.int .u8 a0_2) := blk_cell ht1 2; have t3a : w1.cell? ⟨w.heap.size, 3, none⟩ = some (.slice A0_3 l0_3.length c0_3) := blk_cell ht1 3; have t4a : w1.cell? ⟨w.heap.size, 4, none⟩ = some (.slice A0_4 l0_4.length c0_4) := blk_cell ht1 4; have HT1 := Aside0.mk ht1; clear ht1 hb1)) | (go_at_call 28; go_must ((with_reducible refine (vivariumref10_asked.calls k a0_0 a0_1 a0_2 A0_3 c0_3 l0_3 A0_4 c0_4 l0_4 true a2 A3 c3 l3 e2 _ (Kd.C_below HV.out HB1.out) HVc.out (Kd.C_below HR.out HB1.out) HRc.out (Kd.C_below HA.out HB1.out) HAc.out HE2.out).mono ?_); rintro e' w2 ⟨rfl, hb2⟩; have ht2 := blk_below HT1.out hb2; have HB2 := Aside0.mk (below_step HB1.out hb2); have t0b : w2.cell? ⟨w.heap.size, 0, none⟩ = some (.int .i64 a0_0) := blk_cell ht2 0; have t1b : w2.cell? ⟨w.heap.size, 1, none⟩ = some (.int .u8 a0_1) := blk_cell ht2 1; have t2b : w2.cell? ⟨w.heap.size, 2, none⟩ = some (.int .u8 a0_2) := blk_cell ht2 2; have t3b : w2.cell? ⟨w.heap.size, 3, none⟩ = some (.slice A0_3 l0_3.length c0_3) := blk_cell ht2 3; have t4b : w2.cell? ⟨w.heap.size, 4, none⟩ = some (.slice A0_4 l0_4.length c0_4) := blk_cell ht2 4; clear t0a t1a t2a t3a t4a; have HT2 := Aside0.mk ht2; clear ht2 hb2)))
    go_ret3
    exact ⟨rfl, HB2.out⟩
  ·rw [decide_eq_false hin] at he2
   have HE2 := Aside0.mk he2
   clear he2
   by_cases h2 : e2 = 0
   ·rw [if_pos h2, if_neg hin] at h; cases h
   ·by_cases b0 : 0 ≤ a1
    ·have b1 : ¬ a1 < (l0_4.length : Int) := fun h => hin ⟨b0, h⟩
     have b2 : decide (a1 < (l0_4.length : Int)) = false := decide_eq_false b1
     clear hin
     rw [if_neg h2] at h
     simp only [Option.some.injEq, Prod.mk.injEq] at h
     obtain ⟨rfl, rfl, rfl⟩ := h
     have h2b : (e2 == 0) = false := by rw [beq_eq_false_iff_ne]; exact h2
     have h2c : (e2 != 0) = true := bne_iff_ne.mpr h2
     clear h2
     go_enter Try.func9, Try.ntmps9
     go_wp2_with (first | (go_at_call 27; go_must ((with_reducible refine (vivariumref10_Check.calls k a0_0 a0_1 a0_2 A0_3 c0_3 l0_3 A0_4 c0_4 l0_4 0 _ (Kd.C_alloc HV.out _) HVc.out (Kd.C_alloc HR.out _) HRc.out HE.out).mono ?_); rintro e' w1 ⟨rfl, hb1⟩; have ht1 := blk_below (blk_new w _) hb1; have HB1 := Aside0.mk (below_step (below_alloc (Below.refl w.heap.size w) (Obj.cells #[.int .i64 a0_0, .int .u8 a0_1, .int .u8 a0_2, .slice A0_3 l0_3.length c0_3, .slice A0_4 l0_4.length c0_4] 33)) hb1); have t0a : w1.cell? ⟨w.heap.size, 0, none⟩ = some (.int .i64 a0_0) := blk_cell ht1 0; have t1a : w1.cell? ⟨w.heap.size, 1, none⟩ = some (.int .u8 a0_1) := blk_cell ht1 1; have t2a : w1.cell? ⟨w.heap.size, 2, none⟩ = some (.int .u8 a0_2) := blk_cell ht1 2; have t3a : w1.cell? ⟨w.heap.size, 3, none⟩ = some (.slice A0_3 l0_3.length c0_3) := blk_cell ht1 3; have t4a : w1.cell? ⟨w.heap.size, 4, none⟩ = some (.slice A0_4 l0_4.length c0_4) := blk_cell ht1 4; have HT1 := Aside0.mk ht1; clear ht1 hb1)) | (go_at_call 28; go_must ((with_reducible refine (vivariumref10_asked.calls k a0_0 a0_1 a0_2 A0_3 c0_3 l0_3 A0_4 c0_4 l0_4 false a2 A3 c3 l3 e2 _ (Kd.C_below HV.out HB1.out) HVc.out (Kd.C_below HR.out HB1.out) HRc.out (Kd.C_below HA.out HB1.out) HAc.out HE2.out).mono ?_); rintro e' w2 ⟨rfl, hb2⟩; have ht2 := blk_below HT1.out hb2; have HB2 := Aside0.mk (below_step HB1.out hb2); have t0b : w2.cell? ⟨w.heap.size, 0, none⟩ = some (.int .i64 a0_0) := blk_cell ht2 0; have t1b : w2.cell? ⟨w.heap.size, 1, none⟩ = some (.int .u8 a0_1) := blk_cell ht2 1; have t2b : w2.cell? ⟨w.heap.size, 2, none⟩ = some (.int .u8 a0_2) := blk_cell ht2 2; have t3b : w2.cell? ⟨w.heap.size, 3, none⟩ = some (.slice A0_3 l0_3.length c0_3) := blk_cell ht2 3; have t4b : w2.cell? ⟨w.heap.size, 4, none⟩ = some (.slice A0_4 l0_4.length c0_4) := blk_cell ht2 4; clear t0a t1a t2a t3a t4a; have HT2 := Aside0.mk ht2; clear ht2 hb2)))
     go_ret3
     exact ⟨rfl, HB2.out⟩
    ·have b2 : decide (0 ≤ a1) = false := decide_eq_false b0
     have b3 : a1 < 0 := by omega
     clear hin
     rw [if_neg h2] at h
     simp only [Option.some.injEq, Prod.mk.injEq] at h
     obtain ⟨rfl, rfl, rfl⟩ := h
     have h2b : (e2 == 0) = false := by rw [beq_eq_false_iff_ne]; exact h2
     have h2c : (e2 != 0) = true := bne_iff_ne.mpr h2
     clear h2
     go_enter Try.func9, Try.ntmps9
     go_wp2_with (first | (go_at_call 27; go_must ((with_reducible refine (vivariumref10_Check.calls k a0_0 a0_1 a0_2 A0_3 c0_3 l0_3 A0_4 c0_4 l0_4 0 _ (Kd.C_alloc HV.out _) HVc.out (Kd.C_alloc HR.out _) HRc.out HE.out).mono ?_); rintro e' w1 ⟨rfl, hb1⟩; have ht1 := blk_below (blk_new w _) hb1; have HB1 := Aside0.mk (below_step (below_alloc (Below.refl w.heap.size w) (Obj.cells #[.int .i64 a0_0, .int .u8 a0_1, .int .u8 a0_2, .slice A0_3 l0_3.length c0_3, .slice A0_4 l0_4.length c0_4] 33)) hb1); have t0a : w1.cell? ⟨w.heap.size, 0, none⟩ = some (.int .i64 a0_0) := blk_cell ht1 0; have t1a : w1.cell? ⟨w.heap.size, 1, none⟩ = some (.int .u8 a0_1) := blk_cell ht1 1; have t2a : w1.cell? ⟨w.heap.size, 2, none⟩ = some (.int .u8 a0_2) := blk_cell ht1 2; have t3a : w1.cell? ⟨w.heap.size, 3, none⟩ = some (.slice A0_3 l0_3.length c0_3) := blk_cell ht1 3; have t4a : w1.cell? ⟨w.heap.size, 4, none⟩ = some (.slice A0_4 l0_4.length c0_4) := blk_cell ht1 4; have HT1 := Aside0.mk ht1; clear ht1 hb1)) | (go_at_call 28; go_must ((with_reducible refine (vivariumref10_asked.calls k a0_0 a0_1 a0_2 A0_3 c0_3 l0_3 A0_4 c0_4 l0_4 false a2 A3 c3 l3 e2 _ (Kd.C_below HV.out HB1.out) HVc.out (Kd.C_below HR.out HB1.out) HRc.out (Kd.C_below HA.out HB1.out) HAc.out HE2.out).mono ?_); rintro e' w2 ⟨rfl, hb2⟩; have ht2 := blk_below HT1.out hb2; have HB2 := Aside0.mk (below_step HB1.out hb2); have t0b : w2.cell? ⟨w.heap.size, 0, none⟩ = some (.int .i64 a0_0) := blk_cell ht2 0; have t1b : w2.cell? ⟨w.heap.size, 1, none⟩ = some (.int .u8 a0_1) := blk_cell ht2 1; have t2b : w2.cell? ⟨w.heap.size, 2, none⟩ = some (.int .u8 a0_2) := blk_cell ht2 2; have t3b : w2.cell? ⟨w.heap.size, 3, none⟩ = some (.slice A0_3 l0_3.length c0_3) := blk_cell ht2 3; have t4b : w2.cell? ⟨w.heap.size, 4, none⟩ = some (.slice A0_4 l0_4.length c0_4) := blk_cell ht2 4; clear t0a t1a t2a t3a t4a; have HT2 := Aside0.mk ht2; clear ht2 hb2)))
     go_ret3
     exact ⟨rfl, HB2.out⟩
 ·rw [if_neg h0] at h
  simp only [Option.some.injEq, Prod.mk.injEq] at h
  obtain ⟨rfl, rfl, rfl⟩ := h
  have h2b : (e == 0) = false := by rw [beq_eq_false_iff_ne]; exact h0
  have h2c : (e != 0) = true := bne_iff_ne.mpr h0
  clear h0
  go_enter Try.func9, Try.ntmps9
  go_wp2_with (go_at_call 27; go_must ((with_reducible refine (vivariumref10_Check.calls k a0_0 a0_1 a0_2 A0_3 c0_3 l0_3 A0_4 c0_4 l0_4 e _ (Kd.C_alloc HV.out _) HVc.out (Kd.C_alloc HR.out _) HRc.out HE.out).mono ?_); rintro e' w1 ⟨rfl, hb1⟩; have ht1 := blk_below (blk_new w _) hb1; have HB1 := Aside0.mk (below_step (below_alloc (Below.refl w.heap.size w) (Obj.cells #[.int .i64 a0_0, .int .u8 a0_1, .int .u8 a0_2, .slice A0_3 l0_3.length c0_3, .slice A0_4 l0_4.length c0_4] 33)) hb1); have t0a : w1.cell? ⟨w.heap.size, 0, none⟩ = some (.int .i64 a0_0) := blk_cell ht1 0; have t1a : w1.cell? ⟨w.heap.size, 1, none⟩ = some (.int .u8 a0_1) := blk_cell ht1 1; have t2a : w1.cell? ⟨w.heap.size, 2, none⟩ = some (.int .u8 a0_2) := blk_cell ht1 2; have t3a : w1.cell? ⟨w.heap.size, 3, none⟩ = some (.slice A0_3 l0_3.length c0_3) := blk_cell ht1 3; have t4a : w1.cell? ⟨w.heap.size, 4, none⟩ = some (.slice A0_4 l0_4.length c0_4) := blk_cell ht1 4; have HT1 := Aside0.mk ht1; clear ht1 hb1))
  go_ret3
  exact ⟨rfl, HB1.out⟩
end Go.Proofs.Ytajhfkcmfmhnaaa.P
end
section
namespace Go.Proofs.Ytajhfkcmfmhnaaa.P
open Go.RowKit Go.Proofs.YtajhfkcmfmhnaaaW.PrintWords Go.Proofs.YtajhfkcmfmhnaaaW.PrintLast Go.Proofs.YtajhfkcmfmhnaaaW.PrintMore
attribute [local go_sem] max2_int min2_int max_two min_two max_three min_three max_four min_four   -- for this text's walks alone
set_option linter.unusedVariables false
set_option linter.unusedSimpArgs false
def vivariumref10_Next.f (k : Nat) (a0_0 : Int) (a0_1 : Int) (a0_2 : Int) (l0_3 : List (S65)) (l0_4 : List (S62)) (a1 : Int) (l2 : List Int) : Option (Int × Int) := (vivariumref10_Check.f k a0_0 a0_1 a0_2 l0_3 l0_4).bind fun t191 => (if t191 = 0 then ((vivariumref10_asked.f k a0_0 a0_1 a0_2 l0_3 l0_4 true a1 l2).bind fun t192 => (if t192 = 0 then ((vivariumref10_First.f k a0_0 a0_1 a0_2 l0_3 l0_4 a1 l2).bind fun t193 => (some (t193, 0))) else (some (0, t192)))) else (some (0, t191)))
set_option maxHeartbeats 8000000 in
set_option maxRecDepth 100000 in
theorem vivariumref10_Next.calls (k : Nat) (a0_0 : Int) (a0_1 : Int) (a0_2 : Int) (A0_3 : Option Addr) (c0_3 : Nat) (l0_3 : List (S65)) (A0_4 : Option Addr) (c0_4 : Nat) (l0_4 : List (S62)) (a1 : Int) (A2 : Option Addr) (c2 : Nat) (l2 : List Int) (r1 : Int) (r2 : Int) (w : World) (hr0_3 : Kd.C k65 w A0_3 l0_3.length l0_3) (hc0_3 : l0_3.length ≤ c0_3) (hr0_4 : Kd.C k62 w A0_4 l0_4.length l0_4) (hc0_4 : l0_4.length ≤ c0_4) (hr2 : Kd.C (Kd.int .u8) w A2 l2.length l2) (hc2 : l2.length ≤ c2) (h : vivariumref10_Next.f k a0_0 a0_1 a0_2 l0_3 l0_4 a1 l2 = some (r1, r2)) :
  Calls Try.prog 10 #[.agg #[.int .i64 a0_0, .int .u8 a0_1, .int .u8 a0_2, .slice A0_3 l0_3.length c0_3, .slice A0_4 l0_4.length c0_4], .int .u8 a1, .slice A2 l2.length c2] w fun e w' => e = .returned (.tuple #[.int .u8 r1, .int .i64 r2]) ∧ Below w.heap.size w w' := by
 have hu33 := Try.underlying33
 have HR0_3 := Aside0.mk hr0_3
 have HC0_3 := Aside0.mk hc0_3
 clear hr0_3 hc0_3
 have HR0_4 := Aside0.mk hr0_4
 have HC0_4 := Aside0.mk hc0_4
 clear hr0_4 hc0_4
 have HR2 := Aside0.mk hr2
 have HC2 := Aside0.mk hc2
 clear hr2 hc2
 have HB := Aside0.mk (Below.refl w.heap.size w)
 have H : ((vivariumref10_Check.f k a0_0 a0_1 a0_2 l0_3 l0_4).bind fun t191 => (if t191 = 0 then ((vivariumref10_asked.f k a0_0 a0_1 a0_2 l0_3 l0_4 true a1 l2).bind fun t192 => (if t192 = 0 then ((vivariumref10_First.f k a0_0 a0_1 a0_2 l0_3 l0_4 a1 l2).bind fun t193 => (some (t193, 0))) else (some (0, t192)))) else (some (0, t191)))) = some (r1, r2) := h
 clear h
 replace H := Option.bind_eq_some_iff.mp H
 obtain ⟨t191, A40, H⟩ := H
 replace H : (if t191 = 0 then ((vivariumref10_asked.f k a0_0 a0_1 a0_2 l0_3 l0_4 true a1 l2).bind fun t192 => (if t192 = 0 then ((vivariumref10_First.f k a0_0 a0_1 a0_2 l0_3 l0_4 a1 l2).bind fun t193 => (some (t193, 0))) else (some (0, t192)))) else (some (0, t191))) = some (r1, r2) := H
 have A4 := Aside0.mk A40
 clear A40
 by_cases c5 : t191 = 0
 ·rw [if_pos c5] at H
  have c5b0 : (t191 == 0) = true := beq_iff_eq.mpr c5
  have c5b1 : (t191 != 0) = false := bne_eq_false_iff_eq.mpr c5
  clear c5
  replace H := Option.bind_eq_some_iff.mp H
  obtain ⟨t192, A60, H⟩ := H
  replace H : (if t192 = 0 then ((vivariumref10_First.f k a0_0 a0_1 a0_2 l0_3 l0_4 a1 l2).bind fun t193 => (some (t193, 0))) else (some (0, t192))) = some (r1, r2) := H
  have A6 := Aside0.mk A60
  clear A60
  by_cases c7 : t192 = 0
  ·rw [if_pos c7] at H
   have c7b0 : (t192 == 0) = true := beq_iff_eq.mpr c7
   have c7b1 : (t192 != 0) = false := bne_eq_false_iff_eq.mpr c7
   clear c7
   replace H := Option.bind_eq_some_iff.mp H
   obtain ⟨t193, A80, H⟩ := H
   replace H : (some (t193, 0)) = some (r1, r2) := H
   have A8 := Aside0.mk A80
   clear A80
   simp only [Option.some.injEq, Prod.mk.injEq] at H
   obtain ⟨rfl, rfl⟩ := H
   go_enter Try.func10, Try.ntmps10
   go_wp2_with (first | ((with_reducible refine gate_dst (N := 3) rfl ?_); refine box_event ?hg (N := 3) ?hd (cs := #[.int .i64 a0_0, .int .u8 a0_1, .int .u8 a0_2, .slice A0_3 l0_3.length c0_3, .slice A0_4 l0_4.length c0_4]) (t := 33) ?hr ?_; (case hd => rfl); (case hg => rfl); (case hr => first | (go_simp; done) | (go_simp; rfl)); intro gb190 hg w9 hbox hb; have n0_ := Aside0.mk (below_step (by repeat (first | (with_reducible first | exact HB.out | apply below_alloc | apply pw_below_drewN | apply below_drew1) | exact HB.out)) hb); have n1_ := Aside0.mk (hbox); have n2_ := Aside0.mk ((by rw [hg]; exact (below_size (by repeat (first | (with_reducible first | exact HB.out | apply below_alloc | apply pw_below_drewN | apply below_drew1) | exact HB.out))) : w.heap.size ≤ gb190)); have n3_ := Aside0.mk ((by rw [hg]; exact (below_size (by repeat (first | (with_reducible first | exact HB.out | apply below_alloc | apply pw_below_drewN | apply below_drew1) | exact HB.out))) : w.heap.size ≤ gb190)); clear HB; have HB := n0_; have BK190 := n1_; have GW190 := n2_; have GE190 := n3_; clear n0_ n1_ n2_ n3_; clear hb hbox hg; have hcz10_0 : w9.cell? ⟨gb190, 0, none⟩ = some (.int .i64 a0_0) := (blk_cell BK190.out 0).trans rfl; have hcz10_1 : w9.cell? ⟨gb190, 1, none⟩ = some (.int .u8 a0_1) := (blk_cell BK190.out 1).trans rfl; have hcz10_2 : w9.cell? ⟨gb190, 2, none⟩ = some (.int .u8 a0_2) := (blk_cell BK190.out 2).trans rfl; have hcz10_3 : w9.cell? ⟨gb190, 3, none⟩ = some (.slice A0_3 l0_3.length c0_3) := (blk_cell BK190.out 3).trans rfl; have hcz10_4 : w9.cell? ⟨gb190, 4, none⟩ = some (.slice A0_4 l0_4.length c0_4) := (blk_cell BK190.out 4).trans rfl; have hfz10_0 := blk_frozen BK190.out 0; have hfz10_1 := blk_frozen BK190.out 1; have hfz10_2 := blk_frozen BK190.out 2; have hfz10_3 := blk_frozen BK190.out 3; have hfz10_4 := blk_frozen BK190.out 4) | ((with_reducible refine gate_callee (f := 27) rfl ?_); refine goesL_ (some 10) rfl rfl Try.func27 (by kernel_rfl) rfl #[.agg #[.int .i64 a0_0, .int .u8 a0_1, .int .u8 a0_2, .slice A0_3 l0_3.length c0_3, .slice A0_4 l0_4.length c0_4]] rfl (by (try simp only [List.map_toArray, List.map_cons, List.map_nil]); first | done | rfl | (simp only [List.length_drop, List.length_take]; rfl)) ?_; (with_reducible refine (vivariumref10_Check.calls k a0_0 a0_1 a0_2 _ _ l0_3 _ _ l0_4 t191 _ ?side1 ?side2 ?side3 ?side4 A4.out).mono ?_); (case side1 => repeat (first | exact (Kd.C_below HR0_3.out HB.out) | (with_reducible refine Kd.C_alloc ?_ _) | (with_reducible refine Kd.C_drewN ?_ _) | (with_reducible refine Kd.C_drew ?_))); (case side2 => exact HC0_3.out); (case side3 => repeat (first | exact (Kd.C_below HR0_4.out HB.out) | (with_reducible refine Kd.C_alloc ?_ _) | (with_reducible refine Kd.C_drewN ?_ _) | (with_reducible refine Kd.C_drew ?_))); (case side4 => exact HC0_4.out); rintro e w11 ⟨rfl, hb⟩; refine ⟨_, rfl, ?_⟩; have n0_ := Aside0.mk (blk_below (g := gb190) (o := .cells #[.int .i64 a0_0, .int .u8 a0_1, .int .u8 a0_2, .slice A0_3 l0_3.length c0_3, .slice A0_4 l0_4.length c0_4] 33 (0, 0)) (by (with_reducible repeat (first | refine blk_drewN ?_ _ | refine blk_drew ?_ | refine blk_alloc ?_ _)); exact BK190.out) hb); have n1_ := Aside0.mk (below_step (by repeat (first | (with_reducible first | exact HB.out | apply below_alloc | apply pw_below_drewN | apply below_drew1 | refine below_set ?_ GE190.out) | exact HB.out)) hb); clear BK190; clear HB; have BK190 := n0_; have HB := n1_; clear n0_ n1_; (try clear hb); (try clear hb2); (try clear hk); (try clear hi); have hcz12_0 : w11.cell? ⟨gb190, 0, none⟩ = some (.int .i64 a0_0) := (blk_cell BK190.out 0).trans rfl; have hcz12_1 : w11.cell? ⟨gb190, 1, none⟩ = some (.int .u8 a0_1) := (blk_cell BK190.out 1).trans rfl; have hcz12_2 : w11.cell? ⟨gb190, 2, none⟩ = some (.int .u8 a0_2) := (blk_cell BK190.out 2).trans rfl; have hcz12_3 : w11.cell? ⟨gb190, 3, none⟩ = some (.slice A0_3 l0_3.length c0_3) := (blk_cell BK190.out 3).trans rfl; have hcz12_4 : w11.cell? ⟨gb190, 4, none⟩ = some (.slice A0_4 l0_4.length c0_4) := (blk_cell BK190.out 4).trans rfl; have hfz12_0 := blk_frozen BK190.out 0; have hfz12_1 := blk_frozen BK190.out 1; have hfz12_2 := blk_frozen BK190.out 2; have hfz12_3 := blk_frozen BK190.out 3; have hfz12_4 := blk_frozen BK190.out 4) | ((with_reducible refine gate_callee (f := 28) rfl ?_); refine goesL_ (some 16) rfl rfl Try.func28 (by kernel_rfl) rfl #[.agg #[.int .i64 a0_0, .int .u8 a0_1, .int .u8 a0_2, .slice A0_3 l0_3.length c0_3, .slice A0_4 l0_4.length c0_4], .bool true, .int .u8 a1, .slice A2 l2.length c2] rfl (by (try simp only [List.map_toArray, List.map_cons, List.map_nil]); first | done | rfl | (simp only [List.length_drop, List.length_take]; rfl)) ?_; (with_reducible refine (vivariumref10_asked.calls k a0_0 a0_1 a0_2 _ _ l0_3 _ _ l0_4 true a1 _ _ l2 t192 _ ?side1 ?side2 ?side3 ?side4 ?side5 ?side6 A6.out).mono ?_); (case side1 => repeat (first | exact (Kd.C_below HR0_3.out HB.out) | (with_reducible refine Kd.C_alloc ?_ _) | (with_reducible refine Kd.C_drewN ?_ _) | (with_reducible refine Kd.C_drew ?_))); (case side2 => exact HC0_3.out); (case side3 => repeat (first | exact (Kd.C_below HR0_4.out HB.out) | (with_reducible refine Kd.C_alloc ?_ _) | (with_reducible refine Kd.C_drewN ?_ _) | (with_reducible refine Kd.C_drew ?_))); (case side4 => exact HC0_4.out); (case side5 => repeat (first | exact (Kd.C_below HR2.out HB.out) | (with_reducible refine Kd.C_alloc ?_ _) | (with_reducible refine Kd.C_drewN ?_ _) | (with_reducible refine Kd.C_drew ?_))); (case side6 => exact HC2.out); rintro e w13 ⟨rfl, hb⟩; refine ⟨_, rfl, ?_⟩; have n0_ := Aside0.mk (blk_below (g := gb190) (o := .cells #[.int .i64 a0_0, .int .u8 a0_1, .int .u8 a0_2, .slice A0_3 l0_3.length c0_3, .slice A0_4 l0_4.length c0_4] 33 (0, 0)) (by (with_reducible repeat (first | refine blk_drewN ?_ _ | refine blk_drew ?_ | refine blk_alloc ?_ _)); exact BK190.out) hb); have n1_ := Aside0.mk (below_step (by repeat (first | (with_reducible first | exact HB.out | apply below_alloc | apply pw_below_drewN | apply below_drew1 | refine below_set ?_ GE190.out) | exact HB.out)) hb); clear BK190; clear HB; have BK190 := n0_; have HB := n1_; clear n0_ n1_; (try clear hb); (try clear hb2); (try clear hk); (try clear hi); have hcz14_0 : w13.cell? ⟨gb190, 0, none⟩ = some (.int .i64 a0_0) := (blk_cell BK190.out 0).trans rfl; have hcz14_1 : w13.cell? ⟨gb190, 1, none⟩ = some (.int .u8 a0_1) := (blk_cell BK190.out 1).trans rfl; have hcz14_2 : w13.cell? ⟨gb190, 2, none⟩ = some (.int .u8 a0_2) := (blk_cell BK190.out 2).trans rfl; have hcz14_3 : w13.cell? ⟨gb190, 3, none⟩ = some (.slice A0_3 l0_3.length c0_3) := (blk_cell BK190.out 3).trans rfl; have hcz14_4 : w13.cell? ⟨gb190, 4, none⟩ = some (.slice A0_4 l0_4.length c0_4) := (blk_cell BK190.out 4).trans rfl; have hfz14_0 := blk_frozen BK190.out 0; have hfz14_1 := blk_frozen BK190.out 1; have hfz14_2 := blk_frozen BK190.out 2; have hfz14_3 := blk_frozen BK190.out 3; have hfz14_4 := blk_frozen BK190.out 4) | ((with_reducible refine gate_callee (f := 30) rfl ?_); refine goesL_ (some 23) rfl rfl Try.func30 (by kernel_rfl) rfl #[.agg #[.int .i64 a0_0, .int .u8 a0_1, .int .u8 a0_2, .slice A0_3 l0_3.length c0_3, .slice A0_4 l0_4.length c0_4], .int .u8 a1, .slice A2 l2.length c2] rfl (by (try simp only [List.map_toArray, List.map_cons, List.map_nil]); first | done | rfl | (simp only [List.length_drop, List.length_take]; rfl)) ?_; (with_reducible refine (vivariumref10_First.calls k a0_0 a0_1 a0_2 _ _ l0_3 _ _ l0_4 a1 _ _ l2 t193 _ ?side1 ?side2 ?side3 ?side4 ?side5 ?side6 A8.out).mono ?_); (case side1 => repeat (first | exact (Kd.C_below HR0_3.out HB.out) | (with_reducible refine Kd.C_alloc ?_ _) | (with_reducible refine Kd.C_drewN ?_ _) | (with_reducible refine Kd.C_drew ?_))); (case side2 => exact HC0_3.out); (case side3 => repeat (first | exact (Kd.C_below HR0_4.out HB.out) | (with_reducible refine Kd.C_alloc ?_ _) | (with_reducible refine Kd.C_drewN ?_ _) | (with_reducible refine Kd.C_drew ?_))); (case side4 => exact HC0_4.out); (case side5 => repeat (first | exact (Kd.C_below HR2.out HB.out) | (with_reducible refine Kd.C_alloc ?_ _) | (with_reducible refine Kd.C_drewN ?_ _) | (with_reducible refine Kd.C_drew ?_))); (case side6 => exact HC2.out); rintro e w15 ⟨rfl, hb⟩; refine ⟨_, rfl, ?_⟩; have n0_ := Aside0.mk (blk_below (g := gb190) (o := .cells #[.int .i64 a0_0, .int .u8 a0_1, .int .u8 a0_2, .slice A0_3 l0_3.length c0_3, .slice A0_4 l0_4.length c0_4] 33 (0, 0)) (by (with_reducible repeat (first | refine blk_drewN ?_ _ | refine blk_drew ?_ | refine blk_alloc ?_ _)); exact BK190.out) hb); have n1_ := Aside0.mk (below_step (by repeat (first | (with_reducible first | exact HB.out | apply below_alloc | apply pw_below_drewN | apply below_drew1 | refine below_set ?_ GE190.out) | exact HB.out)) hb); clear BK190; clear HB; have BK190 := n0_; have HB := n1_; clear n0_ n1_; (try clear hb); (try clear hb2); (try clear hk); (try clear hi)))
   go_ret2
   exact ⟨by first | rfl | (simp [errW_none, errW_some] <;> rfl) | (simp [*, errW_none, errW_some] <;> rfl), by repeat (first | (with_reducible first | exact HB.out | apply below_alloc | apply pw_below_drewN | apply below_drew1 | refine below_set ?_ GE190.out) | exact HB.out)⟩
  ·rw [if_neg c7] at H
   have c7b0 : (t192 == 0) = false := beq_eq_false_iff_ne.mpr c7
   have c7b1 : (t192 != 0) = true := bne_iff_ne.mpr c7
   simp only [Option.some.injEq, Prod.mk.injEq] at H
   obtain ⟨rfl, rfl⟩ := H
   go_enter Try.func10, Try.ntmps10
   go_wp2_with (first | ((with_reducible refine gate_dst (N := 3) rfl ?_); refine box_event ?hg (N := 3) ?hd (cs := #[.int .i64 a0_0, .int .u8 a0_1, .int .u8 a0_2, .slice A0_3 l0_3.length c0_3, .slice A0_4 l0_4.length c0_4]) (t := 33) ?hr ?_; (case hd => rfl); (case hg => rfl); (case hr => first | (go_simp; done) | (go_simp; rfl)); intro gb190 hg w16 hbox hb; have n0_ := Aside0.mk (below_step (by repeat (first | (with_reducible first | exact HB.out | apply below_alloc | apply pw_below_drewN | apply below_drew1) | exact HB.out)) hb); have n1_ := Aside0.mk (hbox); have n2_ := Aside0.mk ((by rw [hg]; exact (below_size (by repeat (first | (with_reducible first | exact HB.out | apply below_alloc | apply pw_below_drewN | apply below_drew1) | exact HB.out))) : w.heap.size ≤ gb190)); have n3_ := Aside0.mk ((by rw [hg]; exact (below_size (by repeat (first | (with_reducible first | exact HB.out | apply below_alloc | apply pw_below_drewN | apply below_drew1) | exact HB.out))) : w.heap.size ≤ gb190)); clear HB; have HB := n0_; have BK190 := n1_; have GW190 := n2_; have GE190 := n3_; clear n0_ n1_ n2_ n3_; clear hb hbox hg; have hcz17_0 : w16.cell? ⟨gb190, 0, none⟩ = some (.int .i64 a0_0) := (blk_cell BK190.out 0).trans rfl; have hcz17_1 : w16.cell? ⟨gb190, 1, none⟩ = some (.int .u8 a0_1) := (blk_cell BK190.out 1).trans rfl; have hcz17_2 : w16.cell? ⟨gb190, 2, none⟩ = some (.int .u8 a0_2) := (blk_cell BK190.out 2).trans rfl; have hcz17_3 : w16.cell? ⟨gb190, 3, none⟩ = some (.slice A0_3 l0_3.length c0_3) := (blk_cell BK190.out 3).trans rfl; have hcz17_4 : w16.cell? ⟨gb190, 4, none⟩ = some (.slice A0_4 l0_4.length c0_4) := (blk_cell BK190.out 4).trans rfl; have hfz17_0 := blk_frozen BK190.out 0; have hfz17_1 := blk_frozen BK190.out 1; have hfz17_2 := blk_frozen BK190.out 2; have hfz17_3 := blk_frozen BK190.out 3; have hfz17_4 := blk_frozen BK190.out 4) | ((with_reducible refine gate_callee (f := 27) rfl ?_); refine goesL_ (some 10) rfl rfl Try.func27 (by kernel_rfl) rfl #[.agg #[.int .i64 a0_0, .int .u8 a0_1, .int .u8 a0_2, .slice A0_3 l0_3.length c0_3, .slice A0_4 l0_4.length c0_4]] rfl (by (try simp only [List.map_toArray, List.map_cons, List.map_nil]); first | done | rfl | (simp only [List.length_drop, List.length_take]; rfl)) ?_; (with_reducible refine (vivariumref10_Check.calls k a0_0 a0_1 a0_2 _ _ l0_3 _ _ l0_4 t191 _ ?side1 ?side2 ?side3 ?side4 A4.out).mono ?_); (case side1 => repeat (first | exact (Kd.C_below HR0_3.out HB.out) | (with_reducible refine Kd.C_alloc ?_ _) | (with_reducible refine Kd.C_drewN ?_ _) | (with_reducible refine Kd.C_drew ?_))); (case side2 => exact HC0_3.out); (case side3 => repeat (first | exact (Kd.C_below HR0_4.out HB.out) | (with_reducible refine Kd.C_alloc ?_ _) | (with_reducible refine Kd.C_drewN ?_ _) | (with_reducible refine Kd.C_drew ?_))); (case side4 => exact HC0_4.out); rintro e w18 ⟨rfl, hb⟩; refine ⟨_, rfl, ?_⟩; have n0_ := Aside0.mk (blk_below (g := gb190) (o := .cells #[.int .i64 a0_0, .int .u8 a0_1, .int .u8 a0_2, .slice A0_3 l0_3.length c0_3, .slice A0_4 l0_4.length c0_4] 33 (0, 0)) (by (with_reducible repeat (first | refine blk_drewN ?_ _ | refine blk_drew ?_ | refine blk_alloc ?_ _)); exact BK190.out) hb); have n1_ := Aside0.mk (below_step (by repeat (first | (with_reducible first | exact HB.out | apply below_alloc | apply pw_below_drewN | apply below_drew1 | refine below_set ?_ GE190.out) | exact HB.out)) hb); clear BK190; clear HB; have BK190 := n0_; have HB := n1_; clear n0_ n1_; (try clear hb); (try clear hb2); (try clear hk); (try clear hi); have hcz19_0 : w18.cell? ⟨gb190, 0, none⟩ = some (.int .i64 a0_0) := (blk_cell BK190.out 0).trans rfl; have hcz19_1 : w18.cell? ⟨gb190, 1, none⟩ = some (.int .u8 a0_1) := (blk_cell BK190.out 1).trans rfl; have hcz19_2 : w18.cell? ⟨gb190, 2, none⟩ = some (.int .u8 a0_2) := (blk_cell BK190.out 2).trans rfl; have hcz19_3 : w18.cell? ⟨gb190, 3, none⟩ = some (.slice A0_3 l0_3.length c0_3) := (blk_cell BK190.out 3).trans rfl; have hcz19_4 : w18.cell? ⟨gb190, 4, none⟩ = some (.slice A0_4 l0_4.length c0_4) := (blk_cell BK190.out 4).trans rfl; have hfz19_0 := blk_frozen BK190.out 0; have hfz19_1 := blk_frozen BK190.out 1; have hfz19_2 := blk_frozen BK190.out 2; have hfz19_3 := blk_frozen BK190.out 3; have hfz19_4 := blk_frozen BK190.out 4) | ((with_reducible refine gate_callee (f := 28) rfl ?_); refine goesL_ (some 16) rfl rfl Try.func28 (by kernel_rfl) rfl #[.agg #[.int .i64 a0_0, .int .u8 a0_1, .int .u8 a0_2, .slice A0_3 l0_3.length c0_3, .slice A0_4 l0_4.length c0_4], .bool true, .int .u8 a1, .slice A2 l2.length c2] rfl (by (try simp only [List.map_toArray, List.map_cons, List.map_nil]); first | done | rfl | (simp only [List.length_drop, List.length_take]; rfl)) ?_; (with_reducible refine (vivariumref10_asked.calls k a0_0 a0_1 a0_2 _ _ l0_3 _ _ l0_4 true a1 _ _ l2 t192 _ ?side1 ?side2 ?side3 ?side4 ?side5 ?side6 A6.out).mono ?_); (case side1 => repeat (first | exact (Kd.C_below HR0_3.out HB.out) | (with_reducible refine Kd.C_alloc ?_ _) | (with_reducible refine Kd.C_drewN ?_ _) | (with_reducible refine Kd.C_drew ?_))); (case side2 => exact HC0_3.out); (case side3 => repeat (first | exact (Kd.C_below HR0_4.out HB.out) | (with_reducible refine Kd.C_alloc ?_ _) | (with_reducible refine Kd.C_drewN ?_ _) | (with_reducible refine Kd.C_drew ?_))); (case side4 => exact HC0_4.out); (case side5 => repeat (first | exact (Kd.C_below HR2.out HB.out) | (with_reducible refine Kd.C_alloc ?_ _) | (with_reducible refine Kd.C_drewN ?_ _) | (with_reducible refine Kd.C_drew ?_))); (case side6 => exact HC2.out); rintro e w20 ⟨rfl, hb⟩; refine ⟨_, rfl, ?_⟩; have n0_ := Aside0.mk (blk_below (g := gb190) (o := .cells #[.int .i64 a0_0, .int .u8 a0_1, .int .u8 a0_2, .slice A0_3 l0_3.length c0_3, .slice A0_4 l0_4.length c0_4] 33 (0, 0)) (by (with_reducible repeat (first | refine blk_drewN ?_ _ | refine blk_drew ?_ | refine blk_alloc ?_ _)); exact BK190.out) hb); have n1_ := Aside0.mk (below_step (by repeat (first | (with_reducible first | exact HB.out | apply below_alloc | apply pw_below_drewN | apply below_drew1 | refine below_set ?_ GE190.out) | exact HB.out)) hb); clear BK190; clear HB; have BK190 := n0_; have HB := n1_; clear n0_ n1_; (try clear hb); (try clear hb2); (try clear hk); (try clear hi)))
   go_ret2
   exact ⟨by first | rfl | (simp [errW_none, errW_some] <;> rfl) | (simp [*, errW_none, errW_some] <;> rfl), by repeat (first | (with_reducible first | exact HB.out | apply below_alloc | apply pw_below_drewN | apply below_drew1 | refine below_set ?_ GE190.out) | exact HB.out)⟩
 ·rw [if_neg c5] at H
  have c5b0 : (t191 == 0) = false := beq_eq_false_iff_ne.mpr c5
  have c5b1 : (t191 != 0) = true := bne_iff_ne.mpr c5
  simp only [Option.some.injEq, Prod.mk.injEq] at H
  obtain ⟨rfl, rfl⟩ := H
  go_enter Try.func10, Try.ntmps10
  go_wp2_with (first | ((with_reducible refine gate_dst (N := 3) rfl ?_); refine box_event ?hg (N := 3) ?hd (cs := #[.int .i64 a0_0, .int .u8 a0_1, .int .u8 a0_2, .slice A0_3 l0_3.length c0_3, .slice A0_4 l0_4.length c0_4]) (t := 33) ?hr ?_; (case hd => rfl); (case hg => rfl); (case hr => first | (go_simp; done) | (go_simp; rfl)); intro gb190 hg w21 hbox hb; have n0_ := Aside0.mk (below_step (by repeat (first | (with_reducible first | exact HB.out | apply below_alloc | apply pw_below_drewN | apply below_drew1) | exact HB.out)) hb); have n1_ := Aside0.mk (hbox); have n2_ := Aside0.mk ((by rw [hg]; exact (below_size (by repeat (first | (with_reducible first | exact HB.out | apply below_alloc | apply pw_below_drewN | apply below_drew1) | exact HB.out))) : w.heap.size ≤ gb190)); have n3_ := Aside0.mk ((by rw [hg]; exact (below_size (by repeat (first | (with_reducible first | exact HB.out | apply below_alloc | apply pw_below_drewN | apply below_drew1) | exact HB.out))) : w.heap.size ≤ gb190)); clear HB; have HB := n0_; have BK190 := n1_; have GW190 := n2_; have GE190 := n3_; clear n0_ n1_ n2_ n3_; clear hb hbox hg; have hcz22_0 : w21.cell? ⟨gb190, 0, none⟩ = some (.int .i64 a0_0) := (blk_cell BK190.out 0).trans rfl; have hcz22_1 : w21.cell? ⟨gb190, 1, none⟩ = some (.int .u8 a0_1) := (blk_cell BK190.out 1).trans rfl; have hcz22_2 : w21.cell? ⟨gb190, 2, none⟩ = some (.int .u8 a0_2) := (blk_cell BK190.out 2).trans rfl; have hcz22_3 : w21.cell? ⟨gb190, 3, none⟩ = some (.slice A0_3 l0_3.length c0_3) := (blk_cell BK190.out 3).trans rfl; have hcz22_4 : w21.cell? ⟨gb190, 4, none⟩ = some (.slice A0_4 l0_4.length c0_4) := (blk_cell BK190.out 4).trans rfl; have hfz22_0 := blk_frozen BK190.out 0; have hfz22_1 := blk_frozen BK190.out 1; have hfz22_2 := blk_frozen BK190.out 2; have hfz22_3 := blk_frozen BK190.out 3; have hfz22_4 := blk_frozen BK190.out 4) | ((with_reducible refine gate_callee (f := 27) rfl ?_); refine goesL_ (some 10) rfl rfl Try.func27 (by kernel_rfl) rfl #[.agg #[.int .i64 a0_0, .int .u8 a0_1, .int .u8 a0_2, .slice A0_3 l0_3.length c0_3, .slice A0_4 l0_4.length c0_4]] rfl (by (try simp only [List.map_toArray, List.map_cons, List.map_nil]); first | done | rfl | (simp only [List.length_drop, List.length_take]; rfl)) ?_; (with_reducible refine (vivariumref10_Check.calls k a0_0 a0_1 a0_2 _ _ l0_3 _ _ l0_4 t191 _ ?side1 ?side2 ?side3 ?side4 A4.out).mono ?_); (case side1 => repeat (first | exact (Kd.C_below HR0_3.out HB.out) | (with_reducible refine Kd.C_alloc ?_ _) | (with_reducible refine Kd.C_drewN ?_ _) | (with_reducible refine Kd.C_drew ?_))); (case side2 => exact HC0_3.out); (case side3 => repeat (first | exact (Kd.C_below HR0_4.out HB.out) | (with_reducible refine Kd.C_alloc ?_ _) | (with_reducible refine Kd.C_drewN ?_ _) | (with_reducible refine Kd.C_drew ?_))); (case side4 => exact HC0_4.out); rintro e w23 ⟨rfl, hb⟩; refine ⟨_, rfl, ?_⟩; have n0_ := Aside0.mk (blk_below (g := gb190) (o := .cells #[.int .i64 a0_0, .int .u8 a0_1, .int .u8 a0_2, .slice A0_3 l0_3.length c0_3, .slice A0_4 l0_4.length c0_4] 33 (0, 0)) (by (with_reducible repeat (first | refine blk_drewN ?_ _ | refine blk_drew ?_ | refine blk_alloc ?_ _)); exact BK190.out) hb); have n1_ := Aside0.mk (below_step (by repeat (first | (with_reducible first | exact HB.out | apply below_alloc | apply pw_below_drewN | apply below_drew1 | refine below_set ?_ GE190.out) | exact HB.out)) hb); clear BK190; clear HB; have BK190 := n0_; have HB := n1_; clear n0_ n1_; (try clear hb); (try clear hb2); (try clear hk); (try clear hi)))
  go_ret2
  exact ⟨by first | rfl | (simp [errW_none, errW_some] <;> rfl) | (simp [*, errW_none, errW_some] <;> rfl), by repeat (first | (with_reducible first | exact HB.out | apply below_alloc | apply pw_below_drewN | apply below_drew1 | refine below_set ?_ GE190.out) | exact HB.out)⟩
end Go.Proofs.Ytajhfkcmfmhnaaa.P
end
section
set_option linter.unusedVariables false
namespace Go.Proofs.Ytajhfkcmfmhnaaa.L
open Go.RowKit Go.Proofs.Ytajhfkcmfmhnaaa.P Go.Proofs.YtajhfkcmfmhnaaaW.PrintWords Go.Proofs.YtajhfkcmfmhnaaaW.PrintLast Go.Proofs.YtajhfkcmfmhnaaaW.PrintMore
/-- What is wrong with what is asked beside a table. -/
def askE (st : Int) (n : Nat) (row : Bool) (ce : Int) (l : List Int) : Int :=
 if (row && decide (l.length = n)) = true then (if decide (wrap64 ce < st) = true then (if l.all (fun s => decide (wrap64 s < st)) = true then 0 else 7) else 7) else 2
theorem rd_get (l : List Int) (i : Nat) (h : i < l.length) : rd l (i : Int) = l[i] := by
 unfold rd
 rw [Int.toNat_natCast, List.getD_eq_getElem?_getD, List.getElem?_eq_getElem h]; rfl
theorem askP_go (st hd sy : Int) (vs : List Vr) (rs : List Rw) (l : List Int) (hl : l.length ≤ B47) : ∀ (d i : Nat), i + d = l.length → Evn (fun k => table_asked.l0 k l (l.length : Int) (i : Int) st hd sy vs rs) (if (l.drop i).all (fun s => decide (wrap64 s < st)) = true then 0 else 7)
 | 0, i, h => by
  obtain rfl : i = l.length := by omega
  refine Evn.const.step (g' := fun _ => some _) (fun k => ?_)
  simp only [table_asked.l0]
  rw [if_neg (by omega), List.drop_length]
  rfl
 | d + 1, i, h => by
  have ih := askP_go st hd sy vs rs l hl d (i + 1) (by omega)
  have hi : i < l.length := by omega
  have E := wstep hi hl
  rw [List.drop_eq_getElem_cons hi, List.all_cons]
  by_cases c : wrap64 l[i] ≥ st
  ·rw [decide_eq_false (Int.not_lt.2 c), Bool.false_and]
   refine Evn.const.step (g' := fun _ => some _) (fun k => ?_)
   simp only [table_asked.l0]
   rw [if_pos (by omega), if_pos (by omega), if_pos (by omega), rd_get l i hi, if_pos c]
   rfl
  ·rw [decide_eq_true (Int.not_le.1 c), Bool.true_and]
   refine ih.step (fun k => ?_)
   simp only [table_asked.l0]
   rw [if_pos (by omega), if_pos (by omega), if_pos (by omega), rd_get l i hi, if_neg c, E.out]
theorem askR_go (st hd sy : Int) (vs : List Vr) (rs : List Rw) (l : List Int) (hl : l.length ≤ B47) : ∀ (d i : Nat), i + d = l.length → Evn (fun k => vivariumref10_asked.l0 k l (i : Int) st hd sy vs rs) (if (l.drop i).all (fun s => decide (wrap64 s < st)) = true then 0 else 7)
 | 0, i, h => by
  obtain rfl : i = l.length := by omega
  refine Evn.const.step (g' := fun _ => some _) (fun k => ?_)
  simp only [vivariumref10_asked.l0]
  rw [if_neg (by omega), List.drop_length]
  rfl
 | d + 1, i, h => by
  have ih := askR_go st hd sy vs rs l hl d (i + 1) (by omega)
  have hi : i < l.length := by omega
  have E := wstep hi hl
  rw [List.drop_eq_getElem_cons hi, List.all_cons]
  by_cases c : wrap64 l[i] ≥ st
  ·rw [decide_eq_false (Int.not_lt.2 c), Bool.false_and]
   refine Evn.const.step (g' := fun _ => some _) (fun k => ?_)
   simp only [vivariumref10_asked.l0]
   rw [if_pos (by omega), if_pos (by omega), rd_get l i hi, if_pos c]
   rfl
  ·rw [decide_eq_true (Int.not_le.1 c), Bool.true_and]
   refine ih.step (fun k => ?_)
   simp only [vivariumref10_asked.l0]
   rw [if_pos (by omega), if_pos (by omega), rd_get l i hi, if_neg c, E.out]
theorem ask_test (row : Bool) (a b : Nat) : (row && decide (a = b)) = !(if row = true then ((a : Int) != (b : Int)) else true) := by
 cases row with
 | false => rfl
 | true =>
  rw [if_pos rfl, Bool.true_and]
  by_cases c : a = b
  ·rw [decide_eq_true c, bne_eq_false_iff_eq.2 (by omega)]; rfl
  ·rw [decide_eq_false c, bne_iff_ne.2 (by omega)]; rfl
theorem askP_j (st hd sy : Int) (vs : List Vr) (rs : List Rw) (ce : Int) (l : List Int) (hl : l.length ≤ B47) (n : Nat) (row : Bool) : Evn (fun k => if row = true then table_asked.j0 k ce l ((l.length : Int) != (n : Int)) st hd sy vs rs else table_asked.j0 k ce l true st hd sy vs rs) (askE st n row ce l) := by
 have h := askP_go st hd sy vs rs l hl l.length 0 (by omega)
 rw [List.drop_zero] at h
 have hj : ∀ q : Bool, Evn (fun k => table_asked.j0 k ce l q st hd sy vs rs) (if (!q) = true then (if decide (wrap64 ce < st) = true then (if l.all (fun s => decide (wrap64 s < st)) = true then 0 else 7) else 7) else 2) := fun q => by
  cases q with
  | true => exact Evn.const.step (g' := fun _ => some _) (fun k => by simp only [table_asked.j0, if_true]; rfl)
  | false =>
   rw [if_pos (show (!false) = true from rfl)]
   by_cases c : wrap64 ce ≥ st
   ·rw [decide_eq_false (Int.not_lt.2 c), if_neg (by decide)]
    exact Evn.const.step (g' := fun _ => some _) (fun k => by simp only [table_asked.j0]; rw [if_neg (by decide), if_pos c])
   ·rw [decide_eq_true (Int.not_le.1 c), if_pos rfl]
    exact h.step (fun k => by simp only [table_asked.j0]; rw [if_neg (by decide), if_neg c]; rfl)
 unfold askE
 rw [ask_test]
 cases row with
 | true => exact (hj _).congr (fun k => if_pos rfl)
 | false => exact (hj true).congr (fun k => if_neg (by decide))
theorem askR_j (st hd sy : Int) (vs : List Vr) (rs : List Rw) (ce : Int) (l : List Int) (hl : l.length ≤ B47) (n : Nat) (row : Bool) : Evn (fun k => if row = true then vivariumref10_asked.j0 k ce l ((l.length : Int) != (n : Int)) st hd sy vs rs else vivariumref10_asked.j0 k ce l true st hd sy vs rs) (askE st n row ce l) := by
 have h := askR_go st hd sy vs rs l hl l.length 0 (by omega)
 rw [List.drop_zero] at h
 have hj : ∀ q : Bool, Evn (fun k => vivariumref10_asked.j0 k ce l q st hd sy vs rs) (if (!q) = true then (if decide (wrap64 ce < st) = true then (if l.all (fun s => decide (wrap64 s < st)) = true then 0 else 7) else 7) else 2) := fun q => by
  cases q with
  | true => exact Evn.const.step (g' := fun _ => some _) (fun k => by simp only [vivariumref10_asked.j0, if_true]; rfl)
  | false =>
   rw [if_pos (show (!false) = true from rfl)]
   by_cases c : wrap64 ce ≥ st
   ·rw [decide_eq_false (Int.not_lt.2 c), if_neg (by decide)]
    exact Evn.const.step (g' := fun _ => some _) (fun k => by simp only [vivariumref10_asked.j0]; rw [if_neg (by decide), if_pos c])
   ·rw [decide_eq_true (Int.not_le.1 c), if_pos rfl]
    exact h.step (fun k => by simp only [vivariumref10_asked.j0]; rw [if_neg (by decide), if_neg c]; rfl)
 unfold askE
 rw [ask_test]
 cases row with
 | true => exact (hj _).congr (fun k => if_pos rfl)
 | false => exact (hj true).congr (fun k => if_neg (by decide))
theorem askP_ev {st hd sy : Int} {vs : List Vr} {rs : List Rw} {e : Int} (hc : Evn (fun k => table_Check.f k st hd sy vs rs) e) (ce : Int) (l : List Int) (hl : l.length ≤ B47) (row : Bool) : Evn (fun k => table_asked.f k st hd sy vs rs row ce l) (if e = 0 then askE st (nearN hd) row ce l else e) := by
 have h := askP_j st hd sy vs rs ce l hl (nearN hd) row
 refine Evn.congr (g' := fun k => (table_Check.f k st hd sy vs rs).bind fun e => if e = 0 then (if row = true then table_asked.j0 k ce l ((l.length : Int) != (nearN hd : Int)) st hd sy vs rs else table_asked.j0 k ce l true st hd sy vs rs) else some e) ?_ (fun k => by
  unfold table_asked.f; rw [sizeP]; simp only [Option.bind_some])
 refine Evn.bind hc ?_
 by_cases c : e = 0
 ·rw [if_pos c]; exact h.congr (fun k => if_pos c)
 ·rw [if_neg c]; exact Evn.congr (g' := fun _ => some e) Evn.const (fun k => if_neg c)
theorem askR_ev (st hd sy : Int) (vs : List Vr) (rs : List Rw) (ce : Int) (l : List Int) (hl : l.length ≤ B47) (row : Bool) : Evn (fun k => vivariumref10_asked.f k st hd sy vs rs row ce l) (askE st (nearN hd) row ce l) := by
 have h := askR_j st hd sy vs rs ce l hl (nearN hd) row
 exact h.congr (fun k => by unfold vivariumref10_asked.f; rw [sizeR]; simp only [Option.bind_some])
theorem ask_ok {st : Int} {n : Nat} {row : Bool} {ce : Int} {l : List Int} (h : askE st n row ce l = 0) : row = true ∧ l.length = n ∧ wrap64 ce < st := by
 unfold askE at h
 by_cases c : (row && decide (l.length = n)) = true
 ·rw [if_pos c] at h
  rw [Bool.and_eq_true, decide_eq_true_eq] at c
  by_cases c2 : wrap64 ce < st
  ·exact ⟨c.1, c.2, c2⟩
  ·rw [decide_eq_false c2, if_neg (by decide)] at h; exact absurd h (by decide)
 ·rw [if_neg c] at h; exact absurd h (by decide)
/-- The orders of a symmetry that is no permute. -/
def groupN (sy hd : Int) : List (List Int) := ((table_Group.f 10 sy hd).map (·.1)).getD []
theorem group_all : ((List.range 11).all fun s => (List.range 4).all fun h => s == 6 || mayN s h != 0 || (table_Group.f 10 (s : Int) (h : Int) == some (groupN s h, 0) && vivariumref10_Group.f 10 (s : Int) (h : Int) == some (groupN s h, 0) && okG (groupN s h) (nearN h))) = true := by decide +kernel
theorem group_tab (s : Nat) (hs : s < 11) (h : Nat) (hh : h < 4) (h6 : s ≠ 6) (hm : mayN s h = 0) : table_Group.f 10 (s : Int) (h : Int) = some (groupN s h, 0) ∧ vivariumref10_Group.f 10 (s : Int) (h : Int) = some (groupN s h, 0) ∧ okG (groupN s h) (nearN h) = true := by
 have h1 := List.all_eq_true.1 (List.all_eq_true.1 group_all s (List.mem_range.2 hs)) h (List.mem_range.2 hh)
 rw [beq_eq_false_iff_ne.2 h6, hm] at h1
 simp only [Bool.false_or, Bool.or_eq_true, Bool.and_eq_true, beq_iff_eq] at h1
 rcases h1 with h1 | h1
 ·exact absurd h1 (by decide)
 ·exact ⟨h1.1.1, h1.1.2, h1.2⟩
theorem group_ev {sy hd : Int} (h0 : 0 ≤ sy) (hm : mayN sy hd = 0) (hn : nearN hd ≠ 0) (h6 : sy ≠ 6) : Evn (fun k => table_Group.f k sy hd) (groupN sy hd, 0) ∧ Evn (fun k => vivariumref10_Group.f k sy hd) (groupN sy hd, 0) ∧ okG (groupN sy hd) (nearN hd) = true := by
 have h10 : sy ≤ 10 := by
  by_cases c : sy > 10
  ·have e : mayN sy hd = 103 := by unfold mayN table_may.f; rw [if_pos c]; rfl
   rw [e] at hm; exact absurd hm (by decide)
  ·omega
 obtain ⟨s, rfl⟩ : ∃ s : Nat, sy = s := ⟨sy.toNat, by omega⟩
 obtain ⟨h, rfl, h4⟩ : ∃ h : Nat, hd = h ∧ h < 4 := by
  unfold nearN at hn
  by_cases c1 : hd = 1
  ·exact ⟨1, c1, by decide⟩
  ·by_cases c2 : hd = 2
   ·exact ⟨2, c2, by decide⟩
   ·by_cases c3 : hd = 3
    ·exact ⟨3, c3, by decide⟩
    ·rw [if_neg c1, if_neg c2, if_neg c3] at hn; exact absurd rfl hn
 obtain ⟨q1, q2, q3⟩ := group_tab s (by omega) h h4 (by omega) hm
 exact ⟨leo_up (fun k => table_Group.mono _ _ k) q1, leo_up (fun k => vivariumref10_Group.mono _ _ k) q2, q3⟩
/-- The orders that a row is held against: of permute none. -/
def ordersN (sy hd : Int) : List (List Int) := if sy = 6 then [] else groupN sy hd
theorem orders_ev {nm : ByteArray → Bool} {st hd sy : Int} {vs : List Vr} {rs : List Rw} (h0 : 0 ≤ sy) (h : TabOK nm st hd sy vs rs) : Evn (fun k => table_orders.f k st hd sy vs rs) (ordersN sy hd) ∧ okG (ordersN sy hd) (nearN hd) = true := by
 unfold ordersN
 by_cases c : sy = 6
 ·rw [if_pos c]
  exact ⟨Evn.congr (g' := fun _ => some []) Evn.const (fun k => by unfold table_orders.f; rw [if_pos c]), rfl⟩
 ·rw [if_neg c]
  obtain ⟨q1, _, q3⟩ := group_ev h0 h.may h.near c
  refine ⟨Evn.congr (g' := fun k => (table_Group.f k sy hd).bind fun g => some g.1) (Evn.bind q1 Evn.const) (fun k => by unfold table_orders.f; rw [if_neg c]), q3⟩
theorem tm_lt {st : Int} {vs : List Vr} {x : Tm} (h : tmOK st vs x = true) : x.f1 < (vs.length : Int) := by
 unfold tmOK at h
 by_cases c : x.f1 = -1
 ·omega
 ·rw [if_neg c, Bool.and_eq_true, Bool.and_eq_true, decide_eq_true_eq, decide_eq_true_eq] at h
  exact h.1.2
theorem say_ok {nm : ByteArray → Bool} {st hd sy : Int} {vs : List Vr} {rs : List Rw} (h : TabOK nm st hd sy vs rs) {r : Rw} (hr : r ∈ rs) {ce : Int} {l : List Int} (hc : 0 ≤ ce ∧ ce ≤ 255) (hl : l.length = nearN hd) (hu : okU l = true) : okSay vs r.f0.f1 r.f1 r.f2.f1 ce l = true ∧ (r.f2.f1 < 0 ∨ r.f0.f1 = r.f2.f1 ∨ ∃ x ∈ r.f1, x.f1 = r.f2.f1) ∧ r.f1.length = nearN hd := by
 have h1 := List.all_eq_true.1 h.rows r hr
 unfold rowOK at h1
 simp only [Bool.and_eq_true, decide_eq_true_eq, List.all_eq_true] at h1
 obtain ⟨⟨⟨⟨a1, a2⟩, a3⟩, a4⟩, a5⟩ := h1
 have hn := nearN_le hd
 refine ⟨?_, ?_, a1⟩
 ·unfold okSay
  simp only [Bool.and_eq_true, decide_eq_true_eq, List.all_eq_true]
  exact ⟨⟨⟨⟨⟨⟨⟨h.vs64, fun x hx => tm_lt (a5 x hx)⟩, tm_lt a2⟩, tm_lt a3⟩, by omega⟩, by omega⟩, hc⟩, hu⟩
 ·unfold bdOK at a4
  simp only [Bool.or_eq_true, decide_eq_true_eq, beq_iff_eq, List.any_eq_true] at a4
  rcases a4 with (h | h) | h
  ·exact .inl h
  ·exact .inr (.inl h)
  ·exact .inr (.inr h)
/-- A row says the same to both. -/
theorem says_same (vs : List Vr) (sy : Int) (r : Rw) (gs : List (List Int)) (ce : Int) (l : List Int) (hc : 0 ≤ ce ∧ ce ≤ 255) (hu : okU l = true) (hg : ∀ g ∈ gs, g.length = r.f1.length) (hb : r.f2.f1 < 0 ∨ r.f0.f1 = r.f2.f1 ∨ ∃ x ∈ r.f1, x.f1 = r.f2.f1) : oneF vs sy r.f0 r.f1 r.f2 gs ce l = saysF vs sy r.f0 r.f1 r.f2 gs ce l := by
 unfold oneF saysF
 by_cases c : fitB vs bd0 r.f0 ce = true
 ·rw [if_pos c, if_pos c]
  have ht0 : Told r.f2 (r.f0 :: r.f1) bd0 := by
   rcases hb with h | h | ⟨x, hx, e⟩
   ·exact .inl h
   ·exact .inr (.inr ⟨_, List.mem_cons_self, h⟩)
   ·exact .inr (.inr ⟨x, List.mem_cons_of_mem _ hx, e⟩)
  have ht := told_fit vs ht0 sane0 hc.1 hc.2 c
  have hs := sane_fit vs sane0 r.f0 hc.2
  by_cases c6 : sy = 6
  ·rw [if_pos c6, if_pos c6, free_eq]
   exact any_out vs r.f2 l (okU_rd hu) r.f1 _ _ hs ht
  ·rw [if_neg c6, if_neg c6]
   exact ord_out vs r.f2 r.f1 l (okU_rd hu) _ hs ht gs hg
 ·rw [if_neg c, if_neg c]
theorem saysR_ev {nm : ByteArray → Bool} {st hd sy : Int} {vs : List Vr} {rs : List Rw} (h0 : 0 ≤ sy) (h : TabOK nm st hd sy vs rs) {r : Rw} (hr : r ∈ rs) {ce : Int} {l : List Int} (hc : 0 ≤ ce ∧ ce ≤ 255) (hl : l.length = nearN hd) (hu : okU l = true) : Evn (fun k => vivariumref10_Says.f k st hd sy vs rs r.f0.f0 r.f0.f1 r.f1 r.f2.f0 r.f2.f1 ce l) (resP (oneF vs sy r.f0 r.f1 r.f2 (ordersN sy hd) ce l)) := by
 obtain ⟨hs, hb, hn⟩ := say_ok h hr hc hl hu
 have ho := (orders_ev h0 h).2
 rw [says_same vs sy r _ ce l hc hu (fun g hg => by rw [hn]; exact (okG_all ho g hg).1) hb]
 unfold ordersN at ho ⊢
 by_cases c : sy = 6
 ·rw [if_pos c]
  subst c
  exact Evn.congr (g' := fun _ => some (resP (saysF vs 6 r.f0 r.f1 r.f2 [] ce l))) Evn.const (fun k => by unfold vivariumref10_Says.f; rw [if_pos hs, if_pos rfl])
 ·rw [if_neg c] at ho ⊢
  obtain ⟨_, q2, _⟩ := group_ev h0 h.may h.near c
  refine Evn.congr ?_ (fun k => by unfold vivariumref10_Says.f; rw [if_pos hs, if_neg c])
  refine Evn.bind q2 ?_
  exact Evn.congr (g' := fun _ => some (resP (saysF vs sy r.f0 r.f1 r.f2 (groupN sy hd) ce l))) Evn.const (fun k => by
   rw [if_pos (by rw [hl]; exact ho)])
theorem fits_both (nm : ByteArray → Bool) (hnm : ∀ s : ByteArray, s.size ≤ B47 → Evn (fun k => vivariumref10_isName.f k s) (nm s) ∧ Evn (fun k => table_named.f k s) (nm s && (s.toList != ([118, 97, 114] : List UInt8)))) (st hd sy : Int) (vs : List Vr) (rs : List Rw) (hy0 : 0 ≤ sy) (hv : vs.length ≤ B47) (hr : rs.length ≤ B47) (hV : ∀ v ∈ vs, v.f0.size ≤ B47 ∧ v.f1.length ≤ B47) (hR : ∀ r ∈ rs, r.f1.length ≤ B47) (row ce : Int) (l : List Int) (hl : l.length ≤ B47) (hc : 0 ≤ ce ∧ ce ≤ 255) (hu : okU l = true) :
  ∃ q : Int × Bool × Int, Evn (fun k => table_Fits.f k st hd sy vs rs row ce l) q ∧ Evn (fun k => vivariumref10_Fits.f k st hd sy vs rs row ce l) q := by
 obtain ⟨e, e1, e2, e3⟩ := check_ev nm hnm st hd sy vs rs hy0 hv hr hV hR
 have p1 := askP_ev e1 ce l hl (decide (0 ≤ row ∧ row < (rs.length : Int)))
 have p2 := askR_ev st hd sy vs rs ce l hl (decide (0 ≤ row ∧ row < (rs.length : Int)))
 by_cases c : e = 0
 ·have ht := e3.1 c
  rw [if_pos c] at p1
  subst c
  obtain ⟨a, ha⟩ : ∃ a, askE st (nearN hd) (decide (0 ≤ row ∧ row < (rs.length : Int))) ce l = a := ⟨_, rfl⟩
  rw [ha] at p1 p2
  by_cases ca : a = 0
  ·subst ca
   obtain ⟨a1, a2, _⟩ := ask_ok ha
   rw [decide_eq_true_eq] at a1
   obtain ⟨i, hi⟩ : ∃ i : Nat, row = i := ⟨row.toNat, by omega⟩
   have hil : i < rs.length := by omega
   have hmem : rs[i] ∈ rs := List.getElem_mem hil
   have hrd : rd_T62 rs row = rs[i] := by rw [hi]; exact rd_62 rs i hil
   obtain ⟨o1, o2⟩ := orders_ev hy0 ht
   have hs := saysR_ev hy0 ht hmem hc a2 hu
   have hk := (say_ok ht hmem hc a2 hu).1
   refine ⟨((resP (oneF vs sy rs[i].f0 rs[i].f1 rs[i].f2 (ordersN sy hd) ce l)).1, (resP (oneF vs sy rs[i].f0 rs[i].f1 rs[i].f2 (ordersN sy hd) ce l)).2, 0), ?_, ?_⟩
   ·unfold table_Fits.f
    refine Evn.bind p1 ?_
    refine Evn.congr (g' := fun k => (table_orders.f k st hd sy vs rs).bind fun gs => if okSay vs rs[i].f0.f1 rs[i].f1 rs[i].f2.f1 ce l = true then (if okG gs l.length = true then some ((resP (oneF vs sy rs[i].f0 rs[i].f1 rs[i].f2 gs ce l)).1, (resP (oneF vs sy rs[i].f0 rs[i].f1 rs[i].f2 gs ce l)).2, 0) else none) else none) ?_ (fun k => by rw [if_pos rfl, if_pos a1, hrd])
    refine Evn.bind o1 ?_
    exact Evn.congr (g' := fun _ => some _) Evn.const (fun k => by rw [if_pos hk, if_pos (by rw [a2]; exact o2)])
   ·unfold vivariumref10_Fits.f
    refine Evn.bind e2 ?_
    refine Evn.congr (g' := fun k => (vivariumref10_asked.f k st hd sy vs rs (decide (0 ≤ row ∧ row < (rs.length : Int))) ce l).bind fun e2 => if e2 = 0 then (vivariumref10_Says.f k st hd sy vs rs rs[i].f0.f0 rs[i].f0.f1 rs[i].f1 rs[i].f2.f0 rs[i].f2.f1 ce l).bind fun q => some (q.1, q.2, 0) else some (0, false, e2)) ?_ (fun k => by rw [if_pos rfl, hrd]; simp only [if_pos a1])
    refine Evn.bind p2 ?_
    refine Evn.congr ?_ (fun k => if_pos rfl)
    exact Evn.bind hs Evn.const
  ·refine ⟨(0, false, a), ?_, ?_⟩
   ·unfold table_Fits.f
    refine Evn.bind p1 ?_
    exact Evn.congr (g' := fun _ => some _) Evn.const (fun k => if_neg ca)
   ·unfold vivariumref10_Fits.f
    refine Evn.bind e2 ?_
    refine Evn.congr ?_ (fun k => if_pos rfl)
    refine Evn.bind p2 ?_
    exact Evn.congr (g' := fun _ => some _) Evn.const (fun k => if_neg ca)
 ·rw [if_neg c] at p1
  refine ⟨(0, false, e), ?_, ?_⟩
  ·unfold table_Fits.f
   refine Evn.bind p1 ?_
   exact Evn.congr (g' := fun _ => some _) Evn.const (fun k => if_neg c)
  ·unfold vivariumref10_Fits.f
   refine Evn.bind e2 ?_
   exact Evn.congr (g' := fun _ => some _) Evn.const (fun k => if_neg c)
/-- What the first row says that fits. -/
def nextF (sy : Int) (vs : List Vr) (gs : List (List Int)) (ce : Int) (l : List Int) : List Rw → Int
 | [] => ce
 | r :: rs => match oneF vs sy r.f0 r.f1 r.f2 gs ce l with
  | some v => v
  | none => nextF sy vs gs ce l rs
theorem nextP_is (sy : Int) (vs : List Vr) (gs : List (List Int)) (ce : Int) (l : List Int) : ∀ rs : List Rw, (∀ r ∈ rs, okSay vs r.f0.f1 r.f1 r.f2.f1 ce l = true) → table_Next.g sy vs gs ce l rs = some (nextF sy vs gs ce l rs)
 | [], _ => rfl
 | r :: rs, h => by
  rw [table_Next.g, nextF, if_pos (h r List.mem_cons_self)]
  cases oneF vs sy r.f0 r.f1 r.f2 gs ce l with
  | some v => rfl
  | none => exact nextP_is sy vs gs ce l rs (fun r' h' => h r' (List.mem_cons_of_mem _ h'))
theorem nextR_ev {nm : ByteArray → Bool} {st hd sy : Int} {vs : List Vr} {all : List Rw} (h0 : 0 ≤ sy) (h : TabOK nm st hd sy vs all) {ce : Int} {l : List Int} (hc : 0 ≤ ce ∧ ce ≤ 255) (hl : l.length = nearN hd) (hu : okU l = true) : ∀ rs : List Rw, (∀ r ∈ rs, r ∈ all) → Evn (fun k => vivariumref10_First.g k st hd sy vs all ce l rs) (nextF sy vs (ordersN sy hd) ce l rs)
 | [], _ => Evn.const
 | r :: rs, hm => by
  have ih := nextR_ev h0 h hc hl hu rs (fun r' h' => hm r' (List.mem_cons_of_mem _ h'))
  have hs := saysR_ev h0 h (hm r List.mem_cons_self) hc hl hu
  refine Evn.congr (g' := fun k => (vivariumref10_Says.f k st hd sy vs all r.f0.f0 r.f0.f1 r.f1 r.f2.f0 r.f2.f1 ce l).bind fun q => if q.2 = true then some q.1 else vivariumref10_First.g k st hd sy vs all ce l rs) ?_ (fun k => by rw [vivariumref10_First.g])
  refine Evn.bind hs ?_
  rw [nextF]
  cases oneF vs sy r.f0 r.f1 r.f2 (ordersN sy hd) ce l with
  | some v => exact Evn.congr (g' := fun _ => some v) Evn.const (fun k => if_pos rfl)
  | none => exact ih.congr (fun k => if_neg (by decide))
theorem next_both (nm : ByteArray → Bool) (hnm : ∀ s : ByteArray, s.size ≤ B47 → Evn (fun k => vivariumref10_isName.f k s) (nm s) ∧ Evn (fun k => table_named.f k s) (nm s && (s.toList != ([118, 97, 114] : List UInt8)))) (st hd sy : Int) (vs : List Vr) (rs : List Rw) (hy0 : 0 ≤ sy) (hv : vs.length ≤ B47) (hr : rs.length ≤ B47) (hV : ∀ v ∈ vs, v.f0.size ≤ B47 ∧ v.f1.length ≤ B47) (hR : ∀ r ∈ rs, r.f1.length ≤ B47) (ce : Int) (l : List Int) (hl : l.length ≤ B47) (hc : 0 ≤ ce ∧ ce ≤ 255) (hu : okU l = true) :
  ∃ e a : Int, Evn (fun k => table_Check.f k st hd sy vs rs) e ∧ (e = 0 ↔ TabOK nm st hd sy vs rs) ∧ a = (if e = 0 then askE st (nearN hd) true ce l else e) ∧ Evn (fun k => table_Next.f k st hd sy vs rs ce l) (if a = 0 then nextF sy vs (ordersN sy hd) ce l rs else 0, a) ∧ Evn (fun k => vivariumref10_Next.f k st hd sy vs rs ce l) (if a = 0 then nextF sy vs (ordersN sy hd) ce l rs else 0, a) := by
 obtain ⟨e, e1, e2, e3⟩ := check_ev nm hnm st hd sy vs rs hy0 hv hr hV hR
 have p1 := askP_ev e1 ce l hl true
 have p2 := askR_ev st hd sy vs rs ce l hl true
 refine ⟨e, _, e1, e3, rfl, ?_⟩
 by_cases c : e = 0
 ·have ht := e3.1 c
  rw [if_pos c] at p1 ⊢
  subst c
  obtain ⟨a, ha⟩ : ∃ a, askE st (nearN hd) true ce l = a := ⟨_, rfl⟩
  rw [ha] at p1 p2 ⊢
  by_cases ca : a = 0
  ·subst ca
   obtain ⟨_, a2, _⟩ := ask_ok ha
   obtain ⟨o1, o2⟩ := orders_ev hy0 ht
   have hs := nextR_ev hy0 ht hc a2 hu rs (fun _ h => h)
   have hp := nextP_is sy vs (ordersN sy hd) ce l rs (fun r hr => (say_ok ht hr hc a2 hu).1)
   rw [if_pos rfl]
   constructor
   ·unfold table_Next.f
    refine Evn.bind p1 ?_
    refine Evn.congr ?_ (fun k => if_pos rfl)
    refine Evn.bind o1 ?_
    exact Evn.congr (g' := fun _ => some _) Evn.const (fun k => by rw [if_pos (by rw [a2]; exact o2), hp]; rfl)
   ·unfold vivariumref10_Next.f
    refine Evn.bind e2 ?_
    refine Evn.congr ?_ (fun k => if_pos rfl)
    refine Evn.bind p2 ?_
    refine Evn.congr ?_ (fun k => if_pos rfl)
    exact Evn.bind hs Evn.const
  ·rw [if_neg ca]
   constructor
   ·unfold table_Next.f
    refine Evn.bind p1 ?_
    exact Evn.congr (g' := fun _ => some _) Evn.const (fun k => if_neg ca)
   ·unfold vivariumref10_Next.f
    refine Evn.bind e2 ?_
    refine Evn.congr ?_ (fun k => if_pos rfl)
    refine Evn.bind p2 ?_
    exact Evn.congr (g' := fun _ => some _) Evn.const (fun k => if_neg ca)
 ·rw [if_neg c] at p1 ⊢
  rw [if_neg c]
  constructor
  ·unfold table_Next.f
   refine Evn.bind p1 ?_
   exact Evn.congr (g' := fun _ => some _) Evn.const (fun k => if_neg c)
  ·unfold vivariumref10_Next.f
   refine Evn.bind e2 ?_
   exact Evn.congr (g' := fun _ => some _) Evn.const (fun k => if_neg c)
end Go.Proofs.Ytajhfkcmfmhnaaa.L
end

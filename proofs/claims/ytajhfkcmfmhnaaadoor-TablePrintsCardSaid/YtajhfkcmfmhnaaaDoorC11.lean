-- Written by a program of this session (wip/tools/shake.py): texts of this claim, of each what the claim names.
import Derived.Test.YtajhfkcmfmhnaaaDoorC2
import Derived.Test.YtajhfkcmfmhnaaaDoorC3
import Derived.Test.YtajhfkcmfmhnaaaDoorC5
import Derived.Test.YtajhfkcmfmhnaaaDoorC9
import Derived.Lib.Walk
import Derived.Lib.Builder
import Derived.Lib.AppendStr
import Derived.Lib.UnsafeStr
import Derived.WalkKit
import Derived.BigCall
import Derived.Laws.Externs
import Derived.Laws.IdiomCopy
import Derived.Laws.BitsLemmas
import Derived.Deep.DeepMust
section
set_option linter.unusedVariables false
namespace Go.Proofs.YtajhfkcmfmhnaaaDoor.L
open Go.Shelf Go.RowKit
theorem sizeBld : (Tryd.prog.info? 56).map (·.size) = some 2 := by kernel_rfl
theorem liesBld : liesAt Tryd.prog Tryd.prog.depth 56 (2 / Tryd.prog.cellsOf 56) 0 56 1 = true := by kernel_rfl
theorem infoByt : (Tryd.prog.info? 5).map (fun i => (i.zero, i.size, i.bytes)) = some (some (.int .u8 0), 1, 1) := by kernel_rfl
/-- Blocks that are neither the builder's own nor bytes lie as they lay. -/
def KeptB (B : Nat) (w w' : World) : Prop := ∀ (k : Nat) (cs : Array Value) (t : TypeId) (fr : Nat × Nat), w.heap[k]? = some (.cells cs t fr) → t ≠ 5 → k ≠ B → w'.heap[k]? = some (.cells cs t fr)
theorem KeptB.refl (B : Nat) (w : World) : KeptB B w w := fun _ _ _ _ h _ _ => h
theorem KeptB.trans {B : Nat} {w w1 w2 : World} (h : KeptB B w w1) (h2 : KeptB B w1 w2) : KeptB B w w2 := fun k cs t fr a b c => h2 k cs t fr (h k cs t fr a b c) b c
theorem keptB_below {B : Nat} {w w1 : World} (h : Below w.heap.size w w1) : KeptB B w w1 := fun k cs t fr a _ _ => (h.block k (Array.getElem?_eq_some_iff.1 a).1).trans a
theorem keptB_set {B : Nat} (w : World) (j : Nat) (v : Value) : KeptB B w (w.setCell ⟨B, j, none⟩ v) := fun k cs t fr a _ c => (Below.heap_setCell w ⟨B, j, none⟩ v k c).trans a
theorem keptB_grown {B b0 : Nat} {w w1 : World} {v : Value} {n : Nat} {xs : List Value} (hown : w.ownsRow b0 5 1 v n xs) (h : w.grownBy w1 v.ownBlock) : KeptB B w w1 := fun k cs t fr a b _ =>
 (h.block k (Array.getElem?_eq_some_iff.1 a).1 (fun e => Lib.ownBlock_ne hown a (fun e2 => b e2) e.symm)).trans a
set_option maxHeartbeats 1000000 in
set_option maxRecDepth 100000 in
theorem copy_used (b : Nat) (w : World) (h0 : w.cell? ⟨b, 0, none⟩ = some (.pointer (some ⟨b, 0, none⟩))) :
  Calls Tryd.prog 41 #[.pointer (some ⟨b, 0, none⟩)] w fun e w' => e = .returned (.tuple #[]) ∧ w' = w := by
 obtain ⟨j, hj, _⟩ := Option.map_eq_some_iff.1 sizeBld
 go_enter Tryd.func41, Tryd.ntmps41
 go_wp2
 rw [Lib.run_neq_ptr_same w _ Tryd.underlying54 hj]
 go_wp2
 go_end0
 exact ⟨rfl, rfl⟩
set_option maxHeartbeats 1000000 in
set_option maxRecDepth 100000 in
theorem copy_fresh (b : Nat) (w : World) (h0 : w.cell? ⟨b, 0, none⟩ = some (.pointer none)) (hsh : w.shape? b = some (56, 2)) (hfz : w.frozen? ⟨b, 0, none⟩ = false) :
  Calls Tryd.prog 41 #[.pointer (some ⟨b, 0, none⟩)] w fun e w' => e = .returned (.tuple #[]) ∧ w' = w.setCell ⟨b, 0, none⟩ (.pointer (some ⟨b, 0, none⟩)) := by
 obtain ⟨j, hj, hjs⟩ := Option.map_eq_some_iff.1 sizeBld
 go_enter Tryd.func41, Tryd.ntmps41
 go_wp2
 rw [Lib.run_to_unsafe w ⟨b, 0, none⟩ Tryd.underlying54 Tryd.underlying96 hj (by rw [hjs]; decide) hsh (Nat.zero_lt_succ 1)]
 simp only [Result.andThen]
 rw [Oper.upon_value]
 go_wp2
 rw [run_callFunc_extern Tryd.func52 (by kernel_rfl) (by kernel_rfl) (by kernel_rfl) (e := Extern.AbiNoEscape.same) (by kernel_rfl)]
 rw [Lib.run_noEscape]
 simp only [Result.andThen]
 rw [Oper.upon_value]
 go_wp2
 rw [Lib.run_from_unsafe w ⟨b, 0, none⟩ Tryd.underlying96 Tryd.underlying54 hj hsh liesBld]
 simp only [Result.andThen]
 rw [Oper.upon_value]
 go_wp2
 go_end0
 exact ⟨rfl, rfl⟩
theorem copy_any (B b : Nat) (bs : List Value) (w : World) (h : Lib.IsBuilder 56 5 B b bs w) :
  Calls Tryd.prog 41 #[.pointer (some ⟨b, 0, none⟩)] w fun e w' => e = .returned (.tuple #[]) ∧ (Lib.BuilderAt 56 5 B b (.pointer (some ⟨b, 0, none⟩)) bs w' ∧ Below B w w' ∧ KeptB b w w') := by
 rcases h with h | h
 ·refine (copy_fresh b w h.cell0 h.shape h.frozen0).mono ?_
  rintro e w' ⟨rfl, rfl⟩
  exact ⟨rfl, h.used _, (Below.refl B w).setCell (p := ⟨b, 0, none⟩) h.1 _, keptB_set w 0 _⟩
 ·refine (copy_used b w h.cell0).mono ?_
  rintro e w' ⟨rfl, rfl⟩
  exact ⟨rfl, h, Below.refl B _, KeptB.refl b _⟩
set_option maxHeartbeats 2000000 in
set_option maxRecDepth 100000 in
theorem write_byte (B b : Nat) (bs : List Value) (c : Int) (w : World) (h : Lib.IsBuilder 56 5 B b bs w) (hlen : bs.length + 1 ≤ 140737488355328) (hBw : B ≤ w.heap.size) :
  Calls Tryd.prog 28 #[.pointer (some ⟨b, 0, none⟩), .int .u8 c] w fun e w' => e = .returned .nilIface ∧ (Lib.BuilderAt 56 5 B b (.pointer (some ⟨b, 0, none⟩)) (bs ++ [.int .u8 c]) w' ∧ Below B w w' ∧ KeptB b w w') := by
 obtain ⟨i0, hi, hz0, hz1, hz2⟩ := info_parts infoByt
 have ec : ∀ args w, (callFunc 41 args).run Tryd.prog w = .ok (.enter 41 args) w := enters_of Tryd.func41 (by kernel_rfl) rfl
 go_enter Tryd.func28, Tryd.ntmps28
 go_wp2_with (go_at_call 41; refine (copy_any B b bs _ h).mono ?_)
 rintro e w1 ⟨rfl, h1, hb1, hkp⟩
 obtain ⟨hB, v, hbk, hown, hne⟩ := h1
 have c0 : w1.cell? ⟨b, 0, none⟩ = some (.pointer (some ⟨b, 0, none⟩)) := by rw [Lib.cell_of_heap hbk]; rfl
 have c1 : w1.cell? ⟨b, 1, none⟩ = some v := by rw [Lib.cell_of_heap hbk]; rfl
 go_wp2_with (at_builtin; refine wpList_append_own _ rfl _ _ 46 rfl B 5 i0 (.int .u8 0) 1 1 Tryd.underlying46 hi hz0 hz1 hz2 rfl (by decide) _ _ _ rfl (hown.alloc _) ⟨w1.heap.size, 0, none⟩ 1 1 [.int .u8 c] rfl rfl ?c1 ?c2 ?c3 ?c4 ?c5 ?_)
 case c1 =>
  intro j u hj
  match j, hj with
  | 0, hj => simp at hj; subst hj; simp [Addr.add]
 case c2 => intro u hu; simp at hu; subst hu; rfl
 case c3 => unfold maxLen; omega
 case c4 => omega
 case c5 => have := hb1.size; simp; omega
 intro v' w2 hown' hgrow _
 have hlt : b < w1.heap.size := by
  rcases Nat.lt_or_ge b w1.heap.size with h' | h'
  ·exact h'
  ·simp [Array.getElem?_eq_none h'] at hbk
 have hb2 : w2.heap[b]? = some (.cells #[.pointer (some ⟨b, 0, none⟩), v] 56 (0, 0)) := by
  rw [hgrow.block b (by simp; omega) (fun e => hne e.symm), Lib.alloc_old w1 _ b hlt]
  exact hbk
 have d0 : w2.cell? ⟨b, 0, none⟩ = some (.pointer (some ⟨b, 0, none⟩)) := by rw [Lib.cell_of_heap hb2]; rfl
 have d1 : w2.cell? ⟨b, 1, none⟩ = some v := by rw [Lib.cell_of_heap hb2]; rfl
 have f1 : w2.frozen? ⟨b, 1, none⟩ = false := Lib.frozen_of_heap hb2 1
 obtain ⟨g, cap, rfl⟩ : ∃ g cap, v' = .slice (some ⟨g, 0, none⟩) (bs.length + 1) cap := by
  rcases hown'.2 with ⟨_, h0⟩ | ⟨g, cap, cur, hv, _⟩
  ·omega
  ·exact ⟨g, cap, hv⟩
 go_wp2
 go_ret
 refine ⟨rfl, ?_, ?_, ?_⟩
 ·exact Lib.BuilderAt.put hB hb2 (bs' := bs ++ [.int .u8 c]) (by simpa using hown') (by decide)
 ·exact ((hb1.alloc (by have := hb1.size; omega) _).grown hgrow (by have := hb1.size; simp; omega) (fun k hk => (hown.lt k hk).1)).setCell (p := ⟨b, 1, none⟩) hB _
 ·exact (hkp.trans ((keptB_below ((Below.refl w1.heap.size w1).alloc (Nat.le_refl _) _)).trans (keptB_grown (hown.alloc _) hgrow))).trans (keptB_set _ 1 _)
theorem bytes_str (l : List UInt8) (s : ByteArray) : Lib.byteCells l ++ Lib.strCells s = Lib.byteCells (l ++ s.data.toList) := by simp [Lib.byteCells, Lib.strCells]
set_option maxHeartbeats 2000000 in
set_option maxRecDepth 100000 in
theorem write_string (B b : Nat) (bs : List Value) (s : ByteArray) (w : World) (h : Lib.IsBuilder 56 5 B b bs w) (hlen : bs.length + s.size ≤ 140737488355328) (hBw : B ≤ w.heap.size) :
  Calls Tryd.prog 24 #[.pointer (some ⟨b, 0, none⟩), .string s] w fun e w' => e = .returned (.tuple #[.int .i64 s.size, .nilIface]) ∧ (Lib.BuilderAt 56 5 B b (.pointer (some ⟨b, 0, none⟩)) (bs ++ Lib.strCells s) w' ∧ Below B w w' ∧ KeptB b w w') := by
 obtain ⟨i0, hi, hz0, hz1, hz2⟩ := info_parts infoByt
 have ec : ∀ args w, (callFunc 41 args).run Tryd.prog w = .ok (.enter 41 args) w := enters_of Tryd.func41 (by kernel_rfl) rfl
 go_enter Tryd.func24, Tryd.ntmps24
 go_wp2_with (go_at_call 41; refine (copy_any B b bs _ h).mono ?_)
 rintro e w1 ⟨rfl, h1, hb1, hkp⟩
 obtain ⟨hB, v, hbk, hown, hne⟩ := h1
 have c0 : w1.cell? ⟨b, 0, none⟩ = some (.pointer (some ⟨b, 0, none⟩)) := by rw [Lib.cell_of_heap hbk]; rfl
 have c1 : w1.cell? ⟨b, 1, none⟩ = some v := by rw [Lib.cell_of_heap hbk]; rfl
 go_wp2_with (at_builtin; refine Lib.wpList_append_own_string _ rfl _ _ 46 9 rfl B 5 i0 Tryd.underlying46 Tryd.underlying9 hi hz0 hz1 hz2 _ _ _ rfl hown s rfl ?c3 ?c4 ?c5 ?_)
 case c3 => unfold maxLen; omega
 case c4 => omega
 case c5 => have := hb1.size; omega
 intro v' w2 hown' hgrow _
 have hlt : b < w1.heap.size := by
  rcases Nat.lt_or_ge b w1.heap.size with h' | h'
  ·exact h'
  ·simp [Array.getElem?_eq_none h'] at hbk
 have hb2 : w2.heap[b]? = some (.cells #[.pointer (some ⟨b, 0, none⟩), v] 56 (0, 0)) := by
  rw [hgrow.block b hlt (fun e => hne e.symm)]
  exact hbk
 have d0 : w2.cell? ⟨b, 0, none⟩ = some (.pointer (some ⟨b, 0, none⟩)) := by rw [Lib.cell_of_heap hb2]; rfl
 have d1 : w2.cell? ⟨b, 1, none⟩ = some v := by rw [Lib.cell_of_heap hb2]; rfl
 have f1 : w2.frozen? ⟨b, 1, none⟩ = false := Lib.frozen_of_heap hb2 1
 obtain ⟨ao, cap, rfl⟩ : ∃ ao cap, v' = .slice ao (bs.length + s.size) cap := by
  rcases hown'.2 with ⟨hv, h0⟩ | ⟨g, cap, cur, hv, _⟩
  ·exact ⟨none, 0, by rw [hv, h0]⟩
  ·exact ⟨_, _, hv⟩
 go_wp2
 go_ret2
 refine ⟨rfl, ?_, ?_, ?_⟩
 ·exact Lib.BuilderAt.put hB hb2 (bs' := bs ++ Lib.strCells s) (by rw [List.length_append, Lib.strCells_length]; exact hown') (by decide)
 ·exact (hb1.grown hgrow (by have := hb1.size; omega) (fun k hk => (hown.lt k hk).1)).setCell (p := ⟨b, 1, none⟩) hB _
 ·exact (hkp.trans (keptB_grown hown hgrow)).trans (keptB_set _ 1 _)
end Go.Proofs.YtajhfkcmfmhnaaaDoor.L
end
section
set_option linter.unusedVariables false
namespace Go.Proofs.YtajhfkcmfmhnaaaDoor.L
open Go.RowKit Go.Proofs.YtajhfkcmfmhnaaaDoor.P Go.Proofs.YtajhfkcmfmhnaaaDoorW.PrintWords Go.Proofs.YtajhfkcmfmhnaaaDoorW.PrintLast Go.Proofs.YtajhfkcmfmhnaaaDoorW.PrintMore
abbrev Bld (B : Nat) (l : List UInt8) (w : World) : Prop := Lib.IsBuilder 56 5 B B (Lib.byteCells l) w
theorem bldAt_below {T e B b : Nat} {p : Value} {bs : List Value} {w w' : World} (h : Lib.BuilderAt T e B b p bs w) (hb : Below w.heap.size w w') : Lib.BuilderAt T e B b p bs w' := by
 obtain ⟨hB, v, hbk, hown, hne⟩ := h
 exact ⟨hB, v, (hb.block b (blk_lt hbk)).trans hbk, pw_own_below hown hb, hne⟩
theorem bld_below {B : Nat} {l : List UInt8} {w w' : World} (h : Bld B l w) (hb : Below w.heap.size w w') : Bld B l w' := h.imp (fun h => bldAt_below h hb) (fun h => bldAt_below h hb)
theorem bld_lt {B : Nat} {l : List UInt8} {w : World} (h : Bld B l w) : B < w.heap.size := by
 rcases h with h | h
 ·exact h.lt
 ·exact h.lt
theorem bld_wrote {B : Nat} {l : List UInt8} {s : ByteArray} {w : World} {p : Value} (hp : p = .pointer (some ⟨B, 0, none⟩)) (h : Lib.BuilderAt 56 5 B B p (Lib.byteCells l ++ Lib.strCells s) w) : Bld B (l ++ s.data.toList) w := by
 subst hp
 refine .inr ?_
 rw [← bytes_str]
 exact h
theorem bld_byte {B : Nat} {l : List UInt8} {c : UInt8} {n : Int} (hc : n = (c.toNat : Int)) {w : World} {p : Value} (hp : p = .pointer (some ⟨B, 0, none⟩)) (h : Lib.BuilderAt 56 5 B B p (Lib.byteCells l ++ [.int .u8 n]) w) : Bld B (l ++ [c]) w := by
 subst hp hc
 refine .inr ?_
 rw [show Lib.byteCells (l ++ [c]) = Lib.byteCells l ++ [.int .u8 (c.toNat : Int)] from by simp [Lib.byteCells]]
 exact h
theorem write_str {B : Nat} {l : List UInt8} (s : ByteArray) {w : World} (h : Bld B l w) (hlen : l.length + s.size ≤ 140737488355328) :
  Calls Tryd.prog 24 #[.pointer (some ⟨B, 0, none⟩), .string s] w fun e w' => ∃ n : Int, e = .returned (.tuple #[.int .i64 n, .nilIface]) ∧ Bld B (l ++ s.data.toList) w' ∧ Below B w w' ∧ KeptB B w w' := by
 refine (write_string B B (Lib.byteCells l) s w h (by rw [Lib.byteCells_length]; exact hlen) (Nat.le_of_lt (bld_lt h))).mono ?_
 rintro e w' ⟨rfl, h1, h2, h3⟩
 exact ⟨_, rfl, bld_wrote rfl h1, h2, h3⟩
theorem write_b {B : Nat} {l : List UInt8} (c : UInt8) (n : Int) (hc : n = (c.toNat : Int)) {w : World} (h : Bld B l w) (hlen : l.length + 1 ≤ 140737488355328) :
  Calls Tryd.prog 28 #[.pointer (some ⟨B, 0, none⟩), .int .u8 n] w fun e w' => e = .returned .nilIface ∧ Bld B (l ++ [c]) w' ∧ Below B w w' ∧ KeptB B w w' := by
 refine (write_byte B B (Lib.byteCells l) n w h (by rw [Lib.byteCells_length]; exact hlen) (Nat.le_of_lt (bld_lt h))).mono ?_
 rintro e w' ⟨rfl, h1, h2, h3⟩
 exact ⟨rfl, bld_byte hc rfl h1, h2, h3⟩
theorem text_is (n : Int) (h0 : 0 ≤ n) (h1 : n ≤ 256) : whole_Text.f n = some (decS n) := by
 unfold whole_Text.f strconv_Itoa.f
 rw [if_pos ⟨by omega, by omega⟩]
 rfl
set_option maxHeartbeats 4000000 in
set_option maxRecDepth 100000 in
theorem tell_calls (B : Nat) (l : List UInt8) (st hd sy : Int) (vs : List Vr) (A3 : Option Addr) (c3 : Nat) (v4 : Value) (x : Tm) (w : World) (h : Bld B l w) (HTb : TabsOk w) (hV : Kd.C k49 w A3 vs.length vs) (hv : vs.all okVr = true) (hx : okTm vs x = true) (hl : l.length ≤ 1000000000) :
  Calls Tryd.prog 29 #[.pointer (some ⟨B, 0, none⟩), .agg #[.int .i64 st, .int .u8 hd, .int .u8 sy, .slice A3 vs.length c3, v4], .agg #[.int .u8 x.f0, .int .i64 x.f1]] w fun e w' => e = .returned (.tuple #[]) ∧ Bld B (l ++ tellL vs x) w' ∧ Below B w w' ∧ KeptB B w w' := by
 have hlen := tell_len hv hx
 have hBl := bld_lt h
 have HB := Aside0.mk h
 have HT := Aside0.mk HTb
 have HV := Aside0.mk hV
 unfold okTm at hx
 simp only [Bool.and_eq_true, decide_eq_true_eq] at hx
 have hsz : (tellS vs x).size = (tellL vs x).length := by unfold tellL; rw [Array.length_toList]; rfl
 obtain ⟨w2, hw2⟩ : ∃ w2, (w.alloc (Obj.cells #[.int .i64 st, .int .u8 hd, .int .u8 sy, .slice A3 vs.length c3, v4] 25)).alloc (Obj.cells #[.int .u8 x.f0, .int .i64 x.f1] 38) = w2 := ⟨_, rfl⟩
 have hb2 : Below w.heap.size w w2 := by rw [← hw2]; exact below_alloc (below_alloc (Below.refl _ _) _) _
 have HBB : Aside0 (Below B w w2 ∧ KeptB B w w2) := ⟨hb2.mono (Nat.le_of_lt hBl), keptB_below hb2⟩
 have HB2 := Aside0.mk (bld_below h hb2)
 have HT2 := Aside0.mk (tabs_below HTb hb2)
 have t3 : w2.cell? ⟨w.heap.size, 3, none⟩ = some (.slice A3 vs.length c3) := by rw [← hw2]; exact blk_cell (blk_alloc (blk_new _ _) _) 3
 have y0 : w2.cell? ⟨w.heap.size + 1, 0, none⟩ = some (.int .u8 x.f0) := by
  have h := blk_cell (blk_new (w.alloc (Obj.cells #[.int .i64 st, .int .u8 hd, .int .u8 sy, .slice A3 vs.length c3, v4] 25)) (Obj.cells #[.int .u8 x.f0, .int .i64 x.f1] 38)) 0
  rw [hw2, show (w.alloc (Obj.cells #[.int .i64 st, .int .u8 hd, .int .u8 sy, .slice A3 vs.length c3, v4] 25)).heap.size = w.heap.size + 1 from by simp] at h
  exact h
 have y1 : w2.cell? ⟨w.heap.size + 1, 1, none⟩ = some (.int .i64 x.f1) := by
  have h := blk_cell (blk_new (w.alloc (Obj.cells #[.int .i64 st, .int .u8 hd, .int .u8 sy, .slice A3 vs.length c3, v4] 25)) (Obj.cells #[.int .u8 x.f0, .int .i64 x.f1] 38)) 1
  rw [hw2, show (w.alloc (Obj.cells #[.int .i64 st, .int .u8 hd, .int .u8 sy, .slice A3 vs.length c3, v4] 25)).heap.size = w.heap.size + 1 from by simp] at h
  exact h
 clear h HTb hV
 unfold tellL at hlen hsz ⊢
 by_cases c : 0 ≤ x.f1
 ·obtain ⟨i, hi⟩ : ∃ i : Nat, x.f1 = i := ⟨x.f1.toNat, by omega⟩
  obtain ⟨ad, A1, c1, e3, r0, r1, _, _⟩ := at_T49 HV.out x.f1 c (by omega)
  have e : (rd_T49 vs x.f1).f0 = tellS vs x := by unfold tellS; rw [if_pos c]
  rw [e] at r0
  rw [hi] at r0 c ⊢
  rw [Int.toNat_natCast] at r0
  obtain ⟨S, hS⟩ : ∃ S, tellS vs x = S := ⟨_, rfl⟩
  rw [hS] at r0 hlen hsz ⊢
  have hil : (i : Int) < vs.length := by omega
  have HL : Aside0 (l.length + S.size ≤ 140737488355328) := ⟨by omega⟩
  subst e3
  have hB2l := hb2.size
  replace r0 := pw_cell_below hb2 r0
  rw [hi] at hw2 y1
  clear e hS hlen hsz hx hi
  go_enter Tryd.func29, Tryd.ntmps29
  go_wp2_with (go_at_call 24; go_must ((try rw [hw2]); refine (write_str S HB2.out HL.out).mono ?_; rintro e w3 ⟨nw3, rfl, h1, h2, h3⟩; have H1 := Aside0.mk h1; have H2 := Aside0.mk (And.intro h2 h3); clear h1 h2 h3))
  refine bodyPost_ret (results_none rfl _ _ _) rfl ?_
  exact ⟨rfl, H1.out, HBB.out.1.trans H2.out.1, HBB.out.2.trans H2.out.2⟩
 ·have e : tellS vs x = decS x.f0 := by unfold tellS; rw [if_neg c]
  have hc : ¬ 0 ≤ x.f1 := c
  rw [e] at hlen hsz ⊢
  have HL : Aside0 (l.length + (decS x.f0).size ≤ 140737488355328) := ⟨by omega⟩
  have HX : Aside0 (whole_Text.f x.f0 = some (decS x.f0)) := ⟨text_is x.f0 hx.2.1 (by omega)⟩
  obtain ⟨x0, x1⟩ := hx.2
  obtain ⟨S, hS⟩ : ∃ S, decS x.f0 = S := ⟨_, rfl⟩
  rw [hS] at HL HX ⊢
  obtain ⟨n, hn⟩ : ∃ n : Nat, x.f0 = n := ⟨x.f0.toNat, by omega⟩
  rw [hn] at HX x0 x1 hw2 y0 ⊢
  have HSZ := Aside0.mk hb2.size
  clear e hS hlen hsz hx hn
  go_enter Tryd.func29, Tryd.ntmps29
  go_wp2_with (first | (go_at_call 25; go_must ((try rw [hw2]); refine (whole_Text.calls n S _ HX.out HT2.out).mono ?_; rintro e w3 ⟨rfl, h1⟩; have H1 := Aside0.mk (bld_below HB2.out h1); have H2 := Aside0.mk (And.intro (HBB.out.1.trans (h1.mono (Nat.le_of_lt (bld_lt HB2.out)))) (HBB.out.2.trans (keptB_below h1))); clear h1)) | (go_at_call 24; go_must (refine (write_str S H1.out HL.out).mono ?_; rintro e w4 ⟨nw4, rfl, h3, h4, h5⟩; have H3 := Aside0.mk h3; have H4 := Aside0.mk (And.intro h4 h5); clear h3 h4 h5)))
  go_end0
  exact ⟨rfl, H3.out, H2.out.1.trans H4.out.1, H2.out.2.trans H4.out.2⟩
def hoodsA : Array Value := #[.string ⟨#[]⟩, .string ⟨#[77, 111, 111, 114, 101]⟩, .string ⟨#[118, 111, 110, 78, 101, 117, 109, 97, 110, 110]⟩, .string ⟨#[104, 101, 120, 97, 103, 111, 110, 97, 108]⟩]
set_option maxHeartbeats 4000000 in
set_option maxRecDepth 100000 in
theorem hoods_calls (w : World) : Calls Tryd.prog 26 #[] w fun e w' => e = .returned (.agg hoodsA) ∧ Below w.heap.size w w' := by
 go_enter Tryd.func26, Tryd.ntmps26
 go_wp2
 exact bodyPost_ret (v := .agg hoodsA) (by simp [results, Tryd.results26, go_sem, hoodsA]) rfl ⟨rfl, below_alloc (Below.refl _ _) _⟩
def symsA : Array Value := (symLs.map fun l => Value.string ⟨l.toArray⟩).toArray
set_option maxHeartbeats 4000000 in
set_option maxRecDepth 100000 in
theorem syms_calls (w : World) : Calls Tryd.prog 27 #[] w fun e w' => e = .returned (.agg symsA) ∧ Below w.heap.size w w' := by
 go_enter Tryd.func27, Tryd.ntmps27
 go_wp2
 exact bodyPost_ret (v := .agg symsA) (by simp [results, Tryd.results27, go_sem, symsA, symLs]) rfl ⟨rfl, below_alloc (Below.refl _ _) _⟩
end Go.Proofs.YtajhfkcmfmhnaaaDoor.L
end
section
namespace Go.Proofs.YtajhfkcmfmhnaaaDoor.P
open Go.RowKit Go.Proofs.YtajhfkcmfmhnaaaDoorW.PrintWords Go.Proofs.YtajhfkcmfmhnaaaDoorW.PrintLast Go.Proofs.YtajhfkcmfmhnaaaDoorW.PrintMore
attribute [local go_sem] max2_int min2_int max_two min_two max_three min_three max_four min_four   -- for this text's walks alone
set_option linter.unusedVariables false
set_option linter.unusedSimpArgs false
open Go.Proofs.YtajhfkcmfmhnaaaDoor.L
/-- What the walk of Print keeps: the builder, and the table's box. -/
structure PC (w : World) (B : Nat) (cs : Array Value) (l : List UInt8) (W : World) : Prop where
 bel : Below w.heap.size w W
 bld : Bld B l W
 box : W.heap[w.heap.size]? = some (.cells cs 25 (0, 0))
 lt : w.heap.size < B
theorem PC.below {w : World} {B : Nat} {cs : Array Value} {l : List UInt8} {W W' : World} (h : PC w B cs l W) (hb : Below W.heap.size W W') : PC w B cs l W' := ⟨below_step h.bel hb, bld_below h.bld hb, blk_below h.box hb, h.lt⟩
theorem PC.wrote {w : World} {B : Nat} {cs : Array Value} {l l' : List UInt8} {W W' : World} (h : PC w B cs l W) (h1 : Bld B l' W') (h2 : Below B W W') : PC w B cs l' W' := ⟨h.bel.trans (h2.mono (Nat.le_of_lt h.lt)), h1, (h2.block _ h.lt).trans h.box, h.lt⟩
theorem PC.alloc {w : World} {B : Nat} {cs : Array Value} {l : List UInt8} {W : World} (h : PC w B cs l W) (o : Obj) : PC w B cs l (W.alloc o) := h.below (below_alloc (Below.refl _ _) o)
theorem PC.text {w : World} {B : Nat} {cs : Array Value} {l l' : List UInt8} {W : World} (h : PC w B cs l W) (e : l = l') : PC w B cs l' W := e ▸ h
theorem stL_snoc : ∀ (l : List Int) (b : Bool) (s : Int), stL b (l ++ [s]) = stL b l ++ (if (b && l.isEmpty) = true then [] else [44]) ++ decL s
 | [], b, s => by cases b <;> simp [stL]
 | x :: xs, b, s => by
  rw [List.cons_append, stL, stL, stL_snoc xs false s]
  simp
theorem take_snoc {α : Type} (l : List α) (j : Nat) (h : j < l.length) : l.take (j + 1) = l.take j ++ [l[j]] := List.take_succ_eq_append_getElem h
theorem vpre_len {v : Vr} (h : okVr v = true) (j : Nat) : ([118, 97, 114, 32] ++ v.f0.data.toList ++ [61, 123] ++ stL true (v.f1.take j)).length ≤ 2100 := by
 unfold okVr at h
 simp only [Bool.and_eq_true, decide_eq_true_eq, List.all_eq_true] at h
 obtain ⟨⟨h1, h2⟩, h3⟩ := h
 have h4 := stL_len (v.f1.take j) true (fun s hs => h3 s (List.mem_of_mem_take hs))
 have h5 : v.f0.data.toList.length = v.f0.size := by rw [Array.length_toList]; rfl
 have h6 : (v.f1.take j).length ≤ 256 := by rw [List.length_take]; omega
 simp only [List.length_append, List.length_cons, List.length_nil]
 omega
theorem rpre_len {vs : List Vr} (hv : vs.all okVr = true) {r : Rw} (h : okRw vs r = true) (j : Nat) : (tellL vs r.f0 ++ (r.f1.take j).flatMap fun x => 44 :: tellL vs x).length ≤ 11000 := by
 unfold okRw at h
 simp only [Bool.and_eq_true, decide_eq_true_eq, List.all_eq_true] at h
 obtain ⟨⟨⟨h1, h2⟩, h3⟩, h4⟩ := h
 have a1 := tell_len hv h1
 have a3 := flat_len (fun x => 44 :: tellL vs x) 1001 (r.f1.take j) (fun x hx => by
  have := tell_len hv (h4 x (List.mem_of_mem_take hx))
  rw [List.length_cons]; omega)
 have a4 : (r.f1.take j).length ≤ 8 := by rw [List.length_take]; omega
 rw [List.length_append]
 omega
def preL (st hd sy : Int) (vs : List Vr) (rs : List Rw) (i j : Nat) : List UInt8 := headL st hd sy ++ (vs.take i).flatMap varL ++ (rs.take j).flatMap (rowL vs)
theorem pre_v (st hd sy : Int) (vs : List Vr) (rs : List Rw) (i : Nat) (h : i < vs.length) : preL st hd sy vs rs (i + 1) 0 = preL st hd sy vs rs i 0 ++ varL vs[i] := by
 unfold preL
 rw [take_snoc vs i h, List.flatMap_append, List.flatMap_cons, List.flatMap_nil, List.append_nil, List.take_zero, List.flatMap_nil, List.append_nil, List.append_nil, List.append_assoc]
theorem pre_r (st hd sy : Int) (vs : List Vr) (rs : List Rw) (n j : Nat) (h : j < rs.length) : preL st hd sy vs rs n (j + 1) = preL st hd sy vs rs n j ++ rowL vs rs[j] := by
 unfold preL
 rw [take_snoc rs j h, List.flatMap_append, List.flatMap_cons, List.flatMap_nil, List.append_nil, List.append_assoc]
 simp only [List.append_assoc]
theorem hood_ix (hd : Int) (h0 : 1 ≤ hd) (h1 : hd ≤ 3) (W : World) : (Instr.index 61 (.agg hoodsA) (.int .u8 hd)).run Tryd.prog W = .ok (.string ⟨(hoodL hd).toArray⟩) W := by
 obtain h | h | h : hd = 1 ∨ hd = 2 ∨ hd = 3 := by omega
 all_goals subst h; kernel_rfl
theorem sym_ix (sy : Int) (h0 : 0 ≤ sy) (h1 : sy ≤ 10) (W : World) : (Instr.index 63 (.agg symsA) (.int .u8 sy)).run Tryd.prog W = .ok (.string ⟨(symL sy).toArray⟩) W := by
 obtain h | h | h | h | h | h | h | h | h | h | h : sy = 0 ∨ sy = 1 ∨ sy = 2 ∨ sy = 3 ∨ sy = 4 ∨ sy = 5 ∨ sy = 6 ∨ sy = 7 ∨ sy = 8 ∨ sy = 9 ∨ sy = 10 := by omega
 all_goals subst h; kernel_rfl
def resS (l : List UInt8) : Value := if l.length ≤ 1048576 then .tuple #[.string ⟨l.toArray⟩, .int .i64 0] else .tuple #[.string ⟨#[]⟩, .int .i64 3]
set_option maxHeartbeats 16000000 in
set_option maxRecDepth 100000 in
theorem print_walk (k : Nat) (st hd sy : Int) (A3 : Option Addr) (c3 : Nat) (vs : List Vr) (A4 : Option Addr) (c4 : Nat) (rs : List Rw) (w : World) (hr3 : Kd.C k49 w A3 vs.length vs) (hc3 : vs.length ≤ c3) (hr4 : Kd.C k41 w A4 rs.length rs) (hc4 : rs.length ≤ c4)
  (h : table_Check.f k st hd sy vs rs = some 0) (hok : okTb st hd sy vs rs = true) (HTb_ : TabsOk w) :
  Calls Tryd.prog 8 #[.agg #[.int .i64 st, .int .u8 hd, .int .u8 sy, .slice A3 vs.length c3, .slice A4 rs.length c4]] w fun e w' => e = .returned (resS (textL st hd sy vs rs)) ∧ Below w.heap.size w w' := by
 have HV := Aside0.mk hr3
 have HVc := Aside0.mk hc3
 have HR := Aside0.mk hr4
 have HRc := Aside0.mk hc4
 have HE := Aside0.mk h
 have HTb := Aside0.mk HTb_
 have HPL := Aside0.mk (fun i j => pre_len hok i j)
 unfold okTb at hok
 simp only [Bool.and_eq_true, decide_eq_true_eq] at hok
 obtain ⟨⟨⟨⟨⟨⟨g1, g2⟩, g3⟩, g4⟩, g5⟩, g6⟩, g7⟩ := hok
 have HVR := Aside0.mk (And.intro g6 (List.all_eq_true.1 g7))
 obtain ⟨S, hS⟩ : ∃ S, decS st = S := ⟨_, rfl⟩
 obtain ⟨Hh, hH⟩ : ∃ Hh : ByteArray, (⟨(hoodL hd).toArray⟩ : ByteArray) = Hh := ⟨_, rfl⟩
 obtain ⟨Yy, hY⟩ : ∃ Yy : ByteArray, (⟨(symL sy).toArray⟩ : ByteArray) = Yy := ⟨_, rfl⟩
 have HXT : Aside0 (whole_Text.f st = some S) := ⟨by rw [← hS]; exact text_is st g1.1 g1.2⟩
 have hix : ∀ W : World, (Instr.index 61 (.agg hoodsA) (.int .u8 hd)).run Tryd.prog W = .ok (.string Hh) W := fun W => by rw [← hH]; exact hood_ix hd g2.1 g2.2 W
 have siy : ∀ W : World, (Instr.index 63 (.agg symsA) (.int .u8 sy)).run Tryd.prog W = .ok (.string Yy) W := fun W => by rw [← hY]; exact sym_ix sy g3.1 g3.2 W
 have zS : S.size ≤ 3 := by rw [← hS, decS_size]; exact dec_len st g1.1 g1.2
 have zH : Hh.size ≤ 10 := by rw [← hH]; exact hoodL_len hd
 have zY : Yy.size ≤ 18 := by rw [← hY]; exact symL_len sy
 have HHD : Aside0 ((((((((⟨#[110, 95, 115, 116, 97, 116, 101, 115, 58]⟩ : ByteArray) ++ S) ++ (⟨#[10, 110, 101, 105, 103, 104, 98, 111, 114, 104, 111, 111, 100, 58]⟩ : ByteArray)) ++ Hh) ++ (⟨#[10, 115, 121, 109, 109, 101, 116, 114, 105, 101, 115, 58]⟩ : ByteArray)) ++ Yy) ++ (⟨#[10]⟩ : ByteArray)).data.toList = headL st hd sy) := ⟨by
  rw [← hS, ← hH, ← hY]
  unfold headL decS decL
  simp⟩
 have z1 : (9223372036854775807 < 9 + S.size) = False := eq_false (by omega)
 have z2 : (9223372036854775807 < 9 + S.size + 14) = False := eq_false (by omega)
 have z3 : (9223372036854775807 < 9 + S.size + 14 + Hh.size) = False := eq_false (by omega)
 have z4 : (9223372036854775807 < 9 + S.size + 14 + Hh.size + 12) = False := eq_false (by omega)
 have z5 : (9223372036854775807 < 9 + S.size + 14 + Hh.size + 12 + Yy.size) = False := eq_false (by omega)
 have z6 : (9223372036854775807 < 9 + S.size + 14 + Hh.size + 12 + Yy.size + 1) = False := eq_false (by omega)
 have HL0 : Aside0 (([] : List UInt8).length + (((((((⟨#[110, 95, 115, 116, 97, 116, 101, 115, 58]⟩ : ByteArray) ++ S) ++ (⟨#[10, 110, 101, 105, 103, 104, 98, 111, 114, 104, 111, 111, 100, 58]⟩ : ByteArray)) ++ Hh) ++ (⟨#[10, 115, 121, 109, 109, 101, 116, 114, 105, 101, 115, 58]⟩ : ByteArray)) ++ Yy) ++ (⟨#[10]⟩ : ByteArray)).size ≤ 140737488355328) := ⟨by
  simp only [ByteArray.size_append, List.length_nil]
  have e1 : (⟨#[110, 95, 115, 116, 97, 116, 101, 115, 58]⟩ : ByteArray).size = 9 := rfl
  have e2 : (⟨#[10, 110, 101, 105, 103, 104, 98, 111, 114, 104, 111, 111, 100, 58]⟩ : ByteArray).size = 14 := rfl
  have e3 : (⟨#[10, 115, 121, 109, 109, 101, 116, 114, 105, 101, 115, 58]⟩ : ByteArray).size = 12 := rfl
  have e4 : (⟨#[10]⟩ : ByteArray).size = 1 := rfl
  omega⟩
 clear hr3 hc3 hr4 hc4 h HTb_ hS hH hY g1 g2 g3 g6 g7 zS zH zY
 go_enter Tryd.func8, Tryd.ntmps8
 go_wp2_with (go_at_call 7; go_must ((with_reducible refine (table_Check.calls k st hd sy A3 c3 vs A4 c4 rs 0 _ (Kd.C_alloc HV.out _) HVc.out (Kd.C_alloc HR.out _) HRc.out HE.out).mono ?_); rintro e' w1 ⟨rfl, hb1⟩; have ht1 := blk_below (blk_new w _) hb1; have HB1 := Aside0.mk (below_step (below_alloc (Below.refl w.heap.size w) (Obj.cells #[.int .i64 st, .int .u8 hd, .int .u8 sy, .slice A3 vs.length c3, .slice A4 rs.length c4] 25)) hb1); have HT1 := Aside0.mk ht1; clear ht1 hb1))
 obtain ⟨W1, hW1⟩ : ∃ W1, w1.alloc (Obj.cells #[.pointer none, .slice none 0 0] 56) = W1 := ⟨_, rfl⟩
 have HP6 : Aside0 (PC w w1.heap.size #[.int .i64 st, .int .u8 hd, .int .u8 sy, .slice A3 vs.length c3, .slice A4 rs.length c4] [] W1.drew) := ⟨by
  rw [← hW1]
  exact ⟨below_drew1 (below_alloc HB1.out _), Lib.fresh_isBuilder 56 5 w1, blk_alloc HT1.out _, blk_lt HT1.out⟩⟩
 rw [hW1]
 clear hW1 HT1 HB1
 refine start_ (n := 18) (S := fun w' => w'.cell? ⟨w.heap.size, 0, none⟩ = some (.int .i64 st) ∧ w'.cell? ⟨w.heap.size, 1, none⟩ = some (.int .u8 hd) ∧ w'.cell? ⟨w.heap.size, 2, none⟩ = some (.int .u8 sy)) (ds := [17]) #[false, false, false, false, false, false, false, false, false, false, false, false, false, false, false, false, false, false] (by kernel_rfl) rfl rfl ⟨blk_cell HP6.out.box 0, blk_cell HP6.out.box 1, blk_cell HP6.out.box 2⟩ (fun hHeld => ?_)
 refine pure_ (i := 0) (N := some 19) (v := ?_) (a' := ?_) #[true, false, false, false, false, false, false, false, false, false, false, false, false, false, false, false, false, false] rfl rfl (by kernel_rfl) (fun _ _ _ h => h) (Or.inl ⟨by rfl, ?_⟩) ?_ ?_
 rotate_left
 ·intro w'
  go_simp
  with_reducible rfl
 rotate_left
 ·simp only [Act.put, List.setIfInBounds_toArray, List.set_cons_zero, List.set_cons_succ, i64_w, i32_w]
  rfl
 refine pure_ (i := 6) (N := some 25) (v := ?_) (a' := ?_) #[true, false, false, false, false, false, true, false, false, false, false, false, false, false, false, false, false, false] rfl rfl (by kernel_rfl) (fun _ _ _ h => h) (Or.inl ⟨by rfl, ?_⟩) ?_ ?_
 rotate_left
 ·intro w'
  go_simp
  with_reducible rfl
 rotate_left
 ·simp only [Act.put, List.setIfInBounds_toArray, List.set_cons_zero, List.set_cons_succ, i64_w, i32_w]
  rfl
 refine pure_ (i := 12) (N := some 31) (v := ?_) (a' := ?_) #[true, false, false, false, false, false, true, false, false, false, false, false, true, false, false, false, false, false] rfl rfl (by kernel_rfl) (fun _ _ _ h => h) (Or.inl ⟨by rfl, ?_⟩) ?_ ?_
 rotate_left
 ·intro w'
  go_simp
  with_reducible rfl
 rotate_left
 ·simp only [Act.put, List.setIfInBounds_toArray, List.set_cons_zero, List.set_cons_succ, i64_w, i32_w]
  rfl
 refine take_ (i := 1) (N := some 20) (v := ?_) (a' := ?_) #[true, true, false, false, false, false, true, false, false, false, false, false, true, false, false, false, false, false] rfl rfl (by kernel_rfl) (fun _ _ _ h => h) (Or.inl ⟨by rfl, ?_⟩) hHeld ?_ ?_
 rotate_left
 ·rintro w' ⟨s0, s1, s2⟩
  go_simp
  with_reducible rfl
 rotate_left
 ·simp only [Act.put, List.setIfInBounds_toArray, List.set_cons_zero, List.set_cons_succ, i64_w, i32_w]
  rfl
 refine take_ (i := 7) (N := some 26) (v := ?_) (a' := ?_) #[true, true, false, false, false, false, true, true, false, false, false, false, true, false, false, false, false, false] rfl rfl (by kernel_rfl) (fun _ _ _ h => h) (Or.inl ⟨by rfl, ?_⟩) hHeld ?_ ?_
 rotate_left
 ·rintro w' ⟨s0, s1, s2⟩
  go_simp
  with_reducible rfl
 rotate_left
 ·simp only [Act.put, List.setIfInBounds_toArray, List.set_cons_zero, List.set_cons_succ, i64_w, i32_w]
  rfl
 refine take_ (i := 13) (N := some 32) (v := ?_) (a' := ?_) #[true, true, false, false, false, false, true, true, false, false, false, false, true, true, false, false, false, false] rfl rfl (by kernel_rfl) (fun _ _ _ h => h) (Or.inl ⟨by rfl, ?_⟩) hHeld ?_ ?_
 rotate_left
 ·rintro w' ⟨s0, s1, s2⟩
  go_simp
  with_reducible rfl
 rotate_left
 ·simp only [Act.put, List.setIfInBounds_toArray, List.set_cons_zero, List.set_cons_succ, i64_w, i32_w]
  rfl
 refine one_ (i := 2) (N := some 21) #[true, true, true, false, false, false, true, true, false, false, false, false, true, true, false, false, false, false] rfl rfl (by kernel_rfl) (by decide) (fun K hK => ?_)
 refine goes_ Tryd.func25 (by kernel_rfl) rfl #[.int .i64 st] (by rfl) rfl rfl (by simp only [List.map_toArray, List.map_cons, List.map_nil]; rfl) ?_
 with_reducible refine (whole_Text.calls st S _ HXT.out (tabs_below HTb.out HP6.out.bel)).mono ?_
 rintro e w7 ⟨rfl, hb⟩
 have HP7 := Aside0.mk (PC.below HP6.out hb)
 clear hb
 refine ⟨_, rfl, ?_⟩
 refine hK.out _ _ ⟨blk_cell HP7.out.box 0, blk_cell HP7.out.box 1, blk_cell HP7.out.box 2⟩ (fun hHeld => ?_)
 clear hK K
 refine norm_ (a' := ?_) ?_ ?_
 rotate_left
 ·show Act.put _ (some 21) _ = _
  simp only [Act.put, List.setIfInBounds_toArray, List.set_cons_zero, List.set_cons_succ, i64_w, i32_w]
  rfl
 refine pure_ (i := 3) (N := some 22) (v := ?_) (a' := ?_) #[true, true, true, true, false, false, true, true, false, false, false, false, true, true, false, false, false, false] rfl rfl (by kernel_rfl) (fun _ _ _ h => h) (Or.inl ⟨by rfl, ?_⟩) ?_ ?_
 rotate_left
 ·intro w'
  go_simp
  with_reducible rfl
 rotate_left
 ·simp only [Act.put, List.setIfInBounds_toArray, List.set_cons_zero, List.set_cons_succ, i64_w, i32_w]
  rfl
 refine pure_ (i := 4) (N := some 23) (v := ?_) (a' := ?_) #[true, true, true, true, true, false, true, true, false, false, false, false, true, true, false, false, false, false] rfl rfl (by kernel_rfl) (fun _ _ _ h => h) (Or.inl ⟨by rfl, ?_⟩) ?_ ?_
 rotate_left
 ·intro w'
  go_simp
  with_reducible rfl
 rotate_left
 ·simp only [Act.put, List.setIfInBounds_toArray, List.set_cons_zero, List.set_cons_succ, i64_w, i32_w]
  rfl
 refine one_ (i := 5) (N := some 24) #[true, true, true, true, true, true, true, true, false, false, false, false, true, true, false, false, false, false] rfl rfl (by kernel_rfl) (by decide) (fun K hK => ?_)
 refine goes_ Tryd.func26 (by kernel_rfl) rfl #[] (by rfl) rfl rfl (by simp only [List.map_toArray, List.map_cons, List.map_nil]) ?_
 with_reducible refine (hoods_calls _).mono ?_
 rintro e w8 ⟨rfl, hb⟩
 have HP8 := Aside0.mk (PC.below HP7.out hb)
 clear hb
 refine ⟨_, rfl, ?_⟩
 refine hK.out _ _ ⟨blk_cell HP8.out.box 0, blk_cell HP8.out.box 1, blk_cell HP8.out.box 2⟩ (fun hHeld => ?_)
 clear hK K
 refine norm_ (a' := ?_) ?_ ?_
 rotate_left
 ·show Act.put _ (some 24) _ = _
  simp only [Act.put, List.setIfInBounds_toArray, List.set_cons_zero, List.set_cons_succ, i64_w, i32_w]
  rfl
 refine take_ (i := 8) (N := some 27) (v := ?_) (a' := ?_) #[true, true, true, true, true, true, true, true, true, false, false, false, true, true, false, false, false, false] rfl rfl (by kernel_rfl) (fun _ _ _ h => h) (Or.inl ⟨by rfl, ?_⟩) hHeld ?_ ?_
 rotate_left
 ·rintro w' ⟨s0, s1, s2⟩
  go_simp
  with_reducible rfl
 rotate_left
 ·simp only [Act.put, List.setIfInBounds_toArray, List.set_cons_zero, List.set_cons_succ, i64_w, i32_w]
  rfl
 refine pure_ (i := 9) (N := some 28) (v := ?_) (a' := ?_) #[true, true, true, true, true, true, true, true, true, true, false, false, true, true, false, false, false, false] rfl rfl (by kernel_rfl) (fun _ _ _ h => h) (Or.inl ⟨by rfl, ?_⟩) ?_ ?_
 rotate_left
 ·intro w'
  go_simp
  with_reducible rfl
 rotate_left
 ·simp only [Act.put, List.setIfInBounds_toArray, List.set_cons_zero, List.set_cons_succ, i64_w, i32_w]
  rfl
 refine pure_ (i := 10) (N := some 29) (v := ?_) (a' := ?_) #[true, true, true, true, true, true, true, true, true, true, true, false, true, true, false, false, false, false] rfl rfl (by kernel_rfl) (fun _ _ _ h => h) (Or.inl ⟨by rfl, ?_⟩) ?_ ?_
 rotate_left
 ·intro w'
  go_simp
  with_reducible rfl
 rotate_left
 ·simp only [Act.put, List.setIfInBounds_toArray, List.set_cons_zero, List.set_cons_succ, i64_w, i32_w]
  rfl
 refine one_ (i := 11) (N := some 30) #[true, true, true, true, true, true, true, true, true, true, true, true, true, true, false, false, false, false] rfl rfl (by kernel_rfl) (by decide) (fun K hK => ?_)
 refine goes_ Tryd.func27 (by kernel_rfl) rfl #[] (by rfl) rfl rfl (by simp only [List.map_toArray, List.map_cons, List.map_nil]) ?_
 with_reducible refine (syms_calls _).mono ?_
 rintro e w9 ⟨rfl, hb⟩
 have HP9 := Aside0.mk (PC.below HP8.out hb)
 clear hb
 refine ⟨_, rfl, ?_⟩
 refine hK.out _ _ ⟨blk_cell HP9.out.box 0, blk_cell HP9.out.box 1, blk_cell HP9.out.box 2⟩ (fun hHeld => ?_)
 clear hK K
 refine norm_ (a' := ?_) ?_ ?_
 rotate_left
 ·show Act.put _ (some 30) _ = _
  simp only [Act.put, List.setIfInBounds_toArray, List.set_cons_zero, List.set_cons_succ, i64_w, i32_w]
  rfl
 refine take_ (i := 14) (N := some 33) (v := ?_) (a' := ?_) #[true, true, true, true, true, true, true, true, true, true, true, true, true, true, true, false, false, false] rfl rfl (by kernel_rfl) (fun _ _ _ h => h) (Or.inl ⟨by rfl, ?_⟩) hHeld ?_ ?_
 rotate_left
 ·rintro w' ⟨s0, s1, s2⟩
  go_simp
  with_reducible rfl
 rotate_left
 ·simp only [Act.put, List.setIfInBounds_toArray, List.set_cons_zero, List.set_cons_succ, i64_w, i32_w]
  rfl
 refine pure_ (i := 15) (N := some 34) (v := ?_) (a' := ?_) #[true, true, true, true, true, true, true, true, true, true, true, true, true, true, true, true, false, false] rfl rfl (by kernel_rfl) (fun _ _ _ h => h) (Or.inl ⟨by rfl, ?_⟩) ?_ ?_
 rotate_left
 ·intro w'
  go_simp
  with_reducible rfl
 rotate_left
 ·simp only [Act.put, List.setIfInBounds_toArray, List.set_cons_zero, List.set_cons_succ, i64_w, i32_w]
  rfl
 refine pure_ (i := 16) (N := some 35) (v := ?_) (a' := ?_) #[true, true, true, true, true, true, true, true, true, true, true, true, true, true, true, true, true, false] rfl rfl (by kernel_rfl) (fun _ _ _ h => h) (Or.inl ⟨by rfl, ?_⟩) ?_ ?_
 rotate_left
 ·intro w'
  go_simp
  with_reducible rfl
 rotate_left
 ·simp only [Act.put, List.setIfInBounds_toArray, List.set_cons_zero, List.set_cons_succ, i64_w, i32_w]
  rfl
 refine last_ (i := 17) (N := some 36) #[true, true, true, true, true, true, true, true, true, true, true, true, true, true, true, true, true, true] rfl rfl (by kernel_rfl) (by decide) (fun K hK => ?_)
 refine goes_ Tryd.func24 (by kernel_rfl) rfl #[.pointer (some ⟨w1.heap.size, 0, none⟩), .string (((((((⟨#[110, 95, 115, 116, 97, 116, 101, 115, 58]⟩ : ByteArray) ++ S) ++ (⟨#[10, 110, 101, 105, 103, 104, 98, 111, 114, 104, 111, 111, 100, 58]⟩ : ByteArray)) ++ Hh) ++ (⟨#[10, 115, 121, 109, 109, 101, 116, 114, 105, 101, 115, 58]⟩ : ByteArray)) ++ Yy) ++ (⟨#[10]⟩ : ByteArray))] (by rfl) rfl rfl (by simp only [List.map_toArray, List.map_cons, List.map_nil]; rfl) ?_
 with_reducible refine (write_str (((((((⟨#[110, 95, 115, 116, 97, 116, 101, 115, 58]⟩ : ByteArray) ++ S) ++ (⟨#[10, 110, 101, 105, 103, 104, 98, 111, 114, 104, 111, 111, 100, 58]⟩ : ByteArray)) ++ Hh) ++ (⟨#[10, 115, 121, 109, 109, 101, 116, 114, 105, 101, 115, 58]⟩ : ByteArray)) ++ Yy) ++ (⟨#[10]⟩ : ByteArray)) HP9.out.bld HL0.out).mono ?_
 rintro e w10 ⟨nw10, rfl, h1, h2, h3⟩
 have HP10 := Aside0.mk (PC.text (PC.wrote HP9.out h1 h2) (show [] ++ (((((((⟨#[110, 95, 115, 116, 97, 116, 101, 115, 58]⟩ : ByteArray) ++ S) ++ (⟨#[10, 110, 101, 105, 103, 104, 98, 111, 114, 104, 111, 111, 100, 58]⟩ : ByteArray)) ++ Hh) ++ (⟨#[10, 115, 121, 109, 109, 101, 116, 114, 105, 101, 115, 58]⟩ : ByteArray)) ++ Yy) ++ (⟨#[10]⟩ : ByteArray)).data.toList = preL st hd sy vs rs 0 0 from by rw [HHD.out]; simp [preL]))
 clear h1 h2 h3
 refine ⟨_, rfl, ?_⟩
 refine hK.out _ _ ?_
 clear hK K
 refine norm_ (a' := ?_) ?_ ?_
 rotate_left
 ·show Act.put _ (some 36) _ = _
  simp only [Act.put, List.setIfInBounds_toArray, List.set_cons_zero, List.set_cons_succ, i64_w, i32_w]
  rfl
 refine done_ (by kernel_rfl) ?_
 have t3 : w10.cell? ⟨w.heap.size, 3, none⟩ = some (.slice A3 vs.length c3) := blk_cell HP10.out.box 3
 clear hix siy z1 z2 z3 z4 z5 z6
 go_wp2
 clear t3
 go_loopw [40] (fun v wr => ∃ i : Nat, i ≤ vs.length ∧ v = .int .i64 i ∧ Aside0 (PC w w1.heap.size #[.int .i64 st, .int .u8 hd, .int .u8 sy, .slice A3 vs.length c3, .slice A4 rs.length c4] (preL st hd sy vs rs i 0) wr)) (fun v wr => vs.length - (intOf v).toNat)
 case atStart => exact ⟨0, Nat.zero_le _, rfl, HP10⟩
 case round =>
  rename World => wr
  clear HP10
  obtain ⟨i, hi, rfl, HP⟩ := hrel
  by_cases hlt : i < vs.length
  ·have q0 : (0 : Int) ≤ (i : Int) := by omega
   have q1 : (i : Int) < vs.length := by omega
   have q2 : (i : Int) ≤ 9223372036854775806 := by have := HV.out.2.1; omega
   obtain ⟨ad, A1, c1, rfl, x0, x1, xl, xc⟩ := at_T49 HV.out (i : Int) q0 q1
   rw [Int.toNat_natCast] at x0 x1
   have hrd := rd_65 vs i hlt
   have hpv := pre_v st hd sy vs rs i hlt
   have hvok := List.all_eq_true.1 HVR.out.1 _ (List.getElem_mem hlt)
   obtain ⟨v, hv⟩ : ∃ v, vs[i] = v := ⟨_, rfl⟩
   rw [hv] at hrd hpv hvok
   rw [hrd] at x0 x1 xl xc
   have hvl := vpre_len hvok
   have hall : (preL st hd sy vs rs i 0).length ≤ 46000000 := HPL.out i 0
   unfold okVr at hvok
   simp only [Bool.and_eq_true, decide_eq_true_eq, List.all_eq_true] at hvok
   obtain ⟨⟨hnm, _, hsl⟩, hst⟩ := hvok
   unfold varL at hpv
   obtain ⟨nm, hnmm⟩ : ∃ nm, v.f0 = nm := ⟨_, rfl⟩
   rw [hnmm] at x0 hnm hpv hvl
   obtain ⟨ss, hss⟩ : ∃ ss, v.f1 = ss := ⟨_, rfl⟩
   rw [hss] at x1 xl xc hsl hst hpv hvl
   have HPV := Aside0.mk hpv
   have HVL := Aside0.mk hvl
   have HST := Aside0.mk hst
   have HXC := Aside0.mk xc
   have HAL := Aside0.mk hall
   have z1 : (9223372036854775807 < 4 + nm.size) = False := eq_false (by omega)
   have z2 : (9223372036854775807 < 4 + nm.size + 2) = False := eq_false (by omega)
   have HL2 : Aside0 ((preL st hd sy vs rs i 0).length + (((⟨#[118, 97, 114, 32]⟩ : ByteArray) ++ nm) ++ (⟨#[61, 123]⟩ : ByteArray)).size ≤ 140737488355328) := ⟨by
    simp only [ByteArray.size_append]
    have e1 : (⟨#[118, 97, 114, 32]⟩ : ByteArray).size = 4 := rfl
    have e2 : (⟨#[61, 123]⟩ : ByteArray).size = 2 := rfl
    omega⟩
   have HPa := Aside0.mk (HP.out.alloc (Obj.cells #[.string nm, .slice A1 ss.length c1] 49))
   have HXa : Aside0 ((wr.alloc (Obj.cells #[.string nm, .slice A1 ss.length c1] 49)).heap[wr.heap.size]? = some (.cells #[.string nm, .slice A1 ss.length c1] 49 (0, 0))) := ⟨blk_new _ _⟩
   have HNE : Aside0 (wr.heap.size ≠ w1.heap.size) := ⟨Nat.ne_of_gt (bld_lt HP.out.bld)⟩
   replace x0 := pw_cell_below HP.out.bel x0
   replace x1 := pw_cell_below HP.out.bel x1
   have hsl2 : (ss.length : Int) ≤ 256 := by omega
   clear hv hrd hpv hvl hall hnmm hss hnm xc xl hst hsl
   go_wp2_with (go_at_call 24; go_must (refine (write_str (((⟨#[118, 97, 114, 32]⟩ : ByteArray) ++ nm) ++ (⟨#[61, 123]⟩ : ByteArray)) HPa.out.bld HL2.out).mono ?_; rintro e w3 ⟨nw3, rfl, h1, h2, h3⟩; have HP3 := Aside0.mk (PC.wrote HPa.out h1 h2); have HX3 := Aside0.mk (h3 _ _ _ _ HXa.out (by decide) HNE.out); have y1 := blk_cell HX3.out 1; clear h1 h2 h3))
   have HP3t := Aside0.mk (HP3.out.text (show preL st hd sy vs rs i 0 ++ (((⟨#[118, 97, 114, 32]⟩ : ByteArray) ++ nm) ++ (⟨#[61, 123]⟩ : ByteArray)).data.toList = preL st hd sy vs rs i 0 ++ ([118, 97, 114, 32] ++ nm.data.toList ++ [61, 123] ++ stL true (ss.take 0)) from by simp [stL]))
   clear x0 x1 y1 z1 z2 HPa HXa HX3 HP3 HL2
   go_loopw [52] (fun v wq => ∃ j : Nat, j ≤ ss.length ∧ v = .int .i64 j ∧ Aside0 (PC w w1.heap.size #[.int .i64 st, .int .u8 hd, .int .u8 sy, .slice (some ad) vs.length c3, .slice A4 rs.length c4] (preL st hd sy vs rs i 0 ++ ([118, 97, 114, 32] ++ nm.data.toList ++ [61, 123] ++ stL true (ss.take j))) wq)) (fun v wq => ss.length - (intOf v).toNat)
   case atStart => exact ⟨0, Nat.zero_le _, rfl, HP3t⟩
   case round =>
    rename World => wq
    clear HP3t HP
    obtain ⟨j, hj, rfl, HP⟩ := hrel
    have hvl := HVL.out j
    have hal := HAL.out
    have hlq : (preL st hd sy vs rs i 0 ++ ([118, 97, 114, 32] ++ nm.data.toList ++ [61, 123] ++ stL true (ss.take j))).length ≤ 47000000 := by rw [List.length_append]; omega
    by_cases hjl : j < ss.length
    ·have r0 : (0 : Int) ≤ (j : Int) := by omega
     have r1 : (j : Int) < ss.length := by omega
     obtain ⟨aB, rfl, b0⟩ := Kd.at_int (Kd.C_below HXC.out HP.out.bel) (j : Int) r0 r1
     rw [Int.toNat_natCast] at b0
     have hs2 := HST.out ss[j] (List.getElem_mem hjl)
     have hrs : rd ss (j : Int) = ss[j] := by unfold rd; rw [Int.toNat_natCast, List.getD_eq_getElem?_getD, List.getElem?_eq_getElem hjl]; rfl
     have hsn : stL true (ss.take (j + 1)) = stL true (ss.take j) ++ (if j = 0 then [] else [44]) ++ decL ss[j] := by
      rw [take_snoc ss j hjl, stL_snoc]
      congr 2
      cases j with
      | zero => simp
      | succ j => cases ss with
       | nil => simp at hjl
       | cons a l => simp
     rw [hrs] at b0
     obtain ⟨s, hs⟩ : ∃ s, ss[j] = s := ⟨_, rfl⟩
     rw [hs] at b0 hs2 hsn
     obtain ⟨n, rfl⟩ : ∃ n : Nat, s = n := ⟨s.toNat, by omega⟩
     obtain ⟨n0, n1⟩ := hs2
     have HSN := Aside0.mk hsn
     have HXT : Aside0 (whole_Text.f (n : Int) = some (decS n)) := ⟨text_is _ n0 (by omega)⟩
     have hds : (decS (n : Int)).size ≤ 3 := by rw [decS_size]; exact dec_len _ n0 (by omega)
     have hdd : (decS (n : Int)).data.toList = decL (n : Int) := by simp [decS, decL]
     obtain ⟨S, hS⟩ : ∃ S, decS (n : Int) = S := ⟨_, rfl⟩
     rw [hS] at HXT hds hdd
     have HDD := Aside0.mk hdd
     have HLa : Aside0 ((preL st hd sy vs rs i 0 ++ ([118, 97, 114, 32] ++ nm.data.toList ++ [61, 123] ++ stL true (ss.take j))).length + S.size ≤ 140737488355328) := ⟨by omega⟩
     have HLb : Aside0 ((preL st hd sy vs rs i 0 ++ ([118, 97, 114, 32] ++ nm.data.toList ++ [61, 123] ++ stL true (ss.take j))).length + 1 ≤ 140737488355328) := ⟨by omega⟩
     have HLc : Aside0 ((preL st hd sy vs rs i 0 ++ ([118, 97, 114, 32] ++ nm.data.toList ++ [61, 123] ++ stL true (ss.take j)) ++ [44]).length + S.size ≤ 140737488355328) := ⟨by rw [List.length_append, List.length_singleton]; omega⟩
     clear hs hsn hS hdd hrs hvl hal hlq hds
     by_cases hj0 : j = 0
     ·have hj1 : ¬ (0 : Int) < (j : Int) := by omega
      have hj2 : decide (0 < j) = false := decide_eq_false (by omega)
      have HJ := Aside0.mk hj0
      clear hj0
      go_wp2_with (first | (go_at_call 25; go_must (refine (whole_Text.calls n S _ HXT.out (tabs_below HTb.out HP.out.bel)).mono ?_; rintro e w4 ⟨rfl, hb⟩; have HP4 := Aside0.mk (PC.below HP.out hb); clear hb)) | (go_at_call 24; go_must (refine (write_str (S) HP4.out.bld HLa.out).mono ?_; rintro e w5 ⟨nw5, rfl, h1, h2, h3⟩; have HP5 := Aside0.mk (PC.wrote HP4.out h1 h2); clear h1 h2 h3)))
      go_roundw
      case rel => exact ⟨j + 1, by omega, by go_num, ⟨HP5.out.text (by rw [HSN.out, if_pos HJ.out, HDD.out]; simp)⟩⟩
      case measure => simp [intOf]; omega
     ·have hj1 : (0 : Int) < (j : Int) := by omega
      have hj2 : decide (0 < j) = true := decide_eq_true (by omega)
      have hj3 : 0 < j := by omega
      have HJ := Aside0.mk hj0
      clear hj0
      go_wp2_with (first | (go_at_call 28; go_must (refine (write_b 44 44 rfl HP.out.bld HLb.out).mono ?_; rintro e w4 ⟨rfl, h1, h2, h3⟩; have HP4 := Aside0.mk (PC.wrote HP.out h1 h2); clear h1 h2 h3)) | (go_at_call 25; go_must (refine (whole_Text.calls n S _ HXT.out (tabs_below HTb.out HP4.out.bel)).mono ?_; rintro e w5 ⟨rfl, hb⟩; have HP5 := Aside0.mk (PC.below HP4.out hb); clear hb)) | (go_at_call 24; go_must (refine (write_str (S) HP5.out.bld HLc.out).mono ?_; rintro e w6 ⟨nw6, rfl, h1, h2, h3⟩; have HP6 := Aside0.mk (PC.wrote HP5.out h1 h2); clear h1 h2 h3)))
      go_roundw
      case rel => exact ⟨j + 1, by omega, by go_num, ⟨HP6.out.text (by rw [HSN.out, if_neg HJ.out, HDD.out]; simp)⟩⟩
      case measure => simp [intOf]; omega
    ·obtain rfl : j = ss.length := by omega
     have HLe : Aside0 ((preL st hd sy vs rs i 0 ++ ([118, 97, 114, 32] ++ nm.data.toList ++ [61, 123] ++ stL true (ss.take ss.length))).length + (⟨#[125, 10]⟩ : ByteArray).size ≤ 140737488355328) := ⟨by
      have e1 : (⟨#[125, 10]⟩ : ByteArray).size = 2 := rfl
      omega⟩
     clear hvl hal hlq hjl hj
     go_wp2_with (go_at_call 24; go_must (refine (write_str ((⟨#[125, 10]⟩ : ByteArray)) HP.out.bld HLe.out).mono ?_; rintro e w4 ⟨nw4, rfl, h1, h2, h3⟩; have HP4 := Aside0.mk (PC.wrote HP.out h1 h2); clear h1 h2 h3))
     go_roundw
     case rel => exact ⟨i + 1, by omega, by go_num, ⟨HP4.out.text (by rw [HPV.out, List.take_length]; simp)⟩⟩
     case measure => simp [intOf]; omega
  ·obtain rfl : i = vs.length := by omega
   have t4 : wr.cell? ⟨w.heap.size, 4, none⟩ = some (.slice A4 rs.length c4) := blk_cell HP.out.box 4
   clear hlt hi
   go_wp2
   clear t4
   go_loopw [70] (fun v wr => ∃ j : Nat, j ≤ rs.length ∧ v = .int .i64 j ∧ Aside0 (PC w w1.heap.size #[.int .i64 st, .int .u8 hd, .int .u8 sy, .slice A3 vs.length c3, .slice A4 rs.length c4] (preL st hd sy vs rs vs.length j) wr)) (fun v wr => rs.length - (intOf v).toNat)
   case atStart => exact ⟨0, Nat.zero_le _, rfl, HP⟩
   case round =>
    rename World => wr
    clear HP
    obtain ⟨j, hj, rfl, HP⟩ := hrel
    by_cases hlt : j < rs.length
    ·have q0 : (0 : Int) ≤ (j : Int) := by omega
     have q1 : (j : Int) < rs.length := by omega
     have q2 : (j : Int) ≤ 9223372036854775806 := by have := HR.out.2.1; omega
     obtain ⟨ad, AT, cT, rfl, x0, x1, x2, x3, x4, hcT, hCT⟩ := at_T41 HR.out (j : Int) q0 q1
     rw [Int.toNat_natCast] at x0 x1 x2 x3 x4
     have hrd := rd_62 rs j hlt
     have hpr := pre_r st hd sy vs rs vs.length j hlt
     have hrok := HVR.out.2 _ (List.getElem_mem hlt)
     obtain ⟨r, hr⟩ : ∃ r, rs[j] = r := ⟨_, rfl⟩
     rw [hr] at hrd hpr hrok
     rw [hrd] at x0 x1 x2 x3 x4 hCT
     have hrl := rpre_len HVR.out.1 hrok
     have hall : (preL st hd sy vs rs vs.length j).length ≤ 46000000 := HPL.out vs.length j
     unfold okRw at hrok
     simp only [Bool.and_eq_true, decide_eq_true_eq, List.all_eq_true] at hrok
     obtain ⟨⟨⟨hx0, hx2⟩, hr8⟩, hxa⟩ := hrok
     have HX0 := Aside0.mk hx0
     have HX2 := Aside0.mk hx2
     have HXA := Aside0.mk hxa
     have HPR := Aside0.mk hpr
     have HRL := Aside0.mk hrl
     have HCT := Aside0.mk hCT
     have HAL := Aside0.mk hall
     have HLa : Aside0 ((preL st hd sy vs rs vs.length j).length ≤ 1000000000) := ⟨by omega⟩
     replace x0 := pw_cell_below HP.out.bel x0
     replace x1 := pw_cell_below HP.out.bel x1
     replace x2 := pw_cell_below HP.out.bel x2
     replace x3 := pw_cell_below HP.out.bel x3
     replace x4 := pw_cell_below HP.out.bel x4
     have HPa := Aside0.mk (HP.out.alloc (Obj.cells #[.int .u8 r.f0.f0, .int .i64 r.f0.f1, .slice AT r.f1.length cT, .int .u8 r.f2.f0, .int .i64 r.f2.f1] 41))
     have HXa : Aside0 ((wr.alloc (Obj.cells #[.int .u8 r.f0.f0, .int .i64 r.f0.f1, .slice AT r.f1.length cT, .int .u8 r.f2.f0, .int .i64 r.f2.f1] 41)).heap[wr.heap.size]? = some (.cells #[.int .u8 r.f0.f0, .int .i64 r.f0.f1, .slice AT r.f1.length cT, .int .u8 r.f2.f0, .int .i64 r.f2.f1] 41 (0, 0))) := ⟨blk_new _ _⟩
     have HNE : Aside0 (wr.heap.size ≠ w1.heap.size) := ⟨Nat.ne_of_gt (bld_lt HP.out.bld)⟩
     have b0 : (wr.alloc (Obj.cells #[.int .u8 r.f0.f0, .int .i64 r.f0.f1, .slice AT r.f1.length cT, .int .u8 r.f2.f0, .int .i64 r.f2.f1] 41)).cell? ⟨w.heap.size, 0, none⟩ = some (.int .i64 st) := blk_cell HPa.out.box 0
     have b1 : (wr.alloc (Obj.cells #[.int .u8 r.f0.f0, .int .i64 r.f0.f1, .slice AT r.f1.length cT, .int .u8 r.f2.f0, .int .i64 r.f2.f1] 41)).cell? ⟨w.heap.size, 1, none⟩ = some (.int .u8 hd) := blk_cell HPa.out.box 1
     have b2 : (wr.alloc (Obj.cells #[.int .u8 r.f0.f0, .int .i64 r.f0.f1, .slice AT r.f1.length cT, .int .u8 r.f2.f0, .int .i64 r.f2.f1] 41)).cell? ⟨w.heap.size, 2, none⟩ = some (.int .u8 sy) := blk_cell HPa.out.box 2
     have b3 : (wr.alloc (Obj.cells #[.int .u8 r.f0.f0, .int .i64 r.f0.f1, .slice AT r.f1.length cT, .int .u8 r.f2.f0, .int .i64 r.f2.f1] 41)).cell? ⟨w.heap.size, 3, none⟩ = some (.slice A3 vs.length c3) := blk_cell HPa.out.box 3
     have b4 : (wr.alloc (Obj.cells #[.int .u8 r.f0.f0, .int .i64 r.f0.f1, .slice AT r.f1.length cT, .int .u8 r.f2.f0, .int .i64 r.f2.f1] 41)).cell? ⟨w.heap.size, 4, none⟩ = some (.slice (some ad) rs.length c4) := blk_cell HPa.out.box 4
     have hbx := bld_lt HP.out.bld
     have hlx := HP.out.lt
     have t0 : wr.cell? ⟨w.heap.size, 0, none⟩ = some (.int .i64 st) := blk_cell HP.out.box 0
     have t1 : wr.cell? ⟨w.heap.size, 1, none⟩ = some (.int .u8 hd) := blk_cell HP.out.box 1
     have t2 : wr.cell? ⟨w.heap.size, 2, none⟩ = some (.int .u8 sy) := blk_cell HP.out.box 2
     have t3 : wr.cell? ⟨w.heap.size, 3, none⟩ = some (.slice A3 vs.length c3) := blk_cell HP.out.box 3
     have t4 : wr.cell? ⟨w.heap.size, 4, none⟩ = some (.slice (some ad) rs.length c4) := blk_cell HP.out.box 4
     have s1 : w.heap.size < wr.heap.size := by omega
     clear hr hrd hpr hall hx0 hx2 hxa hrl hCT hcT hbx hlx b0 b1 b2 b3 b4
     go_wp2_with (go_at_call 29; go_must (refine (tell_calls w1.heap.size _ st hd sy vs A3 c3 (.slice (some ad) rs.length c4) r.f0 _ HPa.out.bld (tabs_below HTb.out HPa.out.bel) (Kd.C_below HV.out HPa.out.bel) HVR.out.1 HX0.out HLa.out).mono ?_; rintro e w3 ⟨rfl, h1, h2, h3⟩; have HP3 := Aside0.mk (PC.wrote HPa.out h1 h2); have HX3 := Aside0.mk (h3 _ _ _ _ HXa.out (by decide) HNE.out); have y2 := blk_cell HX3.out 2; clear h1 h2 h3))
     clear x0 x1 x2 x3 x4 t0 t1 t2 t3 t4 s1
     have HP3t := Aside0.mk (HP3.out.text (show preL st hd sy vs rs vs.length j ++ tellL vs r.f0 = preL st hd sy vs rs vs.length j ++ (tellL vs r.f0 ++ (r.f1.take 0).flatMap fun x => 44 :: tellL vs x) from by simp))
     clear y2 HP3 HPa HXa
     go_loopw [81] (fun v wq => ∃ m : Nat, m ≤ r.f1.length ∧ v = .int .i64 m ∧ Aside0 (PC w w1.heap.size #[.int .i64 st, .int .u8 hd, .int .u8 sy, .slice A3 vs.length c3, .slice (some ad) rs.length c4] (preL st hd sy vs rs vs.length j ++ (tellL vs r.f0 ++ (r.f1.take m).flatMap fun x => 44 :: tellL vs x)) wq) ∧ Aside0 (wq.heap[wr.heap.size]? = some (.cells #[.int .u8 r.f0.f0, .int .i64 r.f0.f1, .slice AT r.f1.length cT, .int .u8 r.f2.f0, .int .i64 r.f2.f1] 41 (0, 0)))) (fun v wq => r.f1.length - (intOf v).toNat)
     case atStart => exact ⟨0, Nat.zero_le _, rfl, HP3t, HX3⟩
     case round =>
      rename World => wq
      clear HP3t HX3 HP HLa
      obtain ⟨m, hm, rfl, HP, HX⟩ := hrel
      have hrl := HRL.out m
      have hal := HAL.out
      have hlq : (preL st hd sy vs rs vs.length j ++ (tellL vs r.f0 ++ (r.f1.take m).flatMap fun x => 44 :: tellL vs x)).length ≤ 47000000 := by rw [List.length_append]; omega
      have HLb : Aside0 ((preL st hd sy vs rs vs.length j ++ (tellL vs r.f0 ++ (r.f1.take m).flatMap fun x => 44 :: tellL vs x)).length + 1 ≤ 140737488355328) := ⟨by omega⟩
      have HLc : Aside0 ((preL st hd sy vs rs vs.length j ++ (tellL vs r.f0 ++ (r.f1.take m).flatMap fun x => 44 :: tellL vs x) ++ [44]).length ≤ 1000000000) := ⟨by rw [List.length_append, List.length_singleton]; omega⟩
      by_cases hml : m < r.f1.length
      ·have r0 : (0 : Int) ≤ (m : Int) := by omega
       have r1 : (m : Int) < r.f1.length := by omega
       have r2 : (m : Int) ≤ 9223372036854775806 := by omega
       obtain ⟨aT, rfl, m0, m1⟩ := at_T38 (Kd.C_below HCT.out HP.out.bel) (m : Int) r0 r1
       rw [Int.toNat_natCast] at m0 m1
       have hrx := rd_59 r.f1 m hml
       have hxo := HXA.out _ (List.getElem_mem hml)
       have htk := take_snoc r.f1 m hml
       obtain ⟨x, hx⟩ : ∃ x, r.f1[m] = x := ⟨_, rfl⟩
       rw [hx] at hrx hxo htk
       rw [hrx] at m0 m1
       have HXO := Aside0.mk hxo
       have HTK := Aside0.mk htk
       have HPb := Aside0.mk (HP.out.alloc (Obj.cells #[.int .u8 x.f0, .int .i64 x.f1] 38))
       have HXb : Aside0 ((wq.alloc (Obj.cells #[.int .u8 x.f0, .int .i64 x.f1] 38)).heap[wr.heap.size]? = some (.cells #[.int .u8 r.f0.f0, .int .i64 r.f0.f1, .slice (some aT) r.f1.length cT, .int .u8 r.f2.f0, .int .i64 r.f2.f1] 41 (0, 0))) := ⟨blk_alloc HX.out _⟩
       have HYb : Aside0 ((wq.alloc (Obj.cells #[.int .u8 x.f0, .int .i64 x.f1] 38)).heap[wq.heap.size]? = some (.cells #[.int .u8 x.f0, .int .i64 x.f1] 38 (0, 0))) := ⟨blk_new _ _⟩
       have HNF : Aside0 (wq.heap.size ≠ w1.heap.size) := ⟨Nat.ne_of_gt (bld_lt HP.out.bld)⟩
       clear hx hrx hxo htk hrl hal hlq
       go_wp2_with (first | (go_at_call 28; go_must (refine (write_b 44 44 rfl HPb.out.bld HLb.out).mono ?_; rintro e w4 ⟨rfl, h1, h2, h3⟩; have HP4 := Aside0.mk (PC.wrote HPb.out h1 h2); have HX4 := Aside0.mk (h3 _ _ _ _ HXb.out (by decide) HNE.out); have hy4 := h3 _ _ _ _ HYb.out (by decide) HNF.out; have z0 := blk_cell hy4 0; have z1 := blk_cell hy4 1; clear hy4; have t0 : w4.cell? ⟨w.heap.size, 0, none⟩ = some (.int .i64 st) := blk_cell HP4.out.box 0; have t1 : w4.cell? ⟨w.heap.size, 1, none⟩ = some (.int .u8 hd) := blk_cell HP4.out.box 1; have t2 : w4.cell? ⟨w.heap.size, 2, none⟩ = some (.int .u8 sy) := blk_cell HP4.out.box 2; have t3 : w4.cell? ⟨w.heap.size, 3, none⟩ = some (.slice A3 vs.length c3) := blk_cell HP4.out.box 3; have t4 : w4.cell? ⟨w.heap.size, 4, none⟩ = some (.slice (some ad) rs.length c4) := blk_cell HP4.out.box 4; clear h1 h2 h3)) | (go_at_call 29; go_must (refine (tell_calls w1.heap.size _ st hd sy vs A3 c3 (.slice (some ad) rs.length c4) x _ HP4.out.bld (tabs_below HTb.out HP4.out.bel) (Kd.C_below HV.out HP4.out.bel) HVR.out.1 HXO.out HLc.out).mono ?_; rintro e w5 ⟨rfl, h1, h2, h3⟩; have HP5 := Aside0.mk (PC.wrote HP4.out h1 h2); have HX5 := Aside0.mk (h3 _ _ _ _ HX4.out (by decide) HNE.out); clear h1 h2 h3)))
       go_roundw
       case rel => exact ⟨m + 1, by omega, by go_num, ⟨HP5.out.text (by rw [HTK.out]; simp)⟩, HX5⟩
       case measure => simp [intOf]; omega
      ·obtain rfl : m = r.f1.length := by omega
       have HLd : Aside0 ((preL st hd sy vs rs vs.length j ++ (tellL vs r.f0 ++ (r.f1.take r.f1.length).flatMap fun x => 44 :: tellL vs x) ++ [44] ++ tellL vs r.f2).length + 1 ≤ 140737488355328) := ⟨by
        have h1 := tell_len HVR.out.1 HX2.out
        rw [List.length_append, List.length_append, List.length_singleton]; omega⟩
       clear hrl hal hlq hml hm
       go_wp2_with (first | (go_at_call 28; go_must (refine (write_b 44 44 rfl HP.out.bld HLb.out).mono ?_; rintro e w4 ⟨rfl, h1, h2, h3⟩; have HP4 := Aside0.mk (PC.wrote HP.out h1 h2); have hx4 := h3 _ _ _ _ HX.out (by decide) HNE.out; have z3 := blk_cell hx4 3; have z4 := blk_cell hx4 4; clear hx4; have t0 : w4.cell? ⟨w.heap.size, 0, none⟩ = some (.int .i64 st) := blk_cell HP4.out.box 0; have t1 : w4.cell? ⟨w.heap.size, 1, none⟩ = some (.int .u8 hd) := blk_cell HP4.out.box 1; have t2 : w4.cell? ⟨w.heap.size, 2, none⟩ = some (.int .u8 sy) := blk_cell HP4.out.box 2; have t3 : w4.cell? ⟨w.heap.size, 3, none⟩ = some (.slice A3 vs.length c3) := blk_cell HP4.out.box 3; have t4 : w4.cell? ⟨w.heap.size, 4, none⟩ = some (.slice (some ad) rs.length c4) := blk_cell HP4.out.box 4; clear h1 h2 h3)))
       go_wp2_with (go_at_call 29; go_must (refine (tell_calls w1.heap.size _ st hd sy vs A3 c3 (.slice (some ad) rs.length c4) r.f2 _ HP4.out.bld (tabs_below HTb.out HP4.out.bel) (Kd.C_below HV.out HP4.out.bel) HVR.out.1 HX2.out HLc.out).mono ?_; rintro e w5 ⟨rfl, h1, h2, h3⟩; have HP5 := Aside0.mk (PC.wrote HP4.out h1 h2); clear h1 h2 h3))
       go_wp2_with (go_at_call 28; go_must (refine (write_b 10 10 rfl HP5.out.bld HLd.out).mono ?_; rintro e w6 ⟨rfl, h1, h2, h3⟩; have HP6 := Aside0.mk (PC.wrote HP5.out h1 h2); clear h1 h2 h3))
       go_roundw
       case rel => exact ⟨j + 1, by omega, by go_num, ⟨HP6.out.text (by rw [HPR.out, List.take_length]; simp [rowL])⟩⟩
       case measure => simp [intOf]; omega
    ·obtain rfl : j = rs.length := by omega
     have ht : preL st hd sy vs rs vs.length rs.length = textL st hd sy vs rs := by unfold preL textL; rw [List.take_length, List.take_length]
     rw [ht] at HP
     obtain ⟨X, hX⟩ : ∃ X, textL st hd sy vs rs = X := ⟨_, rfl⟩
     rw [hX] at HP
     have HXX := Aside0.mk hX
     have hxl : X.length ≤ 46000000 := by rw [← hX, ← ht]; exact HPL.out vs.length rs.length
     have HSZ := Aside0.mk (Nat.le_of_lt (bld_lt HP.out.bld))
     clear ht hX hlt hj
     by_cases hc : X.length ≤ 1048576
     ·have hc1 : ¬ (1048576 : Int) < (X.length : Int) := by omega
      have hc2 : decide (1048576 < X.length) = false := decide_eq_false (by omega)
      have HC := Aside0.mk hc
      clear hc
      go_wp2_with (first | (go_at_call 30; go_must (refine (Tryd.Builder_Len w1.heap.size w1.heap.size (Lib.byteCells X) _ HP.out.bld).mono ?_; rintro e w2 ⟨rfl, rfl⟩; rw [Lib.byteCells_length])) | (go_at_call 31; go_must (refine (Tryd.Builder_String_any w1.heap.size w1.heap.size X _ HP.out.bld HSZ.out).mono ?_; rintro e w3 ⟨rfl, hb⟩; have HB3 := Aside0.mk (HP.out.bel.trans (hb.mono (Nat.le_of_lt HP.out.lt))); clear hb)))
      go_ret2
      exact ⟨by rw [HXX.out]; unfold resS; rw [if_pos HC.out]; rfl, HB3.out⟩
     ·have hc1 : (1048576 : Int) < (X.length : Int) := by omega
      have hc2 : decide (1048576 < X.length) = true := decide_eq_true (by omega)
      have HC := Aside0.mk hc
      clear hc
      go_wp2_with (go_at_call 30; go_must (refine (Tryd.Builder_Len w1.heap.size w1.heap.size (Lib.byteCells X) _ HP.out.bld).mono ?_; rintro e w2 ⟨rfl, rfl⟩; rw [Lib.byteCells_length]))
      go_ret2
      exact ⟨by rw [HXX.out]; unfold resS; rw [if_neg HC.out]; rfl, HP.out.bel⟩
def table_Print.f (k : Nat) (st hd sy : Int) (vs : List Vr) (rs : List Rw) : Option (ByteArray × Int) :=
 (table_Check.f k st hd sy vs rs).bind fun e => if e = 0 then (if okTb st hd sy vs rs = true then some (if (textL st hd sy vs rs).length ≤ 1048576 then (⟨(textL st hd sy vs rs).toArray⟩, 0) else (⟨#[]⟩, 3)) else none) else some (⟨#[]⟩, e)
set_option maxHeartbeats 4000000 in
set_option maxRecDepth 100000 in
theorem table_Print.calls (k : Nat) (st hd sy : Int) (A3 : Option Addr) (c3 : Nat) (vs : List Vr) (A4 : Option Addr) (c4 : Nat) (rs : List Rw) (r1 : ByteArray) (r2 : Int) (w : World) (hr3 : Kd.C k49 w A3 vs.length vs) (hc3 : vs.length ≤ c3) (hr4 : Kd.C k41 w A4 rs.length rs) (hc4 : rs.length ≤ c4)
  (h : table_Print.f k st hd sy vs rs = some (r1, r2)) (HTb_ : TabsOk w) :
  Calls Tryd.prog 8 #[.agg #[.int .i64 st, .int .u8 hd, .int .u8 sy, .slice A3 vs.length c3, .slice A4 rs.length c4]] w fun e w' => e = .returned (.tuple #[.string r1, .int .i64 r2]) ∧ Below w.heap.size w w' := by
 unfold table_Print.f at h
 replace h := Option.bind_eq_some_iff.1 h
 obtain ⟨e, he, h⟩ := h
 by_cases h0 : e = 0
 ·subst h0
  rw [if_pos rfl] at h
  by_cases hok : okTb st hd sy vs rs = true
  ·rw [if_pos hok] at h
   refine (print_walk k st hd sy A3 c3 vs A4 c4 rs w hr3 hc3 hr4 hc4 he hok HTb_).mono ?_
   rintro e w' ⟨rfl, hb⟩
   refine ⟨?_, hb⟩
   unfold resS
   by_cases hl : (textL st hd sy vs rs).length ≤ 1048576
   ·rw [if_pos hl] at h ⊢
    obtain ⟨rfl, rfl⟩ := Prod.mk.inj (Option.some.inj h)
    rfl
   ·rw [if_neg hl] at h ⊢
    obtain ⟨rfl, rfl⟩ := Prod.mk.inj (Option.some.inj h)
    rfl
  ·rw [if_neg hok] at h; cases h
 ·rw [if_neg h0] at h
  obtain ⟨rfl, rfl⟩ := Prod.mk.inj (Option.some.inj h)
  have HV := Aside0.mk hr3
  have HVc := Aside0.mk hc3
  have HR := Aside0.mk hr4
  have HRc := Aside0.mk hc4
  have HE := Aside0.mk he
  have h2b : (e == 0) = false := by rw [beq_eq_false_iff_ne]; exact h0
  have h2c : (e != 0) = true := bne_iff_ne.mpr h0
  clear hr3 hc3 hr4 hc4 he h0 h HTb_
  go_enter Tryd.func8, Tryd.ntmps8
  go_wp2_with (go_at_call 7; go_must ((with_reducible refine (table_Check.calls k st hd sy A3 c3 vs A4 c4 rs e _ (Kd.C_alloc HV.out _) HVc.out (Kd.C_alloc HR.out _) HRc.out HE.out).mono ?_); rintro e' w1 ⟨rfl, hb1⟩; have ht1 := blk_below (blk_new w _) hb1; have HB1 := Aside0.mk (below_step (below_alloc (Below.refl w.heap.size w) (Obj.cells #[.int .i64 st, .int .u8 hd, .int .u8 sy, .slice A3 vs.length c3, .slice A4 rs.length c4] 25)) hb1); have HT1 := Aside0.mk ht1; clear ht1 hb1))
  go_ret2
  exact ⟨rfl, HB1.out⟩
end Go.Proofs.YtajhfkcmfmhnaaaDoor.P
end
section
namespace Go.Proofs.YtajhfkcmfmhnaaaDoor.P
open Go.RowKit Go.Proofs.YtajhfkcmfmhnaaaDoorW.PrintWords Go.Proofs.YtajhfkcmfmhnaaaDoorW.PrintLast Go.Proofs.YtajhfkcmfmhnaaaDoorW.PrintMore
attribute [local go_sem] max2_int min2_int max_two min_two max_three min_three max_four min_four   -- for this text's walks alone
set_option linter.unusedVariables false
set_option linter.unusedSimpArgs false
def vivariumref10_hoods.f  : Option (List ByteArray) := some (([(⟨#[]⟩ : ByteArray), (⟨#[77, 111, 111, 114, 101]⟩ : ByteArray), (⟨#[118, 111, 110, 78, 101, 117, 109, 97, 110, 110]⟩ : ByteArray), (⟨#[104, 101, 120, 97, 103, 111, 110, 97, 108]⟩ : ByteArray)] : List ByteArray))
set_option maxHeartbeats 8000000 in
set_option maxRecDepth 100000 in
theorem vivariumref10_hoods.calls  (r : List ByteArray) (w : World) (h : vivariumref10_hoods.f  = some r) :
  Calls Tryd.prog 15 #[] w fun e w' => ∃ v0_ : Value, e = .returned (v0_) ∧ Kd.R Kd.string 9 w' w.heap.size (fun _ => True) v0_ r ∧ Below w.heap.size w w' := by
 have HB := Aside0.mk (Below.refl w.heap.size w)
 have H : (some (([(⟨#[]⟩ : ByteArray), (⟨#[77, 111, 111, 114, 101]⟩ : ByteArray), (⟨#[118, 111, 110, 78, 101, 117, 109, 97, 110, 110]⟩ : ByteArray), (⟨#[104, 101, 120, 97, 103, 111, 110, 97, 108]⟩ : ByteArray)] : List ByteArray))) = some r := h
 clear h
 obtain ⟨y163, hy163⟩ : ∃ y_ : List ByteArray, y_ = (([(⟨#[]⟩ : ByteArray), (⟨#[77, 111, 111, 114, 101]⟩ : ByteArray), (⟨#[118, 111, 110, 78, 101, 117, 109, 97, 110, 110]⟩ : ByteArray), (⟨#[104, 101, 120, 97, 103, 111, 110, 97, 108]⟩ : ByteArray)] : List ByteArray)) := ⟨_, rfl⟩
 replace H : (some y163) = some r := by first | (rw [hy163]; with_reducible exact H) | (have H2_ := (Option.bind_some _ _).symm.trans H; rw [hy163]; with_reducible exact H2_) | (have H2_ := (Option.bind_some _ _).symm.trans H; with_reducible exact H2_) | with_reducible exact H | (rw [hy163]; exact H) | exact H
 have Ny163 := Aside0.mk hy163
 clear hy163
 obtain rfl := Option.some.inj H
 go_enter Tryd.func15, Tryd.ntmps15
 go_wp2_with (first | ((with_reducible refine gate_dst (N := 1) rfl ?_); refine Kd.R_lit Kd.string _ 9 ?hg (N := 1) ?hd (xs := ([(⟨#[]⟩ : ByteArray), (⟨#[77, 111, 111, 114, 101]⟩ : ByteArray), (⟨#[118, 111, 110, 78, 101, 117, 109, 97, 110, 110]⟩ : ByteArray), (⟨#[104, 101, 120, 97, 103, 111, 110, 97, 108]⟩ : ByteArray)] : List ByteArray)) (inner := [.string (⟨#[]⟩ : ByteArray), .string (⟨#[77, 111, 111, 114, 101]⟩ : ByteArray), .string (⟨#[118, 111, 110, 78, 101, 117, 109, 97, 110, 110]⟩ : ByteArray), .string (⟨#[104, 101, 120, 97, 103, 111, 110, 97, 108]⟩ : ByteArray)]) (ok := fun _ => True) (okp := fun _ => True) ?hr ?hp (fun _ hk => hk) trivial (Below.refl _ _) (Nat.le_refl _) (by simp) ?_; (case hd => rfl); (case hg => rfl); (case hr => first | (go_simp; done) | (go_simp; rfl)); (case hp => exact (Reps.one (show Kd.M Kd.string _ _ _ (⟨#[]⟩ : ByteArray) [.string (⟨#[]⟩ : ByteArray)] from rfl) (Reps.one (show Kd.M Kd.string _ _ _ (⟨#[77, 111, 111, 114, 101]⟩ : ByteArray) [.string (⟨#[77, 111, 111, 114, 101]⟩ : ByteArray)] from rfl) (Reps.one (show Kd.M Kd.string _ _ _ (⟨#[118, 111, 110, 78, 101, 117, 109, 97, 110, 110]⟩ : ByteArray) [.string (⟨#[118, 111, 110, 78, 101, 117, 109, 97, 110, 110]⟩ : ByteArray)] from rfl) (Reps.one (show Kd.M Kd.string _ _ _ (⟨#[104, 101, 120, 97, 103, 111, 110, 97, 108]⟩ : ByteArray) [.string (⟨#[104, 101, 120, 97, 103, 111, 110, 97, 108]⟩ : ByteArray)] from rfl) (Reps.none _ _)))))); intro v164 w1 ho2 hb hg_ hnew_; clear hg_ hnew_; (first | rw [← Ny163.out] at ho2 | (simp only [Int.reduceToNat] at ho2; rw [← Ny163.out] at ho2)); have n0_ := Aside0.mk (Kd.R_lower ho2 (below_size (by repeat (first | (with_reducible first | exact HB.out | apply below_alloc | apply pw_below_drewN | apply below_drew1) | exact HB.out)))); have n1_ := Aside0.mk (below_step (by repeat (first | (with_reducible first | exact HB.out | apply below_alloc | apply pw_below_drewN | apply below_drew1) | exact HB.out)) hb); clear HB; have HO165 := n0_; have HB := n1_; clear n0_ n1_; clear hb ho2))
 go_ret
 exact ⟨_, by first | rfl | (simp [errW_none, errW_some] <;> rfl) | (simp [*, errW_none, errW_some] <;> rfl), by (with_reducible repeat (first | apply Kd.R_alloc | apply Kd.R_drewN | apply Kd.R_drew)); exact HO165.out, by repeat (first | (with_reducible first | exact HB.out | apply below_alloc | apply pw_below_drewN | apply below_drew1) | exact HB.out)⟩
end Go.Proofs.YtajhfkcmfmhnaaaDoor.P
namespace Go.Proofs.YtajhfkcmfmhnaaaDoor.P
open Go.RowKit Go.Proofs.YtajhfkcmfmhnaaaDoorW.PrintWords Go.Proofs.YtajhfkcmfmhnaaaDoorW.PrintLast Go.Proofs.YtajhfkcmfmhnaaaDoorW.PrintMore
attribute [local go_sem] max2_int min2_int max_two min_two max_three min_three max_four min_four   -- for this text's walks alone
set_option linter.unusedVariables false
set_option linter.unusedSimpArgs false
def vivariumref10_words.f  : Option (List ByteArray) := some (([(⟨#[110, 111, 110, 101]⟩ : ByteArray), (⟨#[114, 111, 116, 97, 116, 101, 52]⟩ : ByteArray), (⟨#[114, 111, 116, 97, 116, 101, 56]⟩ : ByteArray), (⟨#[114, 101, 102, 108, 101, 99, 116, 95, 104, 111, 114, 105, 122, 111, 110, 116, 97, 108]⟩ : ByteArray), (⟨#[114, 111, 116, 97, 116, 101, 52, 114, 101, 102, 108, 101, 99, 116]⟩ : ByteArray), (⟨#[114, 111, 116, 97, 116, 101, 56, 114, 101, 102, 108, 101, 99, 116]⟩ : ByteArray), (⟨#[112, 101, 114, 109, 117, 116, 101]⟩ : ByteArray), (⟨#[114, 111, 116, 97, 116, 101, 50]⟩ : ByteArray), (⟨#[114, 111, 116, 97, 116, 101, 51]⟩ : ByteArray), (⟨#[114, 111, 116, 97, 116, 101, 54]⟩ : ByteArray), (⟨#[114, 111, 116, 97, 116, 101, 54, 114, 101, 102, 108, 101, 99, 116]⟩ : ByteArray)] : List ByteArray))
set_option maxHeartbeats 8000000 in
set_option maxRecDepth 100000 in
theorem vivariumref10_words.calls  (r : List ByteArray) (w : World) (h : vivariumref10_words.f  = some r) :
  Calls Tryd.prog 16 #[] w fun e w' => ∃ v0_ : Value, e = .returned (v0_) ∧ Kd.R Kd.string 9 w' w.heap.size (fun _ => True) v0_ r ∧ Below w.heap.size w w' := by
 have HB := Aside0.mk (Below.refl w.heap.size w)
 have H : (some (([(⟨#[110, 111, 110, 101]⟩ : ByteArray), (⟨#[114, 111, 116, 97, 116, 101, 52]⟩ : ByteArray), (⟨#[114, 111, 116, 97, 116, 101, 56]⟩ : ByteArray), (⟨#[114, 101, 102, 108, 101, 99, 116, 95, 104, 111, 114, 105, 122, 111, 110, 116, 97, 108]⟩ : ByteArray), (⟨#[114, 111, 116, 97, 116, 101, 52, 114, 101, 102, 108, 101, 99, 116]⟩ : ByteArray), (⟨#[114, 111, 116, 97, 116, 101, 56, 114, 101, 102, 108, 101, 99, 116]⟩ : ByteArray), (⟨#[112, 101, 114, 109, 117, 116, 101]⟩ : ByteArray), (⟨#[114, 111, 116, 97, 116, 101, 50]⟩ : ByteArray), (⟨#[114, 111, 116, 97, 116, 101, 51]⟩ : ByteArray), (⟨#[114, 111, 116, 97, 116, 101, 54]⟩ : ByteArray), (⟨#[114, 111, 116, 97, 116, 101, 54, 114, 101, 102, 108, 101, 99, 116]⟩ : ByteArray)] : List ByteArray))) = some r := h
 clear h
 obtain ⟨y166, hy166⟩ : ∃ y_ : List ByteArray, y_ = (([(⟨#[110, 111, 110, 101]⟩ : ByteArray), (⟨#[114, 111, 116, 97, 116, 101, 52]⟩ : ByteArray), (⟨#[114, 111, 116, 97, 116, 101, 56]⟩ : ByteArray), (⟨#[114, 101, 102, 108, 101, 99, 116, 95, 104, 111, 114, 105, 122, 111, 110, 116, 97, 108]⟩ : ByteArray), (⟨#[114, 111, 116, 97, 116, 101, 52, 114, 101, 102, 108, 101, 99, 116]⟩ : ByteArray), (⟨#[114, 111, 116, 97, 116, 101, 56, 114, 101, 102, 108, 101, 99, 116]⟩ : ByteArray), (⟨#[112, 101, 114, 109, 117, 116, 101]⟩ : ByteArray), (⟨#[114, 111, 116, 97, 116, 101, 50]⟩ : ByteArray), (⟨#[114, 111, 116, 97, 116, 101, 51]⟩ : ByteArray), (⟨#[114, 111, 116, 97, 116, 101, 54]⟩ : ByteArray), (⟨#[114, 111, 116, 97, 116, 101, 54, 114, 101, 102, 108, 101, 99, 116]⟩ : ByteArray)] : List ByteArray)) := ⟨_, rfl⟩
 replace H : (some y166) = some r := by first | (rw [hy166]; with_reducible exact H) | (have H2_ := (Option.bind_some _ _).symm.trans H; rw [hy166]; with_reducible exact H2_) | (have H2_ := (Option.bind_some _ _).symm.trans H; with_reducible exact H2_) | with_reducible exact H | (rw [hy166]; exact H) | exact H
 have Ny166 := Aside0.mk hy166
 clear hy166
 obtain rfl := Option.some.inj H
 go_enter Tryd.func16, Tryd.ntmps16
 go_wp2_with (first | ((with_reducible refine gate_dst (N := 1) rfl ?_); refine Kd.R_lit Kd.string _ 9 ?hg (N := 1) ?hd (xs := ([(⟨#[110, 111, 110, 101]⟩ : ByteArray), (⟨#[114, 111, 116, 97, 116, 101, 52]⟩ : ByteArray), (⟨#[114, 111, 116, 97, 116, 101, 56]⟩ : ByteArray), (⟨#[114, 101, 102, 108, 101, 99, 116, 95, 104, 111, 114, 105, 122, 111, 110, 116, 97, 108]⟩ : ByteArray), (⟨#[114, 111, 116, 97, 116, 101, 52, 114, 101, 102, 108, 101, 99, 116]⟩ : ByteArray), (⟨#[114, 111, 116, 97, 116, 101, 56, 114, 101, 102, 108, 101, 99, 116]⟩ : ByteArray), (⟨#[112, 101, 114, 109, 117, 116, 101]⟩ : ByteArray), (⟨#[114, 111, 116, 97, 116, 101, 50]⟩ : ByteArray), (⟨#[114, 111, 116, 97, 116, 101, 51]⟩ : ByteArray), (⟨#[114, 111, 116, 97, 116, 101, 54]⟩ : ByteArray), (⟨#[114, 111, 116, 97, 116, 101, 54, 114, 101, 102, 108, 101, 99, 116]⟩ : ByteArray)] : List ByteArray)) (inner := [.string (⟨#[110, 111, 110, 101]⟩ : ByteArray), .string (⟨#[114, 111, 116, 97, 116, 101, 52]⟩ : ByteArray), .string (⟨#[114, 111, 116, 97, 116, 101, 56]⟩ : ByteArray), .string (⟨#[114, 101, 102, 108, 101, 99, 116, 95, 104, 111, 114, 105, 122, 111, 110, 116, 97, 108]⟩ : ByteArray), .string (⟨#[114, 111, 116, 97, 116, 101, 52, 114, 101, 102, 108, 101, 99, 116]⟩ : ByteArray), .string (⟨#[114, 111, 116, 97, 116, 101, 56, 114, 101, 102, 108, 101, 99, 116]⟩ : ByteArray), .string (⟨#[112, 101, 114, 109, 117, 116, 101]⟩ : ByteArray), .string (⟨#[114, 111, 116, 97, 116, 101, 50]⟩ : ByteArray), .string (⟨#[114, 111, 116, 97, 116, 101, 51]⟩ : ByteArray), .string (⟨#[114, 111, 116, 97, 116, 101, 54]⟩ : ByteArray), .string (⟨#[114, 111, 116, 97, 116, 101, 54, 114, 101, 102, 108, 101, 99, 116]⟩ : ByteArray)]) (ok := fun _ => True) (okp := fun _ => True) ?hr ?hp (fun _ hk => hk) trivial (Below.refl _ _) (Nat.le_refl _) (by simp) ?_; (case hd => rfl); (case hg => rfl); (case hr => first | (go_simp; done) | (go_simp; rfl)); (case hp => exact (Reps.one (show Kd.M Kd.string _ _ _ (⟨#[110, 111, 110, 101]⟩ : ByteArray) [.string (⟨#[110, 111, 110, 101]⟩ : ByteArray)] from rfl) (Reps.one (show Kd.M Kd.string _ _ _ (⟨#[114, 111, 116, 97, 116, 101, 52]⟩ : ByteArray) [.string (⟨#[114, 111, 116, 97, 116, 101, 52]⟩ : ByteArray)] from rfl) (Reps.one (show Kd.M Kd.string _ _ _ (⟨#[114, 111, 116, 97, 116, 101, 56]⟩ : ByteArray) [.string (⟨#[114, 111, 116, 97, 116, 101, 56]⟩ : ByteArray)] from rfl) (Reps.one (show Kd.M Kd.string _ _ _ (⟨#[114, 101, 102, 108, 101, 99, 116, 95, 104, 111, 114, 105, 122, 111, 110, 116, 97, 108]⟩ : ByteArray) [.string (⟨#[114, 101, 102, 108, 101, 99, 116, 95, 104, 111, 114, 105, 122, 111, 110, 116, 97, 108]⟩ : ByteArray)] from rfl) (Reps.one (show Kd.M Kd.string _ _ _ (⟨#[114, 111, 116, 97, 116, 101, 52, 114, 101, 102, 108, 101, 99, 116]⟩ : ByteArray) [.string (⟨#[114, 111, 116, 97, 116, 101, 52, 114, 101, 102, 108, 101, 99, 116]⟩ : ByteArray)] from rfl) (Reps.one (show Kd.M Kd.string _ _ _ (⟨#[114, 111, 116, 97, 116, 101, 56, 114, 101, 102, 108, 101, 99, 116]⟩ : ByteArray) [.string (⟨#[114, 111, 116, 97, 116, 101, 56, 114, 101, 102, 108, 101, 99, 116]⟩ : ByteArray)] from rfl) (Reps.one (show Kd.M Kd.string _ _ _ (⟨#[112, 101, 114, 109, 117, 116, 101]⟩ : ByteArray) [.string (⟨#[112, 101, 114, 109, 117, 116, 101]⟩ : ByteArray)] from rfl) (Reps.one (show Kd.M Kd.string _ _ _ (⟨#[114, 111, 116, 97, 116, 101, 50]⟩ : ByteArray) [.string (⟨#[114, 111, 116, 97, 116, 101, 50]⟩ : ByteArray)] from rfl) (Reps.one (show Kd.M Kd.string _ _ _ (⟨#[114, 111, 116, 97, 116, 101, 51]⟩ : ByteArray) [.string (⟨#[114, 111, 116, 97, 116, 101, 51]⟩ : ByteArray)] from rfl) (Reps.one (show Kd.M Kd.string _ _ _ (⟨#[114, 111, 116, 97, 116, 101, 54]⟩ : ByteArray) [.string (⟨#[114, 111, 116, 97, 116, 101, 54]⟩ : ByteArray)] from rfl) (Reps.one (show Kd.M Kd.string _ _ _ (⟨#[114, 111, 116, 97, 116, 101, 54, 114, 101, 102, 108, 101, 99, 116]⟩ : ByteArray) [.string (⟨#[114, 111, 116, 97, 116, 101, 54, 114, 101, 102, 108, 101, 99, 116]⟩ : ByteArray)] from rfl) (Reps.none _ _))))))))))))); intro v167 w1 ho2 hb hg_ hnew_; clear hg_ hnew_; (first | rw [← Ny166.out] at ho2 | (simp only [Int.reduceToNat] at ho2; rw [← Ny166.out] at ho2)); have n0_ := Aside0.mk (Kd.R_lower ho2 (below_size (by repeat (first | (with_reducible first | exact HB.out | apply below_alloc | apply pw_below_drewN | apply below_drew1) | exact HB.out)))); have n1_ := Aside0.mk (below_step (by repeat (first | (with_reducible first | exact HB.out | apply below_alloc | apply pw_below_drewN | apply below_drew1) | exact HB.out)) hb); clear HB; have HO168 := n0_; have HB := n1_; clear n0_ n1_; clear hb ho2))
 go_ret
 exact ⟨_, by first | rfl | (simp [errW_none, errW_some] <;> rfl) | (simp [*, errW_none, errW_some] <;> rfl), by (with_reducible repeat (first | apply Kd.R_alloc | apply Kd.R_drewN | apply Kd.R_drew)); exact HO168.out, by repeat (first | (with_reducible first | exact HB.out | apply below_alloc | apply pw_below_drewN | apply below_drew1) | exact HB.out)⟩
end Go.Proofs.YtajhfkcmfmhnaaaDoor.P
namespace Go.Proofs.YtajhfkcmfmhnaaaDoor.P
open Go.RowKit Go.Proofs.YtajhfkcmfmhnaaaDoorW.PrintWords Go.Proofs.YtajhfkcmfmhnaaaDoorW.PrintLast Go.Proofs.YtajhfkcmfmhnaaaDoorW.PrintMore
attribute [local go_sem] max2_int min2_int max_two min_two max_three min_three max_four min_four   -- for this text's walks alone
set_option linter.unusedVariables false
set_option linter.unusedSimpArgs false
def vivariumref01_size.f (a0 : Int) : Option (Int) := if a0 < 0 then (some (IntKind.u64.wrap ((IntKind.u64.wrap (wrap64 (-(wrap64 (a0 + 1))))) + 1))) else (some (IntKind.u64.wrap (a0)))
set_option maxHeartbeats 8000000 in
set_option maxRecDepth 100000 in
theorem vivariumref01_size.calls (a0 : Int) (r : Int) (w : World) (h : vivariumref01_size.f a0 = some r) :
  Calls Tryd.prog 35 #[.int .i64 a0] w fun e w' => e = .returned (.int .u64 r) ∧ Drawn0 w w' := by
 have H : (if a0 < 0 then (some (IntKind.u64.wrap ((IntKind.u64.wrap (wrap64 (-(wrap64 (a0 + 1))))) + 1))) else (some (IntKind.u64.wrap (a0)))) = some r := h
 clear h
 by_cases c2 : a0 < 0
 ·rw [if_pos c2] at H
  have c2b0 : decide (a0 < 0) = true := decide_eq_true c2
  clear c2
  obtain rfl := Option.some.inj H
  go_enter Tryd.func35, Tryd.ntmps35
  go_wp2
  go_ret
  exact ⟨by first | rfl | (simp; done) | (simp [*]; done), by repeat (first | exact Drawn0.refl _ | apply Drawn0.step)⟩
 ·rw [if_neg c2] at H
  have c2b0 : decide (a0 < 0) = false := decide_eq_false c2
  clear c2
  obtain rfl := Option.some.inj H
  go_enter Tryd.func35, Tryd.ntmps35
  go_wp2
  go_ret
  exact ⟨by first | rfl | (simp; done) | (simp [*]; done), by repeat (first | exact Drawn0.refl _ | apply Drawn0.step)⟩
end Go.Proofs.YtajhfkcmfmhnaaaDoor.P
namespace Go.Proofs.YtajhfkcmfmhnaaaDoor.P
open Go.RowKit Go.Proofs.YtajhfkcmfmhnaaaDoorW.PrintWords Go.Proofs.YtajhfkcmfmhnaaaDoorW.PrintLast Go.Proofs.YtajhfkcmfmhnaaaDoorW.PrintMore
attribute [local go_sem] max2_int min2_int max_two min_two max_three min_three max_four min_four   -- for this text's walks alone
set_option linter.unusedVariables false
set_option linter.unusedSimpArgs false
def vivariumref01_Text.l0 : Nat → Int → Int → ByteArray → Option (ByteArray)
 | 0, _, _, _ => none
 | k + 1, x0, x3, x4 => if x3 > 0 then ((some (([(IntKind.u64.wrap (48 + (Int.tmod x3 10))) % 256] : List Int) : List Int)).bind fun y170 => (if (strOfNums y170).size + x4.size ≤ 9223372036854775807 then (vivariumref01_Text.l0 k x0 (IntKind.u64.wrap (Int.tdiv x3 10)) ((strOfNums y170) ++ x4)) else (none))) else (if x4.toList = ([] : List UInt8) then ((some (([(IntKind.u64.wrap (48 + (Int.tmod x3 10))) % 256] : List Int) : List Int)).bind fun y173 => (if (strOfNums y173).size + x4.size ≤ 9223372036854775807 then (vivariumref01_Text.l0 k x0 (IntKind.u64.wrap (Int.tdiv x3 10)) ((strOfNums y173) ++ x4)) else (none))) else (if x0 < 0 then (if 1 + x4.size ≤ 9223372036854775807 then (some ((⟨#[45]⟩ : ByteArray) ++ x4)) else (none)) else (some x4)))
def vivariumref01_Text.f (k : Nat) (a0 : Int) : Option (ByteArray) := (vivariumref01_size.f a0).bind fun t169 => (vivariumref01_Text.l0 k a0 t169 (⟨#[]⟩ : ByteArray))
set_option maxHeartbeats 8000000 in
set_option maxRecDepth 100000 in
theorem vivariumref01_Text.calls (k : Nat) (a0 : Int) (r : ByteArray) (w : World) (h : vivariumref01_Text.f k a0 = some r) :
  Calls Tryd.prog 17 #[.int .i64 a0] w fun e w' => e = .returned (.string r) ∧ Below w.heap.size w w' := by
 have HB := Aside0.mk (Below.refl w.heap.size w)
 have H : ((vivariumref01_size.f a0).bind fun t169 => (vivariumref01_Text.l0 k a0 t169 (⟨#[]⟩ : ByteArray))) = some r := h
 clear h
 replace H := Option.bind_eq_some_iff.mp H
 obtain ⟨t169, A20, H⟩ := H
 replace H : (vivariumref01_Text.l0 k a0 t169 (⟨#[]⟩ : ByteArray)) = some r := H
 have A2 := Aside0.mk A20
 clear A20
 have H' := Aside0.mk H
 clear H
 go_enter Tryd.func17, Tryd.ntmps17
 go_wp2_with (first | ((with_reducible refine gate_callee (f := 35) rfl ?_); refine goesL_ (some 6) rfl rfl Tryd.func35 (by kernel_rfl) rfl #[.int .i64 a0] rfl (by (try simp only [List.map_toArray, List.map_cons, List.map_nil]); first | done | rfl | (simp only [List.length_drop, List.length_take]; rfl)) ?_; (with_reducible refine (vivariumref01_size.calls a0 t169 _ A2.out).mono ?_); rintro e w' ⟨rfl, ⟨nd, rfl⟩⟩; refine ⟨_, rfl, ?_⟩))
 go_loopg [3, 4] k (fun kq v3 v4 w' => ∃ (x3_1 : Int) (x4_1 : ByteArray), v3 = .int .u64 x3_1 ∧ v4 = .string x4_1 ∧ Aside0 (vivariumref01_Text.l0 kq a0 x3_1 x4_1 = some r) ∧ Aside0 (kq ≤ k) ∧ Aside0 (Below w.heap.size w w'))
 case atStart => exact ⟨(t169), ((⟨#[]⟩ : ByteArray)), (by first | rfl | (simp; done) | (simp [*]; done)), (by first | rfl | (simp; done) | (simp [*]; done)), H', ⟨Nat.le_refl _⟩, ⟨by repeat (first | (with_reducible first | exact HB.out | apply below_alloc | apply pw_below_drewN | apply below_drew1) | exact HB.out)⟩⟩
 case round =>
  clear H'
  try clear c1
  try clear p2
  obtain ⟨x3_1, x4_1, rfl, rfl, HA, HK1, HB⟩ := hrel
  cases gk with
  | zero => exact absurd HA.out (by simp [vivariumref01_Text.l0])
  | succ k1 =>
   have H := HA.out
   clear HA
   simp only [vivariumref01_Text.l0] at H
   by_cases c3 : x3_1 > 0
   ·rw [if_pos c3] at H
    have c3b0 : decide (0 < x3_1) = true := decide_eq_true c3
    clear c3
    obtain ⟨y170, hy170⟩ : ∃ y_ : List Int, y_ = (([(IntKind.u64.wrap (48 + (Int.tmod x3_1 10))) % 256] : List Int)) := ⟨_, rfl⟩
    replace H : (if (strOfNums y170).size + x4_1.size ≤ 9223372036854775807 then (vivariumref01_Text.l0 k1 a0 (IntKind.u64.wrap (Int.tdiv x3_1 10)) ((strOfNums y170) ++ x4_1)) else (none)) = some r := by first | (rw [hy170]; with_reducible exact H) | (have H2_ := (Option.bind_some _ _).symm.trans H; rw [hy170]; with_reducible exact H2_) | (have H2_ := (Option.bind_some _ _).symm.trans H; with_reducible exact H2_) | with_reducible exact H | (rw [hy170]; exact H) | exact H
    have Ny170 := Aside0.mk hy170
    clear hy170
    by_cases c4 : (strOfNums y170).size + x4_1.size ≤ 9223372036854775807
    ·rw [if_pos c4] at H
     have c4b0 := eq_true c4
     have c4b1 : decide ((strOfNums y170).size + x4_1.size ≤ 9223372036854775807) = true := decide_eq_true c4
     try have c4b2 : (9223372036854775807 < (strOfNums y170).size + x4_1.size) = False := eq_false (Nat.not_lt.2 c4)
     have H' := Aside0.mk H
     clear H
     go_wp2_with (first | ((with_reducible refine gate_dst (N := 17) rfl ?_); refine Kd.R_lit (Kd.int .u8) _ 5 ?hg (N := 17) ?hd (xs := ([(IntKind.u64.wrap (48 + (Int.tmod x3_1 10))) % 256] : List Int)) (inner := [.int .u8 ((IntKind.u64.wrap (48 + (Int.tmod x3_1 10))) % 256)]) (ok := fun _ => True) (okp := fun _ => True) ?hr ?hp (fun _ hk => hk) trivial (Below.refl _ _) (Nat.le_refl _) (by simp) ?_; (case hd => rfl); (case hg => rfl); (case hr => first | (go_simp; done) | (go_simp; rfl)); (case hp => exact (Reps.one (show Kd.M (Kd.int .u8) _ _ _ ((IntKind.u64.wrap (48 + (Int.tmod x3_1 10))) % 256) [.int .u8 ((IntKind.u64.wrap (48 + (Int.tmod x3_1 10))) % 256)] from rfl) (Reps.none _ _))); intro v171 w5 ho6 hb hg_ hnew_; clear hg_ hnew_; (first | rw [← Ny170.out] at ho6 | (simp only [Int.reduceToNat] at ho6; rw [← Ny170.out] at ho6)); have n0_ := Aside0.mk (Kd.R_lower ho6 (below_size (by repeat (first | (with_reducible first | exact HB.out | apply below_alloc | apply pw_below_drewN | apply below_drew1) | exact HB.out)))); have n1_ := Aside0.mk (below_step (by repeat (first | (with_reducible first | exact HB.out | apply below_alloc | apply pw_below_drewN | apply below_drew1) | exact HB.out)) hb); clear HB; have HO172 := n0_; have HB := n1_; clear n0_ n1_; clear hb ho6; have hcv7 := own_string (P := Tryd.prog) Tryd.underlying46 Tryd.underlying5 Tryd.underlying9 (Kd.own_of_R HO172.out)))
     go_roundg k1
     case measure => have := HK1.out; omega
     case rel => exact ⟨(IntKind.u64.wrap (Int.tdiv x3_1 10)), ((strOfNums y170) ++ x4_1), (by first | rfl | (simp; done) | (simp [*]; done)), (by first | rfl | (simp; done) | (simp [*]; done)), H', ⟨by have := HK1.out; omega⟩, ⟨by repeat (first | (with_reducible first | exact HB.out | apply below_alloc | apply pw_below_drewN | apply below_drew1) | exact HB.out)⟩⟩
    ·rw [if_neg c4] at H
     exact absurd H (by simp)
   ·rw [if_neg c3] at H
    have c3b0 : decide (0 < x3_1) = false := decide_eq_false c3
    clear c3
    by_cases c8 : x4_1.toList = ([] : List UInt8)
    ·rw [if_pos c8] at H
     have c8b0 : (x4_1.toList == ([] : List UInt8)) = true := beq_iff_eq.mpr c8
     have c8b1 : (x4_1.toList != ([] : List UInt8)) = false := bne_eq_false_iff_eq.mpr c8
     clear c8
     obtain ⟨y173, hy173⟩ : ∃ y_ : List Int, y_ = (([(IntKind.u64.wrap (48 + (Int.tmod x3_1 10))) % 256] : List Int)) := ⟨_, rfl⟩
     replace H : (if (strOfNums y173).size + x4_1.size ≤ 9223372036854775807 then (vivariumref01_Text.l0 k1 a0 (IntKind.u64.wrap (Int.tdiv x3_1 10)) ((strOfNums y173) ++ x4_1)) else (none)) = some r := by first | (rw [hy173]; with_reducible exact H) | (have H2_ := (Option.bind_some _ _).symm.trans H; rw [hy173]; with_reducible exact H2_) | (have H2_ := (Option.bind_some _ _).symm.trans H; with_reducible exact H2_) | with_reducible exact H | (rw [hy173]; exact H) | exact H
     have Ny173 := Aside0.mk hy173
     clear hy173
     by_cases c9 : (strOfNums y173).size + x4_1.size ≤ 9223372036854775807
     ·rw [if_pos c9] at H
      have c9b0 := eq_true c9
      have c9b1 : decide ((strOfNums y173).size + x4_1.size ≤ 9223372036854775807) = true := decide_eq_true c9
      try have c9b2 : (9223372036854775807 < (strOfNums y173).size + x4_1.size) = False := eq_false (Nat.not_lt.2 c9)
      have H' := Aside0.mk H
      clear H
      go_wp2_with (first | ((with_reducible refine gate_dst (N := 17) rfl ?_); refine Kd.R_lit (Kd.int .u8) _ 5 ?hg (N := 17) ?hd (xs := ([(IntKind.u64.wrap (48 + (Int.tmod x3_1 10))) % 256] : List Int)) (inner := [.int .u8 ((IntKind.u64.wrap (48 + (Int.tmod x3_1 10))) % 256)]) (ok := fun _ => True) (okp := fun _ => True) ?hr ?hp (fun _ hk => hk) trivial (Below.refl _ _) (Nat.le_refl _) (by simp) ?_; (case hd => rfl); (case hg => rfl); (case hr => first | (go_simp; done) | (go_simp; rfl)); (case hp => exact (Reps.one (show Kd.M (Kd.int .u8) _ _ _ ((IntKind.u64.wrap (48 + (Int.tmod x3_1 10))) % 256) [.int .u8 ((IntKind.u64.wrap (48 + (Int.tmod x3_1 10))) % 256)] from rfl) (Reps.none _ _))); intro v174 w10 ho11 hb hg_ hnew_; clear hg_ hnew_; (first | rw [← Ny173.out] at ho11 | (simp only [Int.reduceToNat] at ho11; rw [← Ny173.out] at ho11)); have n0_ := Aside0.mk (Kd.R_lower ho11 (below_size (by repeat (first | (with_reducible first | exact HB.out | apply below_alloc | apply pw_below_drewN | apply below_drew1) | exact HB.out)))); have n1_ := Aside0.mk (below_step (by repeat (first | (with_reducible first | exact HB.out | apply below_alloc | apply pw_below_drewN | apply below_drew1) | exact HB.out)) hb); clear HB; have HO175 := n0_; have HB := n1_; clear n0_ n1_; clear hb ho11; have hcv12 := own_string (P := Tryd.prog) Tryd.underlying46 Tryd.underlying5 Tryd.underlying9 (Kd.own_of_R HO175.out)))
      go_roundg k1
      case measure => have := HK1.out; omega
      case rel => exact ⟨(IntKind.u64.wrap (Int.tdiv x3_1 10)), ((strOfNums y173) ++ x4_1), (by first | rfl | (simp; done) | (simp [*]; done)), (by first | rfl | (simp; done) | (simp [*]; done)), H', ⟨by have := HK1.out; omega⟩, ⟨by repeat (first | (with_reducible first | exact HB.out | apply below_alloc | apply pw_below_drewN | apply below_drew1) | exact HB.out)⟩⟩
     ·rw [if_neg c9] at H
      exact absurd H (by simp)
    ·rw [if_neg c8] at H
     have c8b0 : (x4_1.toList == ([] : List UInt8)) = false := beq_eq_false_iff_ne.mpr c8
     have c8b1 : (x4_1.toList != ([] : List UInt8)) = true := bne_iff_ne.mpr c8
     by_cases c13 : a0 < 0
     ·rw [if_pos c13] at H
      have c13b0 : decide (a0 < 0) = true := decide_eq_true c13
      clear c13
      by_cases c14 : 1 + x4_1.size ≤ 9223372036854775807
      ·rw [if_pos c14] at H
       have c14b0 := eq_true c14
       have c14b1 : decide (1 + x4_1.size ≤ 9223372036854775807) = true := decide_eq_true c14
       try have c14b2 : (9223372036854775807 < 1 + x4_1.size) = False := eq_false (Nat.not_lt.2 c14)
       obtain rfl := Option.some.inj H
       go_wp2
       go_ret
       exact ⟨by first | rfl | (simp [errW_none, errW_some] <;> rfl) | (simp [errW_none, errW_some] <;> exact (show ∀ l : List UInt8, l.isEmpty = !(l != []) from fun l => by cases l <;> rfl) _) | (simp [*, errW_none, errW_some] <;> rfl), by repeat (first | (with_reducible first | exact HB.out | apply below_alloc | apply pw_below_drewN | apply below_drew1) | exact HB.out)⟩
      ·rw [if_neg c14] at H
       exact absurd H (by simp)
     ·rw [if_neg c13] at H
      have c13b0 : decide (a0 < 0) = false := decide_eq_false c13
      clear c13
      obtain rfl := Option.some.inj H
      go_wp2
      go_ret
      exact ⟨by first | rfl | (simp [errW_none, errW_some] <;> rfl) | (simp [errW_none, errW_some] <;> exact (show ∀ l : List UInt8, l.isEmpty = !(l != []) from fun l => by cases l <;> rfl) _) | (simp [*, errW_none, errW_some] <;> rfl), by repeat (first | (with_reducible first | exact HB.out | apply below_alloc | apply pw_below_drewN | apply below_drew1) | exact HB.out)⟩
end Go.Proofs.YtajhfkcmfmhnaaaDoor.P
namespace Go.Proofs.YtajhfkcmfmhnaaaDoor.P
open Go.RowKit Go.Proofs.YtajhfkcmfmhnaaaDoorW.PrintWords Go.Proofs.YtajhfkcmfmhnaaaDoorW.PrintLast Go.Proofs.YtajhfkcmfmhnaaaDoorW.PrintMore
attribute [local go_sem] max2_int min2_int max_two min_two max_three min_three max_four min_four   -- for this text's walks alone
set_option linter.unusedVariables false
set_option linter.unusedSimpArgs false
def vivariumref10_told.f (k : Nat) (a0_0 : Int) (a0_1 : Int) (a0_2 : Int) (l0_3 : List (S49)) (l0_4 : List (S41)) (a1_0 : Int) (a1_1 : Int) : Option (ByteArray) := if a1_1 ≥ 0 then (if 0 ≤ a1_1 then (if a1_1 < (l0_3.length : Int) then (some ((rd_T49 l0_3 a1_1).f0)) else (none)) else (none)) else ((vivariumref01_Text.f k (wrap64 (a1_0))).bind fun t179 => (some t179))
set_option maxHeartbeats 8000000 in
set_option maxRecDepth 100000 in
theorem vivariumref10_told.calls (k : Nat) (a0_0 : Int) (a0_1 : Int) (a0_2 : Int) (A0_3 : Option Addr) (c0_3 : Nat) (l0_3 : List (S49)) (A0_4 : Option Addr) (c0_4 : Nat) (l0_4 : List (S41)) (a1_0 : Int) (a1_1 : Int) (r : ByteArray) (w : World) (hr0_3 : Kd.C k49 w A0_3 l0_3.length l0_3) (hc0_3 : l0_3.length ≤ c0_3) (hr0_4 : Kd.C k41 w A0_4 l0_4.length l0_4) (hc0_4 : l0_4.length ≤ c0_4) (h : vivariumref10_told.f k a0_0 a0_1 a0_2 l0_3 l0_4 a1_0 a1_1 = some r) :
  Calls Tryd.prog 18 #[.agg #[.int .i64 a0_0, .int .u8 a0_1, .int .u8 a0_2, .slice A0_3 l0_3.length c0_3, .slice A0_4 l0_4.length c0_4], .agg #[.int .u8 a1_0, .int .i64 a1_1]] w fun e w' => e = .returned (.string r) ∧ Below w.heap.size w w' := by
 have hu25 := Tryd.underlying25
 have hu38 := Tryd.underlying38
 have HR0_3 := Aside0.mk hr0_3
 have HC0_3 := Aside0.mk hc0_3
 clear hr0_3 hc0_3
 have HR0_4 := Aside0.mk hr0_4
 have HC0_4 := Aside0.mk hc0_4
 clear hr0_4 hc0_4
 have HB := Aside0.mk (Below.refl w.heap.size w)
 have H : (if a1_1 ≥ 0 then (if 0 ≤ a1_1 then (if a1_1 < (l0_3.length : Int) then (some ((rd_T49 l0_3 a1_1).f0)) else (none)) else (none)) else ((vivariumref01_Text.f k (wrap64 (a1_0))).bind fun t179 => (some t179))) = some r := h
 clear h
 by_cases c3 : a1_1 ≥ 0
 ·rw [if_pos c3] at H
  have c3b0 : decide (0 ≤ a1_1) = true := decide_eq_true c3
  clear c3
  by_cases c4 : 0 ≤ a1_1
  ·rw [if_pos c4] at H
   have c4b0 : decide (0 ≤ a1_1) = true := decide_eq_true c4
   clear c4
   by_cases c5 : a1_1 < (l0_3.length : Int)
   ·rw [if_pos c5] at H
    have c5b0 : decide (a1_1 < (l0_3.length : Int)) = true := decide_eq_true c5
    clear c5
    obtain rfl := Option.some.inj H
    go_enter Tryd.func18, Tryd.ntmps18
    go_wp2_with (first | ((with_reducible refine gate_dst (N := 2) rfl ?_); refine box_event ?hg (N := 2) ?hd (cs := #[.int .i64 a0_0, .int .u8 a0_1, .int .u8 a0_2, .slice A0_3 l0_3.length c0_3, .slice A0_4 l0_4.length c0_4]) (t := 25) ?hr ?_; (case hd => rfl); (case hg => rfl); (case hr => first | (go_simp; done) | (go_simp; rfl)); intro gb176 hg w6 hbox hb; have n0_ := Aside0.mk (below_step (by repeat (first | (with_reducible first | exact HB.out | apply below_alloc | apply pw_below_drewN | apply below_drew1) | exact HB.out)) hb); have n1_ := Aside0.mk (hbox); have n2_ := Aside0.mk ((by rw [hg]; exact (below_size (by repeat (first | (with_reducible first | exact HB.out | apply below_alloc | apply pw_below_drewN | apply below_drew1) | exact HB.out))) : w.heap.size ≤ gb176)); have n3_ := Aside0.mk ((by rw [hg]; exact (below_size (by repeat (first | (with_reducible first | exact HB.out | apply below_alloc | apply pw_below_drewN | apply below_drew1) | exact HB.out))) : w.heap.size ≤ gb176)); clear HB; have HB := n0_; have BK176 := n1_; have GW176 := n2_; have GE176 := n3_; clear n0_ n1_ n2_ n3_; clear hb hbox hg) | ((with_reducible refine gate_dst (N := 3) rfl ?_); refine box_event ?hg (N := 3) ?hd (cs := #[.int .u8 a1_0, .int .i64 a1_1]) (t := 38) ?hr ?_; (case hd => rfl); (case hg => rfl); (case hr => first | (go_simp; done) | (go_simp; rfl)); intro gb177 hg w7 hbox hb; have n0_ := Aside0.mk (blk_below (g := gb176) (o := .cells #[.int .i64 a0_0, .int .u8 a0_1, .int .u8 a0_2, .slice A0_3 l0_3.length c0_3, .slice A0_4 l0_4.length c0_4] 25 (0, 0)) (by (with_reducible repeat (first | refine blk_drewN ?_ _ | refine blk_drew ?_ | refine blk_alloc ?_ _)); exact BK176.out) hb); have n1_ := Aside0.mk (below_step (by repeat (first | (with_reducible first | exact HB.out | apply below_alloc | apply pw_below_drewN | apply below_drew1 | refine below_set ?_ GE176.out) | exact HB.out)) hb); have n2_ := Aside0.mk (hbox); have n3_ := Aside0.mk ((by rw [hg]; exact (below_size (by repeat (first | (with_reducible first | exact HB.out | apply below_alloc | apply pw_below_drewN | apply below_drew1 | refine below_set ?_ GE176.out) | exact HB.out))) : w.heap.size ≤ gb177)); have n4_ := Aside0.mk ((by rw [hg]; exact (below_size (by repeat (first | (with_reducible first | exact HB.out | apply below_alloc | apply pw_below_drewN | apply below_drew1 | refine below_set ?_ GE176.out) | exact HB.out))) : w.heap.size ≤ gb177)); have n5_ := Aside0.mk ((by rw [hg]; exact Nat.ne_of_lt (blk_lt (g := gb176) (o := .cells #[.int .i64 a0_0, .int .u8 a0_1, .int .u8 a0_2, .slice A0_3 l0_3.length c0_3, .slice A0_4 l0_4.length c0_4] 25 (0, 0)) (by (with_reducible repeat (first | refine blk_drewN ?_ _ | refine blk_drew ?_ | refine blk_alloc ?_ _)); exact BK176.out)) : gb176 ≠ gb177)); have n6_ := Aside0.mk ((by rw [hg]; exact Nat.ne_of_gt (blk_lt (g := gb176) (o := .cells #[.int .i64 a0_0, .int .u8 a0_1, .int .u8 a0_2, .slice A0_3 l0_3.length c0_3, .slice A0_4 l0_4.length c0_4] 25 (0, 0)) (by (with_reducible repeat (first | refine blk_drewN ?_ _ | refine blk_drew ?_ | refine blk_alloc ?_ _)); exact BK176.out)) : gb177 ≠ gb176)); clear BK176; clear HB; have BK176 := n0_; have HB := n1_; have BK177 := n2_; have GW177 := n3_; have GE177 := n4_; have NB176_177 := n5_; have NB177_176 := n6_; clear n0_ n1_ n2_ n3_ n4_ n5_ n6_; clear hb hbox hg; have hnb8 := NB177_176.out; have hnc8 := NB176_177.out; have hcz9_0 : w7.cell? ⟨gb177, 0, none⟩ = some (.int .u8 a1_0) := (blk_cell BK177.out 0).trans rfl; have hcz9_1 : w7.cell? ⟨gb177, 1, none⟩ = some (.int .i64 a1_1) := (blk_cell BK177.out 1).trans rfl; have hfz9_0 := blk_frozen BK177.out 0; have hfz9_1 := blk_frozen BK177.out 1; have hcz10_0 : w7.cell? ⟨gb176, 0, none⟩ = some (.int .i64 a0_0) := (blk_cell BK176.out 0).trans rfl; have hcz10_1 : w7.cell? ⟨gb176, 1, none⟩ = some (.int .u8 a0_1) := (blk_cell BK176.out 1).trans rfl; have hcz10_2 : w7.cell? ⟨gb176, 2, none⟩ = some (.int .u8 a0_2) := (blk_cell BK176.out 2).trans rfl; have hcz10_3 : w7.cell? ⟨gb176, 3, none⟩ = some (.slice A0_3 l0_3.length c0_3) := (blk_cell BK176.out 3).trans rfl; have hcz10_4 : w7.cell? ⟨gb176, 4, none⟩ = some (.slice A0_4 l0_4.length c0_4) := (blk_cell BK176.out 4).trans rfl; have hfz10_0 := blk_frozen BK176.out 0; have hfz10_1 := blk_frozen BK176.out 1; have hfz10_2 := blk_frozen BK176.out 2; have hfz10_3 := blk_frozen BK176.out 3; have hfz10_4 := blk_frozen BK176.out 4; have p178 : 0 ≤ (a1_1 : Int) := of_decide_eq_true (by first | (with_reducible assumption) | assumption); have q178 : a1_1 < (l0_3.length : Int) := of_decide_eq_true (by first | (with_reducible assumption) | assumption); obtain ⟨ad178, A178_1, c178_1, e178, hx178_0, hx178_1, hl178_1, hi178_1⟩ := at_T49 HR0_3.out a1_1 p178 q178; cases e178; replace hx178_0 := (HB.out.cell (World.block_lt_of_cell? w _ hx178_0)).trans hx178_0; replace hx178_1 := (HB.out.cell (World.block_lt_of_cell? w _ hx178_1)).trans hx178_1; have HR178_1 := Aside0.mk hi178_1; have HC178_1 := Aside0.mk hl178_1; clear hi178_1 hl178_1; replace p178 := eq_true p178; replace q178 := eq_true q178))
    go_ret
    exact ⟨by first | rfl | (simp [errW_none, errW_some] <;> rfl) | (simp [*, errW_none, errW_some] <;> rfl), by repeat (first | (with_reducible first | exact HB.out | apply below_alloc | apply pw_below_drewN | apply below_drew1 | refine below_set ?_ GE176.out | refine below_set ?_ GE177.out) | exact HB.out)⟩
   ·rw [if_neg c5] at H
    exact absurd H (by simp)
  ·rw [if_neg c4] at H
   exact absurd H (by simp)
 ·rw [if_neg c3] at H
  have c3b0 : decide (0 ≤ a1_1) = false := decide_eq_false c3
  clear c3
  replace H := Option.bind_eq_some_iff.mp H
  obtain ⟨t179, A110, H⟩ := H
  replace H : (some t179) = some r := H
  have A11 := Aside0.mk A110
  clear A110
  obtain rfl := Option.some.inj H
  go_enter Tryd.func18, Tryd.ntmps18
  go_wp2_with (first | ((with_reducible refine gate_dst (N := 2) rfl ?_); refine box_event ?hg (N := 2) ?hd (cs := #[.int .i64 a0_0, .int .u8 a0_1, .int .u8 a0_2, .slice A0_3 l0_3.length c0_3, .slice A0_4 l0_4.length c0_4]) (t := 25) ?hr ?_; (case hd => rfl); (case hg => rfl); (case hr => first | (go_simp; done) | (go_simp; rfl)); intro gb176 hg w12 hbox hb; have n0_ := Aside0.mk (below_step (by repeat (first | (with_reducible first | exact HB.out | apply below_alloc | apply pw_below_drewN | apply below_drew1) | exact HB.out)) hb); have n1_ := Aside0.mk (hbox); have n2_ := Aside0.mk ((by rw [hg]; exact (below_size (by repeat (first | (with_reducible first | exact HB.out | apply below_alloc | apply pw_below_drewN | apply below_drew1) | exact HB.out))) : w.heap.size ≤ gb176)); have n3_ := Aside0.mk ((by rw [hg]; exact (below_size (by repeat (first | (with_reducible first | exact HB.out | apply below_alloc | apply pw_below_drewN | apply below_drew1) | exact HB.out))) : w.heap.size ≤ gb176)); clear HB; have HB := n0_; have BK176 := n1_; have GW176 := n2_; have GE176 := n3_; clear n0_ n1_ n2_ n3_; clear hb hbox hg) | ((with_reducible refine gate_dst (N := 3) rfl ?_); refine box_event ?hg (N := 3) ?hd (cs := #[.int .u8 a1_0, .int .i64 a1_1]) (t := 38) ?hr ?_; (case hd => rfl); (case hg => rfl); (case hr => first | (go_simp; done) | (go_simp; rfl)); intro gb177 hg w13 hbox hb; have n0_ := Aside0.mk (blk_below (g := gb176) (o := .cells #[.int .i64 a0_0, .int .u8 a0_1, .int .u8 a0_2, .slice A0_3 l0_3.length c0_3, .slice A0_4 l0_4.length c0_4] 25 (0, 0)) (by (with_reducible repeat (first | refine blk_drewN ?_ _ | refine blk_drew ?_ | refine blk_alloc ?_ _)); exact BK176.out) hb); have n1_ := Aside0.mk (below_step (by repeat (first | (with_reducible first | exact HB.out | apply below_alloc | apply pw_below_drewN | apply below_drew1 | refine below_set ?_ GE176.out) | exact HB.out)) hb); have n2_ := Aside0.mk (hbox); have n3_ := Aside0.mk ((by rw [hg]; exact (below_size (by repeat (first | (with_reducible first | exact HB.out | apply below_alloc | apply pw_below_drewN | apply below_drew1 | refine below_set ?_ GE176.out) | exact HB.out))) : w.heap.size ≤ gb177)); have n4_ := Aside0.mk ((by rw [hg]; exact (below_size (by repeat (first | (with_reducible first | exact HB.out | apply below_alloc | apply pw_below_drewN | apply below_drew1 | refine below_set ?_ GE176.out) | exact HB.out))) : w.heap.size ≤ gb177)); have n5_ := Aside0.mk ((by rw [hg]; exact Nat.ne_of_lt (blk_lt (g := gb176) (o := .cells #[.int .i64 a0_0, .int .u8 a0_1, .int .u8 a0_2, .slice A0_3 l0_3.length c0_3, .slice A0_4 l0_4.length c0_4] 25 (0, 0)) (by (with_reducible repeat (first | refine blk_drewN ?_ _ | refine blk_drew ?_ | refine blk_alloc ?_ _)); exact BK176.out)) : gb176 ≠ gb177)); have n6_ := Aside0.mk ((by rw [hg]; exact Nat.ne_of_gt (blk_lt (g := gb176) (o := .cells #[.int .i64 a0_0, .int .u8 a0_1, .int .u8 a0_2, .slice A0_3 l0_3.length c0_3, .slice A0_4 l0_4.length c0_4] 25 (0, 0)) (by (with_reducible repeat (first | refine blk_drewN ?_ _ | refine blk_drew ?_ | refine blk_alloc ?_ _)); exact BK176.out)) : gb177 ≠ gb176)); clear BK176; clear HB; have BK176 := n0_; have HB := n1_; have BK177 := n2_; have GW177 := n3_; have GE177 := n4_; have NB176_177 := n5_; have NB177_176 := n6_; clear n0_ n1_ n2_ n3_ n4_ n5_ n6_; clear hb hbox hg; have hnb14 := NB177_176.out; have hnc14 := NB176_177.out; have hcz15_0 : w13.cell? ⟨gb177, 0, none⟩ = some (.int .u8 a1_0) := (blk_cell BK177.out 0).trans rfl; have hcz15_1 : w13.cell? ⟨gb177, 1, none⟩ = some (.int .i64 a1_1) := (blk_cell BK177.out 1).trans rfl; have hfz15_0 := blk_frozen BK177.out 0; have hfz15_1 := blk_frozen BK177.out 1) | ((with_reducible refine gate_callee (f := 17) rfl ?_); refine goesL_ (some 18) rfl rfl Tryd.func17 (by kernel_rfl) rfl #[.int .i64 (wrap64 (a1_0))] rfl (by (try simp only [List.map_toArray, List.map_cons, List.map_nil]); first | done | rfl | (simp only [List.length_drop, List.length_take]; rfl)) ?_; (with_reducible refine (vivariumref01_Text.calls k (wrap64 (a1_0)) t179 _ A11.out).mono ?_); rintro e w16 ⟨rfl, hb⟩; refine ⟨_, rfl, ?_⟩; have n0_ := Aside0.mk (blk_below (g := gb176) (o := .cells #[.int .i64 a0_0, .int .u8 a0_1, .int .u8 a0_2, .slice A0_3 l0_3.length c0_3, .slice A0_4 l0_4.length c0_4] 25 (0, 0)) (by (with_reducible repeat (first | refine blk_drewN ?_ _ | refine blk_drew ?_ | refine blk_alloc ?_ _)); exact BK176.out) hb); have n1_ := Aside0.mk (blk_below (g := gb177) (o := .cells #[.int .u8 a1_0, .int .i64 a1_1] 38 (0, 0)) (by (with_reducible repeat (first | refine blk_drewN ?_ _ | refine blk_drew ?_ | refine blk_alloc ?_ _)); exact BK177.out) hb); have n2_ := Aside0.mk (below_step (by repeat (first | (with_reducible first | exact HB.out | apply below_alloc | apply pw_below_drewN | apply below_drew1 | refine below_set ?_ GE176.out | refine below_set ?_ GE177.out) | exact HB.out)) hb); clear BK176; clear BK177; clear HB; have BK176 := n0_; have BK177 := n1_; have HB := n2_; clear n0_ n1_ n2_; (try clear hb); (try clear hb2); (try clear hk); (try clear hi)))
  go_ret
  exact ⟨by first | rfl | (simp [errW_none, errW_some] <;> rfl) | (simp [*, errW_none, errW_some] <;> rfl), by repeat (first | (with_reducible first | exact HB.out | apply below_alloc | apply pw_below_drewN | apply below_drew1 | refine below_set ?_ GE176.out | refine below_set ?_ GE177.out) | exact HB.out)⟩
end Go.Proofs.YtajhfkcmfmhnaaaDoor.P
end

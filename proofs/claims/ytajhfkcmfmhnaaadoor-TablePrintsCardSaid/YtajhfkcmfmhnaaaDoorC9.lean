-- Written by a program of this session (wip/tools/shake.py): texts of this claim, of each what the claim names.
import Derived.Test.YtajhfkcmfmhnaaaDoorC2
import Derived.Test.YtajhfkcmfmhnaaaDoorC3
import Derived.Test.YtajhfkcmfmhnaaaDoorC5
import Derived.Test.YtajhfkcmfmhnaaaDoorC8
import Derived.Shelf.Strings.Builder1
import Derived.Shelf.Strings.BuilderF
import Derived.Shelf.Strings.BuilderK
import Derived.Shelf.Strconv.Itoa0
import Derived.Shelf.Strconv.Itoa1
import Derived.Shelf.LaysM
import Derived.Shelf.Strconv.Itoa2
import Derived.Shelf.Strconv.Itoa3
import Derived.Shelf.Strings.BuilderCap
import Derived.Test.YtajhfkcmfmhnaaaDoorProg
import Derived.Lib.AppendIntMem
section
set_option linter.unusedVariables false
namespace Go.Proofs.YtajhfkcmfmhnaaaDoor.L
open Go.RowKit Go.Proofs.YtajhfkcmfmhnaaaDoor.P Go.Proofs.YtajhfkcmfmhnaaaDoorW.PrintWords Go.Proofs.YtajhfkcmfmhnaaaDoorW.PrintLast Go.Proofs.YtajhfkcmfmhnaaaDoorW.PrintMore
abbrev B47 : Nat := 140737488351232
def tmOK (st : Int) (vs : List Vr) (x : Tm) : Bool := if x.f1 = -1 then decide (wrap64 x.f0 < st) else decide (0 ≤ x.f1) && decide (x.f1 < vs.length) && x.f0 == 0
def bdOK (r : Rw) : Bool := decide (r.f2.f1 < 0) || r.f0.f1 == r.f2.f1 || r.f1.any (fun x => x.f1 == r.f2.f1)
def rowOK (st : Int) (vs : List Vr) (n : Nat) (r : Rw) : Bool := decide (r.f1.length = n) && tmOK st vs r.f0 && tmOK st vs r.f2 && bdOK r && r.f1.all (tmOK st vs)
def varOK (nm : ByteArray → Bool) (st : Int) (v : Vr) : Bool := nm v.f0 && (v.f0.toList != ([118, 97, 114] : List UInt8)) && decide (v.f1.length ≠ 0) && risB st v.f1
theorem wstep {i n : Nat} (h : i < n) (hn : n ≤ B47) : Aside0 (wrap64 ((i : Int) + 1) = ((i + 1 : Nat) : Int)) := ⟨w64 (by unfold B47 at hn; omega) (by unfold B47 at hn; omega)⟩
theorem term_is (st hd sy : Int) (vs : List Vr) (rs : List Rw) (x : Tm) : table_term.f st hd sy vs rs x.f0 x.f1 = some (tmOK st vs x) := by
 unfold table_term.f tmOK
 by_cases c : x.f1 = -1
 ·rw [if_pos c, if_pos c]
 ·rw [if_neg c, if_neg c]
  by_cases c2 : x.f1 ≥ 0
  ·rw [if_pos c2, decide_eq_true (show 0 ≤ x.f1 from c2), Bool.true_and]
   by_cases c3 : x.f1 < (vs.length : Int)
   ·rw [if_pos c3, decide_eq_true c3, Bool.true_and]
   ·rw [if_neg c3, decide_eq_false c3, Bool.false_and]
  ·rw [if_neg c2, decide_eq_false (show ¬ 0 ≤ x.f1 from c2)]
   rfl
theorem terms_go (st hd sy : Int) (vs : List Vr) (rs : List Rw) (l : List Tm) (hl : l.length ≤ B47) : ∀ (d i : Nat), i + d = l.length → Evn (fun k => vivariumref10_terms.l0 k l (i : Int) st hd sy vs rs) ((l.drop i).all (tmOK st vs))
 | 0, i, h => by
  obtain rfl : i = l.length := by omega
  refine Evn.const.step (g' := fun _ => some _) (fun k => ?_)
  simp only [vivariumref10_terms.l0]
  rw [if_neg (by omega), List.drop_length]
  rfl
 | d + 1, i, h => by
  have ih := terms_go st hd sy vs rs l hl d (i + 1) (by omega)
  have hi : i < l.length := by omega
  have E := wstep hi hl
  have e : rd_T38 l (i : Int) = l[i] := rd_59 l i hi
  obtain ⟨x, hx⟩ : ∃ x, l[i] = x := ⟨_, rfl⟩
  rw [List.drop_eq_getElem_cons hi, List.all_cons, hx]
  rw [hx] at e
  have hT : ∀ k, vivariumref10_terms.l0 (k + 1) l (i : Int) st hd sy vs rs = if tmOK st vs x = true then vivariumref10_terms.l0 k l ((i + 1 : Nat) : Int) st hd sy vs rs else some false := fun k => by
   simp only [vivariumref10_terms.l0]
   rw [if_pos (by omega), if_pos (by omega), e, E.out]
   unfold tmOK
   by_cases c : x.f1 < -1
   ·rw [if_pos c, if_neg (show ¬ x.f1 = -1 by omega), decide_eq_false (show ¬ 0 ≤ x.f1 by omega)]
    rfl
   ·rw [if_neg c]
    by_cases c2 : x.f1 ≥ (vs.length : Int)
    ·rw [if_pos c2, if_neg (show ¬ x.f1 = -1 by omega), decide_eq_false (show ¬ x.f1 < (vs.length : Int) by omega), Bool.and_false]
     rfl
    ·rw [if_neg c2]
     by_cases c3 : x.f1 = -1
     ·rw [if_pos c3, if_pos c3]
      by_cases c4 : wrap64 x.f0 ≥ st
      ·rw [if_pos c4, decide_eq_false (Int.not_lt.2 c4)]
       rfl
      ·rw [if_neg c4, if_neg (show ¬ x.f1 ≥ 0 by omega), decide_eq_true (Int.not_le.1 c4), if_pos rfl]
     ·rw [if_neg c3, if_neg c3, if_pos (show x.f1 ≥ 0 by omega), decide_eq_true (show 0 ≤ x.f1 by omega), decide_eq_true (show x.f1 < (vs.length : Int) by omega), Bool.true_and, Bool.true_and]
      by_cases c5 : x.f0 = 0
      ·rw [if_pos c5, if_pos (beq_iff_eq.2 c5)]
      ·rw [if_neg c5, if_neg (fun h => c5 (beq_iff_eq.1 h))]
  cases ct : tmOK st vs x with
  | true =>
   rw [Bool.true_and]
   exact ih.step (fun k => by rw [hT k, ct, if_pos rfl])
  | false =>
   rw [Bool.false_and]
   exact (Evn.const (r := false)).step (fun k => by rw [hT k, ct, if_neg (by decide)])
theorem terms_ev (st hd sy : Int) (vs : List Vr) (rs : List Rw) (l : List Tm) (hl : l.length ≤ B47) : Evn (fun k => vivariumref10_terms.f k st hd sy vs rs l) (l.all (tmOK st vs)) :=
 terms_go st hd sy vs rs l hl l.length 0 (by omega)
theorem boundP_go (a b : Int) (l : List Tm) (hl : l.length ≤ B47) (c v : Int) : ∀ (d i : Nat), i + d = l.length → Evn (fun k => table_bound.l0 k l (l.length : Int) (i : Int) a b l c v) ((l.drop i).any (fun x => x.f1 == v))
 | 0, i, h => by
  obtain rfl : i = l.length := by omega
  refine Evn.const.step (g' := fun _ => some _) (fun k => ?_)
  simp only [table_bound.l0]
  rw [if_neg (by omega), List.drop_length]
  rfl
 | d + 1, i, h => by
  have ih := boundP_go a b l hl c v d (i + 1) (by omega)
  have hi : i < l.length := by omega
  have E := wstep hi hl
  rw [List.drop_eq_getElem_cons hi, List.any_cons]
  by_cases cc : l[i].f1 = v
  ·rw [beq_iff_eq.2 cc, Bool.true_or]
   refine Evn.const.step (g' := fun _ => some true) (fun k => ?_)
   simp only [table_bound.l0]
   rw [if_pos (by omega), if_pos (by omega), if_pos (by omega), rd_59 l i hi, if_pos cc]
  ·rw [beq_eq_false_iff_ne.2 cc, Bool.false_or]
   refine ih.step (fun k => ?_)
   simp only [table_bound.l0]
   rw [if_pos (by omega), if_pos (by omega), if_pos (by omega), rd_59 l i hi, if_neg cc, E.out]
theorem boundR_go (a b : Int) (l : List Tm) (hl : l.length ≤ B47) (c v : Int) : ∀ (d i : Nat), i + d = l.length → Evn (fun k => vivariumref10_bound.l0 k (i : Int) a b l c v) ((l.drop i).any (fun x => x.f1 == v))
 | 0, i, h => by
  obtain rfl : i = l.length := by omega
  refine Evn.const.step (g' := fun _ => some _) (fun k => ?_)
  simp only [vivariumref10_bound.l0]
  rw [if_neg (by omega), List.drop_length]
  rfl
 | d + 1, i, h => by
  have ih := boundR_go a b l hl c v d (i + 1) (by omega)
  have hi : i < l.length := by omega
  have E := wstep hi hl
  rw [List.drop_eq_getElem_cons hi, List.any_cons]
  by_cases cc : l[i].f1 = v
  ·rw [beq_iff_eq.2 cc, Bool.true_or]
   refine Evn.const.step (g' := fun _ => some true) (fun k => ?_)
   simp only [vivariumref10_bound.l0]
   rw [if_pos (by omega), if_pos (by omega), rd_59 l i hi, if_pos cc]
  ·rw [beq_eq_false_iff_ne.2 cc, Bool.false_or]
   refine ih.step (fun k => ?_)
   simp only [vivariumref10_bound.l0]
   rw [if_pos (by omega), if_pos (by omega), rd_59 l i hi, if_neg cc, E.out]
theorem boundP_ev (r : Rw) (hl : r.f1.length ≤ B47) : Evn (fun k => table_bound.f k r.f0.f0 r.f0.f1 r.f1 r.f2.f0 r.f2.f1) (bdOK r) := by
 have h := boundP_go r.f0.f0 r.f0.f1 r.f1 hl r.f2.f0 r.f2.f1 r.f1.length 0 (by omega)
 rw [List.drop_zero] at h
 have h1 : ∀ b : Bool, Evn (fun k => table_bound.j0 k b r.f0.f0 r.f0.f1 r.f1 r.f2.f0 r.f2.f1) (b || r.f1.any (fun x => x.f1 == r.f2.f1)) := fun b => by
  cases b with
  | true => exact (Evn.const (r := true)).step (fun k => by simp only [table_bound.j0, if_true])
  | false => rw [Bool.false_or]; exact h.step (fun k => by simp only [table_bound.j0]; rw [if_neg (by decide)]; rfl)
 unfold bdOK
 by_cases c : r.f2.f1 < 0
 ·rw [decide_eq_true c, Bool.true_or, Bool.true_or]
  exact (h1 true).congr (fun k => by unfold table_bound.f; rw [if_pos c])
 ·rw [decide_eq_false c, Bool.false_or]
  have e : (r.f0.f1 == r.f2.f1) = (r.f2.f1 == r.f0.f1) := by rw [Bool.eq_iff_iff, beq_iff_eq, beq_iff_eq]; exact eq_comm
  rw [e]
  exact (h1 _).congr (fun k => by unfold table_bound.f; rw [if_neg c])
theorem boundR_ev (r : Rw) (hl : r.f1.length ≤ B47) : Evn (fun k => vivariumref10_bound.f k r.f0.f0 r.f0.f1 r.f1 r.f2.f0 r.f2.f1) (bdOK r) := by
 have h := boundR_go r.f0.f0 r.f0.f1 r.f1 hl r.f2.f0 r.f2.f1 r.f1.length 0 (by omega)
 rw [List.drop_zero] at h
 have h1 : ∀ b : Bool, Evn (fun k => vivariumref10_bound.j0 k b r.f0.f0 r.f0.f1 r.f1 r.f2.f0 r.f2.f1) (b || r.f1.any (fun x => x.f1 == r.f2.f1)) := fun b => by
  cases b with
  | true => exact (Evn.const (r := true)).step (fun k => by simp only [vivariumref10_bound.j0, if_true])
  | false => rw [Bool.false_or]; exact h.step (fun k => by simp only [vivariumref10_bound.j0]; rw [if_neg (by decide)]; rfl)
 unfold bdOK
 by_cases c : r.f2.f1 < 0
 ·rw [decide_eq_true c, Bool.true_or, Bool.true_or]
  exact (h1 true).congr (fun k => by unfold vivariumref10_bound.f; rw [if_pos c])
 ·rw [decide_eq_false c, Bool.false_or]
  exact (h1 _).congr (fun k => by unfold vivariumref10_bound.f; rw [if_neg c])
theorem chkTs_is (st hd sy : Int) (vs : List Vr) (rs : List Rw) : ∀ l : List Tm, chkTs st hd sy vs rs l = some (l.all (tmOK st vs))
 | [] => rfl
 | x :: xs => by
  rw [chkTs, term_is, Option.bind_some, List.all_cons]
  cases c : tmOK st vs x with
  | true => rw [if_pos rfl, chkTs_is st hd sy vs rs xs, Bool.true_and]
  | false => rw [if_neg (by decide), Bool.false_and]
theorem evn_ite {α : Type} {b : Bool} {g h : Nat → Option α} {r s : α} (h1 : b = true → Evn g r) (h2 : b = false → Evn h s) : Evn (fun k => if b = true then g k else h k) (if b = true then r else s) := by
 cases b with
 | true => exact (h1 rfl).congr (fun k => if_pos rfl)
 | false => exact (h2 rfl).congr (fun k => if_neg (by decide))
theorem chkR_ev (st hd sy : Int) (vs : List Vr) (rs : List Rw) (n : Nat) (hn : n ≤ 1000) : ∀ rows : List Rw, Evn (fun k => chkR k st hd sy vs rs (n : Int) rows) (rows.all (rowOK st vs n))
 | [] => Evn.const
 | r :: rows => by
  have ih := chkR_ev st hd sy vs rs n hn rows
  rw [List.all_cons]
  by_cases c : r.f1.length = n
  ·have hb := boundP_ev r (by rw [c]; unfold B47; omega)
   have e : (rowOK st vs n r && rows.all (rowOK st vs n)) = (if tmOK st vs r.f0 = true then if tmOK st vs r.f2 = true then if bdOK r = true then if r.f1.all (tmOK st vs) = true then rows.all (rowOK st vs n) else false else false else false else false) := by
    unfold rowOK
    rw [decide_eq_true c]
    cases tmOK st vs r.f0 <;> cases tmOK st vs r.f2 <;> cases bdOK r <;> cases r.f1.all (tmOK st vs) <;> rfl
   rw [e]
   refine Evn.congr (g' := fun k => if tmOK st vs r.f0 = true then (if tmOK st vs r.f2 = true then ((table_bound.f k r.f0.f0 r.f0.f1 r.f1 r.f2.f0 r.f2.f1).bind fun b => if b = true then (if r.f1.all (tmOK st vs) = true then chkR k st hd sy vs rs (n : Int) rows else some false) else some false) else some false) else some false) ?_ (fun k => by
    rw [chkR, if_pos (by omega), if_pos (by omega), term_is, term_is, chkTs_is]
    simp only [Option.bind_some])
   refine evn_ite (fun _ => evn_ite (fun _ => ?_) (fun _ => Evn.const)) (fun _ => Evn.const)
   exact Evn.bind hb (evn_ite (fun _ => evn_ite (fun _ => ih) (fun _ => Evn.const)) (fun _ => Evn.const))
  ·have e : (rowOK st vs n r && rows.all (rowOK st vs n)) = false := by
    unfold rowOK
    rw [decide_eq_false c]
    rfl
   rw [e]
   exact Evn.congr (g' := fun k => some false) Evn.const (fun k => by rw [chkR, if_neg (by omega)])
/-- Are all names others than those that have come, and others than each other? -/
def freshB : List Vr → List (List UInt8) → Bool
 | [], _ => true
 | v :: vs, seen => !decide (v.f0.data.toList ∈ seen) && freshB vs (v.f0.data.toList :: seen)
theorem chkV_ev (nm : ByteArray → Bool) (hnm : ∀ s : ByteArray, s.size ≤ B47 → Evn (fun k => table_named.f k s) (nm s && (s.toList != ([118, 97, 114] : List UInt8)))) (st : Int) : ∀ (vs : List Vr) (seen : List (List UInt8)), (∀ v ∈ vs, v.f0.size ≤ B47 ∧ v.f1.length ≤ B47) → Evn (fun k => chkV k st vs seen) (vs.all (varOK nm st) && freshB vs seen)
 | [], seen, _ => Evn.const
 | v :: vs, seen, hv => by
  have ih := chkV_ev nm hnm st vs (v.f0.data.toList :: seen) (fun x hx => hv x (List.mem_cons_of_mem _ hx))
  obtain ⟨h1, h2⟩ := hv v List.mem_cons_self
  rw [List.all_cons, freshB]
  have e : (varOK nm st v && vs.all (varOK nm st) && (!decide (v.f0.data.toList ∈ seen) && freshB vs (v.f0.data.toList :: seen))) = (if (nm v.f0 && (v.f0.toList != ([118, 97, 114] : List UInt8))) = true then if (!decide (v.f0.data.toList ∈ seen)) = true then if (decide (v.f1.length ≠ 0)) = true then if risB st v.f1 = true then (vs.all (varOK nm st) && freshB vs (v.f0.data.toList :: seen)) else false else false else false else false) := by
   unfold varOK
   generalize (nm v.f0 && (v.f0.toList != ([118, 97, 114] : List UInt8))) = b1
   generalize decide (v.f1.length ≠ 0) = b2
   generalize (!decide (v.f0.data.toList ∈ seen)) = b3
   cases b1 <;> cases b2 <;> cases b3 <;> cases risB st v.f1 <;> simp
  rw [e]
  refine Evn.congr (g' := fun k => (table_named.f k v.f0).bind fun b => if b = true then (if (!decide (v.f0.data.toList ∈ seen)) = true then if (decide (v.f1.length ≠ 0)) = true then if risB st v.f1 = true then chkV k st vs (v.f0.data.toList :: seen) else some false else some false else some false) else some false) ?_ (fun k => ?_)
  ·exact Evn.bind (hnm v.f0 h1) (evn_ite (fun _ => evn_ite (fun _ => evn_ite (fun _ => evn_ite (fun _ => ih) (fun _ => Evn.const)) (fun _ => Evn.const)) (fun _ => Evn.const)) (fun _ => Evn.const))
  ·rw [chkV, if_pos ⟨h1, h2⟩]
   congr 1
   funext b
   cases b with
   | false => rfl
   | true =>
    rw [if_neg (by decide), if_pos rfl]
    by_cases c : v.f0.data.toList ∈ seen
    ·rw [if_pos c, decide_eq_true c]; rfl
    ·rw [if_neg c, decide_eq_false c]
     by_cases c2 : v.f1.length = 0
     ·rw [if_pos c2, decide_eq_false (fun h => h c2)]; rfl
     ·rw [if_neg c2, decide_eq_true c2]; rfl
def othB (vs : List Vr) (i x : Nat) : Bool := x == i || ((rd_T49 vs (x : Int)).f0.toList != (rd_T49 vs (i : Int)).f0.toList)
def varR (nm : ByteArray → Bool) (st : Int) (vs : List Vr) (i : Nat) : Bool := varOK nm st (rd_T49 vs (i : Int)) && (List.range vs.length).all (othB vs i)
theorem varL1_go (st hd sy : Int) (vs : List Vr) (rs : List Rw) (nam : ByteArray) (l : List Int) (hl : l.length ≤ B47) : ∀ (d i : Nat), i + d = l.length → Evn (fun k => vivariumref10_variable.l1 k (i : Int) st hd sy vs rs nam l) ((List.range' i d).all (okS st l))
 | 0, i, h => by
  obtain rfl : i = l.length := by omega
  refine Evn.const.step (g' := fun _ => some _) (fun k => ?_)
  simp only [vivariumref10_variable.l1]
  rw [if_neg (by omega)]
  rfl
 | d + 1, i, h => by
  have ih := varL1_go st hd sy vs rs nam l hl d (i + 1) (by omega)
  have hi : i < l.length := by omega
  have E := wstep hi hl
  rw [List.range'_succ, List.all_cons]
  have hT : ∀ k, vivariumref10_variable.l1 (k + 1) (i : Int) st hd sy vs rs nam l = if okS st l i = true then vivariumref10_variable.l1 k ((i + 1 : Nat) : Int) st hd sy vs rs nam l else some false := fun k => by
   simp only [vivariumref10_variable.l1]
   rw [if_pos (by omega), if_pos (by omega), E.out]
   unfold okS
   by_cases c : wrap64 (rd l (i : Int)) ≥ st
   ·rw [if_pos c, decide_eq_false (Int.not_lt.2 c), Bool.false_and, if_neg (by decide)]
   ·rw [if_neg c, decide_eq_true (Int.not_le.1 c), Bool.true_and]
    by_cases c0 : i = 0
    ·subst c0
     rw [if_neg (by omega), show ((0 : Nat) == 0) = true from rfl, Bool.true_or, if_pos rfl]
    ·have E2 : Aside0 (wrap64 ((i : Int) - 1) = (i : Int) - 1) := ⟨w64 (by omega) (by unfold B47 at hl; omega)⟩
     rw [E2.out, if_pos (by omega), if_pos (by omega), if_pos (by omega), beq_eq_false_iff_ne.2 c0, Bool.false_or]
     by_cases c1 : rd l (i : Int) ≤ rd l ((i : Int) - 1)
     ·rw [if_pos c1, decide_eq_false (Int.not_lt.2 c1), if_neg (by decide)]
     ·rw [if_neg c1, decide_eq_true (Int.not_le.1 c1), if_pos rfl]
  cases ct : okS st l i with
  | true =>
   rw [Bool.true_and]
   exact ih.step (fun k => by rw [hT k, ct, if_pos rfl])
  | false =>
   rw [Bool.false_and]
   exact (Evn.const (r := false)).step (fun k => by rw [hT k, ct, if_neg (by decide)])
theorem varL0_go (st hd sy : Int) (vs : List Vr) (rs : List Rw) (hv : vs.length ≤ B47) (n : Nat) (hn : n < vs.length) (l : List Int) (b : Bool) (hb : Evn (fun k => vivariumref10_variable.l1 k 0 st hd sy vs rs (rd_T49 vs (n : Int)).f0 l) b) : ∀ (d i : Nat), i + d = vs.length → Evn (fun k => vivariumref10_variable.l0 k (n : Int) (i : Int) st hd sy vs rs (rd_T49 vs (n : Int)).f0 l) ((List.range' i d).all (othB vs n) && b)
 | 0, i, h => by
  obtain rfl : i = vs.length := by omega
  refine hb.step (fun k => ?_)
  simp only [vivariumref10_variable.l0]
  rw [if_neg (by omega)]
 | d + 1, i, h => by
  have ih := varL0_go st hd sy vs rs hv n hn l b hb d (i + 1) (by omega)
  have hi : i < vs.length := by omega
  have E := wstep hi hv
  rw [List.range'_succ, List.all_cons]
  have hT : ∀ k, vivariumref10_variable.l0 (k + 1) (n : Int) (i : Int) st hd sy vs rs (rd_T49 vs (n : Int)).f0 l = if othB vs n i = true then vivariumref10_variable.l0 k (n : Int) ((i + 1 : Nat) : Int) st hd sy vs rs (rd_T49 vs (n : Int)).f0 l else some false := fun k => by
   simp only [vivariumref10_variable.l0]
   rw [if_pos (by omega), E.out]
   unfold othB
   by_cases c : i = n
   ·rw [if_pos (show (i : Int) = (n : Int) by omega), beq_iff_eq.2 c, Bool.true_or, if_pos rfl]
   ·rw [if_neg (show ¬ (i : Int) = (n : Int) by omega), if_pos (by omega), beq_eq_false_iff_ne.2 c, Bool.false_or]
    by_cases c1 : (rd_T49 vs (i : Int)).f0.toList = (rd_T49 vs (n : Int)).f0.toList
    ·rw [if_pos c1, bne_eq_false_iff_eq.2 c1, if_neg (by decide)]
    ·rw [if_neg c1, bne_iff_ne.2 c1, if_pos rfl]
  cases ct : othB vs n i with
  | true =>
   rw [Bool.true_and]
   exact ih.step (fun k => by rw [hT k, ct, if_pos rfl])
  | false =>
   rw [Bool.false_and, Bool.false_and]
   exact (Evn.const (r := false)).step (fun k => by rw [hT k, ct, if_neg (by decide)])
theorem var_ev (nm : ByteArray → Bool) (hnm : ∀ s : ByteArray, s.size ≤ B47 → Evn (fun k => vivariumref10_isName.f k s) (nm s)) (st hd sy : Int) (vs : List Vr) (rs : List Rw) (hv : vs.length ≤ B47) (n : Nat) (hn : n < vs.length) (h1 : (rd_T49 vs (n : Int)).f0.size ≤ B47) (h2 : (rd_T49 vs (n : Int)).f1.length ≤ B47) : Evn (fun k => vivariumref10_variable.f k st hd sy vs rs (n : Int)) (varR nm st vs n) := by
 have hb := varL1_go st hd sy vs rs (rd_T49 vs (n : Int)).f0 (rd_T49 vs (n : Int)).f1 h2 _ 0 (Nat.zero_add _)
 have h0 := varL0_go st hd sy vs rs hv n hn (rd_T49 vs (n : Int)).f1 _ hb _ 0 (Nat.zero_add _)
 have hj : ∀ q : Bool, Evn (fun k => vivariumref10_variable.j0 k (n : Int) q st hd sy vs rs (rd_T49 vs (n : Int)).f0 (rd_T49 vs (n : Int)).f1) (!q && ((List.range' 0 vs.length).all (othB vs n) && (List.range' 0 (rd_T49 vs (n : Int)).f1.length).all (okS st (rd_T49 vs (n : Int)).f1))) := fun q => by
  cases q with
  | true => exact (Evn.const (r := false)).step (fun k => by simp only [vivariumref10_variable.j0, if_true])
  | false => exact h0.step (fun k => by simp only [vivariumref10_variable.j0]; rw [if_neg (by decide)]; rfl)
 refine Evn.congr (g' := fun k => (vivariumref10_isName.f k (rd_T49 vs (n : Int)).f0).bind fun b => if b = true then (if ((rd_T49 vs (n : Int)).f0.toList == ([118, 97, 114] : List UInt8)) = true then vivariumref10_variable.j0 k (n : Int) true st hd sy vs rs (rd_T49 vs (n : Int)).f0 (rd_T49 vs (n : Int)).f1 else vivariumref10_variable.j0 k (n : Int) (((rd_T49 vs (n : Int)).f1.length : Int) == 0) st hd sy vs rs (rd_T49 vs (n : Int)).f0 (rd_T49 vs (n : Int)).f1) else vivariumref10_variable.j0 k (n : Int) true st hd sy vs rs (rd_T49 vs (n : Int)).f0 (rd_T49 vs (n : Int)).f1) ?_ (fun k => ?_)
 ·have e : varR nm st vs n = if nm (rd_T49 vs (n : Int)).f0 = true then (if ((rd_T49 vs (n : Int)).f0.toList == ([118, 97, 114] : List UInt8)) = true then (!true && ((List.range' 0 vs.length).all (othB vs n) && (List.range' 0 (rd_T49 vs (n : Int)).f1.length).all (okS st (rd_T49 vs (n : Int)).f1))) else (!(((rd_T49 vs (n : Int)).f1.length : Int) == 0) && ((List.range' 0 vs.length).all (othB vs n) && (List.range' 0 (rd_T49 vs (n : Int)).f1.length).all (okS st (rd_T49 vs (n : Int)).f1)))) else (!true && ((List.range' 0 vs.length).all (othB vs n) && (List.range' 0 (rd_T49 vs (n : Int)).f1.length).all (okS st (rd_T49 vs (n : Int)).f1))) := by
   unfold varR varOK risB
   rw [List.range_eq_range', List.range_eq_range']
   have e1 : decide ((rd_T49 vs (n : Int)).f1.length ≠ 0) = !(((rd_T49 vs (n : Int)).f1.length : Int) == 0) := by
    by_cases c : (rd_T49 vs (n : Int)).f1.length = 0
    ·rw [c]; rfl
    ·rw [decide_eq_true c, beq_eq_false_iff_ne.2 (show ¬ ((rd_T49 vs (n : Int)).f1.length : Int) = 0 by omega)]; rfl
   rw [e1]
   unfold bne
   generalize (List.range' 0 vs.length).all (othB vs n) = q1
   generalize (List.range' 0 (rd_T49 vs (n : Int)).f1.length).all (okS st (rd_T49 vs (n : Int)).f1) = q2
   generalize (((rd_T49 vs (n : Int)).f1.length : Int) == 0) = q3
   generalize ((rd_T49 vs (n : Int)).f0.toList == ([118, 97, 114] : List UInt8)) = q4
   generalize nm (rd_T49 vs (n : Int)).f0 = q5
   cases q1 <;> cases q2 <;> cases q3 <;> cases q4 <;> cases q5 <;> rfl
  rw [e]
  exact Evn.bind (hnm _ h1) (evn_ite (fun _ => evn_ite (fun _ => hj true) (fun _ => hj _)) (fun _ => hj true))
 ·unfold vivariumref10_variable.f
  rw [if_pos (by omega), if_pos (by omega)]
  congr 1
  funext b
  cases b with
  | false => rfl
  | true =>
   rw [if_pos rfl, if_pos rfl]
   by_cases c : (rd_T49 vs (n : Int)).f0.toList = ([118, 97, 114] : List UInt8)
   ·rw [if_pos c, if_pos (beq_iff_eq.2 c)]
   ·rw [if_neg c, if_neg (fun h => c (beq_iff_eq.1 h))]
theorem chkL1_go (st hd sy : Int) (vs : List Vr) (rs : List Rw) (hr : rs.length ≤ B47) (n : Nat) (hn : n ≤ 1000) (hR : ∀ r ∈ rs, r.f1.length ≤ B47) : ∀ (d i : Nat), i + d = rs.length → Evn (fun k => vivariumref10_Check.l1 k (n : Int) (i : Int) st hd sy vs rs) (if (rs.drop i).all (rowOK st vs n) = true then 0 else 105)
 | 0, i, h => by
  obtain rfl : i = rs.length := by omega
  refine Evn.const.step (g' := fun _ => some _) (fun k => ?_)
  simp only [vivariumref10_Check.l1]
  rw [if_neg (by omega), List.drop_length]
  rfl
 | d + 1, i, h => by
  have ih := chkL1_go st hd sy vs rs hr n hn hR d (i + 1) (by omega)
  have hi : i < rs.length := by omega
  have E := wstep hi hr
  have e : rd_T41 rs (i : Int) = rs[i] := rd_62 rs i hi
  have hm := hR rs[i] (List.getElem_mem hi)
  obtain ⟨r, hx⟩ : ∃ r, rs[i] = r := ⟨_, rfl⟩
  rw [List.drop_eq_getElem_cons hi, List.all_cons, hx]
  rw [hx] at e hm
  have e2 : (if (rowOK st vs n r && (rs.drop (i + 1)).all (rowOK st vs n)) = true then (0 : Int) else 105) = (if decide (r.f1.length = n) = true then (if ([⟨r.f0.f0, r.f0.f1⟩, ⟨r.f2.f0, r.f2.f1⟩] : List Tm).all (tmOK st vs) = true then (if r.f1.all (tmOK st vs) = true then (if bdOK r = true then (if (rs.drop (i + 1)).all (rowOK st vs n) = true then (0 : Int) else 105) else 105) else 105) else 105) else 105) := by
   unfold rowOK
   have q : ([⟨r.f0.f0, r.f0.f1⟩, ⟨r.f2.f0, r.f2.f1⟩] : List Tm).all (tmOK st vs) = (tmOK st vs r.f0 && tmOK st vs r.f2) := by simp
   rw [q]
   generalize tmOK st vs r.f0 = q1
   generalize tmOK st vs r.f2 = q2
   generalize bdOK r = q3
   generalize r.f1.all (tmOK st vs) = q4
   generalize decide (r.f1.length = n) = q5
   cases q1 <;> cases q2 <;> cases q3 <;> cases q4 <;> cases q5 <;> simp
  rw [e2]
  refine Evn.step (g' := fun k => if decide (r.f1.length = n) = true then ((vivariumref10_terms.f k st hd sy vs rs [⟨r.f0.f0, r.f0.f1⟩, ⟨r.f2.f0, r.f2.f1⟩]).bind fun t => if t = true then ((vivariumref10_terms.f k st hd sy vs rs r.f1).bind fun t => if t = true then ((vivariumref10_bound.f k r.f0.f0 r.f0.f1 r.f1 r.f2.f0 r.f2.f1).bind fun t => if t = true then vivariumref10_Check.l1 k (n : Int) ((i + 1 : Nat) : Int) st hd sy vs rs else some 105) else some 105) else some 105) else some 105) ?_ (fun k => ?_)
  ·exact evn_ite (fun _ => Evn.bind (terms_ev st hd sy vs rs _ (by unfold B47; simp)) (evn_ite (fun _ => Evn.bind (terms_ev st hd sy vs rs r.f1 hm) (evn_ite (fun _ => Evn.bind (boundR_ev r hm) (evn_ite (fun _ => ih) (fun _ => Evn.const))) (fun _ => Evn.const))) (fun _ => Evn.const))) (fun _ => Evn.const)
  ·simp only [vivariumref10_Check.l1]
   rw [if_pos (by omega), if_pos (by omega), e, E.out]
   by_cases c : r.f1.length = n
   ·rw [if_pos (show (r.f1.length : Int) = (n : Int) by omega), if_pos (decide_eq_true c)]
   ·rw [if_neg (show ¬ (r.f1.length : Int) = (n : Int) by omega), if_neg (by rw [decide_eq_false c]; decide)]
theorem chkL0_go (nm : ByteArray → Bool) (hnm : ∀ s : ByteArray, s.size ≤ B47 → Evn (fun k => vivariumref10_isName.f k s) (nm s)) (st hd sy : Int) (vs : List Vr) (rs : List Rw) (hv : vs.length ≤ B47) (hV : ∀ v ∈ vs, v.f0.size ≤ B47 ∧ v.f1.length ≤ B47) (n : Int) (b : Int) (hb : Evn (fun k => vivariumref10_Check.l1 k n 0 st hd sy vs rs) b) : ∀ (d i : Nat), i + d = vs.length → Evn (fun k => vivariumref10_Check.l0 k n (i : Int) st hd sy vs rs) (if (List.range' i d).all (varR nm st vs) = true then b else 104)
 | 0, i, h => by
  obtain rfl : i = vs.length := by omega
  refine hb.step (fun k => ?_)
  simp only [vivariumref10_Check.l0]
  rw [if_neg (by omega)]
 | d + 1, i, h => by
  have ih := chkL0_go nm hnm st hd sy vs rs hv hV n b hb d (i + 1) (by omega)
  have hi : i < vs.length := by omega
  have E := wstep hi hv
  obtain ⟨g1, g2⟩ := hV vs[i] (List.getElem_mem hi)
  have hvar := var_ev nm hnm st hd sy vs rs hv i hi (by rw [rd_65 vs i hi]; exact g1) (by rw [rd_65 vs i hi]; exact g2)
  rw [List.range'_succ, List.all_cons]
  have e2 : (if (varR nm st vs i && (List.range' (i + 1) d).all (varR nm st vs)) = true then b else 104) = (if varR nm st vs i = true then (if (List.range' (i + 1) d).all (varR nm st vs) = true then b else 104) else 104) := by
   cases varR nm st vs i
   ·rfl
   ·rw [Bool.true_and, if_pos rfl]
  rw [e2]
  refine Evn.step (g' := fun k => (vivariumref10_variable.f k st hd sy vs rs (i : Int)).bind fun t => if t = true then vivariumref10_Check.l0 k n ((i + 1 : Nat) : Int) st hd sy vs rs else some 104) ?_ (fun k => ?_)
  ·exact Evn.bind hvar (evn_ite (fun _ => ih) (fun _ => Evn.const))
  ·simp only [vivariumref10_Check.l0]
   rw [if_pos (by omega), E.out]
theorem fresh_iff : ∀ (vs : List Vr) (seen : List (List UInt8)), freshB vs seen = true ↔ (∀ v ∈ vs, v.f0.data.toList ∉ seen) ∧ vs.Pairwise fun a b => a.f0.data.toList ≠ b.f0.data.toList
 | [], seen => by simp [freshB]
 | v :: vs, seen => by
  rw [freshB, Bool.and_eq_true, fresh_iff vs, List.pairwise_cons]
  simp only [Bool.not_eq_true', decide_eq_false_iff_not]
  constructor
  ·rintro ⟨h1, h2, h3⟩
   refine ⟨fun w hw => ?_, fun w hw e => h2 w hw (by rw [← e]; exact List.mem_cons_self), h3⟩
   rcases List.mem_cons.1 hw with rfl | hw
   ·exact h1
   ·exact fun h => h2 w hw (List.mem_cons_of_mem _ h)
  ·rintro ⟨h1, h3, h4⟩
   refine ⟨h1 v List.mem_cons_self, fun w hw h => ?_, h4⟩
   rcases List.mem_cons.1 h with e | h
   ·exact h3 w hw e.symm
   ·exact h1 w (List.mem_cons_of_mem _ hw) h
theorem bl_inj {a b : ByteArray} : a.toList = b.toList ↔ a.data.toList = b.data.toList := by rw [ByteArray.toList_eq, ByteArray.toList_eq]
theorem all_vars (nm : ByteArray → Bool) (st : Int) (vs : List Vr) : (vs.all (varOK nm st) && freshB vs []) = (List.range' 0 vs.length).all (varR nm st vs) := by
 rw [Bool.eq_iff_iff, Bool.and_eq_true, List.all_eq_true, List.all_eq_true, fresh_iff]
 constructor
 ·rintro ⟨h1, _, h2⟩ i hi
  have hi2 : i < vs.length := by simpa using hi
  unfold varR
  rw [Bool.and_eq_true, rd_65 vs i hi2]
  refine ⟨h1 _ (List.getElem_mem hi2), ?_⟩
  rw [List.all_eq_true]
  intro x hx
  have hx2 : x < vs.length := List.mem_range.1 hx
  unfold othB
  rw [Bool.or_eq_true, beq_iff_eq, bne_iff_ne, rd_65 vs i hi2, rd_65 vs x hx2]
  rcases Nat.lt_trichotomy x i with h | h | h
  ·exact .inr fun e => List.pairwise_iff_getElem.1 h2 x i hx2 hi2 h (bl_inj.1 e)
  ·exact .inl h
  ·exact .inr fun e => List.pairwise_iff_getElem.1 h2 i x hi2 hx2 h (bl_inj.1 e.symm)
 ·intro h
  have h' : ∀ i (hi : i < vs.length), varOK nm st vs[i] = true ∧ ∀ x (hx : x < vs.length), x = i ∨ vs[x].f0.data.toList ≠ vs[i].f0.data.toList := fun i hi => by
   have := h i (by simpa using hi)
   unfold varR at this
   rw [Bool.and_eq_true, rd_65 vs i hi, List.all_eq_true] at this
   refine ⟨this.1, fun x hx => ?_⟩
   have h3 := this.2 x (List.mem_range.2 hx)
   unfold othB at h3
   rw [Bool.or_eq_true, beq_iff_eq, bne_iff_ne, rd_65 vs i hi, rd_65 vs x hx] at h3
   exact h3.imp id fun h4 e => h4 (bl_inj.2 e)
  refine ⟨fun v hv => ?_, fun v hv => by simp, ?_⟩
  ·obtain ⟨i, hi, rfl⟩ := List.mem_iff_getElem.1 hv
   exact (h' i hi).1
  ·rw [List.pairwise_iff_getElem]
   intro i j hi hj hij
   rcases (h' j hj).2 i hi with h | h
   ·omega
   ·exact h
/-- The neighbourhoods' sizes; 0: none. -/
def nearN (hd : Int) : Nat := if hd = 1 then 8 else if hd = 2 then 4 else if hd = 3 then 6 else 0
theorem sizeP (hd : Int) : hood_Size.f hd = some ((nearN hd : Int), if nearN hd = 0 then 70 else 0) := by
 unfold hood_Size.f hood_Offsets.f nearN
 by_cases h1 : hd = 1
 ·rw [if_pos h1, if_pos h1]; rfl
 ·rw [if_neg h1, if_neg h1]
  by_cases h2 : hd = 2
  ·rw [if_pos h2, if_pos h2]; rfl
  ·rw [if_neg h2, if_neg h2]
   by_cases h3 : hd = 3
   ·rw [if_pos h3, if_pos h3]; rfl
   ·rw [if_neg h3, if_neg h3]; rfl
theorem sizeR (hd : Int) : vivariumref07_Size.f hd = some ((nearN hd : Int), if nearN hd = 0 then 70 else 0) := by
 unfold vivariumref07_Size.f vivariumref07_Offsets.f nearN
 by_cases h1 : hd = 1
 ·rw [if_pos h1, if_pos h1]; rfl
 ·rw [if_neg h1, if_neg h1]
  by_cases h2 : hd = 2
  ·rw [if_pos h2, if_pos h2]; rfl
  ·rw [if_neg h2, if_neg h2]
   by_cases h3 : hd = 3
   ·rw [if_pos h3, if_pos h3]; rfl
   ·rw [if_neg h3, if_neg h3]; rfl
def mayN (sy hd : Int) : Int := (table_may.f 10 sy hd).getD 0
theorem may_tab : ∀ s : Nat, s < 11 → ∀ h : Nat, h < 4 → table_may.f 10 (s : Int) (h : Int) = some (mayN s h) ∧ vivariumref10_may.f 10 (s : Int) (h : Int) = some (mayN s h) := by decide +kernel
theorem leo_up {α : Type} {g : Nat → Option α} (hm : ∀ k, LeO (g k) (g (k + 1))) {r : α} {n : Nat} (h : g n = some r) : Evn g r := by
 refine ⟨n, fun k hk => ?_⟩
 obtain ⟨d, rfl⟩ : ∃ d, k = n + d := ⟨k - n, by omega⟩
 induction d with
 | zero => exact h
 | succ d ih => exact hm _ _ (ih (by omega))
theorem may_ev (sy hd : Int) (h0 : 0 ≤ sy) : Evn (fun k => table_may.f k sy hd) (mayN sy hd) ∧ Evn (fun k => vivariumref10_may.f k sy hd) (mayN sy hd) := by
 by_cases h1 : sy > 10
 ·have e : ∀ k, table_may.f k sy hd = some 103 := fun k => by unfold table_may.f; rw [if_pos h1]
  have e2 : ∀ k, vivariumref10_may.f k sy hd = some 103 := fun k => by unfold vivariumref10_may.f; rw [if_pos h1]
  have e3 : mayN sy hd = 103 := by unfold mayN; rw [e]; rfl
  rw [e3]
  exact ⟨Evn.congr Evn.const e, Evn.congr Evn.const e2⟩
 ·by_cases h2 : nearN hd = 0
  ·have e : ∀ k, table_may.f k sy hd = some 70 := fun k => by
    unfold table_may.f; rw [if_neg h1, sizeP, if_pos h2, Option.bind_some]; rfl
   have e2 : ∀ k, vivariumref10_may.f k sy hd = some 70 := fun k => by
    unfold vivariumref10_may.f; rw [if_neg h1, sizeR, if_pos h2, Option.bind_some]; rfl
   have e3 : mayN sy hd = 70 := by unfold mayN; rw [e]; rfl
   rw [e3]
   exact ⟨Evn.congr Evn.const e, Evn.congr Evn.const e2⟩
  ·obtain ⟨s, rfl⟩ : ∃ s : Nat, sy = s := ⟨sy.toNat, by omega⟩
   obtain ⟨h, rfl, h4⟩ : ∃ h : Nat, hd = h ∧ h < 4 := by
    unfold nearN at h2
    by_cases c1 : hd = 1
    ·exact ⟨1, c1, by decide⟩
    ·by_cases c2 : hd = 2
     ·exact ⟨2, c2, by decide⟩
     ·by_cases c3 : hd = 3
      ·exact ⟨3, c3, by decide⟩
      ·rw [if_neg c1, if_neg c2, if_neg c3] at h2; exact absurd rfl h2
   obtain ⟨q1, q2⟩ := may_tab s (by omega) h h4
   exact ⟨leo_up (fun k => table_may.mono _ _ k) q1, leo_up (fun k => vivariumref10_may.mono _ _ k) q2⟩
/-- What a table that may be has. -/
structure TabOK (nm : ByteArray → Bool) (st hd sy : Int) (vs : List Vr) (rs : List Rw) : Prop where
 st2 : 2 ≤ st
 st256 : st ≤ 256
 near : nearN hd ≠ 0
 may : mayN sy hd = 0
 vs64 : vs.length ≤ 64
 rs4096 : rs.length ≤ 4096
 vars : vs.all (varOK nm st) = true
 fresh : freshB vs [] = true
 rows : rs.all (rowOK st vs (nearN hd)) = true
theorem nearN_le (hd : Int) : nearN hd ≤ 8 := by
 unfold nearN
 repeat' split
 all_goals omega
/-- The names that may be. -/
theorem names : ∃ nm : ByteArray → Bool, ∀ s : ByteArray, s.size ≤ B47 → Evn (fun k => vivariumref10_isName.f k s) (nm s) ∧ Evn (fun k => table_named.f k s) (nm s && (s.toList != ([118, 97, 114] : List UInt8))) := by
 refine ⟨fun s => if h : s.size ≤ B47 then Classical.choose (named_both s h) else false, fun s h => ?_⟩
 simp only [dif_pos h]
 exact Classical.choose_spec (named_both s h)
theorem check_ev (nm : ByteArray → Bool) (hnm : ∀ s : ByteArray, s.size ≤ B47 → Evn (fun k => vivariumref10_isName.f k s) (nm s) ∧ Evn (fun k => table_named.f k s) (nm s && (s.toList != ([118, 97, 114] : List UInt8)))) (st hd sy : Int) (vs : List Vr) (rs : List Rw) (hy0 : 0 ≤ sy) (hv : vs.length ≤ B47) (hr : rs.length ≤ B47) (hV : ∀ v ∈ vs, v.f0.size ≤ B47 ∧ v.f1.length ≤ B47) (hR : ∀ r ∈ rs, r.f1.length ≤ B47) :
  ∃ e : Int, Evn (fun k => table_Check.f k st hd sy vs rs) e ∧ Evn (fun k => vivariumref10_Check.f k st hd sy vs rs) e ∧ (e = 0 ↔ TabOK nm st hd sy vs rs) := by
 obtain ⟨m1, m2⟩ := may_ev sy hd hy0
 have hj0 : Evn (fun k => vivariumref10_Check.j0 k true st hd sy vs rs) 101 := Evn.const.step (g' := fun _ => some 101) (fun k => by simp only [vivariumref10_Check.j0, if_true])
 have hj1 : Evn (fun k => vivariumref10_Check.j1 k (nearN hd : Int) true st hd sy vs rs) 6 := Evn.const.step (g' := fun _ => some 6) (fun k => by simp only [vivariumref10_Check.j1, if_true])
 by_cases c1 : st < 2
 ·refine ⟨101, Evn.congr (g' := fun _ => some 101) Evn.const (fun k => by unfold table_Check.f; rw [if_pos c1]), hj0.congr (fun k => by unfold vivariumref10_Check.f; rw [if_pos c1]), fun h => absurd h (by decide), fun h => absurd h.st2 (by omega)⟩
 ·have pf : ∀ k, vivariumref10_Check.f k st hd sy vs rs = vivariumref10_Check.j0 k (decide (st > 256)) st hd sy vs rs := fun k => by unfold vivariumref10_Check.f; rw [if_neg c1]
  by_cases c2 : 256 < st
  ·refine ⟨101, Evn.congr (g' := fun _ => some 101) Evn.const (fun k => by unfold table_Check.f; rw [if_neg c1, if_pos c2]), hj0.congr (fun k => by rw [pf, decide_eq_true (show st > 256 from c2)]), fun h => absurd h (by decide), fun h => absurd h.st256 (by omega)⟩
  ·rw [decide_eq_false (show ¬ st > 256 from c2)] at pf
   by_cases c3 : nearN hd = 0
   ·refine ⟨70, Evn.congr (g' := fun _ => some 70) Evn.const (fun k => by unfold table_Check.f; rw [if_neg c1, if_neg c2, sizeP, if_pos c3, Option.bind_some]; rfl), (Evn.const.step (g := fun k => vivariumref10_Check.j0 k false st hd sy vs rs) (g' := fun _ => some 70) (fun k => by simp only [vivariumref10_Check.j0]; rw [if_neg (by decide), sizeR, if_pos c3, Option.bind_some]; rfl)).congr pf, fun h => absurd h (by decide), fun h => absurd c3 h.near⟩
   ·have q1 : ∀ k, table_Check.f k st hd sy vs rs = (table_may.f k sy hd).bind fun e => if e = 0 then (if 64 < (vs.length : Int) then some 6 else if 4096 < (rs.length : Int) then some 6 else ((chkV k st vs []).bind fun b => if b = true then ((chkR k st hd sy vs rs (nearN hd : Int) rs).bind fun b => if b = true then some 0 else some 105) else some 104)) else some e := fun k => by
     unfold table_Check.f; rw [if_neg c1, if_neg c2, sizeP, if_neg c3, Option.bind_some, if_pos rfl]
    have q2 : ∀ k, vivariumref10_Check.j0 (k + 1) false st hd sy vs rs = (vivariumref10_may.f k sy hd).bind fun e => if e = 0 then (if (vs.length : Int) > 64 then vivariumref10_Check.j1 k (nearN hd : Int) true st hd sy vs rs else vivariumref10_Check.j1 k (nearN hd : Int) (decide ((rs.length : Int) > 4096)) st hd sy vs rs) else some e := fun k => by
     simp only [vivariumref10_Check.j0]; rw [if_neg (by decide), sizeR, if_neg c3, Option.bind_some, if_pos rfl]
    by_cases c4 : mayN sy hd = 0
    ·rw [c4] at m1 m2
     by_cases c5 : 64 < (vs.length : Int)
     ·refine ⟨6, (by refine Evn.congr ?_ q1; refine Evn.bind m1 ?_; exact Evn.congr (g' := fun _ => some 6) Evn.const (fun k => by rw [if_pos rfl, if_pos c5])), (by refine Evn.congr ?_ pf; refine Evn.step ?_ q2; refine Evn.bind m2 ?_; exact hj1.congr (fun k => by rw [if_pos rfl, if_pos (show (vs.length : Int) > 64 from c5)])), fun h => absurd h (by decide), fun h => absurd h.vs64 (by omega)⟩
     ·by_cases c6 : 4096 < (rs.length : Int)
      ·refine ⟨6, (by refine Evn.congr ?_ q1; refine Evn.bind m1 ?_; exact Evn.congr (g' := fun _ => some 6) Evn.const (fun k => by rw [if_pos rfl, if_neg c5, if_pos c6])), (by refine Evn.congr ?_ pf; refine Evn.step ?_ q2; refine Evn.bind m2 ?_; exact hj1.congr (fun k => by rw [if_pos rfl, if_neg (show ¬ (vs.length : Int) > 64 from c5), decide_eq_true (show (rs.length : Int) > 4096 from c6)])), fun h => absurd h (by decide), fun h => absurd h.rs4096 (by omega)⟩
      ·have hn8 := nearN_le hd
       have v1 := chkV_ev nm (fun s h => (hnm s h).2) st vs [] hV
       have r1 := chkR_ev st hd sy vs rs (nearN hd) (by omega) rs
       have r2 := chkL1_go st hd sy vs rs hr (nearN hd) (by omega) hR rs.length 0 (by omega)
       rw [List.drop_zero] at r2
       have v2 := chkL0_go nm (fun s h => (hnm s h).1) st hd sy vs rs hv hV (nearN hd : Int) _ r2 vs.length 0 (by omega)
       rw [← all_vars] at v2
       refine ⟨if (vs.all (varOK nm st) && freshB vs []) = true then (if rs.all (rowOK st vs (nearN hd)) = true then 0 else 105) else 104, ?_, ?_, ?_⟩
       ·refine Evn.congr ?_ q1
        refine Evn.bind m1 ?_
        exact (Evn.congr (g' := fun k => (chkV k st vs []).bind fun b => if b = true then ((chkR k st hd sy vs rs (nearN hd : Int) rs).bind fun b => if b = true then some 0 else some 105) else some 104) (Evn.bind v1 (evn_ite (fun _ => Evn.bind r1 (evn_ite (fun _ => Evn.const) (fun _ => Evn.const))) (fun _ => Evn.const))) (fun k => by rw [if_pos rfl, if_neg c5, if_neg c6]))
       ·refine Evn.congr ?_ pf
        refine Evn.step ?_ q2
        refine Evn.bind m2 ?_
        exact (Evn.congr (g' := fun k => vivariumref10_Check.j1 k (nearN hd : Int) false st hd sy vs rs) (v2.step (fun k => by simp only [vivariumref10_Check.j1]; rw [if_neg (by decide)]; rfl)) (fun k => by rw [if_pos rfl, if_neg (show ¬ (vs.length : Int) > 64 from c5), decide_eq_false (show ¬ (rs.length : Int) > 4096 from c6)]))
       ·constructor
        ·intro h
         by_cases d1 : (vs.all (varOK nm st) && freshB vs []) = true
         ·rw [if_pos d1] at h
          by_cases d2 : rs.all (rowOK st vs (nearN hd)) = true
          ·rw [Bool.and_eq_true] at d1
           exact ⟨by omega, by omega, c3, c4, by omega, by omega, d1.1, d1.2, d2⟩
          ·rw [if_neg d2] at h; exact absurd h (by decide)
         ·rw [if_neg d1] at h; exact absurd h (by decide)
        ·intro h
         rw [if_pos (by rw [h.vars, h.fresh]; rfl), if_pos h.rows]
    ·refine ⟨mayN sy hd, (by refine Evn.congr ?_ q1; refine Evn.bind m1 ?_; exact Evn.congr (g' := fun _ => some (mayN sy hd)) Evn.const (fun k => by rw [if_neg c4])), (by refine Evn.congr ?_ pf; refine Evn.step ?_ q2; refine Evn.bind m2 ?_; exact Evn.congr (g' := fun _ => some (mayN sy hd)) Evn.const (fun k => by rw [if_neg c4])), fun h => absurd h c4, fun h => absurd h.may c4⟩
end Go.Proofs.YtajhfkcmfmhnaaaDoor.L
end
section
namespace Go.Proofs
open Go.Shelf
def Tryd.lays170_ren : Go.Shelf.Ren := ⟨fun | 170 => 30 | n => n, fun | 70 => 54 | 3 => 3 | 0 => 0 | 72 => 56 | 37 => 46 | 5 => 5 | n => n, fun | n => n⟩
theorem Tryd.lays170 : Go.Proofs.Lays.n170 Tryd.prog Tryd.lays170_ren := {
 mixed := by kernel_rfl
 f170 := Tryd.func30.trans (congrArg some (by kernel_rfl))
 t0 := Tryd.underlying0
 a0 := Tryd.isAgg0
 z0 := Tryd.sizeOf0
 v0 := Tryd.zeroValue0
 t3 := Tryd.underlying3
 a3 := Tryd.isAgg3
 z3 := Tryd.sizeOf3
 v3 := Tryd.zeroValue3
 t37 := Tryd.underlying46
 a37 := Tryd.isAgg46
 z37 := Tryd.sizeOf46
 v37 := Tryd.zeroValue46
 t70 := Tryd.underlying54
 a70 := Tryd.isAgg54
 z70 := Tryd.sizeOf54
 v70 := Tryd.zeroValue54
 t72 := Tryd.underlying56
 a72 := Tryd.isAgg56
 z72 := Tryd.sizeOf56
 v72 := Tryd.zeroValue56 }
open Go.RowKit in
/-- (*strings.Builder).Len: "Len returns the number of accumulated bytes; b.Len() == len(b.String()).": the world is as it was. (LAID: no walk: one application.) -/
theorem Tryd.Builder_Len (B b : Nat) (bs : List Value) (w : World) (h : Lib.IsBuilder 56 5 B b bs w) :
  Calls Tryd.prog 30 #[.pointer (some ⟨b, 0, none⟩)] w fun e w' => e = .returned (.int .i64 bs.length) ∧ w' = w := Any.Builder_Len Tryd.lays170 B b bs w h
def Tryd.lays169_ren : Go.Shelf.Ren := ⟨fun | 169 => 31 | n => n, fun | 70 => 54 | 9 => 9 | 0 => 0 | 72 => 56 | 37 => 46 | 127 => 81 | 3 => 3 | 5 => 5 | n => n, fun | n => n⟩
theorem Tryd.lays169 : Go.Proofs.Lays.n169 Tryd.prog Tryd.lays169_ren := {
 mixed := by kernel_rfl
 f169 := Tryd.func31.trans (congrArg some (by kernel_rfl))
 t0 := Tryd.underlying0
 a0 := Tryd.isAgg0
 z0 := Tryd.sizeOf0
 v0 := Tryd.zeroValue0
 t3 := Tryd.underlying3
 a3 := Tryd.isAgg3
 z3 := Tryd.sizeOf3
 v3 := Tryd.zeroValue3
 t9 := Tryd.underlying9
 a9 := Tryd.isAgg9
 z9 := Tryd.sizeOf9
 v9 := Tryd.zeroValue9
 t37 := Tryd.underlying46
 a37 := Tryd.isAgg46
 z37 := Tryd.sizeOf46
 v37 := Tryd.zeroValue46
 t70 := Tryd.underlying54
 a70 := Tryd.isAgg54
 z70 := Tryd.sizeOf54
 v70 := Tryd.zeroValue54
 t72 := Tryd.underlying56
 a72 := Tryd.isAgg56
 z72 := Tryd.sizeOf56
 v72 := Tryd.zeroValue56
 t127 := Tryd.underlying81
 a127 := Tryd.isAgg81
 z127 := Tryd.sizeOf81
 v127 := Tryd.zeroValue81 }
theorem Tryd.Builder_Extra_169 : Builder.Extra Tryd.prog Tryd.lays169_ren := {
 sizeBuilder := by kernel_rfl
 liesBuilder := by kernel_rfl
 t5 := Tryd.underlying5
 a5 := Tryd.isAgg5
 z5 := Tryd.sizeOf5
 v5 := Tryd.zeroValue5
 infoByte := by kernel_rfl
 cellsByte := by kernel_rfl
 sizeByte := by kernel_rfl
 neB5 := by decide }
open Go.RowKit in
/-- (*strings.Builder).String: "String returns the accumulated string.": WHATEVER THE BUILDER HOLDS. (LAID: no walk: one application.) -/
theorem Tryd.Builder_String_any (B b : Nat) (l : List UInt8) (w : World) (h : Lib.IsBuilder 56 5 B b (Lib.byteCells l) w) (hBw : B ≤ w.heap.size) :
  Calls Tryd.prog 31 #[.pointer (some ⟨b, 0, none⟩)] w fun e w' => e = .returned (.string ⟨l.toArray⟩) ∧ Below B w w' := Any.Builder_String_any Tryd.lays169 Tryd.Builder_Extra_169 B b l w h hBw
def Tryd.laysM171_ren : Go.Shelf.Ren := ⟨fun | 171 => 42 | 243 => 53 | 246 => 57 | 283 => 59 | 284 => 60 | 285 => 61 | 286 => 62 | 129 => 64 | 317 => 63 | 318 => 65 | 319 => 66 | 320 => 67 | 337 => 68 | 338 => 69 | n => n, fun | 3 => 3 | 9 => 9 | 2 => 2 | 4 => 4 | 171 => 101 | 0 => 0 | 53 => 73 | 37 => 46 | 5 => 5 | 173 => 104 | 212 => 108 | 51 => 109 | 20 => 20 | 213 => 110 | 46 => 112 | 232 => 115 | 233 => 116 | n => n, fun | 17 => 0 | 18 => 1 | 19 => 2 | n => n⟩
theorem Tryd.laysM171 : Go.Proofs.LaysM.n171 Tryd.prog Tryd.laysM171_ren := {
 mixed := by kernel_rfl
 f129 := Tryd.func64.trans (congrArg some (by kernel_rfl))
 f171 := Tryd.func42.trans (congrArg some (by kernel_rfl))
 f243 := Tryd.func53.trans (congrArg some (by kernel_rfl))
 f246 := Tryd.func57.trans (congrArg some (by kernel_rfl))
 f283 := Tryd.func59.trans (congrArg some (by kernel_rfl))
 f284 := Tryd.func60.trans (congrArg some (by kernel_rfl))
 f285 := Tryd.func61.trans (congrArg some (by kernel_rfl))
 f286 := Tryd.func62.trans (congrArg some (by kernel_rfl))
 f317 := Tryd.func63.trans (congrArg some (by kernel_rfl))
 f318 := Tryd.func65.trans (congrArg some (by kernel_rfl))
 f319 := Tryd.func66.trans (congrArg some (by kernel_rfl))
 f320 := Tryd.func67.trans (congrArg some (by kernel_rfl))
 f337 := Tryd.func68.trans (congrArg some (by kernel_rfl))
 f338 := Tryd.func69.trans (congrArg some (by kernel_rfl))
 t0 := Tryd.underlying0
 a0 := Tryd.isAgg0
 z0 := Tryd.sizeOf0
 v0 := Tryd.zeroValue0
 t2 := Tryd.underlying2
 a2 := Tryd.isAgg2
 z2 := Tryd.sizeOf2
 v2 := Tryd.zeroValue2
 t3 := Tryd.underlying3
 a3 := Tryd.isAgg3
 z3 := Tryd.sizeOf3
 v3 := Tryd.zeroValue3
 t4 := Tryd.underlying4
 a4 := Tryd.isAgg4
 z4 := Tryd.sizeOf4
 v4 := Tryd.zeroValue4
 t5 := Tryd.underlying5
 a5 := Tryd.isAgg5
 z5 := Tryd.sizeOf5
 v5 := Tryd.zeroValue5
 t9 := Tryd.underlying9
 a9 := Tryd.isAgg9
 z9 := Tryd.sizeOf9
 v9 := Tryd.zeroValue9
 t20 := Tryd.underlying20
 a20 := Tryd.isAgg20
 z20 := Tryd.sizeOf20
 v20 := Tryd.zeroValue20
 t37 := Tryd.underlying46
 a37 := Tryd.isAgg46
 z37 := Tryd.sizeOf46
 v37 := Tryd.zeroValue46
 t46 := Tryd.underlying112
 a46 := Tryd.isAgg112
 z46 := Tryd.sizeOf112
 v46 := Tryd.zeroValue112
 t51 := Tryd.underlying109
 a51 := Tryd.isAgg109
 z51 := Tryd.sizeOf109
 v51 := Tryd.zeroValue109
 t53 := Tryd.underlying73
 a53 := Tryd.isAgg73
 z53 := Tryd.sizeOf73
 v53 := Tryd.zeroValue73
 t171 := Tryd.underlying101
 a171 := Tryd.isAgg101
 z171 := Tryd.sizeOf101
 v171 := Tryd.zeroValue101
 t173 := Tryd.underlying104
 a173 := Tryd.isAgg104
 z173 := Tryd.sizeOf104
 v173 := Tryd.zeroValue104
 t212 := Tryd.underlying108
 a212 := Tryd.isAgg108
 z212 := Tryd.sizeOf108
 v212 := Tryd.zeroValue108
 t213 := Tryd.underlying110
 a213 := Tryd.isAgg110
 z213 := Tryd.sizeOf110
 t232 := Tryd.underlying115
 a232 := Tryd.isAgg115
 z232 := Tryd.sizeOf115
 v232 := Tryd.zeroValue115
 t233 := Tryd.underlying116
 a233 := Tryd.isAgg116
 z233 := Tryd.sizeOf116
 v233 := Tryd.zeroValue116
 g17 := by kernel_rfl
 g18 := by kernel_rfl
 g19 := by kernel_rfl
 i0 := by kernel_rfl
 i2 := by kernel_rfl
 i3 := by kernel_rfl
 i4 := by kernel_rfl
 i5 := by kernel_rfl
 i9 := by kernel_rfl
 i20 := by kernel_rfl
 i37 := by kernel_rfl
 i46 := by kernel_rfl
 i51 := by kernel_rfl
 i53 := by kernel_rfl
 i171 := by kernel_rfl
 i173 := by kernel_rfl
 i212 := by kernel_rfl
 i232 := by kernel_rfl
 i233 := by kernel_rfl
 m17 := by kernel_rfl
 m18 := by kernel_rfl
 m19 := by kernel_rfl }
open Go.RowKit Go.Sort Go.Lib in
/-- strconv.Itoa: "Itoa is equivalent to FormatInt(int64(i), 10).": i's DECIMAL NUMERAL ('Lib.itoa': a '-' where i is negative, then the digits), FOR EVERY int. The world behind the call: the world before it, new blocks behind the heap (the library's 'var a [24]byte'), draws. (LAID: no walk: one application.) -/
theorem Tryd.strconv_Itoa (n : Int) (h0 : -9223372036854775808 ≤ n) (h1 : n ≤ 9223372036854775807) (w : World) (htab : Lib.TabIs Tryd.prog w "internal/strconv.uint64pow10" .u64 Lib.pow10Tab) :
  Calls Tryd.prog 42 #[.int .i64 n] w fun e w' => e = .returned (.string ⟨(Lib.itoa n).toArray⟩) ∧ ∃ k os, w' = grow (w.drewN k) os := Any.strconv_Itoa Tryd.laysM171 n h0 h1 w htab
end Go.Proofs
end
section
namespace Go.Proofs.YtajhfkcmfmhnaaaDoor.P
open Go.RowKit Go.Proofs.YtajhfkcmfmhnaaaDoorW.PrintWords Go.Proofs.YtajhfkcmfmhnaaaDoorW.PrintLast Go.Proofs.YtajhfkcmfmhnaaaDoorW.PrintMore
attribute [local go_sem] max2_int min2_int max_two min_two max_three min_three max_four min_four   -- for this text's walks alone
set_option linter.unusedVariables false
set_option linter.unusedSimpArgs false
/-- The table that numbers' texts are made by lies in memory. -/
abbrev TabsOk (w : World) : Prop := Lib.TabIs Tryd.prog w "internal/strconv.uint64pow10" .u64 Lib.pow10Tab
theorem tabs_below {w w' : World} (h : TabsOk w) (hb : Below w.heap.size w w') : TabsOk w' := Lib.tabBelow_of_tabIs h w' hb
/-- The text of a number. -/
def strconv_Itoa.f (a0 : Int) : Option ByteArray := if -9223372036854775808 ≤ a0 ∧ a0 ≤ 9223372036854775807 then some ⟨(Lib.itoa a0).toArray⟩ else none
theorem strconv_Itoa.calls (a0 : Int) (r : ByteArray) (w : World) (h : strconv_Itoa.f a0 = some r) (HTb_ : TabsOk w) :
  Calls Tryd.prog 42 #[.int .i64 a0] w fun e w' => e = .returned (.string r) ∧ Below w.heap.size w w' := by
 unfold strconv_Itoa.f at h
 by_cases c : -9223372036854775808 ≤ a0 ∧ a0 ≤ 9223372036854775807
 ·rw [if_pos c] at h
  obtain rfl := Option.some.inj h
  refine (Tryd.strconv_Itoa a0 c.1 c.2 w HTb_).mono ?_
  rintro e w' ⟨rfl, k, os, rfl⟩
  exact ⟨rfl, Lib.below_grow _ w (Nat.le_refl _) k os⟩
 ·rw [if_neg c] at h; cases h
end Go.Proofs.YtajhfkcmfmhnaaaDoor.P
namespace Go.Proofs.YtajhfkcmfmhnaaaDoor.P
open Go.RowKit Go.Proofs.YtajhfkcmfmhnaaaDoorW.PrintWords Go.Proofs.YtajhfkcmfmhnaaaDoorW.PrintLast Go.Proofs.YtajhfkcmfmhnaaaDoorW.PrintMore
attribute [local go_sem] max2_int min2_int max_two min_two max_three min_three max_four min_four   -- for this text's walks alone
set_option linter.unusedVariables false
set_option linter.unusedSimpArgs false
def whole_Text.f (a0 : Int) : Option (ByteArray) := (strconv_Itoa.f a0).bind fun t242 => (some t242)
set_option maxHeartbeats 8000000 in
set_option maxRecDepth 100000 in
theorem whole_Text.calls (a0 : Int) (r : ByteArray) (w : World) (h : whole_Text.f a0 = some r) (HTb_ : TabsOk w) :
  Calls Tryd.prog 25 #[.int .i64 a0] w fun e w' => e = .returned (.string r) ∧ Below w.heap.size w w' := by
 have HTb := Aside0.mk HTb_
 clear HTb_
 have HB := Aside0.mk (Below.refl w.heap.size w)
 have H : ((strconv_Itoa.f a0).bind fun t242 => (some t242)) = some r := h
 clear h
 replace H := Option.bind_eq_some_iff.mp H
 obtain ⟨t242, A20, H⟩ := H
 replace H : (some t242) = some r := H
 have A2 := Aside0.mk A20
 clear A20
 obtain rfl := Option.some.inj H
 go_enter Tryd.func25, Tryd.ntmps25
 go_wp2_with (first | ((with_reducible refine gate_callee (f := 42) rfl ?_); refine goesL_ (some 4) rfl rfl Tryd.func42 (by kernel_rfl) rfl #[.int .i64 a0] rfl (by (try simp only [List.map_toArray, List.map_cons, List.map_nil]); first | done | rfl | (simp only [List.length_drop, List.length_take]; rfl)) ?_; (with_reducible refine (strconv_Itoa.calls a0 t242 _ A2.out ?sidet).mono ?_); (case sidet => exact tabs_below HTb.out (by repeat (first | (with_reducible first | exact HB.out | apply below_alloc | apply pw_below_drewN | apply below_drew1 | refine below_set ?_ (Aside0.out (by assumption))) | exact HB.out))); rintro e w3 ⟨rfl, hb⟩; refine ⟨_, rfl, ?_⟩; have n0_ := Aside0.mk (below_step (by repeat (first | (with_reducible first | exact HB.out | apply below_alloc | apply pw_below_drewN | apply below_drew1) | exact HB.out)) hb); clear HB; have HB := n0_; clear n0_; (try clear hb); (try clear hb2); (try clear hk); (try clear hi)))
 go_ret
 exact ⟨by first | rfl | (simp [errW_none, errW_some] <;> rfl) | (simp [*, errW_none, errW_some] <;> rfl), by repeat (first | (with_reducible first | exact HB.out | apply below_alloc | apply pw_below_drewN | apply below_drew1) | exact HB.out)⟩
end Go.Proofs.YtajhfkcmfmhnaaaDoor.P
end
section
namespace Go.Proofs.YtajhfkcmfmhnaaaDoor.L
open Go.RowKit Go.Proofs.YtajhfkcmfmhnaaaDoor.P Go.Proofs.YtajhfkcmfmhnaaaDoorW.PrintWords Go.Proofs.YtajhfkcmfmhnaaaDoorW.PrintLast Go.Proofs.YtajhfkcmfmhnaaaDoorW.PrintMore
def decS (n : Int) : ByteArray := ⟨(Lib.itoa n).toArray⟩
def decL (n : Int) : List UInt8 := Lib.itoa n
def tellS (vs : List Vr) (x : Tm) : ByteArray := if 0 ≤ x.f1 then (rd_T49 vs x.f1).f0 else decS x.f0
def tellL (vs : List Vr) (x : Tm) : List UInt8 := (tellS vs x).data.toList
def hoodL (hd : Int) : List UInt8 := if hd = 1 then [77, 111, 111, 114, 101] else if hd = 2 then [118, 111, 110, 78, 101, 117, 109, 97, 110, 110] else if hd = 3 then [104, 101, 120, 97, 103, 111, 110, 97, 108] else []
def symLs : List (List UInt8) := [[110, 111, 110, 101], [114, 111, 116, 97, 116, 101, 52], [114, 111, 116, 97, 116, 101, 56], [114, 101, 102, 108, 101, 99, 116, 95, 104, 111, 114, 105, 122, 111, 110, 116, 97, 108], [114, 111, 116, 97, 116, 101, 52, 114, 101, 102, 108, 101, 99, 116], [114, 111, 116, 97, 116, 101, 56, 114, 101, 102, 108, 101, 99, 116], [112, 101, 114, 109, 117, 116, 101], [114, 111, 116, 97, 116, 101, 50], [114, 111, 116, 97, 116, 101, 51], [114, 111, 116, 97, 116, 101, 54], [114, 111, 116, 97, 116, 101, 54, 114, 101, 102, 108, 101, 99, 116]]
def symL (sy : Int) : List UInt8 := symLs.getD sy.toNat []
def headL (st hd sy : Int) : List UInt8 := [110, 95, 115, 116, 97, 116, 101, 115, 58] ++ decL st ++ [10, 110, 101, 105, 103, 104, 98, 111, 114, 104, 111, 111, 100, 58] ++ hoodL hd ++ [10, 115, 121, 109, 109, 101, 116, 114, 105, 101, 115, 58] ++ symL sy ++ [10]
/-- States, one behind the other, a comma ahead of each but the first. -/
def stL : Bool → List Int → List UInt8
 | _, [] => []
 | first, s :: ss => (if first = true then [] else [44]) ++ decL s ++ stL false ss
def varL (v : Vr) : List UInt8 := [118, 97, 114, 32] ++ v.f0.data.toList ++ [61, 123] ++ stL true v.f1 ++ [125, 10]
def rowL (vs : List Vr) (r : Rw) : List UInt8 := tellL vs r.f0 ++ (r.f1.flatMap fun x => 44 :: tellL vs x) ++ 44 :: tellL vs r.f2 ++ [10]
def textL (st hd sy : Int) (vs : List Vr) (rs : List Rw) : List UInt8 := headL st hd sy ++ vs.flatMap varL ++ rs.flatMap (rowL vs)
/-- What the walks ask: small enough. -/
def okTm (vs : List Vr) (x : Tm) : Bool := decide (x.f1 < vs.length) && decide (0 ≤ x.f0 ∧ x.f0 ≤ 255)
def okRw (vs : List Vr) (r : Rw) : Bool := okTm vs r.f0 && okTm vs r.f2 && decide (r.f1.length ≤ 8) && r.f1.all (okTm vs)
def okVr (v : Vr) : Bool := decide (v.f0.size ≤ 1000) && decide (1 ≤ v.f1.length ∧ v.f1.length ≤ 256) && v.f1.all fun s => decide (0 ≤ s ∧ s ≤ 255)
def okTb (st hd sy : Int) (vs : List Vr) (rs : List Rw) : Bool := decide (0 ≤ st ∧ st ≤ 256) && decide (1 ≤ hd ∧ hd ≤ 3) && decide (0 ≤ sy ∧ sy ≤ 10) && decide (vs.length ≤ 64) && decide (rs.length ≤ 4096) && vs.all okVr && rs.all (okRw vs)
theorem dec_len (n : Int) (h0 : 0 ≤ n) (h1 : n ≤ 256) : (decL n).length ≤ 3 := by
 have h : ∀ m : Nat, m < 257 → (Lib.itoa (m : Int)).length ≤ 3 := by decide +kernel
 obtain ⟨m, rfl⟩ : ∃ m : Nat, n = m := ⟨n.toNat, by omega⟩
 exact h m (by omega)
theorem decS_size (n : Int) : (decS n).size = (decL n).length := by simp [decS, decL, ByteArray.size]
theorem tell_len {vs : List Vr} (hv : vs.all okVr = true) {x : Tm} (hx : okTm vs x = true) : (tellL vs x).length ≤ 1000 := by
 unfold okTm at hx
 simp only [Bool.and_eq_true, decide_eq_true_eq] at hx
 unfold tellL tellS
 by_cases c : 0 ≤ x.f1
 ·rw [if_pos c]
  have hi : x.f1.toNat < vs.length := by omega
  have e : rd_T49 vs x.f1 = vs[x.f1.toNat] := by
   unfold rd_T49
   rw [List.getD_eq_getElem?_getD, List.getElem?_eq_getElem hi]; rfl
  rw [e]
  have h2 := List.all_eq_true.1 hv _ (List.getElem_mem hi)
  unfold okVr at h2
  simp only [Bool.and_eq_true, decide_eq_true_eq] at h2
  have h3 := h2.1.1
  rw [Array.length_toList]
  exact h3
 ·rw [if_neg c]
  have h3 := dec_len x.f0 (by omega) (by omega)
  have h4 := decS_size x.f0
  rw [Array.length_toList]
  show (decS x.f0).size ≤ 1000
  omega
theorem stL_len : ∀ (l : List Int) (b : Bool), (∀ s ∈ l, 0 ≤ s ∧ s ≤ 255) → (stL b l).length ≤ 4 * l.length
 | [], _, _ => by simp [stL]
 | s :: ss, b, h => by
  have ih := stL_len ss false (fun x hx => h x (List.mem_cons_of_mem _ hx))
  have h1 := h s List.mem_cons_self
  have h2 := dec_len s h1.1 (by omega)
  rw [stL, List.length_append, List.length_append, List.length_cons]
  have h3 : (if b = true then ([] : List UInt8) else [44]).length ≤ 1 := by cases b <;> simp
  omega
theorem varL_len {v : Vr} (h : okVr v = true) : (varL v).length ≤ 2100 := by
 unfold okVr at h
 simp only [Bool.and_eq_true, decide_eq_true_eq, List.all_eq_true] at h
 obtain ⟨⟨h1, h2⟩, h3⟩ := h
 have h4 := stL_len v.f1 true h3
 have h5 : v.f0.data.toList.length = v.f0.size := by rw [Array.length_toList]; rfl
 unfold varL
 simp only [List.length_append, List.length_cons, List.length_nil]
 omega
theorem flat_len {α : Type} (f : α → List UInt8) (n : Nat) : ∀ l : List α, (∀ x ∈ l, (f x).length ≤ n) → (l.flatMap f).length ≤ n * l.length
 | [], _ => by simp
 | x :: xs, h => by
  have ih := flat_len f n xs (fun y hy => h y (List.mem_cons_of_mem _ hy))
  have h1 := h x List.mem_cons_self
  rw [List.flatMap_cons, List.length_append, List.length_cons, Nat.mul_succ]
  omega
theorem rowL_len {vs : List Vr} (hv : vs.all okVr = true) {r : Rw} (h : okRw vs r = true) : (rowL vs r).length ≤ 11000 := by
 unfold okRw at h
 simp only [Bool.and_eq_true, decide_eq_true_eq, List.all_eq_true] at h
 obtain ⟨⟨⟨h1, h2⟩, h3⟩, h4⟩ := h
 have a1 := tell_len hv h1
 have a2 := tell_len hv h2
 have a3 := flat_len (fun x => 44 :: tellL vs x) 1001 r.f1 (fun x hx => by
  have := tell_len hv (h4 x hx)
  rw [List.length_cons]; omega)
 unfold rowL
 simp only [List.length_append, List.length_cons, List.length_nil]
 omega
theorem hoodL_len (hd : Int) : (hoodL hd).length ≤ 10 := by
 unfold hoodL
 by_cases h1 : hd = 1
 ·rw [if_pos h1]; decide
 ·rw [if_neg h1]
  by_cases h2 : hd = 2
  ·rw [if_pos h2]; decide
  ·rw [if_neg h2]
   by_cases h3 : hd = 3
   ·rw [if_pos h3]; decide
   ·rw [if_neg h3]; decide
theorem symL_len (sy : Int) : (symL sy).length ≤ 18 := by
 unfold symL
 rw [List.getD_eq_getElem?_getD]
 rcases Nat.lt_or_ge sy.toNat symLs.length with h | h
 ·rw [List.getElem?_eq_getElem h]
  have : ∀ l ∈ symLs, l.length ≤ 18 := by decide
  exact this _ (List.getElem_mem h)
 ·rw [List.getElem?_eq_none h]; decide
theorem headL_len {st hd sy : Int} (h0 : 0 ≤ st) (h1 : st ≤ 256) : (headL st hd sy).length ≤ 100 := by
 have a1 := dec_len st h0 h1
 have a2 := hoodL_len hd
 have a3 := symL_len sy
 unfold headL
 simp only [List.length_append, List.length_cons, List.length_nil]
 omega
/-- A beginning's length. -/
theorem pre_len {st hd sy : Int} {vs : List Vr} {rs : List Rw} (h : okTb st hd sy vs rs = true) (i j : Nat) : (headL st hd sy ++ (vs.take i).flatMap varL ++ (rs.take j).flatMap (rowL vs)).length ≤ 46000000 := by
 unfold okTb at h
 simp only [Bool.and_eq_true, decide_eq_true_eq] at h
 obtain ⟨⟨⟨⟨⟨⟨h1, h2⟩, h3⟩, h4⟩, h5⟩, h6⟩, h7⟩ := h
 have a0 := headL_len (hd := hd) (sy := sy) h1.1 h1.2
 have a1 := flat_len varL 2100 (vs.take i) (fun x hx => varL_len (List.all_eq_true.1 h6 x (List.mem_of_mem_take hx)))
 have a2 := flat_len (rowL vs) 11000 (rs.take j) (fun x hx => rowL_len h6 (List.all_eq_true.1 h7 x (List.mem_of_mem_take hx)))
 have b1 : (vs.take i).length ≤ 64 := by rw [List.length_take]; omega
 have b2 : (rs.take j).length ≤ 4096 := by rw [List.length_take]; omega
 rw [List.length_append, List.length_append]
 omega
end Go.Proofs.YtajhfkcmfmhnaaaDoor.L
end
section
set_option linter.unusedVariables false
namespace Go.Proofs.YtajhfkcmfmhnaaaDoor.L
open Go.RowKit Go.Proofs.YtajhfkcmfmhnaaaDoor.P Go.Proofs.YtajhfkcmfmhnaaaDoorW.PrintWords Go.Proofs.YtajhfkcmfmhnaaaDoorW.PrintLast Go.Proofs.YtajhfkcmfmhnaaaDoorW.PrintMore
/-- The table's numbers are of their kinds. -/
structure WfTb (st hd sy : Int) (vs : List Vr) (rs : List Rw) : Prop where
 sy0 : 0 ≤ sy
 vs_ : ∀ v ∈ vs, v.f0.size ≤ B47 ∧ v.f1.length ≤ B47 ∧ ∀ s ∈ v.f1, 0 ≤ s ∧ s ≤ 255
 rs_ : ∀ r ∈ rs, (0 ≤ r.f0.f0 ∧ r.f0.f0 ≤ 255) ∧ (0 ≤ r.f2.f0 ∧ r.f2.f0 ≤ 255) ∧ r.f1.length ≤ B47 ∧ ∀ x ∈ r.f1, 0 ≤ x.f0 ∧ x.f0 ≤ 255
theorem rise_ge {st : Int} {l : List Int} (h : risB st l = true) (h0 : ∀ s ∈ l, 0 ≤ s) : ∀ i : Nat, i < l.length → (i : Int) ≤ rd l (i : Nat)
 | 0, hi => by
  have e : rd l ((0 : Nat) : Int) = l[0] := by unfold rd; rw [Int.toNat_natCast, List.getD_eq_getElem?_getD, List.getElem?_eq_getElem hi]; rfl
  rw [e]
  exact h0 _ (List.getElem_mem hi)
 | i + 1, hi => by
  have ih := rise_ge h h0 i (by omega)
  unfold risB at h
  have h1 := List.all_eq_true.1 h (i + 1) (List.mem_range.2 hi)
  unfold okS at h1
  simp only [Bool.and_eq_true, Bool.or_eq_true, beq_iff_eq, decide_eq_true_eq] at h1
  rcases h1.2 with h2 | h2
  ·omega
  ·rw [show (((i + 1 : Nat) : Int) - 1) = ((i : Nat) : Int) from by omega] at h2
   omega
theorem rise_len {st : Int} {l : List Int} (h : risB st l = true) (hs : st ≤ 256) (h0 : ∀ s ∈ l, 0 ≤ s ∧ s ≤ 255) : l.length ≤ 256 := by
 by_cases c : l.length = 0
 ·omega
 ·have h1 := rise_ge h (fun s hs => (h0 s hs).1) (l.length - 1) (by omega)
  have hi : l.length - 1 < l.length := by omega
  have e : rd l ((l.length - 1 : Nat) : Int) = l[l.length - 1] := by unfold rd; rw [Int.toNat_natCast, List.getD_eq_getElem?_getD, List.getElem?_eq_getElem hi]; rfl
  rw [e] at h1
  have := (h0 _ (List.getElem_mem hi)).2
  omega
theorem may_sy {sy hd : Int} (hm : mayN sy hd = 0) : sy ≤ 10 := by
 by_cases c : sy > 10
 ·have e : mayN sy hd = 103 := by unfold mayN table_may.f; rw [if_pos c]; rfl
  rw [e] at hm; exact absurd hm (by decide)
 ·omega
theorem near_hd {hd : Int} (hn : nearN hd ≠ 0) : 1 ≤ hd ∧ hd ≤ 3 := by
 unfold nearN at hn
 by_cases c1 : hd = 1
 ·omega
 ·by_cases c2 : hd = 2
  ·omega
  ·by_cases c3 : hd = 3
   ·omega
   ·rw [if_neg c1, if_neg c2, if_neg c3] at hn; exact absurd rfl hn
theorem ok_of {nm : ByteArray → Bool} (hnm : ∀ s : ByteArray, s.size ≤ B47 → Evn (fun k => vivariumref10_isName.f k s) (nm s)) {st hd sy : Int} {vs : List Vr} {rs : List Rw} (h : TabOK nm st hd sy vs rs) (hw : WfTb st hd sy vs rs) : okTb st hd sy vs rs = true := by
 have hn := near_hd h.near
 have hs := may_sy h.may
 have h2 := h.st2
 have h3 := h.st256
 unfold okTb
 simp only [Bool.and_eq_true, decide_eq_true_eq, List.all_eq_true]
 refine ⟨⟨⟨⟨⟨⟨⟨by omega, h3⟩, hn⟩, hw.sy0, hs⟩, h.vs64⟩, h.rs4096⟩, fun v hv => ?_⟩, fun r hr => ?_⟩
 ·have h4 := List.all_eq_true.1 h.vars v hv
  unfold varOK at h4
  simp only [Bool.and_eq_true, decide_eq_true_eq] at h4
  obtain ⟨w1, w2, w3⟩ := hw.vs_ v hv
  have hsz : v.f0.size ≤ 32 := name_small v.f0 w1 (by have := hnm v.f0 w1; rw [h4.1.1.1] at this; exact this)
  have hl := rise_len h4.2 h3 w3
  have hl1 := h4.1.2
  unfold okVr
  simp only [Bool.and_eq_true, decide_eq_true_eq, List.all_eq_true]
  exact ⟨⟨by omega, by omega, hl⟩, w3⟩
 ·have h4 := List.all_eq_true.1 h.rows r hr
  unfold rowOK at h4
  simp only [Bool.and_eq_true, decide_eq_true_eq, List.all_eq_true] at h4
  obtain ⟨⟨⟨⟨a1, a2⟩, a3⟩, a4⟩, a5⟩ := h4
  obtain ⟨w1, w2, w3, w4⟩ := hw.rs_ r hr
  have hlt : ∀ x : Tm, tmOK st vs x = true → x.f1 < (vs.length : Int) := fun x hx => by
   unfold tmOK at hx
   by_cases c : x.f1 = -1
   ·omega
   ·rw [if_neg c, Bool.and_eq_true, Bool.and_eq_true, decide_eq_true_eq, decide_eq_true_eq] at hx
    exact hx.1.2
  have hn8 := nearN_le hd
  unfold okRw okTm
  simp only [Bool.and_eq_true, decide_eq_true_eq, List.all_eq_true]
  exact ⟨⟨⟨⟨hlt _ a2, w1⟩, hlt _ a3, w2⟩, by omega⟩, fun x hx => ⟨hlt _ (a5 x hx), w4 x hx⟩⟩
end Go.Proofs.YtajhfkcmfmhnaaaDoor.L
end

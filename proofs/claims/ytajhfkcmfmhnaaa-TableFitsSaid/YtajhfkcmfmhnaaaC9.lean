-- Written by a program of this session (wip/tools/shake.py): texts of this claim, of each what the claim names.
import Derived.Test.YtajhfkcmfmhnaaaC2
import Derived.Test.YtajhfkcmfmhnaaaC3
import Derived.Test.YtajhfkcmfmhnaaaC5
import Derived.Test.YtajhfkcmfmhnaaaC8
import Derived.Laws.AppendOwn
section
set_option linter.unusedVariables false
namespace Go.Proofs.Ytajhfkcmfmhnaaa.L
open Go.RowKit Go.Proofs.Ytajhfkcmfmhnaaa.P Go.Proofs.YtajhfkcmfmhnaaaW.PrintWords Go.Proofs.YtajhfkcmfmhnaaaW.PrintLast Go.Proofs.YtajhfkcmfmhnaaaW.PrintMore
abbrev B47 : Nat := 140737488351232
def tmOK (st : Int) (vs : List Vr) (x : Tm) : Bool := if x.f1 = -1 then decide (wrap64 x.f0 < st) else decide (0 ≤ x.f1) && decide (x.f1 < vs.length) && x.f0 == 0
def bdOK (r : Rw) : Bool := decide (r.f2.f1 < 0) || r.f0.f1 == r.f2.f1 || r.f1.any (fun x => x.f1 == r.f2.f1)
def rowOK (st : Int) (vs : List Vr) (n : Nat) (r : Rw) : Bool := decide (r.f1.length = n) && tmOK st vs r.f0 && tmOK st vs r.f2 && bdOK r && r.f1.all (tmOK st vs)
def varOK (nm : ByteArray → Bool) (st : Int) (v : Vr) : Bool := nm v.f0 && (v.f0.toList != ([118, 97, 114] : List UInt8)) && decide (v.f1.length ≠ 0) && risB st v.f1
theorem wstep {i n : Nat} (h : i < n) (hn : n ≤ B47) : Aside0 (wrap64 ((i : Int) + 1) = ((i + 1 : Nat) : Int)) := ⟨w64 (by unfold B47 at hn; omega) (by unfold B47 at hn; omega)⟩
theorem term_is (st hd sy : Int) (vs : List Vr) (rs : List Rw) (x : Tm) : table_term.f st hd sy vs rs x.f0 x.f1 = some (tmOK st vs x) := by
 unfold table_term.f tmOK
 by_cases c : x.f1 = -1
 ·rw [if_pos c, if_pos c]
 ·rw [if_neg c, if_neg c]
  by_cases c2 : x.f1 ≥ 0
  ·rw [if_pos c2, decide_eq_true (show 0 ≤ x.f1 from c2), Bool.true_and]
   by_cases c3 : x.f1 < (vs.length : Int)
   ·rw [if_pos c3, decide_eq_true c3, Bool.true_and]
   ·rw [if_neg c3, decide_eq_false c3, Bool.false_and]
  ·rw [if_neg c2, decide_eq_false (show ¬ 0 ≤ x.f1 from c2)]
   rfl
theorem terms_go (st hd sy : Int) (vs : List Vr) (rs : List Rw) (l : List Tm) (hl : l.length ≤ B47) : ∀ (d i : Nat), i + d = l.length → Evn (fun k => vivariumref10_terms.l0 k l (i : Int) st hd sy vs rs) ((l.drop i).all (tmOK st vs))
 | 0, i, h => by
  obtain rfl : i = l.length := by omega
  refine Evn.const.step (g' := fun _ => some _) (fun k => ?_)
  simp only [vivariumref10_terms.l0]
  rw [if_neg (by omega), List.drop_length]
  rfl
 | d + 1, i, h => by
  have ih := terms_go st hd sy vs rs l hl d (i + 1) (by omega)
  have hi : i < l.length := by omega
  have E := wstep hi hl
  have e : rd_T59 l (i : Int) = l[i] := rd_59 l i hi
  obtain ⟨x, hx⟩ : ∃ x, l[i] = x := ⟨_, rfl⟩
  rw [List.drop_eq_getElem_cons hi, List.all_cons, hx]
  rw [hx] at e
  have hT : ∀ k, vivariumref10_terms.l0 (k + 1) l (i : Int) st hd sy vs rs = if tmOK st vs x = true then vivariumref10_terms.l0 k l ((i + 1 : Nat) : Int) st hd sy vs rs else some false := fun k => by
   simp only [vivariumref10_terms.l0]
   rw [if_pos (by omega), if_pos (by omega), e, E.out]
   unfold tmOK
   by_cases c : x.f1 < -1
   ·rw [if_pos c, if_neg (show ¬ x.f1 = -1 by omega), decide_eq_false (show ¬ 0 ≤ x.f1 by omega)]
    rfl
   ·rw [if_neg c]
    by_cases c2 : x.f1 ≥ (vs.length : Int)
    ·rw [if_pos c2, if_neg (show ¬ x.f1 = -1 by omega), decide_eq_false (show ¬ x.f1 < (vs.length : Int) by omega), Bool.and_false]
     rfl
    ·rw [if_neg c2]
     by_cases c3 : x.f1 = -1
     ·rw [if_pos c3, if_pos c3]
      by_cases c4 : wrap64 x.f0 ≥ st
      ·rw [if_pos c4, decide_eq_false (Int.not_lt.2 c4)]
       rfl
      ·rw [if_neg c4, if_neg (show ¬ x.f1 ≥ 0 by omega), decide_eq_true (Int.not_le.1 c4), if_pos rfl]
     ·rw [if_neg c3, if_neg c3, if_pos (show x.f1 ≥ 0 by omega), decide_eq_true (show 0 ≤ x.f1 by omega), decide_eq_true (show x.f1 < (vs.length : Int) by omega), Bool.true_and, Bool.true_and]
      by_cases c5 : x.f0 = 0
      ·rw [if_pos c5, if_pos (beq_iff_eq.2 c5)]
      ·rw [if_neg c5, if_neg (fun h => c5 (beq_iff_eq.1 h))]
  cases ct : tmOK st vs x with
  | true =>
   rw [Bool.true_and]
   exact ih.step (fun k => by rw [hT k, ct, if_pos rfl])
  | false =>
   rw [Bool.false_and]
   exact (Evn.const (r := false)).step (fun k => by rw [hT k, ct, if_neg (by decide)])
theorem terms_ev (st hd sy : Int) (vs : List Vr) (rs : List Rw) (l : List Tm) (hl : l.length ≤ B47) : Evn (fun k => vivariumref10_terms.f k st hd sy vs rs l) (l.all (tmOK st vs)) :=
 terms_go st hd sy vs rs l hl l.length 0 (by omega)
theorem boundP_go (a b : Int) (l : List Tm) (hl : l.length ≤ B47) (c v : Int) : ∀ (d i : Nat), i + d = l.length → Evn (fun k => table_bound.l0 k l (l.length : Int) (i : Int) a b l c v) ((l.drop i).any (fun x => x.f1 == v))
 | 0, i, h => by
  obtain rfl : i = l.length := by omega
  refine Evn.const.step (g' := fun _ => some _) (fun k => ?_)
  simp only [table_bound.l0]
  rw [if_neg (by omega), List.drop_length]
  rfl
 | d + 1, i, h => by
  have ih := boundP_go a b l hl c v d (i + 1) (by omega)
  have hi : i < l.length := by omega
  have E := wstep hi hl
  rw [List.drop_eq_getElem_cons hi, List.any_cons]
  by_cases cc : l[i].f1 = v
  ·rw [beq_iff_eq.2 cc, Bool.true_or]
   refine Evn.const.step (g' := fun _ => some true) (fun k => ?_)
   simp only [table_bound.l0]
   rw [if_pos (by omega), if_pos (by omega), if_pos (by omega), rd_59 l i hi, if_pos cc]
  ·rw [beq_eq_false_iff_ne.2 cc, Bool.false_or]
   refine ih.step (fun k => ?_)
   simp only [table_bound.l0]
   rw [if_pos (by omega), if_pos (by omega), if_pos (by omega), rd_59 l i hi, if_neg cc, E.out]
theorem boundR_go (a b : Int) (l : List Tm) (hl : l.length ≤ B47) (c v : Int) : ∀ (d i : Nat), i + d = l.length → Evn (fun k => vivariumref10_bound.l0 k (i : Int) a b l c v) ((l.drop i).any (fun x => x.f1 == v))
 | 0, i, h => by
  obtain rfl : i = l.length := by omega
  refine Evn.const.step (g' := fun _ => some _) (fun k => ?_)
  simp only [vivariumref10_bound.l0]
  rw [if_neg (by omega), List.drop_length]
  rfl
 | d + 1, i, h => by
  have ih := boundR_go a b l hl c v d (i + 1) (by omega)
  have hi : i < l.length := by omega
  have E := wstep hi hl
  rw [List.drop_eq_getElem_cons hi, List.any_cons]
  by_cases cc : l[i].f1 = v
  ·rw [beq_iff_eq.2 cc, Bool.true_or]
   refine Evn.const.step (g' := fun _ => some true) (fun k => ?_)
   simp only [vivariumref10_bound.l0]
   rw [if_pos (by omega), if_pos (by omega), rd_59 l i hi, if_pos cc]
  ·rw [beq_eq_false_iff_ne.2 cc, Bool.false_or]
   refine ih.step (fun k => ?_)
   simp only [vivariumref10_bound.l0]
   rw [if_pos (by omega), if_pos (by omega), rd_59 l i hi, if_neg cc, E.out]
theorem boundP_ev (r : Rw) (hl : r.f1.length ≤ B47) : Evn (fun k => table_bound.f k r.f0.f0 r.f0.f1 r.f1 r.f2.f0 r.f2.f1) (bdOK r) := by
 have h := boundP_go r.f0.f0 r.f0.f1 r.f1 hl r.f2.f0 r.f2.f1 r.f1.length 0 (by omega)
 rw [List.drop_zero] at h
 have h1 : ∀ b : Bool, Evn (fun k => table_bound.j0 k b r.f0.f0 r.f0.f1 r.f1 r.f2.f0 r.f2.f1) (b || r.f1.any (fun x => x.f1 == r.f2.f1)) := fun b => by
  cases b with
  | true => exact (Evn.const (r := true)).step (fun k => by simp only [table_bound.j0, if_true])
  | false => rw [Bool.false_or]; exact h.step (fun k => by simp only [table_bound.j0]; rw [if_neg (by decide)]; rfl)
 unfold bdOK
 by_cases c : r.f2.f1 < 0
 ·rw [decide_eq_true c, Bool.true_or, Bool.true_or]
  exact (h1 true).congr (fun k => by unfold table_bound.f; rw [if_pos c])
 ·rw [decide_eq_false c, Bool.false_or]
  have e : (r.f0.f1 == r.f2.f1) = (r.f2.f1 == r.f0.f1) := by rw [Bool.eq_iff_iff, beq_iff_eq, beq_iff_eq]; exact eq_comm
  rw [e]
  exact (h1 _).congr (fun k => by unfold table_bound.f; rw [if_neg c])
theorem boundR_ev (r : Rw) (hl : r.f1.length ≤ B47) : Evn (fun k => vivariumref10_bound.f k r.f0.f0 r.f0.f1 r.f1 r.f2.f0 r.f2.f1) (bdOK r) := by
 have h := boundR_go r.f0.f0 r.f0.f1 r.f1 hl r.f2.f0 r.f2.f1 r.f1.length 0 (by omega)
 rw [List.drop_zero] at h
 have h1 : ∀ b : Bool, Evn (fun k => vivariumref10_bound.j0 k b r.f0.f0 r.f0.f1 r.f1 r.f2.f0 r.f2.f1) (b || r.f1.any (fun x => x.f1 == r.f2.f1)) := fun b => by
  cases b with
  | true => exact (Evn.const (r := true)).step (fun k => by simp only [vivariumref10_bound.j0, if_true])
  | false => rw [Bool.false_or]; exact h.step (fun k => by simp only [vivariumref10_bound.j0]; rw [if_neg (by decide)]; rfl)
 unfold bdOK
 by_cases c : r.f2.f1 < 0
 ·rw [decide_eq_true c, Bool.true_or, Bool.true_or]
  exact (h1 true).congr (fun k => by unfold vivariumref10_bound.f; rw [if_pos c])
 ·rw [decide_eq_false c, Bool.false_or]
  exact (h1 _).congr (fun k => by unfold vivariumref10_bound.f; rw [if_neg c])
theorem chkTs_is (st hd sy : Int) (vs : List Vr) (rs : List Rw) : ∀ l : List Tm, chkTs st hd sy vs rs l = some (l.all (tmOK st vs))
 | [] => rfl
 | x :: xs => by
  rw [chkTs, term_is, Option.bind_some, List.all_cons]
  cases c : tmOK st vs x with
  | true => rw [if_pos rfl, chkTs_is st hd sy vs rs xs, Bool.true_and]
  | false => rw [if_neg (by decide), Bool.false_and]
theorem evn_ite {α : Type} {b : Bool} {g h : Nat → Option α} {r s : α} (h1 : b = true → Evn g r) (h2 : b = false → Evn h s) : Evn (fun k => if b = true then g k else h k) (if b = true then r else s) := by
 cases b with
 | true => exact (h1 rfl).congr (fun k => if_pos rfl)
 | false => exact (h2 rfl).congr (fun k => if_neg (by decide))
theorem chkR_ev (st hd sy : Int) (vs : List Vr) (rs : List Rw) (n : Nat) (hn : n ≤ 1000) : ∀ rows : List Rw, Evn (fun k => chkR k st hd sy vs rs (n : Int) rows) (rows.all (rowOK st vs n))
 | [] => Evn.const
 | r :: rows => by
  have ih := chkR_ev st hd sy vs rs n hn rows
  rw [List.all_cons]
  by_cases c : r.f1.length = n
  ·have hb := boundP_ev r (by rw [c]; unfold B47; omega)
   have e : (rowOK st vs n r && rows.all (rowOK st vs n)) = (if tmOK st vs r.f0 = true then if tmOK st vs r.f2 = true then if bdOK r = true then if r.f1.all (tmOK st vs) = true then rows.all (rowOK st vs n) else false else false else false else false) := by
    unfold rowOK
    rw [decide_eq_true c]
    cases tmOK st vs r.f0 <;> cases tmOK st vs r.f2 <;> cases bdOK r <;> cases r.f1.all (tmOK st vs) <;> rfl
   rw [e]
   refine Evn.congr (g' := fun k => if tmOK st vs r.f0 = true then (if tmOK st vs r.f2 = true then ((table_bound.f k r.f0.f0 r.f0.f1 r.f1 r.f2.f0 r.f2.f1).bind fun b => if b = true then (if r.f1.all (tmOK st vs) = true then chkR k st hd sy vs rs (n : Int) rows else some false) else some false) else some false) else some false) ?_ (fun k => by
    rw [chkR, if_pos (by omega), if_pos (by omega), term_is, term_is, chkTs_is]
    simp only [Option.bind_some])
   refine evn_ite (fun _ => evn_ite (fun _ => ?_) (fun _ => Evn.const)) (fun _ => Evn.const)
   exact Evn.bind hb (evn_ite (fun _ => evn_ite (fun _ => ih) (fun _ => Evn.const)) (fun _ => Evn.const))
  ·have e : (rowOK st vs n r && rows.all (rowOK st vs n)) = false := by
    unfold rowOK
    rw [decide_eq_false c]
    rfl
   rw [e]
   exact Evn.congr (g' := fun k => some false) Evn.const (fun k => by rw [chkR, if_neg (by omega)])
/-- Are all names others than those that have come, and others than each other? -/
def freshB : List Vr → List (List UInt8) → Bool
 | [], _ => true
 | v :: vs, seen => !decide (v.f0.data.toList ∈ seen) && freshB vs (v.f0.data.toList :: seen)
theorem chkV_ev (nm : ByteArray → Bool) (hnm : ∀ s : ByteArray, s.size ≤ B47 → Evn (fun k => table_named.f k s) (nm s && (s.toList != ([118, 97, 114] : List UInt8)))) (st : Int) : ∀ (vs : List Vr) (seen : List (List UInt8)), (∀ v ∈ vs, v.f0.size ≤ B47 ∧ v.f1.length ≤ B47) → Evn (fun k => chkV k st vs seen) (vs.all (varOK nm st) && freshB vs seen)
 | [], seen, _ => Evn.const
 | v :: vs, seen, hv => by
  have ih := chkV_ev nm hnm st vs (v.f0.data.toList :: seen) (fun x hx => hv x (List.mem_cons_of_mem _ hx))
  obtain ⟨h1, h2⟩ := hv v List.mem_cons_self
  rw [List.all_cons, freshB]
  have e : (varOK nm st v && vs.all (varOK nm st) && (!decide (v.f0.data.toList ∈ seen) && freshB vs (v.f0.data.toList :: seen))) = (if (nm v.f0 && (v.f0.toList != ([118, 97, 114] : List UInt8))) = true then if (!decide (v.f0.data.toList ∈ seen)) = true then if (decide (v.f1.length ≠ 0)) = true then if risB st v.f1 = true then (vs.all (varOK nm st) && freshB vs (v.f0.data.toList :: seen)) else false else false else false else false) := by
   unfold varOK
   generalize (nm v.f0 && (v.f0.toList != ([118, 97, 114] : List UInt8))) = b1
   generalize decide (v.f1.length ≠ 0) = b2
   generalize (!decide (v.f0.data.toList ∈ seen)) = b3
   cases b1 <;> cases b2 <;> cases b3 <;> cases risB st v.f1 <;> simp
  rw [e]
  refine Evn.congr (g' := fun k => (table_named.f k v.f0).bind fun b => if b = true then (if (!decide (v.f0.data.toList ∈ seen)) = true then if (decide (v.f1.length ≠ 0)) = true then if risB st v.f1 = true then chkV k st vs (v.f0.data.toList :: seen) else some false else some false else some false) else some false) ?_ (fun k => ?_)
  ·exact Evn.bind (hnm v.f0 h1) (evn_ite (fun _ => evn_ite (fun _ => evn_ite (fun _ => evn_ite (fun _ => ih) (fun _ => Evn.const)) (fun _ => Evn.const)) (fun _ => Evn.const)) (fun _ => Evn.const))
  ·rw [chkV, if_pos ⟨h1, h2⟩]
   congr 1
   funext b
   cases b with
   | false => rfl
   | true =>
    rw [if_neg (by decide), if_pos rfl]
    by_cases c : v.f0.data.toList ∈ seen
    ·rw [if_pos c, decide_eq_true c]; rfl
    ·rw [if_neg c, decide_eq_false c]
     by_cases c2 : v.f1.length = 0
     ·rw [if_pos c2, decide_eq_false (fun h => h c2)]; rfl
     ·rw [if_neg c2, decide_eq_true c2]; rfl
def othB (vs : List Vr) (i x : Nat) : Bool := x == i || ((rd_T65 vs (x : Int)).f0.toList != (rd_T65 vs (i : Int)).f0.toList)
def varR (nm : ByteArray → Bool) (st : Int) (vs : List Vr) (i : Nat) : Bool := varOK nm st (rd_T65 vs (i : Int)) && (List.range vs.length).all (othB vs i)
theorem varL1_go (st hd sy : Int) (vs : List Vr) (rs : List Rw) (nam : ByteArray) (l : List Int) (hl : l.length ≤ B47) : ∀ (d i : Nat), i + d = l.length → Evn (fun k => vivariumref10_variable.l1 k (i : Int) st hd sy vs rs nam l) ((List.range' i d).all (okS st l))
 | 0, i, h => by
  obtain rfl : i = l.length := by omega
  refine Evn.const.step (g' := fun _ => some _) (fun k => ?_)
  simp only [vivariumref10_variable.l1]
  rw [if_neg (by omega)]
  rfl
 | d + 1, i, h => by
  have ih := varL1_go st hd sy vs rs nam l hl d (i + 1) (by omega)
  have hi : i < l.length := by omega
  have E := wstep hi hl
  rw [List.range'_succ, List.all_cons]
  have hT : ∀ k, vivariumref10_variable.l1 (k + 1) (i : Int) st hd sy vs rs nam l = if okS st l i = true then vivariumref10_variable.l1 k ((i + 1 : Nat) : Int) st hd sy vs rs nam l else some false := fun k => by
   simp only [vivariumref10_variable.l1]
   rw [if_pos (by omega), if_pos (by omega), E.out]
   unfold okS
   by_cases c : wrap64 (rd l (i : Int)) ≥ st
   ·rw [if_pos c, decide_eq_false (Int.not_lt.2 c), Bool.false_and, if_neg (by decide)]
   ·rw [if_neg c, decide_eq_true (Int.not_le.1 c), Bool.true_and]
    by_cases c0 : i = 0
    ·subst c0
     rw [if_neg (by omega), show ((0 : Nat) == 0) = true from rfl, Bool.true_or, if_pos rfl]
    ·have E2 : Aside0 (wrap64 ((i : Int) - 1) = (i : Int) - 1) := ⟨w64 (by omega) (by unfold B47 at hl; omega)⟩
     rw [E2.out, if_pos (by omega), if_pos (by omega), if_pos (by omega), beq_eq_false_iff_ne.2 c0, Bool.false_or]
     by_cases c1 : rd l (i : Int) ≤ rd l ((i : Int) - 1)
     ·rw [if_pos c1, decide_eq_false (Int.not_lt.2 c1), if_neg (by decide)]
     ·rw [if_neg c1, decide_eq_true (Int.not_le.1 c1), if_pos rfl]
  cases ct : okS st l i with
  | true =>
   rw [Bool.true_and]
   exact ih.step (fun k => by rw [hT k, ct, if_pos rfl])
  | false =>
   rw [Bool.false_and]
   exact (Evn.const (r := false)).step (fun k => by rw [hT k, ct, if_neg (by decide)])
theorem varL0_go (st hd sy : Int) (vs : List Vr) (rs : List Rw) (hv : vs.length ≤ B47) (n : Nat) (hn : n < vs.length) (l : List Int) (b : Bool) (hb : Evn (fun k => vivariumref10_variable.l1 k 0 st hd sy vs rs (rd_T65 vs (n : Int)).f0 l) b) : ∀ (d i : Nat), i + d = vs.length → Evn (fun k => vivariumref10_variable.l0 k (n : Int) (i : Int) st hd sy vs rs (rd_T65 vs (n : Int)).f0 l) ((List.range' i d).all (othB vs n) && b)
 | 0, i, h => by
  obtain rfl : i = vs.length := by omega
  refine hb.step (fun k => ?_)
  simp only [vivariumref10_variable.l0]
  rw [if_neg (by omega)]
 | d + 1, i, h => by
  have ih := varL0_go st hd sy vs rs hv n hn l b hb d (i + 1) (by omega)
  have hi : i < vs.length := by omega
  have E := wstep hi hv
  rw [List.range'_succ, List.all_cons]
  have hT : ∀ k, vivariumref10_variable.l0 (k + 1) (n : Int) (i : Int) st hd sy vs rs (rd_T65 vs (n : Int)).f0 l = if othB vs n i = true then vivariumref10_variable.l0 k (n : Int) ((i + 1 : Nat) : Int) st hd sy vs rs (rd_T65 vs (n : Int)).f0 l else some false := fun k => by
   simp only [vivariumref10_variable.l0]
   rw [if_pos (by omega), E.out]
   unfold othB
   by_cases c : i = n
   ·rw [if_pos (show (i : Int) = (n : Int) by omega), beq_iff_eq.2 c, Bool.true_or, if_pos rfl]
   ·rw [if_neg (show ¬ (i : Int) = (n : Int) by omega), if_pos (by omega), beq_eq_false_iff_ne.2 c, Bool.false_or]
    by_cases c1 : (rd_T65 vs (i : Int)).f0.toList = (rd_T65 vs (n : Int)).f0.toList
    ·rw [if_pos c1, bne_eq_false_iff_eq.2 c1, if_neg (by decide)]
    ·rw [if_neg c1, bne_iff_ne.2 c1, if_pos rfl]
  cases ct : othB vs n i with
  | true =>
   rw [Bool.true_and]
   exact ih.step (fun k => by rw [hT k, ct, if_pos rfl])
  | false =>
   rw [Bool.false_and, Bool.false_and]
   exact (Evn.const (r := false)).step (fun k => by rw [hT k, ct, if_neg (by decide)])
theorem var_ev (nm : ByteArray → Bool) (hnm : ∀ s : ByteArray, s.size ≤ B47 → Evn (fun k => vivariumref10_isName.f k s) (nm s)) (st hd sy : Int) (vs : List Vr) (rs : List Rw) (hv : vs.length ≤ B47) (n : Nat) (hn : n < vs.length) (h1 : (rd_T65 vs (n : Int)).f0.size ≤ B47) (h2 : (rd_T65 vs (n : Int)).f1.length ≤ B47) : Evn (fun k => vivariumref10_variable.f k st hd sy vs rs (n : Int)) (varR nm st vs n) := by
 have hb := varL1_go st hd sy vs rs (rd_T65 vs (n : Int)).f0 (rd_T65 vs (n : Int)).f1 h2 _ 0 (Nat.zero_add _)
 have h0 := varL0_go st hd sy vs rs hv n hn (rd_T65 vs (n : Int)).f1 _ hb _ 0 (Nat.zero_add _)
 have hj : ∀ q : Bool, Evn (fun k => vivariumref10_variable.j0 k (n : Int) q st hd sy vs rs (rd_T65 vs (n : Int)).f0 (rd_T65 vs (n : Int)).f1) (!q && ((List.range' 0 vs.length).all (othB vs n) && (List.range' 0 (rd_T65 vs (n : Int)).f1.length).all (okS st (rd_T65 vs (n : Int)).f1))) := fun q => by
  cases q with
  | true => exact (Evn.const (r := false)).step (fun k => by simp only [vivariumref10_variable.j0, if_true])
  | false => exact h0.step (fun k => by simp only [vivariumref10_variable.j0]; rw [if_neg (by decide)]; rfl)
 refine Evn.congr (g' := fun k => (vivariumref10_isName.f k (rd_T65 vs (n : Int)).f0).bind fun b => if b = true then (if ((rd_T65 vs (n : Int)).f0.toList == ([118, 97, 114] : List UInt8)) = true then vivariumref10_variable.j0 k (n : Int) true st hd sy vs rs (rd_T65 vs (n : Int)).f0 (rd_T65 vs (n : Int)).f1 else vivariumref10_variable.j0 k (n : Int) (((rd_T65 vs (n : Int)).f1.length : Int) == 0) st hd sy vs rs (rd_T65 vs (n : Int)).f0 (rd_T65 vs (n : Int)).f1) else vivariumref10_variable.j0 k (n : Int) true st hd sy vs rs (rd_T65 vs (n : Int)).f0 (rd_T65 vs (n : Int)).f1) ?_ (fun k => ?_)
 ·have e : varR nm st vs n = if nm (rd_T65 vs (n : Int)).f0 = true then (if ((rd_T65 vs (n : Int)).f0.toList == ([118, 97, 114] : List UInt8)) = true then (!true && ((List.range' 0 vs.length).all (othB vs n) && (List.range' 0 (rd_T65 vs (n : Int)).f1.length).all (okS st (rd_T65 vs (n : Int)).f1))) else (!(((rd_T65 vs (n : Int)).f1.length : Int) == 0) && ((List.range' 0 vs.length).all (othB vs n) && (List.range' 0 (rd_T65 vs (n : Int)).f1.length).all (okS st (rd_T65 vs (n : Int)).f1)))) else (!true && ((List.range' 0 vs.length).all (othB vs n) && (List.range' 0 (rd_T65 vs (n : Int)).f1.length).all (okS st (rd_T65 vs (n : Int)).f1))) := by
   unfold varR varOK risB
   rw [List.range_eq_range', List.range_eq_range']
   have e1 : decide ((rd_T65 vs (n : Int)).f1.length ≠ 0) = !(((rd_T65 vs (n : Int)).f1.length : Int) == 0) := by
    by_cases c : (rd_T65 vs (n : Int)).f1.length = 0
    ·rw [c]; rfl
    ·rw [decide_eq_true c, beq_eq_false_iff_ne.2 (show ¬ ((rd_T65 vs (n : Int)).f1.length : Int) = 0 by omega)]; rfl
   rw [e1]
   unfold bne
   generalize (List.range' 0 vs.length).all (othB vs n) = q1
   generalize (List.range' 0 (rd_T65 vs (n : Int)).f1.length).all (okS st (rd_T65 vs (n : Int)).f1) = q2
   generalize (((rd_T65 vs (n : Int)).f1.length : Int) == 0) = q3
   generalize ((rd_T65 vs (n : Int)).f0.toList == ([118, 97, 114] : List UInt8)) = q4
   generalize nm (rd_T65 vs (n : Int)).f0 = q5
   cases q1 <;> cases q2 <;> cases q3 <;> cases q4 <;> cases q5 <;> rfl
  rw [e]
  exact Evn.bind (hnm _ h1) (evn_ite (fun _ => evn_ite (fun _ => hj true) (fun _ => hj _)) (fun _ => hj true))
 ·unfold vivariumref10_variable.f
  rw [if_pos (by omega), if_pos (by omega)]
  congr 1
  funext b
  cases b with
  | false => rfl
  | true =>
   rw [if_pos rfl, if_pos rfl]
   by_cases c : (rd_T65 vs (n : Int)).f0.toList = ([118, 97, 114] : List UInt8)
   ·rw [if_pos c, if_pos (beq_iff_eq.2 c)]
   ·rw [if_neg c, if_neg (fun h => c (beq_iff_eq.1 h))]
theorem chkL1_go (st hd sy : Int) (vs : List Vr) (rs : List Rw) (hr : rs.length ≤ B47) (n : Nat) (hn : n ≤ 1000) (hR : ∀ r ∈ rs, r.f1.length ≤ B47) : ∀ (d i : Nat), i + d = rs.length → Evn (fun k => vivariumref10_Check.l1 k (n : Int) (i : Int) st hd sy vs rs) (if (rs.drop i).all (rowOK st vs n) = true then 0 else 105)
 | 0, i, h => by
  obtain rfl : i = rs.length := by omega
  refine Evn.const.step (g' := fun _ => some _) (fun k => ?_)
  simp only [vivariumref10_Check.l1]
  rw [if_neg (by omega), List.drop_length]
  rfl
 | d + 1, i, h => by
  have ih := chkL1_go st hd sy vs rs hr n hn hR d (i + 1) (by omega)
  have hi : i < rs.length := by omega
  have E := wstep hi hr
  have e : rd_T62 rs (i : Int) = rs[i] := rd_62 rs i hi
  have hm := hR rs[i] (List.getElem_mem hi)
  obtain ⟨r, hx⟩ : ∃ r, rs[i] = r := ⟨_, rfl⟩
  rw [List.drop_eq_getElem_cons hi, List.all_cons, hx]
  rw [hx] at e hm
  have e2 : (if (rowOK st vs n r && (rs.drop (i + 1)).all (rowOK st vs n)) = true then (0 : Int) else 105) = (if decide (r.f1.length = n) = true then (if ([⟨r.f0.f0, r.f0.f1⟩, ⟨r.f2.f0, r.f2.f1⟩] : List Tm).all (tmOK st vs) = true then (if r.f1.all (tmOK st vs) = true then (if bdOK r = true then (if (rs.drop (i + 1)).all (rowOK st vs n) = true then (0 : Int) else 105) else 105) else 105) else 105) else 105) := by
   unfold rowOK
   have q : ([⟨r.f0.f0, r.f0.f1⟩, ⟨r.f2.f0, r.f2.f1⟩] : List Tm).all (tmOK st vs) = (tmOK st vs r.f0 && tmOK st vs r.f2) := by simp
   rw [q]
   generalize tmOK st vs r.f0 = q1
   generalize tmOK st vs r.f2 = q2
   generalize bdOK r = q3
   generalize r.f1.all (tmOK st vs) = q4
   generalize decide (r.f1.length = n) = q5
   cases q1 <;> cases q2 <;> cases q3 <;> cases q4 <;> cases q5 <;> simp
  rw [e2]
  refine Evn.step (g' := fun k => if decide (r.f1.length = n) = true then ((vivariumref10_terms.f k st hd sy vs rs [⟨r.f0.f0, r.f0.f1⟩, ⟨r.f2.f0, r.f2.f1⟩]).bind fun t => if t = true then ((vivariumref10_terms.f k st hd sy vs rs r.f1).bind fun t => if t = true then ((vivariumref10_bound.f k r.f0.f0 r.f0.f1 r.f1 r.f2.f0 r.f2.f1).bind fun t => if t = true then vivariumref10_Check.l1 k (n : Int) ((i + 1 : Nat) : Int) st hd sy vs rs else some 105) else some 105) else some 105) else some 105) ?_ (fun k => ?_)
  ·exact evn_ite (fun _ => Evn.bind (terms_ev st hd sy vs rs _ (by unfold B47; simp)) (evn_ite (fun _ => Evn.bind (terms_ev st hd sy vs rs r.f1 hm) (evn_ite (fun _ => Evn.bind (boundR_ev r hm) (evn_ite (fun _ => ih) (fun _ => Evn.const))) (fun _ => Evn.const))) (fun _ => Evn.const))) (fun _ => Evn.const)
  ·simp only [vivariumref10_Check.l1]
   rw [if_pos (by omega), if_pos (by omega), e, E.out]
   by_cases c : r.f1.length = n
   ·rw [if_pos (show (r.f1.length : Int) = (n : Int) by omega), if_pos (decide_eq_true c)]
   ·rw [if_neg (show ¬ (r.f1.length : Int) = (n : Int) by omega), if_neg (by rw [decide_eq_false c]; decide)]
theorem chkL0_go (nm : ByteArray → Bool) (hnm : ∀ s : ByteArray, s.size ≤ B47 → Evn (fun k => vivariumref10_isName.f k s) (nm s)) (st hd sy : Int) (vs : List Vr) (rs : List Rw) (hv : vs.length ≤ B47) (hV : ∀ v ∈ vs, v.f0.size ≤ B47 ∧ v.f1.length ≤ B47) (n : Int) (b : Int) (hb : Evn (fun k => vivariumref10_Check.l1 k n 0 st hd sy vs rs) b) : ∀ (d i : Nat), i + d = vs.length → Evn (fun k => vivariumref10_Check.l0 k n (i : Int) st hd sy vs rs) (if (List.range' i d).all (varR nm st vs) = true then b else 104)
 | 0, i, h => by
  obtain rfl : i = vs.length := by omega
  refine hb.step (fun k => ?_)
  simp only [vivariumref10_Check.l0]
  rw [if_neg (by omega)]
 | d + 1, i, h => by
  have ih := chkL0_go nm hnm st hd sy vs rs hv hV n b hb d (i + 1) (by omega)
  have hi : i < vs.length := by omega
  have E := wstep hi hv
  obtain ⟨g1, g2⟩ := hV vs[i] (List.getElem_mem hi)
  have hvar := var_ev nm hnm st hd sy vs rs hv i hi (by rw [rd_65 vs i hi]; exact g1) (by rw [rd_65 vs i hi]; exact g2)
  rw [List.range'_succ, List.all_cons]
  have e2 : (if (varR nm st vs i && (List.range' (i + 1) d).all (varR nm st vs)) = true then b else 104) = (if varR nm st vs i = true then (if (List.range' (i + 1) d).all (varR nm st vs) = true then b else 104) else 104) := by
   cases varR nm st vs i
   ·rfl
   ·rw [Bool.true_and, if_pos rfl]
  rw [e2]
  refine Evn.step (g' := fun k => (vivariumref10_variable.f k st hd sy vs rs (i : Int)).bind fun t => if t = true then vivariumref10_Check.l0 k n ((i + 1 : Nat) : Int) st hd sy vs rs else some 104) ?_ (fun k => ?_)
  ·exact Evn.bind hvar (evn_ite (fun _ => ih) (fun _ => Evn.const))
  ·simp only [vivariumref10_Check.l0]
   rw [if_pos (by omega), E.out]
theorem fresh_iff : ∀ (vs : List Vr) (seen : List (List UInt8)), freshB vs seen = true ↔ (∀ v ∈ vs, v.f0.data.toList ∉ seen) ∧ vs.Pairwise fun a b => a.f0.data.toList ≠ b.f0.data.toList
 | [], seen => by simp [freshB]
 | v :: vs, seen => by
  rw [freshB, Bool.and_eq_true, fresh_iff vs, List.pairwise_cons]
  simp only [Bool.not_eq_true', decide_eq_false_iff_not]
  constructor
  ·rintro ⟨h1, h2, h3⟩
   refine ⟨fun w hw => ?_, fun w hw e => h2 w hw (by rw [← e]; exact List.mem_cons_self), h3⟩
   rcases List.mem_cons.1 hw with rfl | hw
   ·exact h1
   ·exact fun h => h2 w hw (List.mem_cons_of_mem _ h)
  ·rintro ⟨h1, h3, h4⟩
   refine ⟨h1 v List.mem_cons_self, fun w hw h => ?_, h4⟩
   rcases List.mem_cons.1 h with e | h
   ·exact h3 w hw e.symm
   ·exact h1 w (List.mem_cons_of_mem _ hw) h
theorem bl_inj {a b : ByteArray} : a.toList = b.toList ↔ a.data.toList = b.data.toList := by rw [ByteArray.toList_eq, ByteArray.toList_eq]
theorem all_vars (nm : ByteArray → Bool) (st : Int) (vs : List Vr) : (vs.all (varOK nm st) && freshB vs []) = (List.range' 0 vs.length).all (varR nm st vs) := by
 rw [Bool.eq_iff_iff, Bool.and_eq_true, List.all_eq_true, List.all_eq_true, fresh_iff]
 constructor
 ·rintro ⟨h1, _, h2⟩ i hi
  have hi2 : i < vs.length := by simpa using hi
  unfold varR
  rw [Bool.and_eq_true, rd_65 vs i hi2]
  refine ⟨h1 _ (List.getElem_mem hi2), ?_⟩
  rw [List.all_eq_true]
  intro x hx
  have hx2 : x < vs.length := List.mem_range.1 hx
  unfold othB
  rw [Bool.or_eq_true, beq_iff_eq, bne_iff_ne, rd_65 vs i hi2, rd_65 vs x hx2]
  rcases Nat.lt_trichotomy x i with h | h | h
  ·exact .inr fun e => List.pairwise_iff_getElem.1 h2 x i hx2 hi2 h (bl_inj.1 e)
  ·exact .inl h
  ·exact .inr fun e => List.pairwise_iff_getElem.1 h2 i x hi2 hx2 h (bl_inj.1 e.symm)
 ·intro h
  have h' : ∀ i (hi : i < vs.length), varOK nm st vs[i] = true ∧ ∀ x (hx : x < vs.length), x = i ∨ vs[x].f0.data.toList ≠ vs[i].f0.data.toList := fun i hi => by
   have := h i (by simpa using hi)
   unfold varR at this
   rw [Bool.and_eq_true, rd_65 vs i hi, List.all_eq_true] at this
   refine ⟨this.1, fun x hx => ?_⟩
   have h3 := this.2 x (List.mem_range.2 hx)
   unfold othB at h3
   rw [Bool.or_eq_true, beq_iff_eq, bne_iff_ne, rd_65 vs i hi, rd_65 vs x hx] at h3
   exact h3.imp id fun h4 e => h4 (bl_inj.2 e)
  refine ⟨fun v hv => ?_, fun v hv => by simp, ?_⟩
  ·obtain ⟨i, hi, rfl⟩ := List.mem_iff_getElem.1 hv
   exact (h' i hi).1
  ·rw [List.pairwise_iff_getElem]
   intro i j hi hj hij
   rcases (h' j hj).2 i hi with h | h
   ·omega
   ·exact h
/-- The neighbourhoods' sizes; 0: none. -/
def nearN (hd : Int) : Nat := if hd = 1 then 8 else if hd = 2 then 4 else if hd = 3 then 6 else 0
theorem sizeP (hd : Int) : hood_Size.f hd = some ((nearN hd : Int), if nearN hd = 0 then 70 else 0) := by
 unfold hood_Size.f hood_Offsets.f nearN
 by_cases h1 : hd = 1
 ·rw [if_pos h1, if_pos h1]; rfl
 ·rw [if_neg h1, if_neg h1]
  by_cases h2 : hd = 2
  ·rw [if_pos h2, if_pos h2]; rfl
  ·rw [if_neg h2, if_neg h2]
   by_cases h3 : hd = 3
   ·rw [if_pos h3, if_pos h3]; rfl
   ·rw [if_neg h3, if_neg h3]; rfl
theorem sizeR (hd : Int) : vivariumref07_Size.f hd = some ((nearN hd : Int), if nearN hd = 0 then 70 else 0) := by
 unfold vivariumref07_Size.f vivariumref07_Offsets.f nearN
 by_cases h1 : hd = 1
 ·rw [if_pos h1, if_pos h1]; rfl
 ·rw [if_neg h1, if_neg h1]
  by_cases h2 : hd = 2
  ·rw [if_pos h2, if_pos h2]; rfl
  ·rw [if_neg h2, if_neg h2]
   by_cases h3 : hd = 3
   ·rw [if_pos h3, if_pos h3]; rfl
   ·rw [if_neg h3, if_neg h3]; rfl
def mayN (sy hd : Int) : Int := (table_may.f 10 sy hd).getD 0
theorem may_tab : ∀ s : Nat, s < 11 → ∀ h : Nat, h < 4 → table_may.f 10 (s : Int) (h : Int) = some (mayN s h) ∧ vivariumref10_may.f 10 (s : Int) (h : Int) = some (mayN s h) := by decide +kernel
theorem leo_up {α : Type} {g : Nat → Option α} (hm : ∀ k, LeO (g k) (g (k + 1))) {r : α} {n : Nat} (h : g n = some r) : Evn g r := by
 refine ⟨n, fun k hk => ?_⟩
 obtain ⟨d, rfl⟩ : ∃ d, k = n + d := ⟨k - n, by omega⟩
 induction d with
 | zero => exact h
 | succ d ih => exact hm _ _ (ih (by omega))
theorem may_ev (sy hd : Int) (h0 : 0 ≤ sy) : Evn (fun k => table_may.f k sy hd) (mayN sy hd) ∧ Evn (fun k => vivariumref10_may.f k sy hd) (mayN sy hd) := by
 by_cases h1 : sy > 10
 ·have e : ∀ k, table_may.f k sy hd = some 103 := fun k => by unfold table_may.f; rw [if_pos h1]
  have e2 : ∀ k, vivariumref10_may.f k sy hd = some 103 := fun k => by unfold vivariumref10_may.f; rw [if_pos h1]
  have e3 : mayN sy hd = 103 := by unfold mayN; rw [e]; rfl
  rw [e3]
  exact ⟨Evn.congr Evn.const e, Evn.congr Evn.const e2⟩
 ·by_cases h2 : nearN hd = 0
  ·have e : ∀ k, table_may.f k sy hd = some 70 := fun k => by
    unfold table_may.f; rw [if_neg h1, sizeP, if_pos h2, Option.bind_some]; rfl
   have e2 : ∀ k, vivariumref10_may.f k sy hd = some 70 := fun k => by
    unfold vivariumref10_may.f; rw [if_neg h1, sizeR, if_pos h2, Option.bind_some]; rfl
   have e3 : mayN sy hd = 70 := by unfold mayN; rw [e]; rfl
   rw [e3]
   exact ⟨Evn.congr Evn.const e, Evn.congr Evn.const e2⟩
  ·obtain ⟨s, rfl⟩ : ∃ s : Nat, sy = s := ⟨sy.toNat, by omega⟩
   obtain ⟨h, rfl, h4⟩ : ∃ h : Nat, hd = h ∧ h < 4 := by
    unfold nearN at h2
    by_cases c1 : hd = 1
    ·exact ⟨1, c1, by decide⟩
    ·by_cases c2 : hd = 2
     ·exact ⟨2, c2, by decide⟩
     ·by_cases c3 : hd = 3
      ·exact ⟨3, c3, by decide⟩
      ·rw [if_neg c1, if_neg c2, if_neg c3] at h2; exact absurd rfl h2
   obtain ⟨q1, q2⟩ := may_tab s (by omega) h h4
   exact ⟨leo_up (fun k => table_may.mono _ _ k) q1, leo_up (fun k => vivariumref10_may.mono _ _ k) q2⟩
/-- What a table that may be has. -/
structure TabOK (nm : ByteArray → Bool) (st hd sy : Int) (vs : List Vr) (rs : List Rw) : Prop where
 st2 : 2 ≤ st
 st256 : st ≤ 256
 near : nearN hd ≠ 0
 may : mayN sy hd = 0
 vs64 : vs.length ≤ 64
 rs4096 : rs.length ≤ 4096
 vars : vs.all (varOK nm st) = true
 fresh : freshB vs [] = true
 rows : rs.all (rowOK st vs (nearN hd)) = true
theorem nearN_le (hd : Int) : nearN hd ≤ 8 := by
 unfold nearN
 repeat' split
 all_goals omega
/-- The names that may be. -/
theorem names : ∃ nm : ByteArray → Bool, ∀ s : ByteArray, s.size ≤ B47 → Evn (fun k => vivariumref10_isName.f k s) (nm s) ∧ Evn (fun k => table_named.f k s) (nm s && (s.toList != ([118, 97, 114] : List UInt8))) := by
 refine ⟨fun s => if h : s.size ≤ B47 then Classical.choose (named_both s h) else false, fun s h => ?_⟩
 simp only [dif_pos h]
 exact Classical.choose_spec (named_both s h)
theorem check_ev (nm : ByteArray → Bool) (hnm : ∀ s : ByteArray, s.size ≤ B47 → Evn (fun k => vivariumref10_isName.f k s) (nm s) ∧ Evn (fun k => table_named.f k s) (nm s && (s.toList != ([118, 97, 114] : List UInt8)))) (st hd sy : Int) (vs : List Vr) (rs : List Rw) (hy0 : 0 ≤ sy) (hv : vs.length ≤ B47) (hr : rs.length ≤ B47) (hV : ∀ v ∈ vs, v.f0.size ≤ B47 ∧ v.f1.length ≤ B47) (hR : ∀ r ∈ rs, r.f1.length ≤ B47) :
  ∃ e : Int, Evn (fun k => table_Check.f k st hd sy vs rs) e ∧ Evn (fun k => vivariumref10_Check.f k st hd sy vs rs) e ∧ (e = 0 ↔ TabOK nm st hd sy vs rs) := by
 obtain ⟨m1, m2⟩ := may_ev sy hd hy0
 have hj0 : Evn (fun k => vivariumref10_Check.j0 k true st hd sy vs rs) 101 := Evn.const.step (g' := fun _ => some 101) (fun k => by simp only [vivariumref10_Check.j0, if_true])
 have hj1 : Evn (fun k => vivariumref10_Check.j1 k (nearN hd : Int) true st hd sy vs rs) 6 := Evn.const.step (g' := fun _ => some 6) (fun k => by simp only [vivariumref10_Check.j1, if_true])
 by_cases c1 : st < 2
 ·refine ⟨101, Evn.congr (g' := fun _ => some 101) Evn.const (fun k => by unfold table_Check.f; rw [if_pos c1]), hj0.congr (fun k => by unfold vivariumref10_Check.f; rw [if_pos c1]), fun h => absurd h (by decide), fun h => absurd h.st2 (by omega)⟩
 ·have pf : ∀ k, vivariumref10_Check.f k st hd sy vs rs = vivariumref10_Check.j0 k (decide (st > 256)) st hd sy vs rs := fun k => by unfold vivariumref10_Check.f; rw [if_neg c1]
  by_cases c2 : 256 < st
  ·refine ⟨101, Evn.congr (g' := fun _ => some 101) Evn.const (fun k => by unfold table_Check.f; rw [if_neg c1, if_pos c2]), hj0.congr (fun k => by rw [pf, decide_eq_true (show st > 256 from c2)]), fun h => absurd h (by decide), fun h => absurd h.st256 (by omega)⟩
  ·rw [decide_eq_false (show ¬ st > 256 from c2)] at pf
   by_cases c3 : nearN hd = 0
   ·refine ⟨70, Evn.congr (g' := fun _ => some 70) Evn.const (fun k => by unfold table_Check.f; rw [if_neg c1, if_neg c2, sizeP, if_pos c3, Option.bind_some]; rfl), (Evn.const.step (g := fun k => vivariumref10_Check.j0 k false st hd sy vs rs) (g' := fun _ => some 70) (fun k => by simp only [vivariumref10_Check.j0]; rw [if_neg (by decide), sizeR, if_pos c3, Option.bind_some]; rfl)).congr pf, fun h => absurd h (by decide), fun h => absurd c3 h.near⟩
   ·have q1 : ∀ k, table_Check.f k st hd sy vs rs = (table_may.f k sy hd).bind fun e => if e = 0 then (if 64 < (vs.length : Int) then some 6 else if 4096 < (rs.length : Int) then some 6 else ((chkV k st vs []).bind fun b => if b = true then ((chkR k st hd sy vs rs (nearN hd : Int) rs).bind fun b => if b = true then some 0 else some 105) else some 104)) else some e := fun k => by
     unfold table_Check.f; rw [if_neg c1, if_neg c2, sizeP, if_neg c3, Option.bind_some, if_pos rfl]
    have q2 : ∀ k, vivariumref10_Check.j0 (k + 1) false st hd sy vs rs = (vivariumref10_may.f k sy hd).bind fun e => if e = 0 then (if (vs.length : Int) > 64 then vivariumref10_Check.j1 k (nearN hd : Int) true st hd sy vs rs else vivariumref10_Check.j1 k (nearN hd : Int) (decide ((rs.length : Int) > 4096)) st hd sy vs rs) else some e := fun k => by
     simp only [vivariumref10_Check.j0]; rw [if_neg (by decide), sizeR, if_neg c3, Option.bind_some, if_pos rfl]
    by_cases c4 : mayN sy hd = 0
    ·rw [c4] at m1 m2
     by_cases c5 : 64 < (vs.length : Int)
     ·refine ⟨6, (by refine Evn.congr ?_ q1; refine Evn.bind m1 ?_; exact Evn.congr (g' := fun _ => some 6) Evn.const (fun k => by rw [if_pos rfl, if_pos c5])), (by refine Evn.congr ?_ pf; refine Evn.step ?_ q2; refine Evn.bind m2 ?_; exact hj1.congr (fun k => by rw [if_pos rfl, if_pos (show (vs.length : Int) > 64 from c5)])), fun h => absurd h (by decide), fun h => absurd h.vs64 (by omega)⟩
     ·by_cases c6 : 4096 < (rs.length : Int)
      ·refine ⟨6, (by refine Evn.congr ?_ q1; refine Evn.bind m1 ?_; exact Evn.congr (g' := fun _ => some 6) Evn.const (fun k => by rw [if_pos rfl, if_neg c5, if_pos c6])), (by refine Evn.congr ?_ pf; refine Evn.step ?_ q2; refine Evn.bind m2 ?_; exact hj1.congr (fun k => by rw [if_pos rfl, if_neg (show ¬ (vs.length : Int) > 64 from c5), decide_eq_true (show (rs.length : Int) > 4096 from c6)])), fun h => absurd h (by decide), fun h => absurd h.rs4096 (by omega)⟩
      ·have hn8 := nearN_le hd
       have v1 := chkV_ev nm (fun s h => (hnm s h).2) st vs [] hV
       have r1 := chkR_ev st hd sy vs rs (nearN hd) (by omega) rs
       have r2 := chkL1_go st hd sy vs rs hr (nearN hd) (by omega) hR rs.length 0 (by omega)
       rw [List.drop_zero] at r2
       have v2 := chkL0_go nm (fun s h => (hnm s h).1) st hd sy vs rs hv hV (nearN hd : Int) _ r2 vs.length 0 (by omega)
       rw [← all_vars] at v2
       refine ⟨if (vs.all (varOK nm st) && freshB vs []) = true then (if rs.all (rowOK st vs (nearN hd)) = true then 0 else 105) else 104, ?_, ?_, ?_⟩
       ·refine Evn.congr ?_ q1
        refine Evn.bind m1 ?_
        exact (Evn.congr (g' := fun k => (chkV k st vs []).bind fun b => if b = true then ((chkR k st hd sy vs rs (nearN hd : Int) rs).bind fun b => if b = true then some 0 else some 105) else some 104) (Evn.bind v1 (evn_ite (fun _ => Evn.bind r1 (evn_ite (fun _ => Evn.const) (fun _ => Evn.const))) (fun _ => Evn.const))) (fun k => by rw [if_pos rfl, if_neg c5, if_neg c6]))
       ·refine Evn.congr ?_ pf
        refine Evn.step ?_ q2
        refine Evn.bind m2 ?_
        exact (Evn.congr (g' := fun k => vivariumref10_Check.j1 k (nearN hd : Int) false st hd sy vs rs) (v2.step (fun k => by simp only [vivariumref10_Check.j1]; rw [if_neg (by decide)]; rfl)) (fun k => by rw [if_pos rfl, if_neg (show ¬ (vs.length : Int) > 64 from c5), decide_eq_false (show ¬ (rs.length : Int) > 4096 from c6)]))
       ·constructor
        ·intro h
         by_cases d1 : (vs.all (varOK nm st) && freshB vs []) = true
         ·rw [if_pos d1] at h
          by_cases d2 : rs.all (rowOK st vs (nearN hd)) = true
          ·rw [Bool.and_eq_true] at d1
           exact ⟨by omega, by omega, c3, c4, by omega, by omega, d1.1, d1.2, d2⟩
          ·rw [if_neg d2] at h; exact absurd h (by decide)
         ·rw [if_neg d1] at h; exact absurd h (by decide)
        ·intro h
         rw [if_pos (by rw [h.vars, h.fresh]; rfl), if_pos h.rows]
    ·refine ⟨mayN sy hd, (by refine Evn.congr ?_ q1; refine Evn.bind m1 ?_; exact Evn.congr (g' := fun _ => some (mayN sy hd)) Evn.const (fun k => by rw [if_neg c4])), (by refine Evn.congr ?_ pf; refine Evn.step ?_ q2; refine Evn.bind m2 ?_; exact Evn.congr (g' := fun _ => some (mayN sy hd)) Evn.const (fun k => by rw [if_neg c4])), fun h => absurd h c4, fun h => absurd h.may c4⟩
end Go.Proofs.Ytajhfkcmfmhnaaa.L
end
section
namespace Go.Proofs.Ytajhfkcmfmhnaaa.P
open Go.RowKit Go.Proofs.YtajhfkcmfmhnaaaW.PrintWords Go.Proofs.YtajhfkcmfmhnaaaW.PrintLast Go.Proofs.YtajhfkcmfmhnaaaW.PrintMore
attribute [local go_sem] max2_int min2_int max_two min_two max_three min_three max_four min_four   -- for this text's walks alone
set_option linter.unusedVariables false
set_option linter.unusedSimpArgs false
mutual
def vivariumref10_orders.l0 : Nat → List Int → Int → List (List Int) → Int → Option ((List (List Int)))
 | 0, _, _, _, _ => none
 | k + 1, x0, x1, x6, x7 => if x7 < x1 then (vivariumref10_orders.l1 k x0 x1 x6 x7 false 0) else (some x6)
def vivariumref10_orders.l1 : Nat → List Int → Int → List (List Int) → Int → Bool → Int → Option ((List (List Int)))
 | 0, _, _, _, _, _, _ => none
 | k + 1, x0, x1, x6, x7, x8, x9 => if x9 < (x0.length : Int) then (if x8 = true then (vivariumref10_orders.l1 k x0 x1 x6 x7 true (wrap64 (x9 + 1))) else (if 0 ≤ x9 then (vivariumref10_orders.l1 k x0 x1 x6 x7 ((rd x0 x9) == x7) (wrap64 (x9 + 1))) else (none))) else (if x8 = true then (vivariumref10_orders.l0 k x0 x1 x6 (wrap64 (x7 + 1))) else (if ([] : List Int).length + x0.length < 17592186044416 then ((some (([] : List Int) ++ x0 : List Int)).bind fun y174 => (if y174.length < 17592186044416 then ((vivariumref10_orders.f k (y174 ++ [x7]) x1).bind fun t180 => (if x6.length + t180.length < 5864062014805 then (vivariumref10_orders.l0 k x0 x1 (x6 ++ t180) (wrap64 (x7 + 1))) else (none))) else (none))) else (none)))
def vivariumref10_orders.f : Nat → List Int → Int → Option ((List (List Int)))
 | 0, _, _ => none
 | k + 1, l0, a1 => if (l0.length : Int) = a1 then (if ([] : List Int).length + l0.length < 17592186044416 then (some (([(([] : List Int) ++ l0)] : List (List Int)))) else (none)) else (vivariumref10_orders.l0 k l0 a1 ([] : List (List Int)) 0)
end
theorem vivariumref10_orders.mono_l : ∀ k, (∀ y0 y1, LeO (vivariumref10_orders.f k y0 y1) (vivariumref10_orders.f (k + 1) y0 y1)) ∧ (∀ y0 y1 y2 y3, LeO (vivariumref10_orders.l0 k y0 y1 y2 y3) (vivariumref10_orders.l0 (k + 1) y0 y1 y2 y3)) ∧ (∀ y0 y1 y2 y3 y4 y5, LeO (vivariumref10_orders.l1 k y0 y1 y2 y3 y4 y5) (vivariumref10_orders.l1 (k + 1) y0 y1 y2 y3 y4 y5))
 | 0 => ⟨fun _ _ r h => by simp [vivariumref10_orders.f] at h, fun _ _ _ _ r h => by simp [vivariumref10_orders.l0] at h, fun _ _ _ _ _ _ r h => by simp [vivariumref10_orders.l1] at h⟩
 | k + 1 => by
  obtain ⟨ih0, ih1, ih2⟩ := vivariumref10_orders.mono_l k
  refine ⟨?_, ?_, ?_⟩
  ·intro y0 y1
   unfold vivariumref10_orders.f
   repeat' first
   | (with_reducible exact ih0 _ _)
   | (with_reducible exact ih1 _ _ _ _)
   | (with_reducible exact ih2 _ _ _ _ _ _)
   | (with_reducible exact LeO.refl _)
   | (with_reducible exact LeO.none _)
   | (with_reducible refine LeO.ite ?_ ?_)
   | (with_reducible refine LeO.bind ?_ (fun _ => ?_))
   | exact ih0 _ _
   | exact ih1 _ _ _ _
   | exact ih2 _ _ _ _ _ _
   | exact LeO.none _
   | refine LeO.ite ?_ ?_
   | refine LeO.bind ?_ (fun _ => ?_)
  ·intro y0 y1 y2 y3
   unfold vivariumref10_orders.l0
   repeat' first
   | (with_reducible exact ih0 _ _)
   | (with_reducible exact ih1 _ _ _ _)
   | (with_reducible exact ih2 _ _ _ _ _ _)
   | (with_reducible exact LeO.refl _)
   | (with_reducible exact LeO.none _)
   | (with_reducible refine LeO.ite ?_ ?_)
   | (with_reducible refine LeO.bind ?_ (fun _ => ?_))
   | exact ih0 _ _
   | exact ih1 _ _ _ _
   | exact ih2 _ _ _ _ _ _
   | exact LeO.none _
   | refine LeO.ite ?_ ?_
   | refine LeO.bind ?_ (fun _ => ?_)
  ·intro y0 y1 y2 y3 y4 y5
   unfold vivariumref10_orders.l1
   repeat' first
   | (with_reducible exact ih0 _ _)
   | (with_reducible exact ih1 _ _ _ _)
   | (with_reducible exact ih2 _ _ _ _ _ _)
   | (with_reducible exact LeO.refl _)
   | (with_reducible exact LeO.none _)
   | (with_reducible refine LeO.ite ?_ ?_)
   | (with_reducible refine LeO.bind ?_ (fun _ => ?_))
   | exact ih0 _ _
   | exact ih1 _ _ _ _
   | exact ih2 _ _ _ _ _ _
   | exact LeO.none _
   | refine LeO.ite ?_ ?_
   | refine LeO.bind ?_ (fun _ => ?_)
theorem vivariumref10_orders.mono : ∀ a0 a1 k, LeO (vivariumref10_orders.f k a0 a1) (vivariumref10_orders.f (k + 1) a0 a1) := by
 intro a0 a1 k
 obtain ⟨ih0, ih1, ih2⟩ := vivariumref10_orders.mono_l k
 exact ih0 a0 a1
set_option maxHeartbeats 8000000 in
set_option maxRecDepth 100000 in
theorem vivariumref10_orders.calls (k : Nat) : ∀ (A0 : Option Addr) (c0 : Nat) (l0 : List Int) (a1 : Int) (r : List (List Int)) (w : World) (hr0 : Kd.C (Kd.int .i64) w A0 l0.length l0) (hc0 : l0.length ≤ c0) (h : vivariumref10_orders.f k l0 a1 = some r),
  Calls Try.prog 19 #[.slice A0 l0.length c0, .int .i64 a1] w fun e w' => ∃ v0_ : Value, e = .returned (v0_) ∧ Kd.N (Kd.slice 3 (Kd.int .i64)) 28 w' w.heap.size (fun k_ => (w.heap.size ≤ k_)) v0_ r ∧ Below w.heap.size w w' := by
 induction k using Nat.strongRecOn with
 | _ k ih =>
 intro A0 c0 l0 a1 r w hr0 hc0 h
 cases k with
 | zero => exact absurd h (by simp [vivariumref10_orders.f])
 | succ k =>
 simp only [vivariumref10_orders.f] at h
 have HR0 := Aside0.mk hr0
 have HC0 := Aside0.mk hc0
 clear hr0 hc0
 have HB := Aside0.mk (Below.refl w.heap.size w)
 have H : (if (l0.length : Int) = a1 then (if ([] : List Int).length + l0.length < 17592186044416 then (some (([(([] : List Int) ++ l0)] : List (List Int)))) else (none)) else (vivariumref10_orders.l0 k l0 a1 ([] : List (List Int)) 0)) = some r := h
 clear h
 by_cases c3 : (l0.length : Int) = a1
 ·rw [if_pos c3] at H
  have c3b0 : ((l0.length : Int) == a1) = true := beq_iff_eq.mpr c3
  have c3b1 : ((l0.length : Int) != a1) = false := bne_eq_false_iff_eq.mpr c3
  clear c3
  by_cases c4 : ([] : List Int).length + l0.length < 17592186044416
  ·rw [if_pos c4] at H
   have LMc4 := Aside0.mk c4
   clear c4
   obtain ⟨y167, hy167⟩ : ∃ y_ : List Int, y_ = (([] : List Int) ++ l0) := ⟨_, rfl⟩
   replace H : (some (([y167] : List (List Int)))) = some r := by first | (rw [hy167]; with_reducible exact H) | (have H2_ := (Option.bind_some _ _).symm.trans H; rw [hy167]; with_reducible exact H2_) | (have H2_ := (Option.bind_some _ _).symm.trans H; with_reducible exact H2_) | with_reducible exact H | (rw [hy167]; exact H) | exact H
   have Ny167 := Aside0.mk hy167
   clear hy167
   obtain ⟨y170, hy170⟩ : ∃ y_ : List (List Int), y_ = (([y167] : List (List Int))) := ⟨_, rfl⟩
   replace H : (some y170) = some r := by first | (rw [hy170]; with_reducible exact H) | (have H2_ := (Option.bind_some _ _).symm.trans H; rw [hy170]; with_reducible exact H2_) | (have H2_ := (Option.bind_some _ _).symm.trans H; with_reducible exact H2_) | with_reducible exact H | (rw [hy170]; exact H) | exact H
   have Ny170 := Aside0.mk hy170
   clear hy170
   obtain rfl := Option.some.inj H
   go_enter Try.func19, Try.ntmps19
   go_wp2_with (first | ((with_reducible refine gate_builtin (b := .append) (xs := #[.tmp 15, .tmp 16]) rfl ?_); at_builtin; refine Kd.R_append_rows (Kd.int .i64) (w0 := w) w.heap.size rfl (.tmp 15) (.tmp 16) 28 3 (.int .i64 0) 8 rfl Try.underlying28 info3 rfl (by decide) (by omega) (.slice none 0 0) ([] : List Int) l0 _ _ _ (fun k_ => (w.heap.size ≤ k_)) (fun _ => False) rfl rfl ?aO ?aR (fun _ _ h => h) (fun _ h => h.elim) ?aF ?aB ?aS ?aL ?_; (case aR => repeat (first | exact HR0.out | (with_reducible refine Kd.C_alloc ?_ _) | (with_reducible refine Kd.C_drewN ?_ _) | (with_reducible refine Kd.C_drew ?_))); (case aB => exact (by repeat (first | (with_reducible first | exact HB.out | apply below_alloc | apply pw_below_drewN | apply below_drew1) | exact HB.out))); (case aF => exact (fun k_ hk => (Nat.le_trans (below_size (by repeat (first | (with_reducible first | exact HB.out | apply below_alloc | apply pw_below_drewN | apply below_drew1) | exact HB.out))) hk))); (case aO => exact ((Kd.R_nil _ _ _ _ (fun k_ => (w.heap.size ≤ k_))))); (case aS => exact (below_size (by repeat (first | (with_reducible first | exact HB.out | apply below_alloc | apply pw_below_drewN | apply below_drew1) | exact HB.out)))); (case aL => have := LMc4.out; omega); intro v168 w5 ho hb hg hat; rw [← Ny167.out] at ho; have n0_ := Aside0.mk (hb); have n1_ := Aside0.mk (ho); clear HB; have HB := n0_; have HO169 := n1_; clear n0_ n1_; clear ho hb hg hat; obtain ⟨Ao6, co6, eo6⟩ := Kd.R_slice HO169.out; subst eo6) | ((with_reducible refine gate_dst (N := 18) rfl ?_); refine Kd.N_lit (Kd.slice 3 (Kd.int .i64)) _ 28 ?hg (N' := 18) ?hd (xs := ([y167] : List (List Int))) (inner := [.slice Ao6 y167.length co6]) (ok := (fun k_ => (w.heap.size ≤ k_))) (okp := (fun k_ => (w.heap.size ≤ k_))) ?hr ?hp (fun _ hk => hk) ((show ∀ k_, w5.heap.size ≤ k_ → (fun k_ => (w.heap.size ≤ k_)) k_ from fun k_ hk => (Nat.le_trans (below_size (by repeat (first | (with_reducible first | exact HB.out | apply below_alloc | apply pw_below_drewN | apply below_drew1) | exact HB.out))) hk)) _ (Nat.le_refl _)) (Below.refl _ _) (Nat.le_refl _) (by simp) ?_; (case hd => rfl); (case hg => rfl); (case hr => first | (go_simp; done) | (go_simp; rfl)); (case hp => exact (Reps.one (show Kd.FK (Kd.slice 3 (Kd.int .i64)) _ _ y167 [.slice Ao6 y167.length co6] from (Kd.FK_slice_mk (Kd.R_reads' (Kd.R_mono (ok' := (fun k_ => (w.heap.size ≤ k_))) (HO169.out) (fun k_ hk => hk))).2.1 (Kd.R_F (Kd.R_mono (ok' := (fun k_ => (w.heap.size ≤ k_))) (HO169.out) (fun k_ hk => hk))))) (Reps.none _ _))); intro v171 w7 ho8 hb hg_ hnew_; clear hg_ hnew_; (first | rw [← Ny170.out] at ho8 | (simp only [Int.reduceToNat] at ho8; rw [← Ny170.out] at ho8)); have n0_ := Aside0.mk (Kd.N_lower ho8 (below_size (by repeat (first | (with_reducible first | exact HB.out | apply below_alloc | apply pw_below_drewN | apply below_drew1) | exact HB.out)))); have n1_ := Aside0.mk (below_step (by repeat (first | (with_reducible first | exact HB.out | apply below_alloc | apply pw_below_drewN | apply below_drew1) | exact HB.out)) hb); clear HB; clear HO169; have HO172 := n0_; have HB := n1_; clear n0_ n1_; clear hb ho8))
   go_ret
   exact ⟨_, by first | rfl | (simp [errW_none, errW_some] <;> rfl) | (simp [*, errW_none, errW_some] <;> rfl), by (with_reducible repeat (first | apply Kd.N_alloc | apply Kd.N_drewN | apply Kd.N_drew)); exact HO172.out, by repeat (first | (with_reducible first | exact HB.out | apply below_alloc | apply pw_below_drewN | apply below_drew1) | exact HB.out)⟩
  ·rw [if_neg c4] at H
   exact absurd H (by simp)
 ·rw [if_neg c3] at H
  have c3b0 : ((l0.length : Int) == a1) = false := beq_eq_false_iff_ne.mpr c3
  have c3b1 : ((l0.length : Int) != a1) = true := bne_iff_ne.mpr c3
  have H' := Aside0.mk H
  clear H
  go_enter Try.func19, Try.ntmps19
  go_wp2
  go_loopg [6, 7] k (fun kq v6 v7 w' => ∃ (x6_1 : List (List Int)) (x7_1 : Int), v7 = .int .i64 x7_1 ∧ Aside0 (vivariumref10_orders.l0 kq l0 a1 x6_1 x7_1 = some r) ∧ Aside0 (kq ≤ k) ∧ Aside0 (Kd.N (Kd.slice 3 (Kd.int .i64)) 28 w' w.heap.size (fun k_ => (w.heap.size ≤ k_)) v6 x6_1) ∧ Aside0 (Below w.heap.size w w'))
  case atStart => exact ⟨(([] : List (List Int))), (0), (by first | rfl | (simp; done) | (simp [*]; done)), H', ⟨Nat.le_refl _⟩, ⟨by first | exact Kd.S_nil _ _ _ _ _ | exact Kd.N_nil _ _ _ _ _ | exact Kd.V_nil _ _ _ _ _ | exact Kd.Q_nil _ _ _ _ _ | exact Kd.R_nil _ _ _ _ _⟩, ⟨by repeat (first | (with_reducible first | exact HB.out | apply below_alloc | apply pw_below_drewN | apply below_drew1) | exact HB.out)⟩⟩
  case round =>
   clear H'
   try clear c1
   try clear p2
   try clear c3
   try clear c3b0
   try clear c3b1
   try clear c4
   obtain ⟨x6_1, x7_1, rfl, HA, HK1, HO_6, HB⟩ := hrel
   cases gk with
   | zero => exact absurd HA.out (by simp [vivariumref10_orders.l0])
   | succ k1 =>
    have H := HA.out
    clear HA
    simp only [vivariumref10_orders.l0] at H
    by_cases c9 : x7_1 < a1
    ·rw [if_pos c9] at H
     have c9b0 : decide (x7_1 < a1) = true := decide_eq_true c9
     clear c9
     have H' := Aside0.mk H
     clear H
     go_wp2
     go_loopg [8, 9] k1 (fun kq v8 v9 w' => ∃ (x8_2 : Bool) (x9_2 : Int), v8 = .bool x8_2 ∧ v9 = .int .i64 x9_2 ∧ Aside0 (vivariumref10_orders.l1 kq l0 a1 x6_1 x7_1 x8_2 x9_2 = some r) ∧ Aside0 (kq ≤ k1) ∧ Aside0 (Kd.N (Kd.slice 3 (Kd.int .i64)) 28 w' w.heap.size (fun k_ => (w.heap.size ≤ k_)) u6 x6_1) ∧ Aside0 (Below w.heap.size w w'))
     case atStart => exact ⟨(false), (0), (by first | rfl | (simp; done) | (simp [*]; done)), (by first | rfl | (simp; done) | (simp [*]; done)), H', ⟨Nat.le_refl _⟩, ⟨by (with_reducible repeat (first | apply Kd.N_alloc | apply Kd.N_drewN | apply Kd.N_drew)); exact HO_6.out⟩, ⟨by repeat (first | (with_reducible first | exact HB.out | apply below_alloc | apply pw_below_drewN | apply below_drew1) | exact HB.out)⟩⟩
     case round =>
      clear H'
      try clear c1
      try clear p2
      try clear c3
      try clear c3b0
      try clear c3b1
      try clear c4
      try clear c9
      try clear c9b0
      try clear p2
      obtain ⟨x8_2, x9_2, rfl, rfl, HA, HK2, HO_6, HB⟩ := hrel
      cases gk with
      | zero => exact absurd HA.out (by simp [vivariumref10_orders.l1])
      | succ k2 =>
       have H := HA.out
       clear HA
       simp only [vivariumref10_orders.l1] at H
       by_cases c10 : x9_2 < (l0.length : Int)
       ·rw [if_pos c10] at H
        have c10b0 : decide (x9_2 < (l0.length : Int)) = true := decide_eq_true c10
        clear c10
        by_cases c11 : x8_2 = true
        ·subst c11
         have H1 : (vivariumref10_orders.l1 k2 l0 a1 x6_1 x7_1 true (wrap64 (x9_2 + 1))) = some r := by rw [if_pos rfl] at H; exact H
         clear H
         have H := H1
         clear H1
         have H' := Aside0.mk H
         clear H
         go_wp2
         go_roundg k2
         case measure => have := HK1.out; have := HK2.out; omega
         case rel => exact ⟨(true), (wrap64 (x9_2 + 1)), (by first | rfl | (simp; done) | (simp [*]; done)), (by first | rfl | (simp; done) | (simp [*]; done)), H', ⟨by have := HK1.out; have := HK2.out; omega⟩, ⟨by (with_reducible repeat (first | apply Kd.N_alloc | apply Kd.N_drewN | apply Kd.N_drew)); exact HO_6.out⟩, ⟨by repeat (first | (with_reducible first | exact HB.out | apply below_alloc | apply pw_below_drewN | apply below_drew1) | exact HB.out)⟩⟩
        ·replace c11 := Bool.eq_false_iff.mpr c11
         subst c11
         have H1 : (if 0 ≤ x9_2 then (vivariumref10_orders.l1 k2 l0 a1 x6_1 x7_1 ((rd l0 x9_2) == x7_1) (wrap64 (x9_2 + 1))) else (none)) = some r := by rw [if_neg (show ¬ (false = true) by decide)] at H; exact H
         clear H
         have H := H1
         clear H1
         by_cases c12 : 0 ≤ x9_2
         ·rw [if_pos c12] at H
          have c12b0 : decide (0 ≤ x9_2) = true := decide_eq_true c12
          clear c12
          have H' := Aside0.mk H
          clear H
          have p173 : 0 ≤ (x9_2 : Int) := of_decide_eq_true (by first | (with_reducible assumption) | assumption)
          have q173 : x9_2 < (l0.length : Int) := of_decide_eq_true (by first | (with_reducible assumption) | assumption)
          obtain ⟨ad173, e173, hx173_0⟩ := Kd.at_int HR0.out x9_2 p173 q173
          cases e173
          replace hx173_0 := (HB.out.cell (World.block_lt_of_cell? w _ hx173_0)).trans hx173_0
          replace p173 := eq_true p173
          replace q173 := eq_true q173
          go_wp2
          go_roundg k2
          case measure => have := HK1.out; have := HK2.out; omega
          case rel => exact ⟨(((rd l0 x9_2) == x7_1)), (wrap64 (x9_2 + 1)), (by first | rfl | (simp; done) | (simp [*]; done)), (by first | rfl | (simp; done) | (simp [*]; done)), H', ⟨by have := HK1.out; have := HK2.out; omega⟩, ⟨by (with_reducible repeat (first | apply Kd.N_alloc | apply Kd.N_drewN | apply Kd.N_drew)); exact HO_6.out⟩, ⟨by repeat (first | (with_reducible first | exact HB.out | apply below_alloc | apply pw_below_drewN | apply below_drew1) | exact HB.out)⟩⟩
         ·rw [if_neg c12] at H
          exact absurd H (by simp)
       ·rw [if_neg c10] at H
        have c10b0 : decide (x9_2 < (l0.length : Int)) = false := decide_eq_false c10
        clear c10
        by_cases c13 : x8_2 = true
        ·subst c13
         have H1 : (vivariumref10_orders.l0 k2 l0 a1 x6_1 (wrap64 (x7_1 + 1))) = some r := by rw [if_pos rfl] at H; exact H
         clear H
         have H := H1
         clear H1
         have H' := Aside0.mk H
         clear H
         go_wp2
         go_roundg k2
         case measure => have := HK1.out; have := HK2.out; omega
         case rel => exact ⟨(x6_1), (wrap64 (x7_1 + 1)), (by first | rfl | (simp; done) | (simp [*]; done)), H', ⟨by have := HK1.out; have := HK2.out; omega⟩, ⟨by (with_reducible repeat (first | apply Kd.N_alloc | apply Kd.N_drewN | apply Kd.N_drew)); exact HO_6.out⟩, ⟨by repeat (first | (with_reducible first | exact HB.out | apply below_alloc | apply pw_below_drewN | apply below_drew1) | exact HB.out)⟩⟩
        ·replace c13 := Bool.eq_false_iff.mpr c13
         subst c13
         have H1 : (if ([] : List Int).length + l0.length < 17592186044416 then ((some (([] : List Int) ++ l0 : List Int)).bind fun y174 => (if y174.length < 17592186044416 then ((vivariumref10_orders.f k2 (y174 ++ [x7_1]) a1).bind fun t180 => (if x6_1.length + t180.length < 5864062014805 then (vivariumref10_orders.l0 k2 l0 a1 (x6_1 ++ t180) (wrap64 (x7_1 + 1))) else (none))) else (none))) else (none)) = some r := by rw [if_neg (show ¬ (false = true) by decide)] at H; exact H
         clear H
         have H := H1
         clear H1
         by_cases c14 : ([] : List Int).length + l0.length < 17592186044416
         ·rw [if_pos c14] at H
          have LMc14 := Aside0.mk c14
          clear c14
          obtain ⟨y174, hy174⟩ : ∃ y_ : List Int, y_ = (([] : List Int) ++ l0) := ⟨_, rfl⟩
          replace H : (if y174.length < 17592186044416 then ((vivariumref10_orders.f k2 (y174 ++ [x7_1]) a1).bind fun t180 => (if x6_1.length + t180.length < 5864062014805 then (vivariumref10_orders.l0 k2 l0 a1 (x6_1 ++ t180) (wrap64 (x7_1 + 1))) else (none))) else (none)) = some r := by first | (rw [hy174]; with_reducible exact H) | (have H2_ := (Option.bind_some _ _).symm.trans H; rw [hy174]; with_reducible exact H2_) | (have H2_ := (Option.bind_some _ _).symm.trans H; with_reducible exact H2_) | with_reducible exact H | (rw [hy174]; exact H) | exact H
          have Ny174 := Aside0.mk hy174
          clear hy174
          by_cases c15 : y174.length < 17592186044416
          ·rw [if_pos c15] at H
           have LMc15 := Aside0.mk c15
           clear c15
           obtain ⟨y177, hy177⟩ : ∃ y_ : List Int, y_ = (y174 ++ [x7_1]) := ⟨_, rfl⟩
           replace H : ((vivariumref10_orders.f k2 y177 a1).bind fun t180 => (if x6_1.length + t180.length < 5864062014805 then (vivariumref10_orders.l0 k2 l0 a1 (x6_1 ++ t180) (wrap64 (x7_1 + 1))) else (none))) = some r := by first | (rw [hy177]; with_reducible exact H) | (have H2_ := (Option.bind_some _ _).symm.trans H; rw [hy177]; with_reducible exact H2_) | (have H2_ := (Option.bind_some _ _).symm.trans H; with_reducible exact H2_) | with_reducible exact H | (rw [hy177]; exact H) | exact H
           have Ny177 := Aside0.mk hy177
           clear hy177
           replace H := Option.bind_eq_some_iff.mp H
           obtain ⟨t180, A160, H⟩ := H
           replace H : (if x6_1.length + t180.length < 5864062014805 then (vivariumref10_orders.l0 k2 l0 a1 (x6_1 ++ t180) (wrap64 (x7_1 + 1))) else (none)) = some r := H
           have A16 := Aside0.mk A160
           clear A160
           by_cases c17 : x6_1.length + t180.length < 5864062014805
           ·rw [if_pos c17] at H
            have LMc17 := Aside0.mk c17
            clear c17
            obtain ⟨y183, hy183⟩ : ∃ y_ : List (List Int), y_ = (x6_1 ++ t180) := ⟨_, rfl⟩
            replace H : (vivariumref10_orders.l0 k2 l0 a1 y183 (wrap64 (x7_1 + 1))) = some r := by first | (rw [hy183]; with_reducible exact H) | (have H2_ := (Option.bind_some _ _).symm.trans H; rw [hy183]; with_reducible exact H2_) | (have H2_ := (Option.bind_some _ _).symm.trans H; with_reducible exact H2_) | with_reducible exact H | (rw [hy183]; exact H) | exact H
            have Ny183 := Aside0.mk hy183
            clear hy183
            have H' := Aside0.mk H
            clear H
            go_wp2_with (first | ((with_reducible refine gate_builtin (b := .append) (xs := #[.tmp 41, .tmp 42]) rfl ?_); at_builtin; refine Kd.R_append_rows (Kd.int .i64) (w0 := w) w.heap.size rfl (.tmp 41) (.tmp 42) 28 3 (.int .i64 0) 8 rfl Try.underlying28 info3 rfl (by decide) (by omega) (.slice none 0 0) ([] : List Int) l0 _ _ _ (fun k_ => (w.heap.size ≤ k_)) (fun _ => False) rfl rfl ?aO ?aR (fun _ _ h => h) (fun _ h => h.elim) ?aF ?aB ?aS ?aL ?_; (case aR => repeat (first | exact (Kd.C_below HR0.out HB.out) | (with_reducible refine Kd.C_alloc ?_ _) | (with_reducible refine Kd.C_drewN ?_ _) | (with_reducible refine Kd.C_drew ?_))); (case aB => exact (by repeat (first | (with_reducible first | exact HB.out | apply below_alloc | apply pw_below_drewN | apply below_drew1) | exact HB.out))); (case aF => exact (fun k_ hk => (Nat.le_trans (below_size (by repeat (first | (with_reducible first | exact HB.out | apply below_alloc | apply pw_below_drewN | apply below_drew1) | exact HB.out))) hk))); (case aO => exact ((Kd.R_nil _ _ _ _ (fun k_ => (w.heap.size ≤ k_))))); (case aS => exact (below_size (by repeat (first | (with_reducible first | exact HB.out | apply below_alloc | apply pw_below_drewN | apply below_drew1) | exact HB.out)))); (case aL => have := LMc14.out; omega); intro v175 w18 ho hb hg hat; rw [← Ny174.out] at ho; have n0_ := Aside0.mk (Kd.N_afterv (Kd.N_apart_nil (by (with_reducible repeat (first | apply Kd.N_alloc | apply Kd.N_drewN | apply Kd.N_drew)); exact HO_6.out)) hg hat); have n1_ := Aside0.mk (hb); have n2_ := Aside0.mk (ho); clear HO_6; clear HB; have HO_6 := n0_; have HB := n1_; have HO176 := n2_; clear n0_ n1_ n2_; clear ho hb hg hat) | ((with_reducible refine gate_builtin (b := .append) (xs := #[.tmp 44, .tmp 46]) rfl ?_); at_builtin; refine Kd.R_append (Kd.int .i64) (w0 := w) w.heap.size rfl (.tmp 44) (.tmp 46) 28 3 (.int .i64 0) 8 rfl Try.underlying28 info3 rfl (by decide) (by omega) v175 y174 x7_1 [.int .i64 x7_1] (fun k_ => (w.heap.size ≤ k_)) (fun _ => False) rfl rfl ?aP (fun _ hk => hk.elim) ?aF ?aO ?aB ?aS ?aL ?_; (case aP => exact rfl); (case aB => exact (by repeat (first | (with_reducible first | exact HB.out | apply below_alloc | apply pw_below_drewN | apply below_drew1) | exact HB.out))); (case aF => exact (fun k_ hk => (Nat.le_trans (below_size (by repeat (first | (with_reducible first | exact HB.out | apply below_alloc | apply pw_below_drewN | apply below_drew1) | exact HB.out))) hk))); (case aO => exact (by (with_reducible repeat (first | apply Kd.R_alloc | apply Kd.R_drewN | apply Kd.R_drew)); exact HO176.out)); (case aS => exact (below_size (by repeat (first | (with_reducible first | exact HB.out | apply below_alloc | apply pw_below_drewN | apply below_drew1) | exact HB.out)))); (case aL => have := LMc15.out; omega); intro v178 w19 ho hb hg hat; rw [← Ny177.out] at ho; have n0_ := Aside0.mk (Kd.N_afterv (ok := (fun k_ => (w.heap.size ≤ k_))) (by (with_reducible repeat (first | apply Kd.N_alloc | apply Kd.N_drewN | apply Kd.N_drew)); exact HO_6.out) hg hat); have n1_ := Aside0.mk (hb); have n2_ := Aside0.mk (ho); clear HO_6; clear HB; clear HO176; have HO_6 := n0_; have HB := n1_; have HO179 := n2_; clear n0_ n1_ n2_; clear ho hb hg hat; obtain ⟨Ao20, co20, eo20⟩ := Kd.R_slice HO179.out; subst eo20) | ((with_reducible refine gate_callee (f := 19) rfl ?_); refine goesL_ (some 51) rfl rfl Try.func19 (by kernel_rfl) rfl #[.slice Ao20 y177.length co20, .int .i64 a1] rfl (by (try simp only [List.map_toArray, List.map_cons, List.map_nil]); first | done | rfl | (simp only [List.length_drop, List.length_take]; rfl)) ?_; (with_reducible refine (ih k2 (by have := HK1.out; have := HK2.out; omega) _ _ y177 a1 t180 _ ?side1 ?side2 A16.out).mono ?_); (case side1 => repeat (first | exact (Kd.R_reads' HO179.out).2.2 | (with_reducible refine Kd.C_alloc ?_ _) | (with_reducible refine Kd.C_drewN ?_ _) | (with_reducible refine Kd.C_drew ?_))); (case side2 => exact (Kd.R_reads' HO179.out).2.1); rintro e w21 ⟨v181, rfl, ho0, hb⟩; refine ⟨_, rfl, ?_⟩; have n0_ := Aside0.mk (Kd.N_elder' (by (with_reducible repeat (first | apply Kd.N_alloc | apply Kd.N_drewN | apply Kd.N_drew)); exact HO_6.out) (Kd.N_base ho0) hb); have n1_ := Aside0.mk (Kd.R_below (by (with_reducible repeat (first | apply Kd.R_alloc | apply Kd.R_drewN | apply Kd.R_drew)); exact HO179.out) hb); have n2_ := Aside0.mk (Kd.N_lower (Kd.N_mono (ok' := fun k_ => (w.heap.size ≤ k_) ∧ some k_ ≠ (u6 : Value).ownBlock ∧ some k_ ≠ (.slice Ao20 y177.length co20 : Value).ownBlock) ho0 (fun k_ hk_ => ⟨(Nat.le_trans (below_size (by repeat (first | (with_reducible first | exact HB.out | apply below_alloc | apply pw_below_drewN | apply below_drew1) | exact HB.out))) hk_), (Kd.fresh' (Kd.N_lt (by (with_reducible repeat (first | apply Kd.N_alloc | apply Kd.N_drewN | apply Kd.N_drew)); exact HO_6.out)) k_ hk_), (Kd.fresh' (Kd.R_lt (by (with_reducible repeat (first | apply Kd.R_alloc | apply Kd.R_drewN | apply Kd.R_drew)); exact HO179.out)) k_ hk_)⟩)) (below_size (by repeat (first | (with_reducible first | exact HB.out | apply below_alloc | apply pw_below_drewN | apply below_drew1) | exact HB.out)))); have n3_ := Aside0.mk (below_step (by repeat (first | (with_reducible first | exact HB.out | apply below_alloc | apply pw_below_drewN | apply below_drew1) | exact HB.out)) hb); clear HO_6; clear HO179; clear HB; have HO_6 := n0_; have HO179 := n1_; have HO182 := n2_; have HB := n3_; clear n0_ n1_ n2_ n3_; (try clear hb); (try clear hb2); (try clear hk); (try clear hi); (try clear ho0); obtain ⟨Ao23, co23, eo23⟩ := Kd.N_slice HO182.out; subst eo23) | ((with_reducible refine gate_builtin (b := .append) (xs := #[.tmp 48, .tmp 51]) rfl ?_); at_builtin; refine Kd.N_append_rows (Kd.slice 3 (Kd.int .i64)) (w0 := w) w.heap.size rfl (.tmp 48) (.tmp 51) 22 28 (.slice none 0 0) 24 rfl Try.underlying22 info28 rfl (by decide) (by omega) u6 x6_1 t180 _ _ _ (fun k_ => (w.heap.size ≤ k_) ∧ some k_ ≠ (.slice Ao20 y177.length co20 : Value).ownBlock) (fun k_ => ((fun k_ => (w.heap.size ≤ k_) ∧ some k_ ≠ (.slice Ao20 y177.length co20 : Value).ownBlock)) k_ ∧ some k_ ≠ (u6 : Value).ownBlock) rfl rfl ?aO ?aR (fun _ hk => hk) ?aF ?aB ?aS ?aL ?_; (case aR => exact (by skip; exact Kd.N_F (Kd.N_mono (ok' := (fun k_ => ((fun k_ => (w.heap.size ≤ k_) ∧ some k_ ≠ (.slice Ao20 y177.length co20 : Value).ownBlock)) k_ ∧ some k_ ≠ (u6 : Value).ownBlock)) (HO182.out) (fun k_ hk => ⟨⟨hk.1, hk.2.2⟩, hk.2.1⟩)))); (case aB => exact (by repeat (first | (with_reducible first | exact HB.out | apply below_alloc | apply pw_below_drewN | apply below_drew1) | exact HB.out))); (case aF => exact (fun k_ hk => ⟨(Nat.le_trans (below_size (by repeat (first | (with_reducible first | exact HB.out | apply below_alloc | apply pw_below_drewN | apply below_drew1) | exact HB.out))) hk), Kd.fresh' (Kd.R_lt (by (with_reducible repeat (first | apply Kd.R_alloc | apply Kd.R_drewN | apply Kd.R_drew)); exact HO179.out)) k_ hk⟩)); (case aO => exact (by (with_reducible repeat (first | apply Kd.N_alloc | apply Kd.N_drewN | apply Kd.N_drew)); exact Kd.N_mono HO_6.out (fun _ hk => ⟨hk.1.1, hk.1.2⟩))); (case aS => exact (below_size (by repeat (first | (with_reducible first | exact HB.out | apply below_alloc | apply pw_below_drewN | apply below_drew1) | exact HB.out)))); (case aL => have := LMc17.out; omega); intro v184 w22 ho hb hg hat; rw [← Ny183.out] at ho; have n0_ := Aside0.mk (Kd.R_over' (by (with_reducible repeat (first | apply Kd.R_alloc | apply Kd.R_drewN | apply Kd.R_drew)); exact HO179.out) (Kd.N_typed (by (with_reducible repeat (first | apply Kd.N_alloc | apply Kd.N_drewN | apply Kd.N_drew)); exact HO_6.out)) (by decide) hg); have n1_ := Aside0.mk (Kd.N_afterv (ok := (fun k_ => (w.heap.size ≤ k_) ∧ some k_ ≠ (.slice Ao20 y177.length co20 : Value).ownBlock)) (by (with_reducible repeat (first | apply Kd.N_alloc | apply Kd.N_drewN | apply Kd.N_drew)); exact Kd.N_mono HO182.out (fun _ hk => ⟨⟨hk.1, hk.2.2⟩, hk.2.1⟩)) hg hat); have n2_ := Aside0.mk (hb); have n3_ := Aside0.mk (ho); clear HO179; clear HO182; clear HB; clear HO_6; have HO179 := n0_; have HO182 := n1_; have HB := n2_; have HO185 := n3_; clear n0_ n1_ n2_ n3_; clear ho hb hg hat))
            go_roundg k2
            case measure => have := HK1.out; have := HK2.out; omega
            case rel => exact ⟨(y183), (wrap64 (x7_1 + 1)), (by first | rfl | (simp; done) | (simp [*]; done)), H', ⟨by have := HK1.out; have := HK2.out; omega⟩, ⟨by (with_reducible repeat (first | apply Kd.N_alloc | apply Kd.N_drewN | apply Kd.N_drew)); exact Kd.N_mono HO185.out (fun _ hk => hk.1)⟩, ⟨by repeat (first | (with_reducible first | exact HB.out | apply below_alloc | apply pw_below_drewN | apply below_drew1) | exact HB.out)⟩⟩
           ·rw [if_neg c17] at H
            exact absurd H (by simp)
          ·rw [if_neg c15] at H
           exact absurd H (by simp)
         ·rw [if_neg c14] at H
          exact absurd H (by simp)
    ·rw [if_neg c9] at H
     have c9b0 : decide (x7_1 < a1) = false := decide_eq_false c9
     clear c9
     obtain rfl := Option.some.inj H
     go_wp2
     go_ret
     exact ⟨_, by first | rfl | (simp [errW_none, errW_some] <;> rfl) | (simp [*, errW_none, errW_some] <;> rfl), by (with_reducible repeat (first | apply Kd.N_alloc | apply Kd.N_drewN | apply Kd.N_drew)); exact HO_6.out, by repeat (first | (with_reducible first | exact HB.out | apply below_alloc | apply pw_below_drewN | apply below_drew1) | exact HB.out)⟩
end Go.Proofs.Ytajhfkcmfmhnaaa.P
end
section
namespace Go.Proofs.Ytajhfkcmfmhnaaa.P
open Go.RowKit Go.Proofs.YtajhfkcmfmhnaaaW.PrintWords Go.Proofs.YtajhfkcmfmhnaaaW.PrintLast Go.Proofs.YtajhfkcmfmhnaaaW.PrintMore
attribute [local go_sem] max2_int min2_int max_two min_two max_three min_three max_four min_four   -- for this text's walks alone
set_option linter.unusedVariables false
set_option linter.unusedSimpArgs false
mutual
def vivariumref10_less.l0 : Nat → List Int → List Int → Int → Option (Bool)
 | 0, _, _, _ => none
 | k + 1, x0, x1, x5 => if x5 < (x0.length : Int) then (vivariumref10_less.j1 k x0 x1 x5 (decide (x5 < (x1.length : Int)))) else (vivariumref10_less.j1 k x0 x1 x5 false)
def vivariumref10_less.j1 : Nat → List Int → List Int → Int → Bool → Option (Bool)
 | 0, _, _, _, _ => none
 | k + 1, x0, x1, x5, x15 => if x15 = true then (if 0 ≤ x5 then (if x5 < (x0.length : Int) then (if x5 < (x1.length : Int) then (if (rd x0 x5) = (rd x1 x5) then (vivariumref10_less.l0 k x0 x1 (wrap64 (x5 + 1))) else (some (decide ((rd x0 x5) < (rd x1 x5))))) else (none)) else (none)) else (none)) else (some (decide ((x0.length : Int) < (x1.length : Int))))
end
def vivariumref10_less.f (k : Nat) (l0 : List Int) (l1 : List Int) : Option (Bool) := vivariumref10_less.l0 k l0 l1 0
set_option maxHeartbeats 8000000 in
set_option maxRecDepth 100000 in
theorem vivariumref10_less.calls (k : Nat) (A0 : Option Addr) (c0 : Nat) (l0 : List Int) (A1 : Option Addr) (c1 : Nat) (l1 : List Int) (r : Bool) (w : World) (hr0 : Kd.C (Kd.int .i64) w A0 l0.length l0) (hc0 : l0.length ≤ c0) (hr1 : Kd.C (Kd.int .i64) w A1 l1.length l1) (hc1 : l1.length ≤ c1) (h : vivariumref10_less.f k l0 l1 = some r) :
  Calls Try.prog 35 #[.slice A0 l0.length c0, .slice A1 l1.length c1] w fun e w' => e = .returned (.bool r) ∧ Drawn0 w w' := by
 have HR0 := Aside0.mk hr0
 have HC0 := Aside0.mk hc0
 clear hr0 hc0
 have HR1 := Aside0.mk hr1
 have HC1 := Aside0.mk hc1
 clear hr1 hc1
 have H : (vivariumref10_less.l0 k l0 l1 0) = some r := h
 clear h
 have H' := Aside0.mk H
 clear H
 go_enter Try.func35, Try.ntmps35
 go_wp2
 repeat (go_quiet (fail); try go_wp2)
 go_loopg [5] k (fun kq v5 w' => ∃ (x5_1 : Int), v5 = .int .i64 x5_1 ∧ Aside0 (vivariumref10_less.l0 kq l0 l1 x5_1 = some r) ∧ Aside0 (kq ≤ k) ∧ Drawn0 w w')
 case atStart => exact ⟨(0), (by first | rfl | (simp; done) | (simp [*]; done)), H', ⟨Nat.le_refl _⟩, by repeat (first | exact Drawn0.refl _ | apply Drawn0.step)⟩
 case round =>
  clear H'
  try clear c1
  try clear p2
  obtain ⟨x5_1, rfl, HA, HK1, ⟨m1, rfl⟩⟩ := hrel
  cases gk with
  | zero => exact absurd HA.out (by simp [vivariumref10_less.l0])
  | succ k1 =>
   have H := HA.out
   clear HA
   simp only [vivariumref10_less.l0] at H
   have HC3 := Aside0.mk H
   clear H
   go_upto_region 2 with (fail)
   repeat (go_quiet (fail); go_upto_region 2 with (fail))
   go_cut [15] (fun v15 wc => ∃ (kq : Nat) (x15_2 : Bool), v15 = .bool x15_2 ∧ Aside0 (vivariumref10_less.j1 kq l0 l1 x5_1 x15_2 = some r) ∧ Aside0 (kq ≤ k1) ∧ Drawn0 w wc)
   case first =>
    have H := HC3.out
    clear HC3
    by_cases c4 : x5_1 < (l0.length : Int)
    ·rw [if_pos c4] at H
     have c4b0 : decide (x5_1 < (l0.length : Int)) = true := decide_eq_true c4
     clear c4
     (first | rw [c4b0] | (simp only [i64_w, i32_w]; rw [c4b0]) | skip)
     have H' := Aside0.mk H
     clear H
     go_wp2
     repeat (go_quiet (fail); try go_wp2)
     go_meet
     case rel => exact ⟨_, (decide (x5_1 < (l1.length : Int))), (by first | rfl | (simp; done) | (simp [*]; done)), H', ⟨by have := HK1.out; first | omega | exact Nat.le_refl _⟩, by repeat (first | exact Drawn0.refl _ | apply Drawn0.step)⟩
    ·rw [if_neg c4] at H
     have c4b0 : decide (x5_1 < (l0.length : Int)) = false := decide_eq_false c4
     clear c4
     (first | rw [c4b0] | (simp only [i64_w, i32_w]; rw [c4b0]) | skip)
     have H' := Aside0.mk H
     clear H
     go_wp2
     repeat (go_quiet (fail); try go_wp2)
     go_meet
     case rel => exact ⟨_, (false), (by first | rfl | (simp; done) | (simp [*]; done)), H', ⟨by have := HK1.out; first | omega | exact Nat.le_refl _⟩, by repeat (first | exact Drawn0.refl _ | apply Drawn0.step)⟩
   case rest =>
    clear HC3
    try clear c1
    try clear p2
    try clear c3
    try clear c4
    try clear c4b0
    try clear p2
    obtain ⟨kq, x15_2, rfl, HA, HJ2, ⟨mc2, rfl⟩⟩ := hcut
    cases kq with
    | zero => exact absurd HA.out (by simp [vivariumref10_less.j1])
    | succ kj2 =>
     have H := HA.out
     clear HA
     simp only [vivariumref10_less.j1] at H
     by_cases c5 : x15_2 = true
     ·subst c5
      have H1 : (if 0 ≤ x5_1 then (if x5_1 < (l0.length : Int) then (if x5_1 < (l1.length : Int) then (if (rd l0 x5_1) = (rd l1 x5_1) then (vivariumref10_less.l0 kj2 l0 l1 (wrap64 (x5_1 + 1))) else (some (decide ((rd l0 x5_1) < (rd l1 x5_1))))) else (none)) else (none)) else (none)) = some r := by rw [if_pos rfl] at H; exact H
      clear H
      have H := H1
      clear H1
      by_cases c6 : 0 ≤ x5_1
      ·rw [if_pos c6] at H
       have c6b0 : decide (0 ≤ x5_1) = true := decide_eq_true c6
       clear c6
       by_cases c7 : x5_1 < (l0.length : Int)
       ·rw [if_pos c7] at H
        have c7b0 : decide (x5_1 < (l0.length : Int)) = true := decide_eq_true c7
        clear c7
        by_cases c8 : x5_1 < (l1.length : Int)
        ·rw [if_pos c8] at H
         have c8b0 : decide (x5_1 < (l1.length : Int)) = true := decide_eq_true c8
         clear c8
         by_cases c9 : (rd l0 x5_1) = (rd l1 x5_1)
         ·rw [if_pos c9] at H
          have c9b0 : ((rd l0 x5_1) == (rd l1 x5_1)) = true := beq_iff_eq.mpr c9
          have c9b1 : ((rd l0 x5_1) != (rd l1 x5_1)) = false := bne_eq_false_iff_eq.mpr c9
          clear c9
          have H' := Aside0.mk H
          clear H
          have p186 : 0 ≤ (x5_1 : Int) := of_decide_eq_true (by first | (with_reducible assumption) | assumption)
          have q186 : x5_1 < (l0.length : Int) := of_decide_eq_true (by first | (with_reducible assumption) | assumption)
          obtain ⟨ad186, e186, hx186_0⟩ := Kd.at_int HR0.out x5_1 p186 q186
          cases e186
          replace p186 := eq_true p186
          replace q186 := eq_true q186
          have p187 : 0 ≤ (x5_1 : Int) := of_decide_eq_true (by first | (with_reducible assumption) | assumption)
          have q187 : x5_1 < (l1.length : Int) := of_decide_eq_true (by first | (with_reducible assumption) | assumption)
          obtain ⟨ad187, e187, hx187_0⟩ := Kd.at_int HR1.out x5_1 p187 q187
          cases e187
          replace p187 := eq_true p187
          replace q187 := eq_true q187
          go_wp2
          repeat (go_quiet (fail); try go_wp2)
          go_roundg kj2
          case measure => have := HK1.out; have := HJ2.out; omega
          case rel => exact ⟨(wrap64 (x5_1 + 1)), (by first | rfl | (simp; done) | (simp [*]; done)), H', ⟨by have := HK1.out; have := HJ2.out; omega⟩, by repeat (first | exact Drawn0.refl _ | apply Drawn0.step)⟩
         ·rw [if_neg c9] at H
          have c9b0 : ((rd l0 x5_1) == (rd l1 x5_1)) = false := beq_eq_false_iff_ne.mpr c9
          have c9b1 : ((rd l0 x5_1) != (rd l1 x5_1)) = true := bne_iff_ne.mpr c9
          obtain rfl := Option.some.inj H
          have p186 : 0 ≤ (x5_1 : Int) := of_decide_eq_true (by first | (with_reducible assumption) | assumption)
          have q186 : x5_1 < (l0.length : Int) := of_decide_eq_true (by first | (with_reducible assumption) | assumption)
          obtain ⟨ad186, e186, hx186_0⟩ := Kd.at_int HR0.out x5_1 p186 q186
          cases e186
          replace p186 := eq_true p186
          replace q186 := eq_true q186
          have p187 : 0 ≤ (x5_1 : Int) := of_decide_eq_true (by first | (with_reducible assumption) | assumption)
          have q187 : x5_1 < (l1.length : Int) := of_decide_eq_true (by first | (with_reducible assumption) | assumption)
          obtain ⟨ad187, e187, hx187_0⟩ := Kd.at_int HR1.out x5_1 p187 q187
          cases e187
          replace p187 := eq_true p187
          replace q187 := eq_true q187
          have p188 : 0 ≤ (x5_1 : Int) := of_decide_eq_true (by first | (with_reducible assumption) | assumption)
          have q188 : x5_1 < (l0.length : Int) := of_decide_eq_true (by first | (with_reducible assumption) | assumption)
          obtain ⟨ad188, e188, hx188_0⟩ := Kd.at_int HR0.out x5_1 p188 q188
          obtain rfl : ad186 = ad188 := (by injection e188)
          replace p188 := eq_true p188
          replace q188 := eq_true q188
          have p189 : 0 ≤ (x5_1 : Int) := of_decide_eq_true (by first | (with_reducible assumption) | assumption)
          have q189 : x5_1 < (l1.length : Int) := of_decide_eq_true (by first | (with_reducible assumption) | assumption)
          obtain ⟨ad189, e189, hx189_0⟩ := Kd.at_int HR1.out x5_1 p189 q189
          obtain rfl : ad187 = ad189 := (by injection e189)
          replace p189 := eq_true p189
          replace q189 := eq_true q189
          go_wp2
          repeat (go_quiet (fail); try go_wp2)
          go_ret
          exact ⟨by first | rfl | (simp; done) | (simp [*]; done), by repeat (first | exact Drawn0.refl _ | apply Drawn0.step)⟩
        ·rw [if_neg c8] at H
         exact absurd H (by simp)
       ·rw [if_neg c7] at H
        exact absurd H (by simp)
      ·rw [if_neg c6] at H
       exact absurd H (by simp)
     ·replace c5 := Bool.eq_false_iff.mpr c5
      subst c5
      have H1 : (some (decide ((l0.length : Int) < (l1.length : Int)))) = some r := by rw [if_neg (show ¬ (false = true) by decide)] at H; exact H
      clear H
      have H := H1
      clear H1
      obtain rfl := Option.some.inj H
      go_wp2
      repeat (go_quiet (fail); try go_wp2)
      go_ret
      exact ⟨by first | rfl | (simp; done) | (simp [*]; done), by repeat (first | exact Drawn0.refl _ | apply Drawn0.step)⟩
end Go.Proofs.Ytajhfkcmfmhnaaa.P
end
section
namespace Go.Proofs.Ytajhfkcmfmhnaaa.L
open Go.RowKit Go.Proofs.Ytajhfkcmfmhnaaa.P Go.Proofs.YtajhfkcmfmhnaaaW.PrintWords Go.Proofs.YtajhfkcmfmhnaaaW.PrintLast Go.Proofs.YtajhfkcmfmhnaaaW.PrintMore
/-- Row i holds the numbers xss[i]; no two lie in one block. -/
structure Inn (w : World) (base : Nat) (us : List Value) (xss : List (List Int)) : Prop where
 len : us.length = xss.length
 row : ∀ (i : Nat) (u : Value) (xs : List Int), us[i]? = some u → xss[i]? = some xs → w.ownsRow base 3 1 u xs.length (nums .i64 xs)
 blk : ∀ u ∈ us, ∃ g, u.ownBlock = some g
 sep : us.Pairwise fun a b => a.ownBlock ≠ b.ownBlock
/-- v is a row of these rows. -/
structure LL (w : World) (base : Nat) (v : Value) (us : List Value) (xss : List (List Int)) : Prop where
 out : w.ownsRow base 28 1 v us.length us
 inn : Inn w base us xss
theorem Inn.nil (w : World) (base : Nat) : Inn w base [] [] := ⟨rfl, fun i u xs h => by simp at h, fun u h => by simp at h, List.Pairwise.nil⟩
theorem LL.nil (w : World) (base : Nat) : LL w base (.slice none 0 0) [] [] := ⟨World.ownsRow_nil _ _ _ _, Inn.nil _ _⟩
theorem ne_of_own {w : World} {b b' : Nat} {s s' n n' : Nat} {v v' : Value} {xs xs' : List Value} (h : w.ownsRow b 28 s v n xs) (h' : w.ownsRow b' 3 s' v' n' xs') : v'.ownBlock = none ∨ v'.ownBlock ≠ v.ownBlock :=
 own_type_ne h' h (by decide)
theorem Inn.map {w w1 : World} {base : Nat} {us : List Value} {xss : List (List Int)} (h : Inn w base us xss) (hm : ∀ (u : Value) (xs : List Int), w.ownsRow base 3 1 u xs.length (nums .i64 xs) → w1.ownsRow base 3 1 u xs.length (nums .i64 xs)) : Inn w1 base us xss :=
 ⟨h.len, fun i u xs hu hx => hm u xs (h.row i u xs hu hx), h.blk, h.sep⟩
theorem Inn.below {w w1 : World} {base : Nat} {us : List Value} {xss : List (List Int)} (h : Inn w base us xss) (hb : Below w.heap.size w w1) : Inn w1 base us xss := h.map fun _ _ ho => pw_own_below ho hb
theorem Inn.lower {w : World} {base base' : Nat} {us : List Value} {xss : List (List Int)} (h : Inn w base us xss) (hb : base' ≤ base) : Inn w base' us xss := ⟨h.len, fun i u xs hu hx => own_weaken (h.row i u xs hu hx) hb, h.blk, h.sep⟩
theorem LL.below {w w1 : World} {base : Nat} {v : Value} {us : List Value} {xss : List (List Int)} (h : LL w base v us xss) (hb : Below w.heap.size w w1) : LL w1 base v us xss := ⟨pw_own_below h.out hb, h.inn.below hb⟩
theorem LL.lower {w : World} {base base' : Nat} {v : Value} {us : List Value} {xss : List (List Int)} (h : LL w base v us xss) (hb : base' ≤ base) : LL w base' v us xss := ⟨own_weaken h.out hb, h.inn.lower hb⟩
theorem Inn.one {w : World} {base : Nat} {u : Value} {xs : List Int} (h : w.ownsRow base 3 1 u xs.length (nums .i64 xs)) (hb : ∃ g, u.ownBlock = some g) : Inn w base [u] [xs] := by
 refine ⟨rfl, fun i u' xs' h1 h2 => ?_, fun u' hu => ?_, List.pairwise_singleton _ _⟩
 ·cases i with
  | zero =>
   simp only [List.getElem?_cons_zero, Option.some.injEq] at h1 h2
   subst h1; subst h2; exact h
  | succ i => simp at h1
 ·rw [List.mem_singleton] at hu; subst hu; exact hb
theorem Inn.app {w : World} {base : Nat} {us us2 : List Value} {xss xss2 : List (List Int)} (h : Inn w base us xss) (h2 : Inn w base us2 xss2) (hne : ∀ a ∈ us, ∀ b ∈ us2, a.ownBlock ≠ b.ownBlock) : Inn w base (us ++ us2) (xss ++ xss2) := by
 refine ⟨by simp [h.len, h2.len], fun i u xs h3 h4 => ?_, fun u hu => ?_, List.pairwise_append.2 ⟨h.sep, h2.sep, hne⟩⟩
 ·rcases Nat.lt_or_ge i us.length with hi | hi
  ·rw [List.getElem?_append_left hi] at h3
   rw [List.getElem?_append_left (by rw [← h.len]; exact hi)] at h4
   exact h.row i u xs h3 h4
  ·rw [List.getElem?_append_right hi] at h3
   rw [List.getElem?_append_right (by rw [← h.len]; exact hi), ← h.len] at h4
   exact h2.row _ u xs h3 h4
 ·rcases List.mem_append.1 hu with hu | hu
  ·exact h.blk u hu
  ·exact h2.blk u hu
theorem Inn.take {w : World} {base : Nat} {us : List Value} {xss : List (List Int)} (h : Inn w base us xss) (k : Nat) : Inn w base (us.take k) (xss.take k) := by
 refine ⟨by simp [h.len], fun i u xs h1 h2 => ?_, fun u hu => h.blk u (List.mem_of_mem_take hu), h.sep.sublist (List.take_sublist _ _)⟩
 rcases Nat.lt_or_ge i k with hi | hi
 ·rw [List.getElem?_take_of_lt hi] at h1 h2; exact h.row i u xs h1 h2
 ·rw [List.getElem?_eq_none (by rw [List.length_take]; omega)] at h1; cases h1
theorem Inn.drop {w : World} {base : Nat} {us : List Value} {xss : List (List Int)} (h : Inn w base us xss) (k : Nat) : Inn w base (us.drop k) (xss.drop k) := by
 refine ⟨by simp [h.len], fun i u xs h1 h2 => ?_, fun u hu => h.blk u (List.mem_of_mem_drop hu), h.sep.sublist (List.drop_sublist _ _)⟩
 rw [List.getElem?_drop] at h1 h2
 exact h.row _ u xs h1 h2
theorem Inn.insert {w : World} {base : Nat} {us : List Value} {xss : List (List Int)} {u : Value} {xs : List Int} (h : Inn w base us xss) (hu : w.ownsRow base 3 1 u xs.length (nums .i64 xs)) (hb : ∃ g, u.ownBlock = some g) (hne : ∀ a ∈ us, a.ownBlock ≠ u.ownBlock) (k : Nat) : Inn w base (us.take k ++ u :: us.drop k) (xss.take k ++ xs :: xss.drop k) := by
 have h1 := (Inn.one hu hb).app (h.drop k) (fun a ha c hc => by
  rw [List.mem_singleton] at ha
  subst ha
  exact Ne.symm (hne c (List.mem_of_mem_drop hc)))
 refine (h.take k).app h1 (fun a ha c hc => ?_)
 have hc2 : c ∈ u :: us.drop k := hc
 rcases List.mem_cons.1 hc2 with rfl | hc2
 ·exact hne a (List.mem_of_mem_take ha)
 ·have hs := h.sep
  rw [← List.take_append_drop k us, List.pairwise_append] at hs
  exact hs.2.2 a ha c hc2
/-- The outer row grows by rows. -/
theorem LL.app {w w1 : World} {base : Nat} {v v1 : Value} {us us2 : List Value} {xss xss2 : List (List Int)} (h : LL w base v us xss) (h2 : Inn w base us2 xss2) (hne : ∀ a ∈ us, ∀ b ∈ us2, a.ownBlock ≠ b.ownBlock) (ho : w1.ownsRow base 28 1 v1 (us ++ us2).length (us ++ us2)) (hg : w.grownBy w1 v.ownBlock) : LL w1 base v1 (us ++ us2) (xss ++ xss2) :=
 ⟨ho, (h.inn.app h2 hne).map fun _ _ hr => own_other hr hg (ne_of_own h.out hr)⟩
/-- Rows of one call's begin and rows that came later lie apart. -/
theorem Inn.lt {w : World} {base : Nat} {us : List Value} {xss : List (List Int)} (h : Inn w base us xss) (u : Value) (hu : u ∈ us) (k : Nat) (hk : u.ownBlock = some k) : base ≤ k ∧ k < w.heap.size := by
 obtain ⟨i, hi, e⟩ := List.mem_iff_getElem.1 hu
 have hr := h.row i u (xss[i]'(by rw [← h.len]; exact hi)) (by rw [List.getElem?_eq_getElem hi, e]) (List.getElem?_eq_getElem (by rw [← h.len]; exact hi))
 exact ⟨own_base hr k hk, own_lt hr k hk⟩
/-- What a printed text asks of such a row. -/
theorem LL.R {w : World} {base : Nat} {v : Value} {us : List Value} {xss : List (List Int)} (h : LL w base v us xss) : Kd.R (Kd.slice 3 (Kd.int .i64)) 28 w base (fun _ => True) v xss := by
 refine ⟨fun _ _ => trivial, us, by rw [← h.inn.len]; exact h.out, by simp [Kd.slice, h.inn.len], fun j xs hj => ?_⟩
 have hjl := (List.getElem?_eq_some_iff.1 hj).1
 have hjx : j < us.length := by rw [h.inn.len]; exact hjl
 have hju : us[j]? = some us[j] := List.getElem?_eq_getElem hjx
 have hr := h.inn.row j _ xs hju hj
 refine ⟨us[j], ?_, Kd.R_of_own (enc := Value.int .i64) (h1 := fun _ => rfl) hr (fun k hk => ⟨trivial, fun e => ?_⟩)⟩
 ·show (us.drop (j * 1)).take 1 = [us[j]]
  rw [Nat.mul_one, List.drop_eq_getElem_cons hjx]; rfl
 ·rcases ne_of_own h.out hr with h1 | h1
  ·rw [h1] at hk; cases hk
  ·exact h1 (by rw [hk, e])
theorem infoRow : (Try.prog.info? 28).map (fun i => (i.zero, i.size, i.bytes)) = some (some (.slice none 0 0), 1, 24) := by kernel_rfl
/-- append(out, rows...): the rows' headers lie in a block. -/
theorem app_rows {ops : Array Oper} {rest : List Oper} {o : Oper} {a : Act} {Q : Exit → Act → World → Prop} {w0 W : World} (base : Nat) (hgd : o.guard = none) (s x : Operand) (ho : o.op = .call { callee := .builtin .append, args := #[s, x], argTypes := #[22, 22] })
  (v : Value) (us us2 : List Value) (xss xss2 : List (List Int)) (pb : Nat) (c : Nat) (HL : LL W base v us xss) (hI : Inn W base us2 xss2) (hpb : W.heap[pb]? = some (.cells us2.toArray 28 (0, 0))) (hne : ∀ a ∈ us, ∀ b ∈ us2, a.ownBlock ≠ b.ownBlock) (hlen : us.length + us2.length ≤ 1000000)
  (hs : a.eval s = v) (hx : a.eval x = .slice (some ⟨pb, 0, none⟩) us2.length c) (HB : Below base w0 W) (hbase : base ≤ W.heap.size)
  (h : ∀ v1 w1, LL w1 base v1 (us ++ us2) (xss ++ xss2) → Below base w0 w1 → wpList Try.prog ops Q rest (a.put o.dst v1) w1) : wpList Try.prog ops Q (o :: rest) a W := by
 obtain ⟨i0, hi, hzz⟩ := Option.map_eq_some_iff.1 infoRow
 simp only [Prod.mk.injEq] at hzz
 obtain ⟨hz0, hz1, hz2⟩ := hzz
 refine wpList_append_own W hgd s x 22 ho base 28 i0 (.slice none 0 0) 1 24 Try.underlying22 hi hz0 hz1 hz2 rfl (by decide) v us.length us hs HL.out ⟨pb, 0, none⟩ us2.length c us2 hx (by simp) (fun j u hu => World.news_of_block hpb j u (by simpa using hu)) (fun u hu => ?_) (by unfold maxLen; omega) (by omega) hbase ?_
 ·obtain ⟨g, hg⟩ := hI.blk u hu
  cases u <;> first | rfl | (simp [Value.ownBlock] at hg)
 ·intro v1 w1 h1 h2 _
  refine h v1 w1 (HL.app hI hne (by rw [List.length_append]; exact h1) h2) (HB.grown h2 hbase (own_base HL.out))
end Go.Proofs.Ytajhfkcmfmhnaaa.L
end
section
namespace Go.Proofs.Ytajhfkcmfmhnaaa.L
open Go.RowKit Go.Proofs.Ytajhfkcmfmhnaaa.P Go.Proofs.YtajhfkcmfmhnaaaW.PrintWords Go.Proofs.YtajhfkcmfmhnaaaW.PrintLast Go.Proofs.YtajhfkcmfmhnaaaW.PrintMore
def lessL (a b : List Int) : Bool := (vivariumref10_less.f 40 a b).getD false
/-- How many lists stand ahead of g, from the first on. -/
def posL (g : List Int) : List (List Int) → Nat
 | [] => 0
 | x :: xs => if lessL x g = true then posL g xs + 1 else 0
def addL (all : List (List Int)) (g : List Int) : List (List Int) :=
 if (posL g all < all.length && !lessL g (all.getD (posL g all) [])) = true then all else all.take (posL g all) ++ g :: all.drop (posL g all)
theorem posL_le (g : List Int) : ∀ all : List (List Int), posL g all ≤ all.length
 | [] => by simp [posL]
 | x :: xs => by
  rw [posL]; split
  ·have := posL_le g xs; simp; omega
  ·simp
theorem posL_lt (g : List Int) : ∀ (all : List (List Int)) (i : Nat) (h : i < all.length), i < posL g all → lessL all[i] g = true
 | [], i, h, _ => by simp at h
 | x :: xs, i, h, hp => by
  rw [posL] at hp
  by_cases hx : lessL x g = true
  ·rw [if_pos hx] at hp
   cases i with
   | zero => exact hx
   | succ i => simp only [List.getElem_cons_succ]; exact posL_lt g xs i (by simpa using h) (by omega)
  ·rw [if_neg hx] at hp; omega
theorem posL_at (g : List Int) : ∀ (all : List (List Int)) (h : posL g all < all.length), lessL all[posL g all] g = false
 | [], h => by simp at h
 | x :: xs, h => by
  by_cases hx : lessL x g = true
  ·have e : posL g (x :: xs) = posL g xs + 1 := by rw [posL, if_pos hx]
   simp only [e, List.getElem_cons_succ]
   exact posL_at g xs (by rw [e] at h; simpa using h)
  ·have e : posL g (x :: xs) = 0 := by rw [posL, if_neg hx]
   simp only [e, List.getElem_cons_zero]
   simpa using hx
theorem less_some (a b : List Int) (ha : a.length ≤ 8) : vivariumref10_less.f 40 a b = some (lessL a b) := by
 have h : ∀ (d k : Nat) (x : Int), 0 ≤ x → (a.length : Int) - x ≤ d → 2 * d + 2 ≤ k → ∃ r, vivariumref10_less.l0 k a b x = some r := by
  intro d
  induction d with
  | zero =>
   intro k x h0 h1 hk
   obtain ⟨k, rfl⟩ : ∃ m, k = m + 1 + 1 := ⟨k - 2, by omega⟩
   rw [vivariumref10_less.l0, if_neg (by omega), vivariumref10_less.j1, if_neg (by decide)]
   exact ⟨_, rfl⟩
  | succ d ih =>
   intro k x h0 h1 hk
   obtain ⟨k, rfl⟩ : ∃ m, k = m + 1 + 1 := ⟨k - 2, by omega⟩
   rw [vivariumref10_less.l0]
   by_cases hx : x < (a.length : Int)
   ·rw [if_pos hx, vivariumref10_less.j1]
    by_cases hb : x < (b.length : Int)
    ·rw [if_pos (decide_eq_true hb), if_pos h0, if_pos hx, if_pos hb]
     split
     ·rw [show wrap64 (x + 1) = x + 1 from by unfold wrap64; omega]
      exact ih k (x + 1) (by omega) (by omega) (by omega)
     ·exact ⟨_, rfl⟩
    ·rw [if_neg (by rw [decide_eq_false hb]; decide)]
     exact ⟨_, rfl⟩
   ·rw [if_neg hx, vivariumref10_less.j1, if_neg (by decide)]
    exact ⟨_, rfl⟩
 obtain ⟨r, hr⟩ := h 8 40 0 (by omega) (by omega) (by omega)
 unfold lessL vivariumref10_less.f
 rw [hr]; rfl
theorem own_C {w : World} {base n c : Nat} {A : Option Addr} {xs : List Int} (h : w.ownsRow base 3 1 (.slice A n c) n (nums .i64 xs)) (hn : xs.length = n) : (Kd.int .i64).C w A xs.length xs ∧ xs.length ≤ c := by
 subst hn
 have hR : Kd.R (Kd.int .i64) 3 w base (fun _ => True) (.slice A xs.length c) xs := Kd.R_of_own (enc := Value.int .i64) (h1 := fun _ => rfl) h (fun _ _ => trivial)
 have := Kd.R_reads' hR
 exact ⟨this.2.2, this.2.1⟩
theorem row_some' {w : World} {base n : Nat} {v : Value} {xs : List Value} (h : w.ownsRow base 28 1 v n xs) (hn : 0 < n) : ∃ g c, v = .slice (some ⟨g, 0, none⟩) n c := by
 rcases h.2 with ⟨rfl, h2⟩ | ⟨g, cap, cur, rfl, hg, _⟩
 ·omega
 ·exact ⟨g, cap, rfl⟩
theorem World.grownBy_refl (w : World) (row : Option Nat) : w.grownBy w row := ⟨rfl, rfl, rfl, Nat.le_refl _, fun _ _ _ => rfl⟩
theorem World.grownBy_drewN (w : World) (n : Nat) (row : Option Nat) : w.grownBy (w.drewN n) row := ⟨rfl, rfl, rfl, Nat.le_refl _, fun _ _ _ => rfl⟩
/-- The list with its end moved one place on, from place i on. -/
def shf (U : List Value) (i : Nat) : List Value := U.take (i + 1) ++ (U.drop i).dropLast
theorem shf_length (U : List Value) (i : Nat) (h : i < U.length) : (shf U i).length = U.length := by
 simp [shf]; omega
theorem shf_last {U : List Value} (i : Nat) (h : U.length = i + 1) : shf U i = U := by
 unfold shf
 rw [List.take_of_length_le (by omega)]
 have : (U.drop i).dropLast = [] := by
  apply List.eq_nil_of_length_eq_zero; simp; omega
 rw [this, List.append_nil]
theorem shf_before (U : List Value) (i j : Nat) (hj : j ≤ i) (h : i < U.length) : (shf U i)[j]? = U[j]? := by
 unfold shf
 rw [List.getElem?_append_left (by simp; omega), List.getElem?_take_of_lt (by omega)]
theorem shf_after (U : List Value) (i j : Nat) (hj : i < j) (h : j < U.length) : (shf U i)[j]? = U[j - 1]? := by
 unfold shf
 rw [List.getElem?_append_right (by simp; omega), List.length_take, Nat.min_eq_left (by omega), List.getElem?_dropLast, if_pos (by simp; omega), List.getElem?_drop]
 congr 1
 omega
theorem shf_step (U : List Value) (i : Nat) (x : Value) (hi : 1 ≤ i) (h : i < U.length) (hx : U[i - 1]? = some x) : (shf U i).set i x = shf U (i - 1) := by
 apply List.ext_getElem?
 intro j
 rw [List.getElem?_set]
 rcases Nat.lt_or_ge j U.length with hj | hj
 ·by_cases e : i = j
  ·subst e
   rw [if_pos rfl, if_pos (by rw [shf_length _ _ h]; exact h), shf_after U (i - 1) i (by omega) h, hx]
  ·rw [if_neg e]
   rcases Nat.lt_or_ge j i with h1 | h1
   ·rw [shf_before U i j (by omega) h, shf_before U (i - 1) j (by omega) (by omega)]
   ·rw [shf_after U i j (by omega) hj, shf_after U (i - 1) j (by omega) hj]
 ·have h2 : ¬ i = j := by omega
  rw [if_neg h2, List.getElem?_eq_none (by rw [shf_length _ _ h]; exact hj), List.getElem?_eq_none (by rw [shf_length _ _ (by omega)]; exact hj)]
theorem shf_end (us : List Value) (x g : Value) (p : Nat) (h : p ≤ us.length) : (shf (us ++ [x]) p).set p g = us.take p ++ g :: us.drop p := by
 apply List.ext_getElem?
 intro j
 have hl : (shf (us ++ [x]) p).length = us.length + 1 := by rw [shf_length _ _ (by simp; omega)]; simp
 rw [List.getElem?_set]
 by_cases e : p = j
 ·subst e
  rw [if_pos rfl, if_pos (by omega), List.getElem?_append_right (by rw [List.length_take]; omega)]
  simp [Nat.min_eq_left h]
 ·rw [if_neg e]
  rcases Nat.lt_or_ge j p with h1 | h1
  ·rw [shf_before _ _ _ (by omega) (by simp; omega), List.getElem?_append_left (by omega), List.getElem?_append_left (by simp; omega), List.getElem?_take_of_lt h1]
  ·rcases Nat.lt_or_ge j (us.length + 1) with h2 | h2
   ·rw [shf_after _ _ _ (by omega) (by simp; omega), List.getElem?_append_left (by omega), List.getElem?_append_right (by rw [List.length_take, Nat.min_eq_left h]; omega), List.length_take, Nat.min_eq_left h]
    obtain ⟨d, rfl⟩ : ∃ d, j = p + d + 1 := ⟨j - p - 1, by omega⟩
    rw [show p + d + 1 - p = d + 1 from by omega, List.getElem?_cons_succ, List.getElem?_drop]
    congr 1
   ·rw [List.getElem?_eq_none (by omega), List.getElem?_eq_none (by simp; omega)]
theorem addL_new {all : List (List Int)} {g : List Int} {P : Nat} (hp : posL g all = P) (h : P = all.length ∨ lessL g (all.getD P []) = true) : addL all g = all.take P ++ g :: all.drop P := by
 unfold addL
 rw [hp]
 rw [if_neg]
 rcases h with h | h
 ·rw [decide_eq_false (by omega)]; simp
 ·rw [h]; simp
theorem less_calls (A : Option Addr) (c : Nat) (a : List Int) (B : Option Addr) (d : Nat) (b : List Int) (w : World) (h0 : (Kd.int .i64).C w A a.length a) (hc : a.length ≤ c) (h1 : (Kd.int .i64).C w B b.length b) (hd : b.length ≤ d) (h8 : a.length ≤ 8) :
  Calls Try.prog 35 #[.slice A a.length c, .slice B b.length d] w fun e w' => e = .returned (.bool (lessL a b)) ∧ Drawn0 w w' :=
 vivariumref10_less.calls 40 A c a B d b (lessL a b) w h0 hc h1 hd (less_some a b h8)
def rtrnL (n k i : Nat) : List Int := (List.range i).map fun (j : Nat) => ((j : Int) + k) % n
def rmirL (n k i : Nat) : List Int := (List.range i).map fun (j : Nat) => ((k : Int) - j) % n
theorem rtrnL_len (n k i : Nat) : (rtrnL n k i).length = i := by simp [rtrnL]
theorem rmirL_len (n k i : Nat) : (rmirL n k i).length = i := by simp [rmirL]
theorem rtrnL_succ (n k i : Nat) : rtrnL n k (i + 1) = rtrnL n k i ++ [((i : Int) + k) % n] := by simp [rtrnL, List.range_succ]
theorem rmirL_succ (n k i : Nat) : rmirL n k (i + 1) = rmirL n k i ++ [((k : Int) - i) % n] := by simp [rmirL, List.range_succ]
def rgL (n st : Nat) (mi : Bool) : Nat → List (List Int)
 | 0 => []
 | j + 1 => if mi = true then addL (addL (rgL n st mi j) (rtrnL n (j * st) n)) (rmirL n (j * st) n) else addL (rgL n st mi j) (rtrnL n (j * st) n)
theorem addL_len (all : List (List Int)) (g : List Int) : (addL all g).length ≤ all.length + 1 := by
 unfold addL
 split
 ·omega
 ·have := posL_le g all
  simp; omega
theorem addL_mem {all : List (List Int)} {g x : List Int} (h : x ∈ addL all g) : x ∈ all ∨ x = g := by
 unfold addL at h
 split at h
 ·exact .inl h
 ·rcases List.mem_append.1 h with h | h
  ·exact .inl (List.mem_of_mem_take h)
  ·rcases List.mem_cons.1 h with h | h
   ·exact .inr h
   ·exact .inl (List.mem_of_mem_drop h)
theorem rgL_len (n st : Nat) (mi : Bool) : ∀ j, (rgL n st mi j).length ≤ 2 * j
 | 0 => by simp [rgL]
 | j + 1 => by
  have := rgL_len n st mi j
  rw [rgL]
  have h1 := addL_len (rgL n st mi j) (rtrnL n (j * st) n)
  have h2 := addL_len (addL (rgL n st mi j) (rtrnL n (j * st) n)) (rmirL n (j * st) n)
  split <;> omega
theorem rgL_each (n st : Nat) (mi : Bool) : ∀ j, ∀ x ∈ rgL n st mi j, x.length = n
 | 0 => by simp [rgL]
 | j + 1 => by
  intro x hx
  rw [rgL] at hx
  split at hx
  ·rcases addL_mem hx with h | h
   ·rcases addL_mem h with h | h
    ·exact rgL_each n st mi j x h
    ·rw [h, rtrnL_len]
   ·rw [h, rmirL_len]
  ·rcases addL_mem hx with h | h
   ·exact rgL_each n st mi j x h
   ·rw [h, rtrnL_len]
theorem infoI' : (Try.prog.info? 3).map (fun i => (i.zero, i.size, i.bytes)) = some (some (.int .i64 0), 1, 8) := by kernel_rfl
theorem rrow_some {w : World} {base n : Nat} {v : Value} {xs : List Int} (h : w.ownsRow base 3 1 v n (nums .i64 xs)) (hn : 0 < n) : ∃ g c, v = .slice (some ⟨g, 0, none⟩) n c ∧ base ≤ g := by
 rcases h.2 with ⟨rfl, h2⟩ | ⟨g, cap, cur, rfl, hg, _⟩
 ·omega
 ·exact ⟨g, cap, rfl, hg⟩
def RSep (a b : Value) : Prop := a.ownBlock = none ∨ a.ownBlock ≠ b.ownBlock
theorem rsep_symm {a b : Value} (h : RSep a b) : RSep b a := by
 unfold RSep at *
 rcases h with h | h
 ·by_cases e : b.ownBlock = none
  ·exact .inl e
  ·exact .inr (by rw [h]; exact e)
 ·exact .inr (Ne.symm h)
theorem rsep_step {a a' b : Value} {N : Nat} (h : RSep a b) (hat : a'.ownBlock = a.ownBlock ∨ ∃ g, a'.ownBlock = some g ∧ N ≤ g) (hlt : ∀ k, b.ownBlock = some k → k < N) : RSep a' b := by
 unfold RSep at *
 rcases hat with e | ⟨g, e, hg⟩
 ·rw [e]; exact h
 ·refine .inr fun e2 => ?_
  have := hlt g (by rw [← e2, e])
  omega
end Go.Proofs.Ytajhfkcmfmhnaaa.L
end

/- Of all cells and every rectangle both texts are the document's, or the error; the list stays, and may be written over. -/
import Derived.Test.YtfgonglcmgahkabPlainRefH
import Derived.Test.YtfgonglcmgahkabPlainAlive
import Derived.OpenShut
import Derived.Test.YtfgonglcmgahkabPm11
set_option linter.unusedVariables false
namespace Go.Proofs.Ytfgonglcmgahkab.Pure
open Go.RowKit Go.Proofs.Ytfgonglcmgahkab.P Go.Proofs.YtfgonglcmgahkabW.PrintWords Go.Proofs.YtfgonglcmgahkabW.PrintLast Go.Proofs.YtfgonglcmgahkabW.PrintMore Go.Proofs.Ytfgonglcmgahkab.L
def marks (n : Nat) : List Cl := (List.range n).map fun i : Nat => (⟨-77, (i : Int), 9⟩ : Cl)
theorem marks_succ (n : Nat) : marks (n + 1) = marks n ++ [⟨-77, (n : Int), 9⟩] := by unfold marks; rw [List.range_succ, List.map_append]; rfl
theorem marks_len (n : Nat) : (marks n).length = n := by unfold marks; rw [List.length_map, List.length_range]
theorem marks_get (n i : Nat) (h : i < n) (h2 : i < (marks n).length) : (marks n)[i] = ⟨-77, (i : Int), 9⟩ := by
 simp only [marks, List.getElem_map, List.getElem_range]
theorem lent_go (C : List Cl) (hl : C.length ≤ 100000) : ∀ (d i : Nat), i + d = 70 → Evn (fun k => vivariumlaw23_lent.m0 k C (C ++ marks i) (i : Int)) (C ++ marks 70)
 | 0, i, h => by
  obtain rfl : i = 70 := by omega
  refine Evn.const.step (g' := fun _ => some (C ++ marks 70)) (fun k => ?_)
  have hlen : (C ++ marks 70).length = C.length + 70 := by rw [List.length_append, marks_len]
  simp only [vivariumlaw23_lent.m0]
  rw [if_neg (by omega), if_pos (by omega), if_pos (by omega)]
 | d + 1, i, h => by
  have ih := lent_go C hl d (i + 1) (by omega)
  have e : wrap64 ((i : Int) + 1) = ((i + 1 : Nat) : Int) := w64 (by omega) (by omega)
  have hlen : (C ++ marks i).length = C.length + i := by rw [List.length_append, marks_len]
  rw [marks_succ, ← List.append_assoc] at ih
  refine ih.step (fun k => ?_)
  simp only [vivariumlaw23_lent.m0]
  rw [if_pos (by omega), if_pos (by omega), e]
theorem lent_go0 (C : List Cl) (hl : C.length ≤ 100000) : ∀ (d i : Nat), i + d = 70 → Evn (fun k => vivariumlaw23_lent.l0 k C (C ++ marks i) (i : Int)) C
 | 0, i, h => by
  obtain rfl : i = 70 := by omega
  refine Evn.const.step (g' := fun _ => some C) (fun k => ?_)
  have hlen : (C ++ marks 70).length = C.length + 70 := by rw [List.length_append, marks_len]
  simp only [vivariumlaw23_lent.l0]
  rw [if_neg (by omega), if_pos (by omega), if_pos (by omega), Int.toNat_natCast, List.take_left' rfl]
 | d + 1, i, h => by
  have ih := lent_go0 C hl d (i + 1) (by omega)
  have e : wrap64 ((i : Int) + 1) = ((i + 1 : Nat) : Int) := w64 (by omega) (by omega)
  have hlen : (C ++ marks i).length = C.length + i := by rw [List.length_append, marks_len]
  rw [marks_succ, ← List.append_assoc] at ih
  refine ih.step (fun k => ?_)
  simp only [vivariumlaw23_lent.l0]
  rw [if_pos (by omega), if_pos (by omega), e]
theorem lent_ev (C : List Cl) (hl : C.length ≤ 100000) : Evn (fun k => vivariumlaw23_lent.f k C) C := by
 refine (lent_go0 C hl 70 0 (by omega)).congr (fun k => ?_)
 unfold vivariumlaw23_lent.f
 rw [if_pos (by rw [List.length_nil]; omega)]
 rw [show marks 0 = [] from rfl, List.nil_append, List.append_nil]
 rfl
theorem lent2_ev (C : List Cl) (hl : C.length ≤ 100000) : Evn (fun k => vivariumlaw23_lent.f2 k C) (C ++ marks 70) := by
 refine (lent_go C hl 70 0 (by omega)).congr (fun k => ?_)
 unfold vivariumlaw23_lent.f2
 rw [if_pos (by rw [List.length_nil]; omega)]
 rw [show marks 0 = [] from rfl, List.nil_append, List.append_nil]
 rfl
theorem same_ev (l : List Cl) (hl : l.length ≤ 1000000) : Evn (fun k => vivariumlaw23_same.f k l l) true := by
 have : ∀ (d i : Nat), i + d = l.length → Evn (fun k => vivariumlaw23_same.l0 k l l (i : Int)) true := by
  intro d
  induction d with
  | zero =>
   intro i h
   refine Evn.const.step (g' := fun _ => some true) (fun k => ?_)
   simp only [vivariumlaw23_same.l0]
   rw [if_neg (by omega)]
  | succ d ih =>
   intro i h
   have e : wrap64 ((i : Int) + 1) = ((i + 1 : Nat) : Int) := w64 (by omega) (by omega)
   refine (ih (i + 1) (by omega)).step (fun k => ?_)
   simp only [vivariumlaw23_same.l0]
   rw [e, if_pos (by omega), if_pos (by omega), if_pos (by omega)]
   simp only [beq_self_eq_true, Bool.not_true, Bool.or_self, Bool.false_eq_true, if_false]
 refine (this l.length 0 (by omega)).congr (fun k => ?_)
 unfold vivariumlaw23_same.f
 rw [if_pos rfl]
 rfl
theorem kept_go (C : List Cl) (hl : C.length ≤ 100000) : ∀ (d i : Nat), i + d = 70 → Evn (fun k => vivariumlaw23_kept.l0 k C (C ++ marks 70) (i : Int)) true
 | 0, i, h => by
  refine Evn.const.step (g' := fun _ => some true) (fun k => ?_)
  simp only [vivariumlaw23_kept.l0]
  rw [if_neg (by omega)]
 | d + 1, i, h => by
  have ih := kept_go C hl d (i + 1) (by omega)
  have e : wrap64 ((i : Int) + 1) = ((i + 1 : Nat) : Int) := w64 (by omega) (by omega)
  have e2 : wrap64 ((C.length : Int) + (i : Int)) = ((C.length + i : Nat) : Int) := w64 (by omega) (by omega)
  have hlen : (C ++ marks 70).length = C.length + 70 := by rw [List.length_append, marks_len]
  have hg : (C ++ marks 70)[C.length + i]'(by omega) = ⟨-77, (i : Int), 9⟩ := by
   rw [List.getElem_append_right (Nat.le_add_right _ _)]
   have := marks_get 70 i (by omega) (by rw [marks_len]; omega)
   simp only [Nat.add_sub_cancel_left]
   exact this
  refine ih.step (fun k => ?_)
  simp only [vivariumlaw23_kept.l0]
  rw [e2, rd_get _ _ (by omega), hg, if_pos (by omega), if_pos (by omega), if_pos (by omega), e]
  simp only [beq_self_eq_true, Bool.not_true, Bool.or_self, Bool.false_eq_true, if_false]
theorem kept_ev (C : List Cl) (hl : C.length ≤ 100000) : Evn (fun k => vivariumlaw23_kept.f2 k (C ++ marks 70) C C) true := by
 have hlen : (C ++ marks 70).length = C.length + 70 := by rw [List.length_append, marks_len]
 have e2 : wrap64 ((C.length : Int) + 70) = ((C.length + 70 : Nat) : Int) := w64 (by omega) (by omega)
 refine ((same_ev C (by omega)).bind (f := fun k t182 => (if t182 = true then (if 0 ≤ (wrap64 ((C.length : Int) + 70)) then (if (wrap64 ((C.length : Int) + 70)) ≤ ((C ++ marks 70).length : Int) then (vivariumlaw23_kept.l0 k C ((C ++ marks 70).take ((wrap64 ((C.length : Int) + 70)) : Int).toNat) 0) else (none)) else (none)) else (some false))) ?_)
 refine (kept_go C hl 70 0 (by omega)).congr (fun k => ?_)
 rw [if_pos rfl, e2, if_pos (by omega), if_pos (by omega), Int.toNat_natCast, List.take_of_length_le (by omega)]
 rfl
/-- A cell that is written over. -/
def over (c : Cl) : Cl := ⟨wrap64 (Int.tdiv c.f0 2), c.f1, Go.bits .xor .u8 c.f2 1⟩
theorem over_go (C : List Cl) (hl : C.length ≤ 100000) (X Y W H : Int) (hT : Evn (fun k => ((vivariumlaw23_lent.f k (C.map over)).bind fun t208 => ((vivariumref23_Write.f k t208 X Y W H).bind fun bt211 => ((plain_Write.f (C.map over) X Y W H).bind fun bt213 => (if bt213.1.toList = bt211.1.toList then (some (bt213.2 == bt211.2)) else (some false)))))) true) : ∀ (d i : Nat), i + d = C.length → Evn (fun k => vivariumlaw23_PlainWrites.l0 k ((C.take i).map over ++ C.drop i) (i : Int) X Y W H) true
 | 0, i, h => by
  rw [List.take_of_length_le (by omega), List.drop_of_length_le (by omega), List.append_nil]
  refine hT.step (fun k => ?_)
  simp only [vivariumlaw23_PlainWrites.l0]
  rw [if_neg (by rw [List.length_map]; omega)]
 | d + 1, i, h => by
  have hi : i < C.length := by omega
  have ih := over_go C hl X Y W H hT d (i + 1) (by omega)
  have e : wrap64 ((i : Int) + 1) = ((i + 1 : Nat) : Int) := w64 (by omega) (by omega)
  have ht : C.take (i + 1) = C.take i ++ [C[i]] := by rw [List.take_add_one, List.getElem?_eq_getElem hi]; rfl
  have hd : C.drop i = C[i] :: C.drop (i + 1) := List.drop_eq_getElem_cons hi
  have hml : ((C.take i).map over).length = i := by rw [List.length_map, List.length_take]; omega
  have hset : ∀ (a b : Cl), ((C.take i).map over ++ a :: C.drop (i + 1)).set i b = (C.take i).map over ++ b :: C.drop (i + 1) := fun a b => by
   rw [List.set_append_right _ _ (by omega), hml, Nat.sub_self]
   rfl
  have hget : ∀ (a : Cl), rd_T35 ((C.take i).map over ++ a :: C.drop (i + 1)) (i : Int) = a := fun a => by
   rw [rd_get _ i (by rw [List.length_append, List.length_cons]; omega)]
   rw [List.getElem_append_right (by omega)]
   simp only [hml, Nat.sub_self, List.getElem_cons_zero]
  have hlen : ((C.take i).map over ++ C.drop i).length = C.length := by rw [List.length_append, hml, List.length_drop]; omega
  rw [ht, List.map_append, List.append_assoc] at ih
  refine ih.step (fun k => ?_)
  simp only [vivariumlaw23_PlainWrites.l0]
  rw [hlen, if_pos (by omega), if_pos (by omega), Option.bind_some, hd, hget, Int.toNat_natCast, hset, hget, hset, e]
  rfl
theorem j1_ev (C : List Cl) (X Y W H : Int) (h : Evn (fun k => vivariumlaw23_PlainWrites.l0 k C 0 X Y W H) true) : Evn (fun k => vivariumlaw23_PlainWrites.j1 k C false X Y W H) true := by
 refine h.step (fun k => ?_)
 simp only [vivariumlaw23_PlainWrites.j1]
 rw [if_neg (by decide)]
def wfC (c : Cl) : Bool := (Lit.int .i64 c.f0).wf && ((Lit.int .i64 c.f1).wf && (Lit.int .u8 c.f2).wf)
theorem ok_wf {C : List Cl} (h : ∀ c ∈ C, wfC c = true) : ∀ c ∈ C, okC c := fun c hc => by
 have := h c hc
 unfold wfC at this
 simp only [Bool.and_eq_true] at this
 exact Go.bounds_u8 this.2.2
theorem all_wf {C : List Cl} (h : ∀ c ∈ C, wfC c = true) : (C.all fun x => (Lit.int .i64 x.f0).wf && ((Lit.int .i64 x.f1).wf && (Lit.int .u8 x.f2).wf)) = true := List.all_eq_true.2 h
theorem over_wf {C : List Cl} (h : ∀ c ∈ C, wfC c = true) : ∀ c ∈ C.map over, wfC c = true := fun c hc => by
 obtain ⟨d, hd, rfl⟩ := List.mem_map.1 hc
 have := h d hd
 unfold wfC at this ⊢
 simp only [Bool.and_eq_true] at this ⊢
 exact ⟨wrap64_wf _, this.2.1, Go.wf_bits .xor .u8 d.f2 1⟩
theorem size_few (X Y W H : Int) (s : Int) (h : vivariumref23_Size.f X Y W H = some s) (hs : s ≤ 3000 ∨ 2097152 < s) : fewP W H := by
 rintro w h' rfl rfl hw hh
 have hm : w * h' ≤ 65536 * 65536 := Nat.mul_le_mul hw hh
 unfold vivariumref23_Size.f at h
 rw [if_neg (by omega), if_neg (by omega), if_neg (by omega), if_neg (by omega), ← Int.natCast_mul] at h
 have e : wrap64 ((w * h' : Nat) : Int) = ((w * h' : Nat) : Int) := w64 (by omega) (by omega)
 rw [e] at h
 have := Option.some.inj h
 omega
theorem size_some (X Y W H : Int) : ∃ s, vivariumref23_Size.f X Y W H = some s := by
 unfold vivariumref23_Size.f
 by_cases c0 : W < 0
 ·rw [if_pos c0]; exact ⟨_, rfl⟩
 ·rw [if_neg c0]
  by_cases c1 : W > 65536
  ·rw [if_pos c1]; exact ⟨_, rfl⟩
  ·rw [if_neg c1]
   by_cases c2 : H < 0
   ·rw [if_pos c2]; exact ⟨_, rfl⟩
   ·rw [if_neg c2]
    by_cases c3 : H > 65536
    ·rw [if_pos c3]; exact ⟨_, rfl⟩
    ·rw [if_neg c3]; exact ⟨_, rfl⟩
theorem main_ev (C : List Cl) (hl : C.length ≤ 2000) (hwf : ∀ c ∈ C, wfC c = true) (X Y W H : Int) (hX : (Lit.int .i64 X).wf = true) (hY : (Lit.int .i64 Y).wf = true) (hW : (Lit.int .i64 W).wf = true) (hH : (Lit.int .i64 H).wf = true) (hs : fewP W H) :
  Evn (fun k => vivariumlaw23_PlainWrites.j0 k C true false X Y W H) true := by
 obtain ⟨p, p1, p2⟩ := write_ev C (ok_wf hwf) (by omega) (all_wf hwf) X Y W H hX hY hW hH hs
 obtain ⟨q, q1, q2⟩ := halves_ev C (ok_wf hwf) (by omega) (all_wf hwf) X Y W H hX hY hW hH hs
 obtain ⟨o, o1, o2⟩ := write_ev (C.map over) (ok_wf (over_wf hwf)) (by rw [List.length_map]; omega) (all_wf (over_wf hwf)) X Y W H hX hY hW hH hs
 have hT : Evn (fun k => ((vivariumlaw23_lent.f k (C.map over)).bind fun t208 => ((vivariumref23_Write.f k t208 X Y W H).bind fun bt211 => ((plain_Write.f (C.map over) X Y W H).bind fun bt213 => (if bt213.1.toList = bt211.1.toList then (some (bt213.2 == bt211.2)) else (some false)))))) true := by
  refine (lent_ev (C.map over) (by rw [List.length_map]; omega)).bind (f := fun k t208 => ((vivariumref23_Write.f k t208 X Y W H).bind fun bt211 => ((plain_Write.f (C.map over) X Y W H).bind fun bt213 => (if bt213.1.toList = bt211.1.toList then (some (bt213.2 == bt211.2)) else (some false))))) ?_
  refine o2.bind (f := fun k bt211 => ((plain_Write.f (C.map over) X Y W H).bind fun bt213 => (if bt213.1.toList = bt211.1.toList then (some (bt213.2 == bt211.2)) else (some false)))) ?_
  refine Evn.const.congr (fun k => ?_)
  rw [o1, Option.bind_some, if_pos rfl]
  simp
 have h0 := over_go C (by omega) X Y W H hT C.length 0 (by omega)
 rw [List.take_zero, List.drop_zero] at h0
 have h1 := j1_ev C X Y W H h0
 obtain ⟨K1, k1⟩ := lent_ev C (by omega)
 obtain ⟨K2, k2⟩ := lent2_ev C (by omega)
 obtain ⟨K3, k3⟩ := p2
 obtain ⟨K4, k4⟩ := q2
 obtain ⟨K5, k5⟩ := kept_ev C (by omega)
 obtain ⟨K6, k6⟩ := h1
 refine ⟨K1 + K2 + K3 + K4 + K5 + K6 + 1, fun k hk => ?_⟩
 obtain ⟨k, rfl⟩ : ∃ m, k = m + 1 := ⟨k - 1, by omega⟩
 have a1 := k1 k (by omega)
 have a2 := k2 k (by omega)
 have a3 := k3 k (by omega)
 have a4 := k4 k (by omega)
 have a5 := k5 k (by omega)
 have a6 := k6 k (by omega)
 simp only [vivariumlaw23_PlainWrites.j0, Bool.false_eq_true, if_false, a1, Option.bind_some, p1, a3, q1, a4, a2, Option.getD_some, a5, if_true, Bool.not_true]
 exact a6
theorem PlainWrites (C : List Cl) (hwf : ∀ c ∈ C, wfC c = true) (X Y W H : Int) (hX : (Lit.int .i64 X).wf = true) (hY : (Lit.int .i64 Y).wf = true) (hW : (Lit.int .i64 W).wf = true) (hH : (Lit.int .i64 H).wf = true) : ∃ k, vivariumlaw23_PlainWrites.f k C X Y W H = some true := by
 have ht : Evn (fun k => vivariumlaw23_PlainWrites.j0 k C true true X Y W H) true := by
  refine Evn.const.step (g' := fun _ => some true) (fun k => ?_)
  simp only [vivariumlaw23_PlainWrites.j0, if_true]
 suffices h : Evn (fun k => vivariumlaw23_PlainWrites.f k C X Y W H) true from h.get
 by_cases c0 : (C.length : Int) > 2000
 ·refine ht.congr (fun k => ?_)
  unfold vivariumlaw23_PlainWrites.f
  rw [alive23, Option.bind_some, if_pos c0]
 ·obtain ⟨s, hs⟩ := size_some X Y W H
  by_cases c1 : s > 3000
  ·by_cases c2 : s ≤ 2097152
   ·refine ht.congr (fun k => ?_)
    unfold vivariumlaw23_PlainWrites.f
    rw [alive23, Option.bind_some, if_neg c0, hs, Option.bind_some, if_pos c1, Option.bind_some, decide_eq_true c2]
   ·refine (main_ev C (by omega) hwf X Y W H hX hY hW hH (size_few X Y W H s hs (.inr (by omega)))).congr (fun k => ?_)
    unfold vivariumlaw23_PlainWrites.f
    rw [alive23, Option.bind_some, if_neg c0, hs, Option.bind_some, if_pos c1, Option.bind_some, decide_eq_false c2]
  ·refine (main_ev C (by omega) hwf X Y W H hX hY hW hH (size_few X Y W H s hs (.inl (by omega)))).congr (fun k => ?_)
   unfold vivariumlaw23_PlainWrites.f
   rw [alive23, Option.bind_some, if_neg c0, hs, Option.bind_some, if_neg c1]
end Go.Proofs.Ytfgonglcmgahkab.Pure

/- The walk of ScanJoined: two ranges over the lines, and the joining between. -/
import Derived.RangeFuncNested
import Derived.RangeFuncBound
import Derived.RangeFuncCalls
import Derived.RangeFuncLeaves
import Derived.RangeFuncBox
import Derived.Shelf.Abstract
import Derived.Shelf.RegionOpen
import Derived.WalkKit
import Derived.OwnWalkIn
import Derived.TacticsInMore
import Derived.LoopNIn
import Derived.LoopIn
import Derived.Deep.DeepMust
import Derived.Maps.AppendAt
import Derived.Test.YtkahgdkpehlanaaJoinLib
import Derived.Test.YtkahgdkpehlanaaScanLib
namespace Go.Proofs.Ytkahgdkpehlanaa.P
set_option linter.unusedVariables false
set_option linter.unusedSimpArgs false
open Go.RowKit Go.Proofs.YtkahgdkpehlanaaW.PrintWords Go.Proofs.YtkahgdkpehlanaaW.PrintLast Go.Proofs.YtkahgdkpehlanaaW.PrintMore Go.Proofs.Ytkahgdkpehlanaa.L Go.Shelf
attribute [local go_sem] Oper.semAt_some max2_int min2_int max_two min_two
/-- The lines themselves. -/
def vofJ {p : S27 → Prop} (q : List {x : S27 // p x}) : List S27 := q.map Subtype.val
theorem equalIn_func_nilJ {P : Program} (w : World) (d : Nat) (t : TypeId) (f : Fn) (a c : Array Value) {ps rs : Array TypeId} {vd : Bool} (h : P.underlying t = some (.func ps rs vd)) :
    (Op.equalIn (d + 1) t (.func f a c) .nilFunc).run P w = .ok false w := by simp [Op.equalIn, run_underlying h]
set_option maxRecDepth 100000 in
set_option maxHeartbeats 1000000 in
theorem eql_func_nilJ {P : Program} (w : World) (t : TypeId) (f : Fn) (a c : Array Value) {ps rs : Array TypeId} {vd : Bool} (h : P.underlying t = some (.func ps rs vd)) :
    (binOp .eql t (.func f a c) .nilFunc).run P w = .ok (.bool false) w := by
  simp only [binOp]
  have hq := equalIn_func_nilJ (P := P) w 9999 t f a c h
  simp [Op.equal, Op.maxDepth, hq]
def leadJ (l : ByteArray) : Prop := l.size ≤ 1000 ∧ (l.size = 0 ∨ bt l ((l.size - 1 : Nat) : Int) ≠ 13)
theorem infoJ : (Try.prog.info? 9).map (fun i => (i.zero, i.size, i.bytes)) = some (some (.string ⟨#[]⟩), 1, 16) := by kernel_rfl
theorem stringM (w : World) (b : Nat) (ok : Nat → Prop) (l : ByteArray) : Kd.string.M w b ok l [.string l] := by first | exact rfl | exact ⟨rfl, trivial⟩ | simp [Kd.string]
/-- A mark on an activation's deferred calls. -/
def markOfJ (D : Nat) : Deferred := { target := .collected D, args := #[] }
theorem leaves_marksJ {F : Fence} {n : Nat} {P : Program} {fn : Func} {tmps : Array Value} {R : Ending → World → Prop} (B : Nat) : ∀ (Ds : List Nat) (W : World), Ds.Nodup → (∀ D, D ∈ Ds → B ≤ D ∧ W.heap[D]? = some (.deferred (some []))) →
    (∀ W', Below B W W' → LeavesIn F n P fn tmps R [] .returning W') → LeavesInM F n P fn tmps R (Ds.map markOfJ) .returning W
  | [], W, _, _, h => h W (Below.refl _ _)
  | D :: Ds, W, hd, hk, h => by
    have hk0 := hk D List.mem_cons_self
    have hd' := List.nodup_cons.1 hd
    refine ⟨by simp, .inl ⟨D, _, rfl, run_takeDeferred hk0.2, ?_⟩⟩
    refine leaves_marksJ B Ds _ hd'.2 (fun E hE => ⟨(hk E (List.mem_cons_of_mem _ hE)).1, (World.putObj_heap_other (fun e => hd'.1 (by rw [← e]; exact hE))).trans (hk E (List.mem_cons_of_mem _ hE)).2⟩) (fun W' hW' => h W' ?_)
    exact ((Below.refl B W).grown (grownBy_putObj' W D _) (by have := (Array.getElem?_eq_some_iff.1 hk0.2).1; omega) (fun k e => by cases e; exact hk0.1)).trans hW'
theorem prefix_at {ls : List ByteArray} {X pre : List S27} {x : S27} (hm : X.map (·.f1) = ls) (h : pre ++ [x] <+: X) : rdOf ByteArray.empty ls (pre.length : Int) = x.f1 := by
  obtain ⟨r, rfl⟩ := h
  subst hm
  unfold rdOf
  rw [Int.toNat_natCast]
  simp
theorem toList_injJ {a b : ByteArray} (h : a.toList = b.toList) : a = b := by
  rw [ByteArray.toList_eq, ByteArray.toList_eq] at h
  exact ByteArray.ext (Array.toList_inj.1 h)
theorem bt_of_get (s : ByteArray) (j : Nat) (h : j < s.size) : ((s[j]'h).toNat : Int) = bt s (j : Int) := by rw [bt_nat, dif_pos h]
/-- A round of the first loop has been well: the cell of 'next' was written, nothing else. -/
theorem step2 {s : ByteArray} {wr W : World} {L D M : Nat} {v : Value} {q : List {x : S27 // goodL s x}} (hM : wr.heap.size = M) (bN : Boxed W (L + 1) 3 v) (bL : Boxed W L 9 (.string s)) (hB : Below wr.heap.size wr W) (hsz : wr.heap.size ≤ L + 1) (u1 u2 : Value)
    {Ix : Code → List {x : S27 // goodL s x} → World → Prop} {a : Act} (hu : u2 = .int .i64 ((nxsL s 0 (vofJ q) : Nat) : Int) := by rfl) :
    ownPostG D (keepLineL L) (fun pre W => Boxed W (L + 1) 3 (.int .i64 (nxsL s 0 (vofJ pre) : Nat)) ∧ Below M wr W) Ix q W .normal a ((W.setCell ⟨L + 1, 0, none⟩ u1).setCell ⟨L + 1, 0, none⟩ u2) := by
  subst hu hM
  refine ⟨((KeepsOthers.setCell _ _ _).trans (KeepsOthers.setCell _ _ _)).from _, ?_, (bN.set _).set _, (hB.setCell (p := ⟨L + 1, 0, none⟩) hsz _).setCell (p := ⟨L + 1, 0, none⟩) hsz _⟩
  exact ((bL.other (by omega) _).other (by omega) _).trans bL.symm
theorem step3 {s : ByteArray} {wr W : World} {L D M : Nat} {v : Value} {q : List {x : S27 // goodL s x}} (hM : wr.heap.size = M) (bN : Boxed W (L + 1) 3 v) (bL : Boxed W L 9 (.string s)) (hB : Below wr.heap.size wr W) (hsz : wr.heap.size ≤ L + 1) (u1 u2 u3 : Value)
    {Ix : Code → List {x : S27 // goodL s x} → World → Prop} {a : Act} (hu : u3 = .int .i64 ((nxsL s 0 (vofJ q) : Nat) : Int) := by rfl) :
    ownPostG D (keepLineL L) (fun pre W => Boxed W (L + 1) 3 (.int .i64 (nxsL s 0 (vofJ pre) : Nat)) ∧ Below M wr W) Ix q W .normal a (((W.setCell ⟨L + 1, 0, none⟩ u1).setCell ⟨L + 1, 0, none⟩ u2).setCell ⟨L + 1, 0, none⟩ u3) := by
  subst hu hM
  refine ⟨((KeepsOthers.setCell _ _ _).trans ((KeepsOthers.setCell _ _ _).trans (KeepsOthers.setCell _ _ _))).from _, ?_, ((bN.set _).set _).set _, ((hB.setCell (p := ⟨L + 1, 0, none⟩) hsz _).setCell (p := ⟨L + 1, 0, none⟩) hsz _).setCell (p := ⟨L + 1, 0, none⟩) hsz _⟩
  exact (((bL.other (by omega) _).other (by omega) _).other (by omega) _).trans bL.symm
theorem lsp_lenJ (s : ByteArray) : ∀ n i, (lsp s n i).length ≤ n
  | 0, _ => Nat.le_refl 0
  | n + 1, i => by
    unfold lsp
    by_cases c : i < s.size
    · rw [if_pos c, List.length_cons]; have := lsp_lenJ s n (eol s (s.size - i) i + 1); omega
    · rw [if_neg c]; exact Nat.zero_le _
theorem Boxed.kept2 (w : World) (s : ByteArray) {w2 : World} (h : Below ((w.alloc (.cells #[.string s] 9)).alloc (.cells #[.bool false] 4)).heap.size ((w.alloc (.cells #[.string s] 9)).alloc (.cells #[.bool false] 4)) w2) :
    Boxed w2 w.heap.size 9 (.string s) ∧ Boxed w2 (w.heap.size + 1) 4 (.bool false) ∧ Below w.heap.size w w2 ∧ w.heap.size + 2 ≤ w2.heap.size := by
  have hsz : ((w.alloc (.cells #[.string s] 9)).alloc (.cells #[.bool false] 4)).heap.size = w.heap.size + 2 := by simp
  have b1 := (Boxed.new w 9 (.string s)).alloc (.cells #[.bool false] 4)
  have b2 := Boxed.new (w.alloc (.cells #[.string s] 9)) 4 (.bool false)
  rw [World.size_alloc] at b2
  have hB : Below w.heap.size w ((w.alloc (.cells #[.string s] 9)).alloc (.cells #[.bool false] 4)) := ((Below.refl _ w).alloc (Nat.le_refl _) _).alloc (by simp) _
  have h2 := h.size
  rw [hsz] at h h2
  exact ⟨(h.block _ (by omega)).trans b1, (h.block _ (by omega)).trans b2, hB.trans (h.mono (by omega)), h2⟩
set_option maxRecDepth 100000 in
set_option maxHeartbeats 4000000 in
theorem joined_in (n : Nat) (hn : 4 ≤ n) (s : ByteArray) (hs : s.size ≤ 140737488351232) (A : Option Addr) (c : Nat) (xs : List ByteArray) (w : World) (hC : Kd.C Kd.string w A xs.length xs) (hcap : xs.length ≤ c) (hxl : xs.length ≤ 140737488351232) (hxs : ∀ x ∈ xs, x.size ≤ 140737488351232) :
    CallsIn Fence.wide n Try.prog 9 #[.string s, .slice A xs.length c] w fun e W' => e = .returned (.bool true) ∧ Below w.heap.size w W' := by
  have h1 : 1 ≤ n := by omega
  have hq := eql_func_nilJ (P := Try.prog) (t := 56) (h := Try.underlying56)
  refine callsIn_of_wp_marks Try.func9 rfl trivial ?_ rfl
  simp only [Try.ntmps9, List.size_toArray, List.length_cons, List.length_nil, Nat.reduceAdd, Nat.reduceSub, Array.replicate_succ, Array.replicate_zero, List.push_toArray, List.append_toArray, List.nil_append, List.cons_append]
  gi_wp2_with (first | (refine ⟨trivial, ?_⟩; gi_at_call 10; go_must (refine (callsIn_wide.2 (vivariumlaw03_awake.calls 1000 true _ (awake_true 1000 (by omega)))).mono ?_; rintro e w2 ⟨rfl, hbw⟩; have bS := Boxed.kept2 w s hbw; have hcs := bS.1.cell; have hfs := bS.1.frozen)) | (refine ⟨trivial, ?_⟩; gi_at_call 27; go_must (refine (Lines_in (n - 1) s _).mono ?_; rintro e w3 ⟨rfl, rfl⟩)))
  obtain ⟨bS2, bF2, hB2, hsz2⟩ := bS
  have bL := Boxed.new w2 9 (.string s)
  have bS3 := bS2.alloc (.cells #[.string s] 9)
  have bF3 := bF2.alloc (.cells #[.string s] 9)
  have hB3 := hB2.alloc (by omega) (.cells #[.string s] 9)
  have hsz3 : (w2.alloc (.cells #[.string s] 9)).heap.size = w2.heap.size + 1 := by simp
  obtain ⟨wr, hwr⟩ : ∃ wr, w2.alloc (.cells #[.string s] 9) = wr := ⟨_, rfl⟩
  rw [hwr] at bL bS3 bF3 hB3 hsz3 ⊢
  clear hwr bS2 bF2 hB2 hcs hfs hbw
  have bN0 := Boxed.new wr 3 (.int .i64 0)
  rw [hsz3] at bN0
  have hX := Aside0.mk (lns_eq s (by omega) (s.size + 1) 0 (s.size + 2) (by omega) (by omega) (by omega))
  have hlen := lsp_lenJ s (s.size + 1) 0
  refine wpIn_rangeFunc_ownG rfl h1 (gf := 51) (lb := #[.pointer (some ⟨w2.heap.size, 0, none⟩)]) rfl trivial (enters_of Try.func51 (by kernel_rfl) rfl)
    (lines_stopsP (goodL s) (n - 1) (by omega) w2.heap.size s hs (lsp s (s.size + 1) 0) (lsp_good s (s.size + 1) 0) (s.size + 2) hX.out (wr.alloc (.cells #[.int .i64 0] 3)) (by simp; omega) (Boxed.alloc bL _))
    (fun h k => k.trans h) (fun W l o o' hl _ _ _ => World.putObj_heap_other (by simp at hl; omega)) (Below.refl _ _) (fun _ => rfl)
    (fun pre W => Boxed W (w2.heap.size + 1) 3 (.int .i64 (nxsL s 0 (vofJ pre) : Nat)) ∧ Below wr.heap.size wr W)
    (fun c pre _ => c = .ret ∧ ¬ vofJ pre <+: lsp s (s.size + 1) 0)
    (OwnFrom.and (Own.from (boxed_own _ _ _) _) (ownFrom_below (Nat.le_refl _) (by simp)))
    (fun c s X Y row hs hg hr => hs)
    ⟨bN0, (Below.refl _ wr).alloc (Nat.le_refl _) _⟩
    (fun x => { tmps := #[.string s, .slice A xs.length c, .pointer (some ⟨w.heap.size, 0, none⟩), undef, .pointer (some ⟨w.heap.size + 1, 0, none⟩), .bool true, .func (.func 51) #[] #[.pointer (some ⟨w2.heap.size, 0, none⟩)], .pointer (some ⟨w2.heap.size + 1, 0, none⟩), .int .i64 x.1.f0, .string x.1.f1, undef, undef, undef, undef, undef, undef, undef, undef, .bool true, .string s, .func (.func 51) #[] #[.pointer (some ⟨w2.heap.size, 0, none⟩)], .bool true, .bool false, .bool false, .func (.func 51) #[] #[.pointer (some ⟨w2.heap.size, 0, none⟩)], .bool false, .bool false, .func (.func 51) #[] #[.pointer (some ⟨w2.heap.size, 0, none⟩)], .int .i64 x.1.f0, .string x.1.f1, undef, undef, undef, undef, undef, undef, undef, undef, undef, undef, undef, undef, undef, undef, undef, undef, undef, undef, undef, undef, undef, undef, undef, undef, undef, undef, undef, undef, undef, undef, undef, undef, undef, undef, undef, undef, undef, undef, undef, undef, undef, undef, undef, undef, undef, undef, undef, undef, undef, undef, undef, undef, undef, undef, undef, undef, undef, undef, undef, undef, undef, undef, undef, undef, undef, undef, undef, undef, undef, undef, undef, undef, undef, undef, undef, undef, undef, undef, undef, undef, undef, undef, undef, undef, undef, undef, undef, undef, undef, undef, undef, undef, undef, undef, undef, undef, undef, undef, undef, undef, undef, undef, undef, undef, undef, undef, undef, undef, undef, undef, undef, undef, undef, undef, undef, undef, undef, undef, undef, undef, undef, undef, undef, undef, undef, undef, undef, undef, undef, undef, undef, undef, undef, undef, undef, undef, undef, undef, undef, undef, undef, undef, undef, undef, undef, undef, undef, undef, undef, undef, undef, undef, undef, undef], defers := [] }) ?assign ?body ?done ?stop
  case assign =>
    intro l x W K hK
    gi_wp2
    exact hK
  case body =>
    rintro l pre ⟨⟨x0, x1⟩, hg⟩ W ⟨bN, hBW⟩ hlt
    obtain ⟨i, hi0, his, hi1⟩ := hg
    dsimp only at hi0 hi1
    subst hi0
    have hpq : vofJ (pre ++ [(⟨⟨(i : Int), x1⟩, i, rfl, his, hi1⟩ : {x : S27 // goodL s x})]) = vofJ pre ++ [⟨(i : Int), x1⟩] := by unfold vofJ; rw [List.map_append]; rfl
    obtain ⟨q, hq⟩ : ∃ q, pre ++ [(⟨⟨(i : Int), x1⟩, i, rfl, his, hi1⟩ : {x : S27 // goodL s x})] = q := ⟨_, rfl⟩
    rw [hq] at hpq ⊢
    clear hq
    dsimp only
    have hi1s := Aside0.mk hi1
    clear hi1 hlt
    have hle := nxsL_le s 0 (Nat.zero_le _) (vofJ pre)
    have bS4 : Boxed W w.heap.size 9 (.string s) := (hBW.block _ bS3.lt).trans bS3
    have bF4 : Boxed W (w.heap.size + 1) 4 (.bool false) := (hBW.block _ bF3.lt).trans bF3
    have bL4 : Boxed W w2.heap.size 9 (.string s) := (hBW.block _ bL.lt).trans bL
    have hs1 := bS4.cell
    have hf1 := bF4.cell
    have hf2 := bF4.frozen
    have hn1 := bN.cell
    have hn2 := bN.frozen
    have hPQ := Aside0.mk hpq
    have hBWs := Aside0.mk hBW
    have bNs := Aside0.mk bN
    have bLs := Aside0.mk bL4
    clear hpq hBW bN bL4 bS4 bF4
    obtain ⟨N, hN⟩ : ∃ N, nxsL s 0 (vofJ pre) = N := ⟨_, rfl⟩
    rw [hN] at hn1 hle
    by_cases e0 : i = N
    · subst e0
      have hNs := Aside0.mk hN
      clear hN
      have hge := eol_ge s (s.size - i) i
      have hel := eol_le s (s.size - i) i (by omega)
      have h10 := eol_at s (s.size - i) i (Nat.le_refl _)
      have hnx : nxsL s 0 (vofJ q) = min (eol s (s.size - i) i + 1) s.size := by
        rw [hPQ.out, nxsL_snoc]
        show min (eolOf s (i : Int).toNat + 1) s.size = _
        rw [Int.toNat_natCast]; rfl
      have hx1 : x1 = ltext s i (eol s (s.size - i) i) := hi1s.out
      obtain ⟨e, he⟩ : ∃ e, eol s (s.size - i) i = e := ⟨_, rfl⟩
      rw [he] at hge hel h10 hnx hx1
      clear he
      have hex : s.extract i (i + x1.size) = x1 ∧ i + x1.size ≤ s.size ∧ ((i + x1.size = e) ∨ (i + x1.size + 1 = e ∧ bt s ((i + x1.size : Nat) : Int) = 13)) := by
        rw [hx1]
        unfold ltext
        by_cases c1 : i < e ∧ bt s ((e - 1 : Nat) : Int) = 13
        · rw [if_pos c1, ByteArray.size_extract]
          have : i + (min (e - 1) s.size - i) = e - 1 := by omega
          rw [this]
          exact ⟨rfl, by omega, .inr ⟨by omega, c1.2⟩⟩
        · rw [if_neg c1, ByteArray.size_extract]
          have : i + (min e s.size - i) = e := by omega
          rw [this]
          exact ⟨rfl, by omega, .inl rfl⟩
      obtain ⟨hx2, hx3, hx4⟩ := hex
      have HNX := Aside0.mk hnx
      clear hnx hx1
      have b0 : ((i : Int) + (x1.size : Int)).toNat = i + x1.size := by omega
      have b1 : decide ((s.size : Int) < (i : Int) + (x1.size : Int)) = false := decide_eq_false (by omega)
      have b3 : (0 : Int) ≤ (i : Int) := by omega
      have b4 : (i : Int) ≤ (i : Int) + (x1.size : Int) := by omega
      have b5 : (i : Int) + (x1.size : Int) ≤ (s.size : Int) := by omega
      have HX4 := Aside0.mk hx4
      have H10 := Aside0.mk h10
      clear hx4 h10
      gi_wp2
      · rename_i k3 _ _ k2 _ k0
        have k3' := eq_of_beq k3
        have k0' := bne_iff_ne.mp k0
        rw [bt_of_get] at k3' k0'
        exfalso
        rcases HX4.out with e1 | ⟨e1, e2⟩
        · have := H10.out (by omega)
          rw [← e1, k3'] at this
          exact absurd this (by decide)
        · have := H10.out (by omega)
          rw [← e1] at this
          exact k0' this
      · rename_i k3 _ _ _
        have k3' := eq_of_beq k3
        rw [bt_of_get] at k3'
        have hv : (i : Int) + (x1.size : Int) + 1 + 1 = ((nxsL s 0 (vofJ q) : Nat) : Int) := by
          rw [HNX.out]
          rcases HX4.out with e1 | ⟨e1, e2⟩
          · have := H10.out (by omega)
            rw [← e1, k3'] at this
            exact absurd this (by decide)
          · omega
        rw [hv]
        exact step3 (by first | rfl | exact hsz3) bNs.out bLs.out hBWs.out (by omega) _ _ _
      · have hv : (s.size : Int) = ((nxsL s 0 (vofJ q) : Nat) : Int) := by
          rw [HNX.out]
          rcases HX4.out with e1 | ⟨e1, e2⟩ <;> omega
        exact step3 (by first | rfl | exact hsz3) bNs.out bLs.out hBWs.out (by omega) _ _ _ (congrArg (Value.int IntKind.i64) hv)
      · rename_i k3 _ _ k0
        have k3' := beq_eq_false_iff_ne.mp k3
        have k0' := bne_iff_ne.mp k0
        rw [bt_of_get] at k3' k0'
        exfalso
        rcases HX4.out with e1 | ⟨e1, e2⟩
        · have := H10.out (by omega)
          rw [← e1] at this
          exact k0' this
        · exact k3' e2
      · rename_i k3 _
        have k3' := beq_eq_false_iff_ne.mp k3
        rw [bt_of_get] at k3'
        have hv : (i : Int) + (x1.size : Int) + 1 = ((nxsL s 0 (vofJ q) : Nat) : Int) := by
          rw [HNX.out]
          rcases HX4.out with e1 | ⟨e1, e2⟩
          · omega
          · exact absurd e2 k3'
        rw [hv]
        exact step2 (by first | rfl | exact hsz3) bNs.out bLs.out hBWs.out (by omega) _ _
      · have hv : (s.size : Int) = ((nxsL s 0 (vofJ q) : Nat) : Int) := by
          rw [HNX.out]
          rcases HX4.out with e1 | ⟨e1, e2⟩ <;> omega
        exact step2 (by first | rfl | exact hsz3) bNs.out bLs.out hBWs.out (by omega) _ _ (congrArg (Value.int IntKind.i64) hv)
    · have b0 : ((i : Int) != (N : Int)) = true := bne_iff_ne.mpr (by omega)
      have hNs := Aside0.mk hN
      have E0 := Aside0.mk e0
      clear hN e0
      gi_wp2
      exact ⟨(KeepsOthers.setCell _ _ _).from _, rfl, fun h => E0.out (by rw [hPQ.out] at h; have h2 := lsp_next s _ 0 _ _ h; rw [hNs.out] at h2; exact Int.ofNat.inj h2)⟩
  case done =>
    rintro D ys W hD hS ⟨bN, hBW⟩ hK
    have hv : nxsL s 0 (vofJ ys) = s.size := by
      have hS2 : vofJ ys = lsp s (s.size + 1) 0 := hS
      rw [hS2]
      exact lsp_end s (s.size + 1) 0 (by omega) (Nat.zero_le _)
    rw [hv] at bN
    have bS4 : Boxed W w.heap.size 9 (.string s) := (hBW.block _ bS3.lt).trans bS3
    have bF4 : Boxed W (w.heap.size + 1) 4 (.bool false) := (hBW.block _ bF3.lt).trans bF3
    have hs1 := bS4.cell
    have hn1 := bN.cell
    have hB4 := hB3.trans (hBW.mono hB3.size)
    have hC4 := Kd.C_below hC hB4
    have hDD : w2.heap.size + 2 ≤ D := by simp at hD; omega
    have HD := Aside0.mk hDD
    have hWs : D < W.heap.size := (Array.getElem?_eq_some_iff.1 hK).1
    have HK := Aside0.mk hK
    have HB4 := Aside0.mk hB4
    have HC4 := Aside0.mk hC4
    have BF4 := Aside0.mk bF4
    have BS4 := Aside0.mk bS4
    clear hS hv bN hBW hK hD hDD hB4 hC4 bF4 bS4 bS3 bF3 bL hB3 bN0 hX hlen
    gi_wp2
    have hss : ∀ j : Nat, j < xs.length → (rdOf ByteArray.empty xs (j : Int)).size ≤ 140737488351232 := fun j hj => hxs _ (by unfold rdOf; rw [Int.toNat_natCast]; simp [hj])
    have hSS := Aside0.mk hss
    clear hss hxs hC
    gi_loopw [11, 12] (fun t11 t12 wo => ∃ (i : Nat) (ls : List ByteArray), t11 = .string (joinT ls) ∧ t12 = .int .i64 i ∧ i ≤ xs.length ∧ i ≤ 100 ∧ ls.length ≤ i ∧ (joinT ls).size ≤ 1001 * i ∧ Aside0 (∀ l, l ∈ ls → okJ l) ∧ Aside0 (∃ v, Boxed wo W.heap.size 54 v ∧ Kd.R Kd.string 9 wo W.heap.size (fun k => k ≠ W.heap.size) v ls) ∧ Aside0 (Below W.heap.size W wo))
      (fun _ t12 _ => 100 - (intOf t12).toNat)
    case atStart =>
      exact ⟨0, [], rfl, rfl, Nat.zero_le _, Nat.zero_le _, Nat.le_refl _, Nat.zero_le _, ⟨fun l hl => by cases hl⟩, ⟨_, Boxed.new W _ _, Kd.R_nil _ _ _ _ _⟩, ⟨(Below.refl _ W).alloc (Nat.le_refl _) _⟩⟩
    case round =>
      obtain ⟨i, ls, rfl, rfl, hi, hi2, hll, hjl, HOK, HROW, HBo⟩ := hrel
      by_cases d1 : i < xs.length
      · by_cases d2 : i < 100
        · have d1' : (i : Int) < (xs.length : Int) := by omega
          have d2' : (i : Int) < 100 := by omega
          obtain ⟨ad, rfl, hx0⟩ := Kd.at_string (Kd.C_below HC4.out HBo.out) (i : Int) (by omega) (by omega)
          rw [Int.toNat_natCast] at hx0
          have hsl := hSS.out i d1
          obtain ⟨l, hl⟩ : ∃ l, rdOf ByteArray.empty xs (i : Int) = l := ⟨_, rfl⟩
          rw [hl] at hx0 hsl
          have hcell : Aside0 (∀ w1, Below W.heap.size W w1 → w1.cell? (ad.add i) = some (.string l)) := ⟨fun w1 hb => by
            obtain ⟨ad', e, h⟩ := Kd.at_string (Kd.C_below HC4.out hb) (i : Int) (by omega) (by omega)
            cases e
            rw [Int.toNat_natCast, hl] at h
            exact h⟩
          clear hl
          gi_wp2
          refine wpIn_wide.2 ?_
          by_cases q1 : (l.size : Int) ≤ 1000
          · by_cases q2 : l.size = 0
            · have HQ2 := Aside0.mk q2
              have q5 : (l.toList == []) = true := beq_iff_eq.mpr (by rw [ByteArray.toList_eq]; exact List.length_eq_zero_iff.1 (by simpa using q2))
              go_quiet (fail)
              gi_wp2
              gi_loopw [13, 14] (fun t13 t14 wi => ∃ (k : Nat) (b : Bool), t13 = .bool b ∧ t14 = .int .i64 k ∧ k ≤ l.size ∧ wi = wr.drewN nq ∧ Aside0 (b = true → leadJ l ∧ ∀ j, j < k → bt l (j : Int) ≠ 10)) (fun _ t14 _ => l.size - (intOf t14).toNat)
              case atStart => exact ⟨0, _, rfl, rfl, Nat.zero_le _, rfl, ⟨fun _ => ⟨⟨by omega, .inl HQ2.out⟩, fun j hj => by omega⟩⟩⟩
              case round =>
                obtain ⟨k, b, rfl, rfl, hk, rfl, HB⟩ := hrel
                have hx1 : (wr.drewN nq).cell? (ad.add i) = some (.string l) := hx0
                cases b with
                | true =>
                  by_cases r1 : k < l.size
                  · exact absurd r1 (by omega)
                  · have r1' : ¬ (k : Int) < (l.size : Int) := by omega
                    gi_wp2
                    obtain ⟨v, bP, hR⟩ := HROW.out
                    have bP1 : Boxed (wr.drewN nq) W.heap.size 54 v := bP
                    have hR1 := Kd.R_drewN hR nq
                    have hB1 := pw_below_drewN HBo.out nq
                    have hokl : okJ l := ⟨(HB.out (by first | rfl | trivial)).1.1, (HB.out (by first | rfl | trivial)).1.2, fun j hj => (HB.out (by first | rfl | trivial)).2 j (by omega)⟩
                    have hsl2 := hokl.1
                    have HOKL := Aside0.mk hokl
                    obtain ⟨W1, hW1⟩ : ∃ W1, wr.drewN nq = W1 := ⟨_, rfl⟩
                    rw [hW1] at hx1 bP1 hR1 hB1 ⊢
                    clear hW1 bP hR hokl
                    have bPs := Aside0.mk bP1
                    have hRs := Aside0.mk hR1
                    have hBs := Aside0.mk hB1
                    have hlt1 := bP1.lt
                    have hce1 := bP1.cell
                    clear bP1 hR1 hB1
                    refine wpIn_wide.2 (wp_region_noPanic ?_)
                    refine start_ (n := 8) (S := fun w' => w'.cell? ⟨W.heap.size, 0, none⟩ = some v ∧ w'.cell? (ad.add i) = some (.string l)) (ds := [7]) #[false, false, false, false, false, false, false, false] (by kernel_rfl) rfl rfl ⟨hce1, hx1⟩ (fun hHeld => ?_)
                    refine pure_ (i := 1) (N := some 146) (v := ?_) (a' := ?_) #[false, true, false, false, false, false, false, false] rfl rfl (by kernel_rfl) (fun _ _ _ h => h) (Or.inl ⟨by rfl, ?_⟩) ?_ ?_
                    rotate_left
                    · intro w'
                      go_simp
                      with_reducible rfl
                    rotate_left
                    · simp only [Act.put, List.setIfInBounds_toArray, List.set_cons_zero, List.set_cons_succ, i64_w, i32_w]
                      rfl
                    refine pure_ (i := 2) (N := some 147) (v := ?_) (a' := ?_) #[false, true, true, false, false, false, false, false] rfl rfl (by kernel_rfl) (fun _ _ _ h => h) (Or.inl ⟨by rfl, ?_⟩) ?_ ?_
                    rotate_left
                    · intro w'
                      go_simp
                      with_reducible rfl
                    rotate_left
                    · simp only [Act.put, List.setIfInBounds_toArray, List.set_cons_zero, List.set_cons_succ, i64_w, i32_w]
                      rfl
                    refine pure_ (i := 3) (N := some 148) (v := ?_) (a' := ?_) #[false, true, true, true, false, false, false, false] rfl rfl (by kernel_rfl) (fun _ _ _ h => h) (Or.inl ⟨by rfl, ?_⟩) ?_ ?_
                    rotate_left
                    · intro w'
                      go_simp
                      with_reducible rfl
                    rotate_left
                    · simp only [Act.put, List.setIfInBounds_toArray, List.set_cons_zero, List.set_cons_succ, i64_w, i32_w]
                      rfl
                    refine take_ (i := 0) (N := some 145) (v := ?_) (a' := ?_) #[true, true, true, true, false, false, false, false] rfl rfl (by kernel_rfl) (fun _ _ _ h => h) (Or.inl ⟨by rfl, ?_⟩) hHeld ?_ ?_
                    rotate_left
                    · rintro w' ⟨s0, s1⟩
                      go_simp
                      with_reducible rfl
                    rotate_left
                    · simp only [Act.put, List.setIfInBounds_toArray, List.set_cons_zero, List.set_cons_succ, i64_w, i32_w]
                      rfl
                    refine take_ (i := 4) (N := some 149) (v := ?_) (a' := ?_) #[true, true, true, true, true, false, false, false] rfl rfl (by kernel_rfl) (fun _ _ _ h => h) (Or.inl ⟨by rfl, ?_⟩) hHeld ?_ ?_
                    rotate_left
                    · rintro w' ⟨s0, s1⟩
                      go_simp
                      with_reducible rfl
                    rotate_left
                    · simp only [Act.put, List.setIfInBounds_toArray, List.set_cons_zero, List.set_cons_succ, i64_w, i32_w]
                      rfl
                    refine one_ (i := 5) (N := some 150) #[true, true, true, true, true, true, false, false] rfl rfl (by kernel_rfl) (by decide) (fun K hK => ?_)
                    refine value_ (w1 := ?_) (v := ?_) (by rfl) rfl ?_ ?_
                    rotate_left 2
                    · go_simp
                      constructor
                      · rfl
                      · rfl
                    refine hK.out _ _ ⟨(World.cell?_alloc_lt _ _ _ (World.block_lt_of_cell? _ _ hHeld.1)).trans hHeld.1, (World.cell?_alloc_lt _ _ _ (World.block_lt_of_cell? _ _ hHeld.2)).trans hHeld.2⟩ (fun hHeld => ?_)
                    clear hK K
                    refine norm_ (a' := ?_) ?_ ?_
                    rotate_left
                    · show Act.put _ (some 150) _ = _
                      simp only [Act.put, List.setIfInBounds_toArray, List.set_cons_zero, List.set_cons_succ, i64_w, i32_w]
                      rfl
                    refine one_ (i := 6) (N := some 151) #[true, true, true, true, true, true, true, false] rfl rfl (by kernel_rfl) (by decide) (fun K hK => ?_)
                    refine Kd.R_append_step Kd.string (w0 := W) (W := W1.drew) W.heap.size ?hw (.tmp 145) (.tmp 150) 54 9 (.string ⟨#[]⟩) 16 rfl Try.underlying54 infoJ rfl (by decide) (by decide) v ls l [.string l] (fun k => k ≠ W.heap.size) (fun _ => False) rfl rfl (stringM _ _ _ _) (fun _ hk => hk.elim) (fun k hk => by have h5 : W1.heap.size ≤ k := hk; have := hlt1; omega) (Kd.R_drew hRs.out) hBs.out.drew hBs.out.drew.size (by omega) ?_
                    (case hw => rfl)
                    intro v1 w1 ho hb hg hat
                    obtain ⟨A7, c7, rfl⟩ := Kd.R_slice ho
                    obtain ⟨n7, hn7⟩ : ∃ n7, (ls ++ [l]).length = n7 := ⟨_, rfl⟩
                    rw [hn7] at ho ⊢
                    have hN7 := Aside0.mk hn7
                    clear hn7
                    have bP2 := (show Boxed W1.drew W.heap.size 54 v from bPs.out).kept hg (fun e' => hRs.out.1 _ e'.symm rfl)
                    have hfz := bP2.frozen
                    have hce2 := bP2.cell
                    have hos := Aside0.mk ho
                    have hbs := Aside0.mk hb
                    have bP2s := Aside0.mk bP2
                    clear ho hb hg hat bP2
                    refine hK.out _ _ ⟨hce2, hcell.out _ hbs.out⟩ (fun hHeld => ?_)
                    clear hK K
                    refine norm_ (a' := ?_) ?_ ?_
                    rotate_left
                    · show Act.put _ (some 151) _ = _
                      simp only [Act.put, List.setIfInBounds_toArray, List.set_cons_zero, List.set_cons_succ, i64_w, i32_w]
                      rfl
                    refine last_ (i := 7) (N := none) #[true, true, true, true, true, true, true, true] rfl rfl (by kernel_rfl) (by decide) (fun K hK => ?_)
                    refine skip_ (w1 := ?_) (by rfl) rfl ?_ ?_
                    rotate_left
                    · go_simp
                      rfl
                    refine hK.out _ _ ?_
                    clear hK K
                    refine done_ (by kernel_rfl) ?_
                    refine NoPanic.normal ?_
                    have hB2 := hbs.out.setCell (p := ⟨W.heap.size, 0, none⟩) (Nat.le_refl _) (.slice A7 n7 c7)
                    have bP3 := bP2s.out.set (.slice A7 n7 c7)
                    have hR3 := Kd.R_far (p := ⟨W.heap.size, 0, none⟩) hos.out (fun k hk => hk) (.slice A7 n7 c7)
                    have hx3 := hcell.out _ hB2
                    obtain ⟨W2, hW2⟩ : ∃ W2, w1.setCell ⟨W.heap.size, 0, none⟩ (.slice A7 n7 c7) = W2 := ⟨_, rfl⟩
                    rw [hW2] at hB2 bP3 hR3 hx3 ⊢
                    clear hW2 hfz hce2 hx1 hce1
                    have HB2 := Aside0.mk hB2
                    have BP3 := Aside0.mk bP3
                    have HR3 := Aside0.mk hR3
                    clear hB2 bP3 hR3
                    gi_wp2
                    go_roundw
                    first
                      | case rel => exact ⟨i + 1, ls ++ [l], by rw [joinT_snoc], by rw [Int.natCast_add]; rfl, by omega, by omega, by rw [List.length_append, List.length_singleton]; omega, by rw [joinT_size_snoc]; omega, ⟨fun y hy => by rcases List.mem_append.1 hy with hy | hy; exact HOK.out y hy; rw [List.mem_singleton.1 hy]; exact HOKL.out⟩, ⟨(.slice A7 n7 c7), BP3.out, HR3.out⟩, HB2⟩
                        case measure => simp [intOf]; omega
                      | case roundEnd => exact ⟨⟨i + 1, ls ++ [l], by rw [joinT_snoc], by rw [Int.natCast_add]; rfl, by omega, by omega, by rw [List.length_append, List.length_singleton]; omega, by rw [joinT_size_snoc]; omega, ⟨fun y hy => by rcases List.mem_append.1 hy with hy | hy; exact HOK.out y hy; rw [List.mem_singleton.1 hy]; exact HOKL.out⟩, ⟨(.slice A7 n7 c7), BP3.out, HR3.out⟩, HB2⟩, by simp [intOf]; omega⟩
                | false =>
                  by_cases r1 : k < l.size
                  · exact absurd r1 (by omega)
                  · have r1' : ¬ (k : Int) < (l.size : Int) := by omega
                    gi_wp2
                    go_roundw
                    first
                      | case rel => exact ⟨i + 1, ls, rfl, by rw [Int.natCast_add]; rfl, by omega, by omega, by omega, by omega, HOK, ⟨by obtain ⟨v, b1, b2⟩ := HROW.out; exact ⟨v, b1, Kd.R_drewN b2 _⟩⟩, ⟨pw_below_drewN HBo.out _⟩⟩
                        case measure => simp [intOf]; omega
                      | case roundEnd => exact ⟨⟨i + 1, ls, rfl, by rw [Int.natCast_add]; rfl, by omega, by omega, by omega, by omega, HOK, ⟨by obtain ⟨v, b1, b2⟩ := HROW.out; exact ⟨v, b1, Kd.R_drewN b2 _⟩⟩, ⟨pw_below_drewN HBo.out _⟩⟩, by simp [intOf]; omega⟩
            · obtain ⟨z, hz⟩ : ∃ z, bt l ((l.size - 1 : Nat) : Int) = z := ⟨_, rfl⟩
              have hix : ∀ W' : World, (Instr.index 9 (.string l) (.int .i64 ((l.size : Int) - 1))).run Try.prog W' = .ok (.int .u8 z) W' := fun W' => by
                rw [run_index_string (P := Try.prog) (w := W') 9 l .i64 _ Try.underlying9, dif_pos ⟨by omega, by omega⟩, bt_of_get, ← hz]
                rw [show ((l.size : Int) - 1).toNat = l.size - 1 from by omega]
              have q5 : (l.toList == []) = false := beq_eq_false_iff_ne.mpr (fun h => q2 (by rw [ByteArray.toList_eq] at h; have h3 := congrArg List.length h; simpa using h3))
              have HZ0 := Aside0.mk hz
              clear hz
              by_cases q7 : z = 13
              · have q8 : (z != 13) = false := bne_eq_false_iff_eq.mpr q7
                clear q7
                go_quiet (fail)
                gi_wp2
                gi_loopw [13, 14] (fun t13 t14 wi => ∃ (k : Nat) (b : Bool), t13 = .bool b ∧ t14 = .int .i64 k ∧ k ≤ l.size ∧ wi = wr.drewN nq ∧ Aside0 (b = true → leadJ l ∧ ∀ j, j < k → bt l (j : Int) ≠ 10)) (fun _ t14 _ => l.size - (intOf t14).toNat)
                case atStart => exact ⟨0, _, rfl, rfl, Nat.zero_le _, rfl, ⟨fun h => by cases h⟩⟩
                case round =>
                  obtain ⟨k, b, rfl, rfl, hk, rfl, HB⟩ := hrel
                  have hx1 : (wr.drewN nq).cell? (ad.add i) = some (.string l) := hx0
                  cases b with
                  | true =>
                    by_cases r1 : k < l.size
                    · have r1' : (k : Int) < (l.size : Int) := by omega
                      obtain ⟨z, hz⟩ : ∃ z, bt l (k : Int) = z := ⟨_, rfl⟩
                      have hix : ∀ W' : World, (Instr.index 9 (.string l) (.int .i64 (k : Int))).run Try.prog W' = .ok (.int .u8 z) W' := fun W' => by
                        rw [run_index_string (P := Try.prog) (w := W') 9 l .i64 _ Try.underlying9, dif_pos ⟨by omega, by omega⟩, bt_of_get, ← hz, Int.toNat_natCast]
                      have HZ := Aside0.mk hz
                      clear hz
                      by_cases r2 : z = 10
                      · have r3 : (z != 10) = false := bne_eq_false_iff_eq.mpr r2
                        clear r2
                        gi_wp2
                        go_roundw
                        case rel => exact ⟨k + 1, false, by first | rfl | trivial, by first | rfl | trivial, by omega, by first | rfl | trivial, ⟨fun h => by cases h⟩⟩
                        case measure => simp [intOf]; omega
                      · have r3 : (z != 10) = true := bne_iff_ne.mpr r2
                        have R2 := Aside0.mk r2
                        clear r2
                        gi_wp2
                        go_roundw
                        case rel => exact ⟨k + 1, true, by first | rfl | trivial, by first | rfl | trivial, by omega, by first | rfl | trivial, ⟨fun _ => ⟨(HB.out (by first | rfl | trivial)).1, fun j hj => by
                          by_cases hjk : j = k
                          · subst hjk; rw [HZ.out]; exact R2.out
                          · exact (HB.out (by first | rfl | trivial)).2 j (by omega)⟩⟩⟩
                        case measure => simp [intOf]; omega
                    · have r1' : ¬ (k : Int) < (l.size : Int) := by omega
                      gi_wp2
                      obtain ⟨v, bP, hR⟩ := HROW.out
                      have bP1 : Boxed (wr.drewN nq) W.heap.size 54 v := bP
                      have hR1 := Kd.R_drewN hR nq
                      have hB1 := pw_below_drewN HBo.out nq
                      have hokl : okJ l := ⟨(HB.out (by first | rfl | trivial)).1.1, (HB.out (by first | rfl | trivial)).1.2, fun j hj => (HB.out (by first | rfl | trivial)).2 j (by omega)⟩
                      have hsl2 := hokl.1
                      have HOKL := Aside0.mk hokl
                      obtain ⟨W1, hW1⟩ : ∃ W1, wr.drewN nq = W1 := ⟨_, rfl⟩
                      rw [hW1] at hx1 bP1 hR1 hB1 ⊢
                      clear hW1 bP hR hokl
                      have bPs := Aside0.mk bP1
                      have hRs := Aside0.mk hR1
                      have hBs := Aside0.mk hB1
                      have hlt1 := bP1.lt
                      have hce1 := bP1.cell
                      clear bP1 hR1 hB1
                      refine wpIn_wide.2 (wp_region_noPanic ?_)
                      refine start_ (n := 8) (S := fun w' => w'.cell? ⟨W.heap.size, 0, none⟩ = some v ∧ w'.cell? (ad.add i) = some (.string l)) (ds := [7]) #[false, false, false, false, false, false, false, false] (by kernel_rfl) rfl rfl ⟨hce1, hx1⟩ (fun hHeld => ?_)
                      refine pure_ (i := 1) (N := some 146) (v := ?_) (a' := ?_) #[false, true, false, false, false, false, false, false] rfl rfl (by kernel_rfl) (fun _ _ _ h => h) (Or.inl ⟨by rfl, ?_⟩) ?_ ?_
                      rotate_left
                      · intro w'
                        go_simp
                        with_reducible rfl
                      rotate_left
                      · simp only [Act.put, List.setIfInBounds_toArray, List.set_cons_zero, List.set_cons_succ, i64_w, i32_w]
                        rfl
                      refine pure_ (i := 2) (N := some 147) (v := ?_) (a' := ?_) #[false, true, true, false, false, false, false, false] rfl rfl (by kernel_rfl) (fun _ _ _ h => h) (Or.inl ⟨by rfl, ?_⟩) ?_ ?_
                      rotate_left
                      · intro w'
                        go_simp
                        with_reducible rfl
                      rotate_left
                      · simp only [Act.put, List.setIfInBounds_toArray, List.set_cons_zero, List.set_cons_succ, i64_w, i32_w]
                        rfl
                      refine pure_ (i := 3) (N := some 148) (v := ?_) (a' := ?_) #[false, true, true, true, false, false, false, false] rfl rfl (by kernel_rfl) (fun _ _ _ h => h) (Or.inl ⟨by rfl, ?_⟩) ?_ ?_
                      rotate_left
                      · intro w'
                        go_simp
                        with_reducible rfl
                      rotate_left
                      · simp only [Act.put, List.setIfInBounds_toArray, List.set_cons_zero, List.set_cons_succ, i64_w, i32_w]
                        rfl
                      refine take_ (i := 0) (N := some 145) (v := ?_) (a' := ?_) #[true, true, true, true, false, false, false, false] rfl rfl (by kernel_rfl) (fun _ _ _ h => h) (Or.inl ⟨by rfl, ?_⟩) hHeld ?_ ?_
                      rotate_left
                      · rintro w' ⟨s0, s1⟩
                        go_simp
                        with_reducible rfl
                      rotate_left
                      · simp only [Act.put, List.setIfInBounds_toArray, List.set_cons_zero, List.set_cons_succ, i64_w, i32_w]
                        rfl
                      refine take_ (i := 4) (N := some 149) (v := ?_) (a' := ?_) #[true, true, true, true, true, false, false, false] rfl rfl (by kernel_rfl) (fun _ _ _ h => h) (Or.inl ⟨by rfl, ?_⟩) hHeld ?_ ?_
                      rotate_left
                      · rintro w' ⟨s0, s1⟩
                        go_simp
                        with_reducible rfl
                      rotate_left
                      · simp only [Act.put, List.setIfInBounds_toArray, List.set_cons_zero, List.set_cons_succ, i64_w, i32_w]
                        rfl
                      refine one_ (i := 5) (N := some 150) #[true, true, true, true, true, true, false, false] rfl rfl (by kernel_rfl) (by decide) (fun K hK => ?_)
                      refine value_ (w1 := ?_) (v := ?_) (by rfl) rfl ?_ ?_
                      rotate_left 2
                      · go_simp
                        constructor
                        · rfl
                        · rfl
                      refine hK.out _ _ ⟨(World.cell?_alloc_lt _ _ _ (World.block_lt_of_cell? _ _ hHeld.1)).trans hHeld.1, (World.cell?_alloc_lt _ _ _ (World.block_lt_of_cell? _ _ hHeld.2)).trans hHeld.2⟩ (fun hHeld => ?_)
                      clear hK K
                      refine norm_ (a' := ?_) ?_ ?_
                      rotate_left
                      · show Act.put _ (some 150) _ = _
                        simp only [Act.put, List.setIfInBounds_toArray, List.set_cons_zero, List.set_cons_succ, i64_w, i32_w]
                        rfl
                      refine one_ (i := 6) (N := some 151) #[true, true, true, true, true, true, true, false] rfl rfl (by kernel_rfl) (by decide) (fun K hK => ?_)
                      refine Kd.R_append_step Kd.string (w0 := W) (W := W1.drew) W.heap.size ?hw (.tmp 145) (.tmp 150) 54 9 (.string ⟨#[]⟩) 16 rfl Try.underlying54 infoJ rfl (by decide) (by decide) v ls l [.string l] (fun k => k ≠ W.heap.size) (fun _ => False) rfl rfl (stringM _ _ _ _) (fun _ hk => hk.elim) (fun k hk => by have h5 : W1.heap.size ≤ k := hk; have := hlt1; omega) (Kd.R_drew hRs.out) hBs.out.drew hBs.out.drew.size (by omega) ?_
                      (case hw => rfl)
                      intro v1 w1 ho hb hg hat
                      obtain ⟨A7, c7, rfl⟩ := Kd.R_slice ho
                      obtain ⟨n7, hn7⟩ : ∃ n7, (ls ++ [l]).length = n7 := ⟨_, rfl⟩
                      rw [hn7] at ho ⊢
                      have hN7 := Aside0.mk hn7
                      clear hn7
                      have bP2 := (show Boxed W1.drew W.heap.size 54 v from bPs.out).kept hg (fun e' => hRs.out.1 _ e'.symm rfl)
                      have hfz := bP2.frozen
                      have hce2 := bP2.cell
                      have hos := Aside0.mk ho
                      have hbs := Aside0.mk hb
                      have bP2s := Aside0.mk bP2
                      clear ho hb hg hat bP2
                      refine hK.out _ _ ⟨hce2, hcell.out _ hbs.out⟩ (fun hHeld => ?_)
                      clear hK K
                      refine norm_ (a' := ?_) ?_ ?_
                      rotate_left
                      · show Act.put _ (some 151) _ = _
                        simp only [Act.put, List.setIfInBounds_toArray, List.set_cons_zero, List.set_cons_succ, i64_w, i32_w]
                        rfl
                      refine last_ (i := 7) (N := none) #[true, true, true, true, true, true, true, true] rfl rfl (by kernel_rfl) (by decide) (fun K hK => ?_)
                      refine skip_ (w1 := ?_) (by rfl) rfl ?_ ?_
                      rotate_left
                      · go_simp
                        rfl
                      refine hK.out _ _ ?_
                      clear hK K
                      refine done_ (by kernel_rfl) ?_
                      refine NoPanic.normal ?_
                      have hB2 := hbs.out.setCell (p := ⟨W.heap.size, 0, none⟩) (Nat.le_refl _) (.slice A7 n7 c7)
                      have bP3 := bP2s.out.set (.slice A7 n7 c7)
                      have hR3 := Kd.R_far (p := ⟨W.heap.size, 0, none⟩) hos.out (fun k hk => hk) (.slice A7 n7 c7)
                      have hx3 := hcell.out _ hB2
                      obtain ⟨W2, hW2⟩ : ∃ W2, w1.setCell ⟨W.heap.size, 0, none⟩ (.slice A7 n7 c7) = W2 := ⟨_, rfl⟩
                      rw [hW2] at hB2 bP3 hR3 hx3 ⊢
                      clear hW2 hfz hce2 hx1 hce1
                      have HB2 := Aside0.mk hB2
                      have BP3 := Aside0.mk bP3
                      have HR3 := Aside0.mk hR3
                      clear hB2 bP3 hR3
                      gi_wp2
                      go_roundw
                      first
                        | case rel => exact ⟨i + 1, ls ++ [l], by rw [joinT_snoc], by rw [Int.natCast_add]; rfl, by omega, by omega, by rw [List.length_append, List.length_singleton]; omega, by rw [joinT_size_snoc]; omega, ⟨fun y hy => by rcases List.mem_append.1 hy with hy | hy; exact HOK.out y hy; rw [List.mem_singleton.1 hy]; exact HOKL.out⟩, ⟨(.slice A7 n7 c7), BP3.out, HR3.out⟩, HB2⟩
                          case measure => simp [intOf]; omega
                        | case roundEnd => exact ⟨⟨i + 1, ls ++ [l], by rw [joinT_snoc], by rw [Int.natCast_add]; rfl, by omega, by omega, by rw [List.length_append, List.length_singleton]; omega, by rw [joinT_size_snoc]; omega, ⟨fun y hy => by rcases List.mem_append.1 hy with hy | hy; exact HOK.out y hy; rw [List.mem_singleton.1 hy]; exact HOKL.out⟩, ⟨(.slice A7 n7 c7), BP3.out, HR3.out⟩, HB2⟩, by simp [intOf]; omega⟩
                  | false =>
                    by_cases r1 : k < l.size
                    · have r1' : (k : Int) < (l.size : Int) := by omega
                      gi_wp2
                      go_roundw
                      first
                        | case rel => exact ⟨i + 1, ls, rfl, by rw [Int.natCast_add]; rfl, by omega, by omega, by omega, by omega, HOK, ⟨by obtain ⟨v, b1, b2⟩ := HROW.out; exact ⟨v, b1, Kd.R_drewN b2 _⟩⟩, ⟨pw_below_drewN HBo.out _⟩⟩
                          case measure => simp [intOf]; omega
                        | case roundEnd => exact ⟨⟨i + 1, ls, rfl, by rw [Int.natCast_add]; rfl, by omega, by omega, by omega, by omega, HOK, ⟨by obtain ⟨v, b1, b2⟩ := HROW.out; exact ⟨v, b1, Kd.R_drewN b2 _⟩⟩, ⟨pw_below_drewN HBo.out _⟩⟩, by simp [intOf]; omega⟩
                    · have r1' : ¬ (k : Int) < (l.size : Int) := by omega
                      gi_wp2
                      go_roundw
                      first
                        | case rel => exact ⟨i + 1, ls, rfl, by rw [Int.natCast_add]; rfl, by omega, by omega, by omega, by omega, HOK, ⟨by obtain ⟨v, b1, b2⟩ := HROW.out; exact ⟨v, b1, Kd.R_drewN b2 _⟩⟩, ⟨pw_below_drewN HBo.out _⟩⟩
                          case measure => simp [intOf]; omega
                        | case roundEnd => exact ⟨⟨i + 1, ls, rfl, by rw [Int.natCast_add]; rfl, by omega, by omega, by omega, by omega, HOK, ⟨by obtain ⟨v, b1, b2⟩ := HROW.out; exact ⟨v, b1, Kd.R_drewN b2 _⟩⟩, ⟨pw_below_drewN HBo.out _⟩⟩, by simp [intOf]; omega⟩
              · have q8 : (z != 13) = true := bne_iff_ne.mpr q7
                have HQ7 := Aside0.mk q7
                clear q7
                go_quiet (fail)
                gi_wp2
                gi_loopw [13, 14] (fun t13 t14 wi => ∃ (k : Nat) (b : Bool), t13 = .bool b ∧ t14 = .int .i64 k ∧ k ≤ l.size ∧ wi = wr.drewN nq ∧ Aside0 (b = true → leadJ l ∧ ∀ j, j < k → bt l (j : Int) ≠ 10)) (fun _ t14 _ => l.size - (intOf t14).toNat)
                case atStart => exact ⟨0, _, rfl, rfl, Nat.zero_le _, rfl, ⟨fun _ => ⟨⟨by omega, .inr (by rw [HZ0.out]; exact HQ7.out)⟩, fun j hj => by omega⟩⟩⟩
                case round =>
                  obtain ⟨k, b, rfl, rfl, hk, rfl, HB⟩ := hrel
                  have hx1 : (wr.drewN nq).cell? (ad.add i) = some (.string l) := hx0
                  cases b with
                  | true =>
                    by_cases r1 : k < l.size
                    · have r1' : (k : Int) < (l.size : Int) := by omega
                      obtain ⟨z, hz⟩ : ∃ z, bt l (k : Int) = z := ⟨_, rfl⟩
                      have hix : ∀ W' : World, (Instr.index 9 (.string l) (.int .i64 (k : Int))).run Try.prog W' = .ok (.int .u8 z) W' := fun W' => by
                        rw [run_index_string (P := Try.prog) (w := W') 9 l .i64 _ Try.underlying9, dif_pos ⟨by omega, by omega⟩, bt_of_get, ← hz, Int.toNat_natCast]
                      have HZ := Aside0.mk hz
                      clear hz
                      by_cases r2 : z = 10
                      · have r3 : (z != 10) = false := bne_eq_false_iff_eq.mpr r2
                        clear r2
                        gi_wp2
                        go_roundw
                        case rel => exact ⟨k + 1, false, by first | rfl | trivial, by first | rfl | trivial, by omega, by first | rfl | trivial, ⟨fun h => by cases h⟩⟩
                        case measure => simp [intOf]; omega
                      · have r3 : (z != 10) = true := bne_iff_ne.mpr r2
                        have R2 := Aside0.mk r2
                        clear r2
                        gi_wp2
                        go_roundw
                        case rel => exact ⟨k + 1, true, by first | rfl | trivial, by first | rfl | trivial, by omega, by first | rfl | trivial, ⟨fun _ => ⟨(HB.out (by first | rfl | trivial)).1, fun j hj => by
                          by_cases hjk : j = k
                          · subst hjk; rw [HZ.out]; exact R2.out
                          · exact (HB.out (by first | rfl | trivial)).2 j (by omega)⟩⟩⟩
                        case measure => simp [intOf]; omega
                    · have r1' : ¬ (k : Int) < (l.size : Int) := by omega
                      gi_wp2
                      obtain ⟨v, bP, hR⟩ := HROW.out
                      have bP1 : Boxed (wr.drewN nq) W.heap.size 54 v := bP
                      have hR1 := Kd.R_drewN hR nq
                      have hB1 := pw_below_drewN HBo.out nq
                      have hokl : okJ l := ⟨(HB.out (by first | rfl | trivial)).1.1, (HB.out (by first | rfl | trivial)).1.2, fun j hj => (HB.out (by first | rfl | trivial)).2 j (by omega)⟩
                      have hsl2 := hokl.1
                      have HOKL := Aside0.mk hokl
                      obtain ⟨W1, hW1⟩ : ∃ W1, wr.drewN nq = W1 := ⟨_, rfl⟩
                      rw [hW1] at hx1 bP1 hR1 hB1 ⊢
                      clear hW1 bP hR hokl
                      have bPs := Aside0.mk bP1
                      have hRs := Aside0.mk hR1
                      have hBs := Aside0.mk hB1
                      have hlt1 := bP1.lt
                      have hce1 := bP1.cell
                      clear bP1 hR1 hB1
                      refine wpIn_wide.2 (wp_region_noPanic ?_)
                      refine start_ (n := 8) (S := fun w' => w'.cell? ⟨W.heap.size, 0, none⟩ = some v ∧ w'.cell? (ad.add i) = some (.string l)) (ds := [7]) #[false, false, false, false, false, false, false, false] (by kernel_rfl) rfl rfl ⟨hce1, hx1⟩ (fun hHeld => ?_)
                      refine pure_ (i := 1) (N := some 146) (v := ?_) (a' := ?_) #[false, true, false, false, false, false, false, false] rfl rfl (by kernel_rfl) (fun _ _ _ h => h) (Or.inl ⟨by rfl, ?_⟩) ?_ ?_
                      rotate_left
                      · intro w'
                        go_simp
                        with_reducible rfl
                      rotate_left
                      · simp only [Act.put, List.setIfInBounds_toArray, List.set_cons_zero, List.set_cons_succ, i64_w, i32_w]
                        rfl
                      refine pure_ (i := 2) (N := some 147) (v := ?_) (a' := ?_) #[false, true, true, false, false, false, false, false] rfl rfl (by kernel_rfl) (fun _ _ _ h => h) (Or.inl ⟨by rfl, ?_⟩) ?_ ?_
                      rotate_left
                      · intro w'
                        go_simp
                        with_reducible rfl
                      rotate_left
                      · simp only [Act.put, List.setIfInBounds_toArray, List.set_cons_zero, List.set_cons_succ, i64_w, i32_w]
                        rfl
                      refine pure_ (i := 3) (N := some 148) (v := ?_) (a' := ?_) #[false, true, true, true, false, false, false, false] rfl rfl (by kernel_rfl) (fun _ _ _ h => h) (Or.inl ⟨by rfl, ?_⟩) ?_ ?_
                      rotate_left
                      · intro w'
                        go_simp
                        with_reducible rfl
                      rotate_left
                      · simp only [Act.put, List.setIfInBounds_toArray, List.set_cons_zero, List.set_cons_succ, i64_w, i32_w]
                        rfl
                      refine take_ (i := 0) (N := some 145) (v := ?_) (a' := ?_) #[true, true, true, true, false, false, false, false] rfl rfl (by kernel_rfl) (fun _ _ _ h => h) (Or.inl ⟨by rfl, ?_⟩) hHeld ?_ ?_
                      rotate_left
                      · rintro w' ⟨s0, s1⟩
                        go_simp
                        with_reducible rfl
                      rotate_left
                      · simp only [Act.put, List.setIfInBounds_toArray, List.set_cons_zero, List.set_cons_succ, i64_w, i32_w]
                        rfl
                      refine take_ (i := 4) (N := some 149) (v := ?_) (a' := ?_) #[true, true, true, true, true, false, false, false] rfl rfl (by kernel_rfl) (fun _ _ _ h => h) (Or.inl ⟨by rfl, ?_⟩) hHeld ?_ ?_
                      rotate_left
                      · rintro w' ⟨s0, s1⟩
                        go_simp
                        with_reducible rfl
                      rotate_left
                      · simp only [Act.put, List.setIfInBounds_toArray, List.set_cons_zero, List.set_cons_succ, i64_w, i32_w]
                        rfl
                      refine one_ (i := 5) (N := some 150) #[true, true, true, true, true, true, false, false] rfl rfl (by kernel_rfl) (by decide) (fun K hK => ?_)
                      refine value_ (w1 := ?_) (v := ?_) (by rfl) rfl ?_ ?_
                      rotate_left 2
                      · go_simp
                        constructor
                        · rfl
                        · rfl
                      refine hK.out _ _ ⟨(World.cell?_alloc_lt _ _ _ (World.block_lt_of_cell? _ _ hHeld.1)).trans hHeld.1, (World.cell?_alloc_lt _ _ _ (World.block_lt_of_cell? _ _ hHeld.2)).trans hHeld.2⟩ (fun hHeld => ?_)
                      clear hK K
                      refine norm_ (a' := ?_) ?_ ?_
                      rotate_left
                      · show Act.put _ (some 150) _ = _
                        simp only [Act.put, List.setIfInBounds_toArray, List.set_cons_zero, List.set_cons_succ, i64_w, i32_w]
                        rfl
                      refine one_ (i := 6) (N := some 151) #[true, true, true, true, true, true, true, false] rfl rfl (by kernel_rfl) (by decide) (fun K hK => ?_)
                      refine Kd.R_append_step Kd.string (w0 := W) (W := W1.drew) W.heap.size ?hw (.tmp 145) (.tmp 150) 54 9 (.string ⟨#[]⟩) 16 rfl Try.underlying54 infoJ rfl (by decide) (by decide) v ls l [.string l] (fun k => k ≠ W.heap.size) (fun _ => False) rfl rfl (stringM _ _ _ _) (fun _ hk => hk.elim) (fun k hk => by have h5 : W1.heap.size ≤ k := hk; have := hlt1; omega) (Kd.R_drew hRs.out) hBs.out.drew hBs.out.drew.size (by omega) ?_
                      (case hw => rfl)
                      intro v1 w1 ho hb hg hat
                      obtain ⟨A7, c7, rfl⟩ := Kd.R_slice ho
                      obtain ⟨n7, hn7⟩ : ∃ n7, (ls ++ [l]).length = n7 := ⟨_, rfl⟩
                      rw [hn7] at ho ⊢
                      have hN7 := Aside0.mk hn7
                      clear hn7
                      have bP2 := (show Boxed W1.drew W.heap.size 54 v from bPs.out).kept hg (fun e' => hRs.out.1 _ e'.symm rfl)
                      have hfz := bP2.frozen
                      have hce2 := bP2.cell
                      have hos := Aside0.mk ho
                      have hbs := Aside0.mk hb
                      have bP2s := Aside0.mk bP2
                      clear ho hb hg hat bP2
                      refine hK.out _ _ ⟨hce2, hcell.out _ hbs.out⟩ (fun hHeld => ?_)
                      clear hK K
                      refine norm_ (a' := ?_) ?_ ?_
                      rotate_left
                      · show Act.put _ (some 151) _ = _
                        simp only [Act.put, List.setIfInBounds_toArray, List.set_cons_zero, List.set_cons_succ, i64_w, i32_w]
                        rfl
                      refine last_ (i := 7) (N := none) #[true, true, true, true, true, true, true, true] rfl rfl (by kernel_rfl) (by decide) (fun K hK => ?_)
                      refine skip_ (w1 := ?_) (by rfl) rfl ?_ ?_
                      rotate_left
                      · go_simp
                        rfl
                      refine hK.out _ _ ?_
                      clear hK K
                      refine done_ (by kernel_rfl) ?_
                      refine NoPanic.normal ?_
                      have hB2 := hbs.out.setCell (p := ⟨W.heap.size, 0, none⟩) (Nat.le_refl _) (.slice A7 n7 c7)
                      have bP3 := bP2s.out.set (.slice A7 n7 c7)
                      have hR3 := Kd.R_far (p := ⟨W.heap.size, 0, none⟩) hos.out (fun k hk => hk) (.slice A7 n7 c7)
                      have hx3 := hcell.out _ hB2
                      obtain ⟨W2, hW2⟩ : ∃ W2, w1.setCell ⟨W.heap.size, 0, none⟩ (.slice A7 n7 c7) = W2 := ⟨_, rfl⟩
                      rw [hW2] at hB2 bP3 hR3 hx3 ⊢
                      clear hW2 hfz hce2 hx1 hce1
                      have HB2 := Aside0.mk hB2
                      have BP3 := Aside0.mk bP3
                      have HR3 := Aside0.mk hR3
                      clear hB2 bP3 hR3
                      gi_wp2
                      go_roundw
                      first
                        | case rel => exact ⟨i + 1, ls ++ [l], by rw [joinT_snoc], by rw [Int.natCast_add]; rfl, by omega, by omega, by rw [List.length_append, List.length_singleton]; omega, by rw [joinT_size_snoc]; omega, ⟨fun y hy => by rcases List.mem_append.1 hy with hy | hy; exact HOK.out y hy; rw [List.mem_singleton.1 hy]; exact HOKL.out⟩, ⟨(.slice A7 n7 c7), BP3.out, HR3.out⟩, HB2⟩
                          case measure => simp [intOf]; omega
                        | case roundEnd => exact ⟨⟨i + 1, ls ++ [l], by rw [joinT_snoc], by rw [Int.natCast_add]; rfl, by omega, by omega, by rw [List.length_append, List.length_singleton]; omega, by rw [joinT_size_snoc]; omega, ⟨fun y hy => by rcases List.mem_append.1 hy with hy | hy; exact HOK.out y hy; rw [List.mem_singleton.1 hy]; exact HOKL.out⟩, ⟨(.slice A7 n7 c7), BP3.out, HR3.out⟩, HB2⟩, by simp [intOf]; omega⟩
                  | false =>
                    by_cases r1 : k < l.size
                    · have r1' : (k : Int) < (l.size : Int) := by omega
                      gi_wp2
                      go_roundw
                      first
                        | case rel => exact ⟨i + 1, ls, rfl, by rw [Int.natCast_add]; rfl, by omega, by omega, by omega, by omega, HOK, ⟨by obtain ⟨v, b1, b2⟩ := HROW.out; exact ⟨v, b1, Kd.R_drewN b2 _⟩⟩, ⟨pw_below_drewN HBo.out _⟩⟩
                          case measure => simp [intOf]; omega
                        | case roundEnd => exact ⟨⟨i + 1, ls, rfl, by rw [Int.natCast_add]; rfl, by omega, by omega, by omega, by omega, HOK, ⟨by obtain ⟨v, b1, b2⟩ := HROW.out; exact ⟨v, b1, Kd.R_drewN b2 _⟩⟩, ⟨pw_below_drewN HBo.out _⟩⟩, by simp [intOf]; omega⟩
                    · have r1' : ¬ (k : Int) < (l.size : Int) := by omega
                      gi_wp2
                      go_roundw
                      first
                        | case rel => exact ⟨i + 1, ls, rfl, by rw [Int.natCast_add]; rfl, by omega, by omega, by omega, by omega, HOK, ⟨by obtain ⟨v, b1, b2⟩ := HROW.out; exact ⟨v, b1, Kd.R_drewN b2 _⟩⟩, ⟨pw_below_drewN HBo.out _⟩⟩
                          case measure => simp [intOf]; omega
                        | case roundEnd => exact ⟨⟨i + 1, ls, rfl, by rw [Int.natCast_add]; rfl, by omega, by omega, by omega, by omega, HOK, ⟨by obtain ⟨v, b1, b2⟩ := HROW.out; exact ⟨v, b1, Kd.R_drewN b2 _⟩⟩, ⟨pw_below_drewN HBo.out _⟩⟩, by simp [intOf]; omega⟩
          · go_quiet (fail)
            gi_wp2
            gi_loopw [13, 14] (fun t13 t14 wi => ∃ (k : Nat) (b : Bool), t13 = .bool b ∧ t14 = .int .i64 k ∧ k ≤ l.size ∧ wi = wr.drewN nq ∧ Aside0 (b = true → leadJ l ∧ ∀ j, j < k → bt l (j : Int) ≠ 10)) (fun _ t14 _ => l.size - (intOf t14).toNat)
            case atStart => exact ⟨0, _, rfl, rfl, Nat.zero_le _, rfl, ⟨fun h => by cases h⟩⟩
            case round =>
              obtain ⟨k, b, rfl, rfl, hk, rfl, HB⟩ := hrel
              have hx1 : (wr.drewN nq).cell? (ad.add i) = some (.string l) := hx0
              cases b with
              | true => exact absurd (HB.out (by first | rfl | trivial)).1.1 (by omega)
              | false =>
                by_cases r1 : k < l.size
                · have r1' : (k : Int) < (l.size : Int) := by omega
                  gi_wp2
                  go_roundw
                  first
                    | case rel => exact ⟨i + 1, ls, rfl, by rw [Int.natCast_add]; rfl, by omega, by omega, by omega, by omega, HOK, ⟨by obtain ⟨v, b1, b2⟩ := HROW.out; exact ⟨v, b1, Kd.R_drewN b2 _⟩⟩, ⟨pw_below_drewN HBo.out _⟩⟩
                      case measure => simp [intOf]; omega
                    | case roundEnd => exact ⟨⟨i + 1, ls, rfl, by rw [Int.natCast_add]; rfl, by omega, by omega, by omega, by omega, HOK, ⟨by obtain ⟨v, b1, b2⟩ := HROW.out; exact ⟨v, b1, Kd.R_drewN b2 _⟩⟩, ⟨pw_below_drewN HBo.out _⟩⟩, by simp [intOf]; omega⟩
                · have r1' : ¬ (k : Int) < (l.size : Int) := by omega
                  gi_wp2
                  go_roundw
                  first
                    | case rel => exact ⟨i + 1, ls, rfl, by rw [Int.natCast_add]; rfl, by omega, by omega, by omega, by omega, HOK, ⟨by obtain ⟨v, b1, b2⟩ := HROW.out; exact ⟨v, b1, Kd.R_drewN b2 _⟩⟩, ⟨pw_below_drewN HBo.out _⟩⟩
                      case measure => simp [intOf]; omega
                    | case roundEnd => exact ⟨⟨i + 1, ls, rfl, by rw [Int.natCast_add]; rfl, by omega, by omega, by omega, by omega, HOK, ⟨by obtain ⟨v, b1, b2⟩ := HROW.out; exact ⟨v, b1, Kd.R_drewN b2 _⟩⟩, ⟨pw_below_drewN HBo.out _⟩⟩, by simp [intOf]; omega⟩
        · obtain rfl : i = 100 := by omega
          clear d2
          obtain ⟨v, bP, hR⟩ := HROW.out
          obtain ⟨A8, c8, rfl⟩ := Kd.R_slice hR
          have hcp := bP.cell
          have hok := HOK.out
          have hbo := HBo.out
          have hwo := hbo.size
          gi_wp2_with (refine ⟨trivial, ?_⟩; gi_at_call 27; go_must (refine (Lines_in (n - 1) (joinT ls) _).mono ?_; rintro e w3 ⟨rfl, rfl⟩))
          have hjs : (joinT ls).size ≤ 140737488351232 := by omega
          have hml := joined_lines ls hok
          have hX2 := lns_eq (joinT ls) hjs ((joinT ls).size + 1) 0 ((joinT ls).size + 2) (by omega) (by omega) (by omega)
          obtain ⟨X, hXe⟩ : ∃ X, lsp (joinT ls) ((joinT ls).size + 1) 0 = X := ⟨_, rfl⟩
          rw [hXe] at hml hX2
          have hXl : X.length = ls.length := by rw [← hml, List.length_map]
          have bP3 := bP.alloc (.cells #[.string (joinT ls)] 9)
          have bF3 := Boxed.alloc ((hbo.block _ BF4.out.lt).trans BF4.out) (.cells #[.string (joinT ls)] 9)
          have bL3 := Boxed.new wr 9 (.string (joinT ls))
          have hC3 := Kd.C_below (Kd.R_reads' hR).2.2 ((Below.refl _ wr).alloc (Nat.le_refl _) (.cells #[.string (joinT ls)] 9))
          have hWW := HB4.out.size
          have hB3 := (HB4.out.trans (hbo.mono hWW)).alloc (o := .cells #[.string (joinT ls)] 9) (by omega)
          have hD3 : (wr.alloc (.cells #[.string (joinT ls)] 9)).heap[D]? = some (.deferred (some [])) := ((Below.heap_alloc _ _ _ (by omega)).trans (hbo.block _ hWs)).trans HK.out
          have hsz4 : (wr.alloc (.cells #[.string (joinT ls)] 9)).heap.size = wr.heap.size + 1 := by simp
          obtain ⟨W3, hW3⟩ : ∃ W3, wr.alloc (.cells #[.string (joinT ls)] 9) = W3 := ⟨_, rfl⟩
          rw [hW3] at bP3 bF3 bL3 hC3 hB3 hD3 hsz4 ⊢
          have bN3 := Boxed.new W3 3 (.int .i64 0)
          rw [hsz4] at bN3
          have hlsb : ls.length ≤ 100 := by omega
          have HC3 := Aside0.mk hC3
          have HB3 := Aside0.mk hB3
          have HD3 := Aside0.mk hD3
          have HML := Aside0.mk hml
          have HX2 := Aside0.mk hX2
          clear hW3 hXe hC3 hB3 hD3 hml hX2 bP hR hcp hok hs1 hn1
          apply wpIn_rangeFunc_ownG (a₁ := _) rfl h1 (gf := 51) (lb := #[.pointer (some ⟨wr.heap.size, 0, none⟩)]) rfl trivial (enters_of Try.func51 (by kernel_rfl) rfl)
            (lines_stops (n - 1) (by omega) wr.heap.size (joinT ls) hjs X ((joinT ls).size + 2) HX2.out (W3.alloc (.cells #[.int .i64 0] 3)) (by simp; omega) (Boxed.alloc bL3 _))
            (fun h k => k.trans h) (fun W l o o' hl _ _ _ => World.putObj_heap_other (by simp at hl; omega)) (Below.refl _ _) (fun _ => rfl)
            (fun pre W => Boxed W (wr.heap.size + 1) 3 (.int .i64 (pre.length : Nat)) ∧ Below W3.heap.size W3 W)
            (fun c pre _ => c = .ret ∧ ¬ pre <+: X)
            (OwnFrom.and (Own.from (boxed_own _ _ _) _) (ownFrom_below (Nat.le_refl _) (by simp)))
            (fun c s X Y row hs hg hr => hs)
            ⟨bN3, (Below.refl _ W3).alloc (Nat.le_refl _) _⟩ ?assign2 ?body2 ?done2 ?stop2
          case assign2 =>
            intro l x W K hK
            gi_wp2
            exact hK
          case body2 =>
            rintro l pre x W ⟨bN, hBW⟩ hlt
            rw [hXl] at hlt
            have bP4 : Boxed W _ 54 _ := (hBW.block _ bP3.lt).trans bP3
            have bF4 : Boxed W (w.heap.size + 1) 4 (.bool false) := (hBW.block _ bF3.lt).trans bF3
            have hp1 := bP4.cell
            have hf1 := bF4.cell
            have hf2 := bF4.frozen
            have hn1 := bN.cell
            have hn2 := bN.frozen
            have hlt' : (pre.length : Int) < (ls.length : Int) := by omega
            obtain ⟨ad8, rfl, hx0⟩ := Kd.at_string (Kd.C_below HC3.out hBW) (pre.length : Int) (by omega) hlt'
            rw [Int.toNat_natCast] at hx0
            obtain ⟨y, hy⟩ : ∃ y, rdOf ByteArray.empty ls (pre.length : Int) = y := ⟨_, rfl⟩
            rw [hy] at hx0
            have HY := Aside0.mk hy
            have hBWs := Aside0.mk hBW
            have bNs := Aside0.mk bN
            clear hy hBW bN bP4 bF4
            have b0 : decide (ls.length ≤ pre.length) = false := decide_eq_false (by omega)
            have b00 : ¬ (ls.length : Int) ≤ (pre.length : Int) := by omega
            by_cases e0 : x.f1 = y
            · have b1 : (x.f1.toList == y.toList) = true := by rw [e0]; simp
              clear e0
              gi_wp2
              exact ⟨(KeepsOthers.setCell _ _ _).from _, Below.heap_setCell _ _ _ _ (by first | omega | (simp; done) | (simp; omega)), by rw [List.length_append]; exact bNs.out.set _, by have h6 := hBWs.out.setCell (p := ⟨wr.heap.size + 1, 0, none⟩) (by rw [hsz4]; exact Nat.le_refl _) (Value.int .i64 ((pre.length : Int) + 1)); first | exact h6 | (rw [hsz4] at h6; exact h6)⟩
            · have b1 : (x.f1.toList == y.toList) = false := beq_eq_false_iff_ne.mpr (fun h => e0 (toList_injJ h))
              have E0 := Aside0.mk e0
              clear e0
              gi_wp2
              exact ⟨(KeepsOthers.setCell _ _ _).from _, rfl, fun h => E0.out ((prefix_at HML.out h).symm.trans HY.out)⟩
          case done2 =>
            rintro D2 ys W5 hD hS ⟨bN, hBW⟩ hK
            have hS' : ys = X := hS
            subst hS'
            rw [hXl] at bN
            have bP4 : Boxed W5 _ 54 _ := (hBW.block _ bP3.lt).trans bP3
            have bF4 : Boxed W5 (w.heap.size + 1) 4 (.bool false) := (hBW.block _ bF3.lt).trans bF3
            have hp1 := bP4.cell
            have hf1 := bF4.cell
            have hf2 := bF4.frozen
            have hn1 := bN.cell
            have hD4 : W5.heap[D]? = some (.deferred (some [])) := (hBW.block _ (by omega)).trans HD3.out
            have HD4 := Aside0.mk hD4
            have HKs := Aside0.mk hK
            have HBWs := Aside0.mk hBW
            have BFs := Aside0.mk bF4
            have hD5 : wr.heap.size + 2 ≤ D2 := by simp at hD; omega
            clear hK hBW bF4 bN bP4 hS hD4
            gi_wp2
            have hDl := HD.out
            refine leaves_marksJ (w2.heap.size + 2) [D2, D] _ (by simp; omega) (fun E hE => ?_) (fun W' hW' => ?_)
            · rcases List.mem_cons.1 hE with rfl | hE
              · exact ⟨by omega, (Below.heap_setCell _ _ _ _ (by simp; omega)).trans HKs.out⟩
              · rw [List.mem_singleton.1 hE]
                exact ⟨hDl, (Below.heap_setCell _ _ _ _ (by simp; omega)).trans HD4.out⟩
            · have bY : Boxed W' (w.heap.size + 1) 4 (.bool true) := (hW'.block _ (by omega)).trans (BFs.out.set (.bool true))
              have hc := bY.cell
              refine ⟨.bool true, by simp [results, Try.results9, hc, go_sem], rfl, ?_⟩
              exact ((HB3.out.trans (HBWs.out.mono HB3.out.size)).setCell (p := ⟨w.heap.size + 1, 0, none⟩) (Nat.le_succ _) _).trans (hW'.mono (by omega))
          case stop2 =>
            rintro D c pre W hD hSp ⟨rfl, h⟩ hK
            exact (h hSp).elim
      · have d1' : ¬ (i : Int) < (xs.length : Int) := by omega
        obtain ⟨v, bP, hR⟩ := HROW.out
        obtain ⟨A8, c8, rfl⟩ := Kd.R_slice hR
        have hcp := bP.cell
        have hok := HOK.out
        have hbo := HBo.out
        have hwo := hbo.size
        gi_wp2_with (refine ⟨trivial, ?_⟩; gi_at_call 27; go_must (refine (Lines_in (n - 1) (joinT ls) _).mono ?_; rintro e w3 ⟨rfl, rfl⟩))
        have hjs : (joinT ls).size ≤ 140737488351232 := by omega
        have hml := joined_lines ls hok
        have hX2 := lns_eq (joinT ls) hjs ((joinT ls).size + 1) 0 ((joinT ls).size + 2) (by omega) (by omega) (by omega)
        obtain ⟨X, hXe⟩ : ∃ X, lsp (joinT ls) ((joinT ls).size + 1) 0 = X := ⟨_, rfl⟩
        rw [hXe] at hml hX2
        have hXl : X.length = ls.length := by rw [← hml, List.length_map]
        have bP3 := bP.alloc (.cells #[.string (joinT ls)] 9)
        have bF3 := Boxed.alloc ((hbo.block _ BF4.out.lt).trans BF4.out) (.cells #[.string (joinT ls)] 9)
        have bL3 := Boxed.new wr 9 (.string (joinT ls))
        have hC3 := Kd.C_below (Kd.R_reads' hR).2.2 ((Below.refl _ wr).alloc (Nat.le_refl _) (.cells #[.string (joinT ls)] 9))
        have hWW := HB4.out.size
        have hB3 := (HB4.out.trans (hbo.mono hWW)).alloc (o := .cells #[.string (joinT ls)] 9) (by omega)
        have hD3 : (wr.alloc (.cells #[.string (joinT ls)] 9)).heap[D]? = some (.deferred (some [])) := ((Below.heap_alloc _ _ _ (by omega)).trans (hbo.block _ hWs)).trans HK.out
        have hsz4 : (wr.alloc (.cells #[.string (joinT ls)] 9)).heap.size = wr.heap.size + 1 := by simp
        obtain ⟨W3, hW3⟩ : ∃ W3, wr.alloc (.cells #[.string (joinT ls)] 9) = W3 := ⟨_, rfl⟩
        rw [hW3] at bP3 bF3 bL3 hC3 hB3 hD3 hsz4 ⊢
        have bN3 := Boxed.new W3 3 (.int .i64 0)
        rw [hsz4] at bN3
        have hlsb : ls.length ≤ 100 := by omega
        have HC3 := Aside0.mk hC3
        have HB3 := Aside0.mk hB3
        have HD3 := Aside0.mk hD3
        have HML := Aside0.mk hml
        have HX2 := Aside0.mk hX2
        clear hW3 hXe hC3 hB3 hD3 hml hX2 bP hR hcp hok hs1 hn1
        apply wpIn_rangeFunc_ownG (a₁ := _) rfl h1 (gf := 51) (lb := #[.pointer (some ⟨wr.heap.size, 0, none⟩)]) rfl trivial (enters_of Try.func51 (by kernel_rfl) rfl)
          (lines_stops (n - 1) (by omega) wr.heap.size (joinT ls) hjs X ((joinT ls).size + 2) HX2.out (W3.alloc (.cells #[.int .i64 0] 3)) (by simp; omega) (Boxed.alloc bL3 _))
          (fun h k => k.trans h) (fun W l o o' hl _ _ _ => World.putObj_heap_other (by simp at hl; omega)) (Below.refl _ _) (fun _ => rfl)
          (fun pre W => Boxed W (wr.heap.size + 1) 3 (.int .i64 (pre.length : Nat)) ∧ Below W3.heap.size W3 W)
          (fun c pre _ => c = .ret ∧ ¬ pre <+: X)
          (OwnFrom.and (Own.from (boxed_own _ _ _) _) (ownFrom_below (Nat.le_refl _) (by simp)))
          (fun c s X Y row hs hg hr => hs)
          ⟨bN3, (Below.refl _ W3).alloc (Nat.le_refl _) _⟩ ?assign2 ?body2 ?done2 ?stop2
        case assign2 =>
          intro l x W K hK
          gi_wp2
          exact hK
        case body2 =>
          rintro l pre x W ⟨bN, hBW⟩ hlt
          rw [hXl] at hlt
          have bP4 : Boxed W _ 54 _ := (hBW.block _ bP3.lt).trans bP3
          have bF4 : Boxed W (w.heap.size + 1) 4 (.bool false) := (hBW.block _ bF3.lt).trans bF3
          have hp1 := bP4.cell
          have hf1 := bF4.cell
          have hf2 := bF4.frozen
          have hn1 := bN.cell
          have hn2 := bN.frozen
          have hlt' : (pre.length : Int) < (ls.length : Int) := by omega
          obtain ⟨ad8, rfl, hx0⟩ := Kd.at_string (Kd.C_below HC3.out hBW) (pre.length : Int) (by omega) hlt'
          rw [Int.toNat_natCast] at hx0
          obtain ⟨y, hy⟩ : ∃ y, rdOf ByteArray.empty ls (pre.length : Int) = y := ⟨_, rfl⟩
          rw [hy] at hx0
          have HY := Aside0.mk hy
          have hBWs := Aside0.mk hBW
          have bNs := Aside0.mk bN
          clear hy hBW bN bP4 bF4
          have b0 : decide (ls.length ≤ pre.length) = false := decide_eq_false (by omega)
          have b00 : ¬ (ls.length : Int) ≤ (pre.length : Int) := by omega
          by_cases e0 : x.f1 = y
          · have b1 : (x.f1.toList == y.toList) = true := by rw [e0]; simp
            clear e0
            gi_wp2
            exact ⟨(KeepsOthers.setCell _ _ _).from _, Below.heap_setCell _ _ _ _ (by first | omega | (simp; done) | (simp; omega)), by rw [List.length_append]; exact bNs.out.set _, by have h6 := hBWs.out.setCell (p := ⟨wr.heap.size + 1, 0, none⟩) (by rw [hsz4]; exact Nat.le_refl _) (Value.int .i64 ((pre.length : Int) + 1)); first | exact h6 | (rw [hsz4] at h6; exact h6)⟩
          · have b1 : (x.f1.toList == y.toList) = false := beq_eq_false_iff_ne.mpr (fun h => e0 (toList_injJ h))
            have E0 := Aside0.mk e0
            clear e0
            gi_wp2
            exact ⟨(KeepsOthers.setCell _ _ _).from _, rfl, fun h => E0.out ((prefix_at HML.out h).symm.trans HY.out)⟩
        case done2 =>
          rintro D2 ys W5 hD hS ⟨bN, hBW⟩ hK
          have hS' : ys = X := hS
          subst hS'
          rw [hXl] at bN
          have bP4 : Boxed W5 _ 54 _ := (hBW.block _ bP3.lt).trans bP3
          have bF4 : Boxed W5 (w.heap.size + 1) 4 (.bool false) := (hBW.block _ bF3.lt).trans bF3
          have hp1 := bP4.cell
          have hf1 := bF4.cell
          have hf2 := bF4.frozen
          have hn1 := bN.cell
          have hD4 : W5.heap[D]? = some (.deferred (some [])) := (hBW.block _ (by omega)).trans HD3.out
          have HD4 := Aside0.mk hD4
          have HKs := Aside0.mk hK
          have HBWs := Aside0.mk hBW
          have BFs := Aside0.mk bF4
          have hD5 : wr.heap.size + 2 ≤ D2 := by simp at hD; omega
          clear hK hBW bF4 bN bP4 hS hD4
          gi_wp2
          have hDl := HD.out
          refine leaves_marksJ (w2.heap.size + 2) [D2, D] _ (by simp; omega) (fun E hE => ?_) (fun W' hW' => ?_)
          · rcases List.mem_cons.1 hE with rfl | hE
            · exact ⟨by omega, (Below.heap_setCell _ _ _ _ (by simp; omega)).trans HKs.out⟩
            · rw [List.mem_singleton.1 hE]
              exact ⟨hDl, (Below.heap_setCell _ _ _ _ (by simp; omega)).trans HD4.out⟩
          · have bY : Boxed W' (w.heap.size + 1) 4 (.bool true) := (hW'.block _ (by omega)).trans (BFs.out.set (.bool true))
            have hc := bY.cell
            refine ⟨.bool true, by simp [results, Try.results9, hc, go_sem], rfl, ?_⟩
            exact ((HB3.out.trans (HBWs.out.mono HB3.out.size)).setCell (p := ⟨w.heap.size + 1, 0, none⟩) (Nat.le_succ _) _).trans (hW'.mono (by omega))
        case stop2 =>
          rintro D c pre W hD hSp ⟨rfl, h⟩ hK
          exact (h hSp).elim
  case stop =>
    rintro D c pre W hD hSp ⟨rfl, h⟩ hK
    exact (h hSp).elim
theorem vivariumlaw03_ScanJoined.calls (s : ByteArray) (hs : s.size ≤ 140737488351232) (A : Option Addr) (c : Nat) (xs : List ByteArray) (w : World) (hC : Kd.C Kd.string w A xs.length xs) (hcap : xs.length ≤ c) (hxl : xs.length ≤ 140737488351232) (hxs : ∀ x ∈ xs, x.size ≤ 140737488351232) :
    Calls Try.prog 9 #[.string s, .slice A xs.length c] w fun e W' => e = .returned (.bool true) ∧ Below w.heap.size w W' :=
  callsIn_wide.1 (joined_in 4 (by omega) s hs A c xs w hC hcap hxl hxs)
end Go.Proofs.Ytkahgdkpehlanaa.P

-- Written by a program of this session (wip/tools/mk.py) that runs the kit's printer; several functions' texts in one.
import Derived.Test.YtfgonglcmgahkabP0
import Derived.Test.YtfgonglcmgahkabPm1
import Derived.Test.YtfgonglcmgahkabPm2
import Derived.RangeFuncNested
import Derived.RangeFuncBound
import Derived.RangeFuncCalls
import Derived.RangeFuncLeaves
import Derived.RangeFuncBox
import Derived.Shelf.Abstract
import Derived.Shelf.RegionOpen
import Derived.WalkKit
import Derived.OwnWalkIn
import Derived.TacticsInMore
import Derived.LoopNIn
import Derived.LoopIn
import Derived.Maps.AppendAt
import Derived.Laws.RangeAny
import Derived.Deep.DeepMust
import Derived.Test.YtfgonglcmgahkabPlainDefs
namespace Go.Proofs.Ytfgonglcmgahkab.P
open Go.RowKit Go.Proofs.YtfgonglcmgahkabW.PrintWords Go.Proofs.YtfgonglcmgahkabW.PrintLast Go.Proofs.YtfgonglcmgahkabW.PrintMore
attribute [local go_sem] max2_int min2_int max_two min_two   -- for this text's walks alone
set_option linter.unusedVariables false
set_option linter.unusedSimpArgs false

/-! ### plain_Read: function 13 -/
-- EXT Derived.RangeFuncNested Derived.RangeFuncBound Derived.RangeFuncCalls Derived.RangeFuncLeaves Derived.RangeFuncBox Derived.Shelf.Abstract Derived.Shelf.RegionOpen Derived.WalkKit Derived.OwnWalkIn Derived.TacticsInMore Derived.LoopNIn Derived.LoopIn Derived.Maps.AppendAt Derived.Laws.RangeAny Derived.Deep.DeepMust Derived.Test.@NPlainDefs Derived.Test.@NP@F{vivarium/scan.Lines} Derived.Test.@NP@F{vivarium/plain.Of} Derived.Test.@NP@F{strings.HasPrefix}
open Go.Proofs.Ytfgonglcmgahkab.L Go.Shelf
attribute [local go_sem] Oper.semAt_some
/-- The lines themselves. -/
def vof {p : Ln → Prop} (q : List {x : Ln // p x}) : List Ln := q.map Subtype.val
def stepC (st : Int × List Cl) (l : Ln) : Int × List Cl := if bang l.f1 = true then st else (st.1 + 1, (rowC l.f1 st.1 l.f1.size 0 0 st.2).1)
def stC (pre : List Ln) : Int × List Cl := pre.foldl stepC (0, [])
theorem stC_snoc (pre : List Ln) (x : Ln) : stC (pre ++ [x]) = stepC (stC pre) x := by unfold stC; rw [List.foldl_append]; rfl
def flatC (xs : List Cl) : List Value := xs.flatMap fun x => [.int .i64 x.f0, .int .i64 x.f1, .int .u8 x.f2]
theorem flatC_snoc (xs : List Cl) (x : Cl) : flatC (xs ++ [x]) = flatC xs ++ [.int .i64 x.f0, .int .i64 x.f1, .int .u8 x.f2] := by unfold flatC; simp
theorem flatC_reps (w : World) (base : Nat) (ok : Nat → Prop) : ∀ (n : Nat) (xs : List Cl), xs.length = n → Reps (k35.M w base ok) 3 xs (flatC xs)
 | 0, xs, h => by
  obtain rfl := List.length_eq_zero_iff.1 h
  exact Reps.none _ _
 | n + 1, xs, h => by
  rcases List.eq_nil_or_concat xs with rfl | ⟨ys, y, rfl⟩
  ·simp at h
  ·rw [List.concat_eq_append] at h ⊢
   rw [flatC_snoc]
   exact (flatC_reps w base ok n ys (by simp at h; omega)).snoc (k35_mkM w base ok y) rfl
theorem cells_three (W : World) (a b c : Value) (t : TypeId) : ∀ j u, ([a, b, c] : List Value)[j]? = some u → (W.alloc (.cells #[a, b, c] t)).cell? ((⟨W.heap.size, 0, none⟩ : Addr).add j) = some u := by
 intro j u hj
 match j with
 | 0 => simp at hj; subst hj; exact blk_cell (blk_new W _) 0
 | 1 => simp at hj; subst hj; exact blk_cell (blk_new W _) 1
 | 2 => simp at hj; subst hj; exact blk_cell (blk_new W _) 2
 | j + 3 => simp at hj
theorem infoCl : (Try.prog.info? 35).map (fun i => (i.zero, i.size, i.bytes)) = some (some (.agg #[.int .i64 0, .int .i64 0, .int .u8 0]), 3, 24) := by kernel_rfl
theorem next_at {P : Program} (W : World) (g : Nat) (s : ByteArray) (pos : Nat) (ty : TypeId) (h : pos < s.size) (hg : W.heap[g]? = some (.stringIter s pos)) :
  (Instr.next (.pointer (some ⟨g, 0, none⟩)) true ty).run P W = .ok (.tuple #[.bool true, .int .i64 pos, .int .i32 (Utf8.decode s pos).1]) (W.putObj g (.stringIter s (pos + (Utf8.decode s pos).2))) := by
 simp only [Instr.next, getObj, setObj, Sem.run_bind, Sem.run, hg, Result.andThen, h, if_true]
 simp [goInt, World.putObj]
theorem next_end {P : Program} (W : World) (g : Nat) (s : ByteArray) (pos : Nat) (ty : TypeId) (h : ¬ pos < s.size) (hg : W.heap[g]? = some (.stringIter s pos)) :
  (Instr.next (.pointer (some ⟨g, 0, none⟩)) true ty).run P W = .ok (.tuple #[.bool false]) W := by
 simp [Instr.next, getObj, Sem.run, hg, h]
/-- What lies in memory between two rounds: the cells so far, the row's number, the results' cells, the line's. -/
def RdI (w : World) (s : ByteArray) (st : Int × List Cl) (W : World) : Prop :=
 ((((((∃ v, Boxed W (w.heap.size + 1 + 1 + 1) 27 v ∧ W.ownsRow w.heap.size 35 3 v st.2.length (flatC st.2) ∧ True) ∧ Boxed W (w.heap.size + 1 + 1 + 1 + 1) 3 (.int .i64 st.1)) ∧ Boxed W w.heap.size 27 (.slice none 0 0)) ∧ Boxed W (w.heap.size + 1) 3 (.int .i64 0)) ∧ Boxed W (w.heap.size + 1 + 1) 29 (.int .i64 0)) ∧ Boxed W (w.heap.size + 1 + 1 + 1 + 1 + 1) 9 (.string s)) ∧ Below w.heap.size w W
theorem RdI_own (w : World) (s : ByteArray) (B : Nat) (hB : w.heap.size ≤ B) : OwnFrom B (RdI w s) :=
 OwnFrom.and (OwnFrom.and (OwnFrom.and (OwnFrom.and (OwnFrom.and (OwnFrom.and (Own.from (holdsRow_own w.heap.size (w.heap.size + 1 + 1 + 1) 27 35 3 (fun st : Int × List Cl => st.2.length) (fun st => flatC st.2) (fun _ _ => True)) _) (Own.from (boxed_own _ _ (fun st : Int × List Cl => .int .i64 st.1)) _)) (Own.from (boxed_own _ _ (fun _ => _)) _)) (Own.from (boxed_own _ _ (fun _ => _)) _)) (Own.from (boxed_own _ _ (fun _ => _)) _)) (Own.from (boxed_own _ _ (fun _ => _)) _)) (ownFrom_below (Nat.le_refl _) hB)
theorem RdI_push {w W w1 : World} {s : ByteArray} {y : Int} {acc : List Cl} {x : Cl} {v v' : Value} {o : Obj} (hv : Boxed W (w.heap.size + 1 + 1 + 1) 27 v) (hrow : W.ownsRow w.heap.size 35 3 v acc.length (flatC acc))
  (hy : Boxed W (w.heap.size + 1 + 1 + 1 + 1) 3 (.int .i64 y)) (h2 : Boxed W w.heap.size 27 (.slice none 0 0)) (h3 : Boxed W (w.heap.size + 1) 3 (.int .i64 0)) (h4 : Boxed W (w.heap.size + 1 + 1) 29 (.int .i64 0)) (hl : Boxed W (w.heap.size + 1 + 1 + 1 + 1 + 1) 9 (.string s)) (hB : Below w.heap.size w W)
  (hown' : w1.ownsRow w.heap.size 35 3 v' (acc.length + 1) (flatC acc ++ [.int .i64 x.f0, .int .i64 x.f1, .int .u8 x.f2])) (hgrow : (W.alloc o).grownBy w1 v.ownBlock) :
  Boxed w1 (w.heap.size + 1 + 1 + 1) 27 v ∧ RdI w s (y, acc ++ [x]) (w1.setCell ⟨w.heap.size + 1 + 1 + 1, 0, none⟩ v') ∧ KeepsOthers W (w1.setCell ⟨w.heap.size + 1 + 1 + 1, 0, none⟩ v') := by
 obtain ⟨hv1, hv2, hr2, hk2, hb2⟩ := hv.appended (by decide) hrow hB.size (by omega) hown' hgrow
 have one : ∀ {B : Nat} {t : TypeId} {u : Value}, Boxed W B t u → t ≠ 35 → B ≠ w.heap.size + 1 + 1 + 1 → Boxed (w1.setCell ⟨w.heap.size + 1 + 1 + 1, 0, none⟩ v') B t u := fun hb ht hne => ((hb.alloc o).kept hgrow (hb.not_row ht hrow)).other hne v'
 refine ⟨hv1, ⟨⟨⟨⟨⟨⟨⟨_, hv2, ?_, trivial⟩, one hy (by decide) (by omega)⟩, one h2 (by decide) (by omega)⟩, one h3 (by decide) (by omega)⟩, one h4 (by decide) (by omega)⟩, one hl (by decide) (by omega)⟩, hB.trans hb2⟩, hk2⟩
 show World.ownsRow _ _ _ _ _ (acc ++ [x]).length (flatC (acc ++ [x]))
 rw [flatC_snoc, List.length_append]
 exact hr2
theorem read_end {n D : Nat} {w W : World} {tmps : Array Value} {v : Value} {r : List Cl} {p c : Int} (h2 : tmps[2]?.getD undef = .pointer (some ⟨w.heap.size, 0, none⟩)) (h3 : tmps[3]?.getD undef = .pointer (some ⟨w.heap.size + 1, 0, none⟩)) (h4 : tmps[4]?.getD undef = .pointer (some ⟨w.heap.size + 1 + 1, 0, none⟩))
  (hD : w.heap.size + 6 ≤ D) (k2 : Boxed W w.heap.size 27 v) (k3 : Boxed W (w.heap.size + 1) 3 (.int .i64 p)) (k4 : Boxed W (w.heap.size + 1 + 1) 29 (.int .i64 c)) (hK : W.heap[D]? = some (.deferred (some [])))
  (hR : Kd.R k35 35 (W.putObj D (.deferred none)) w.heap.size (fun _ => True) v r) (hB : Below w.heap.size w (W.putObj D (.deferred none))) :
  bodyPostM Fence.wide n Try.prog Try.f13 (fun e W' => ∃ v, e = .returned (.tuple #[v, .int .i64 p, .int .i64 c]) ∧ Kd.R k35 35 W' w.heap.size (fun _ => True) v r ∧ Below w.heap.size w W') .ret { tmps := tmps, defers := [{ target := .collected D, args := #[] }] } W := by
 refine ⟨by simp, .inl ⟨_, _, rfl, run_takeDeferred hK, ?_⟩⟩
 have m2 := (k2.kept (grownBy_putObj' W D (.deferred none)) (fun e => by cases e; omega)).cell
 have m3 := (k3.kept (grownBy_putObj' W D (.deferred none)) (fun e => by cases e; omega)).cell
 have m4 := (k4.kept (grownBy_putObj' W D (.deferred none)) (fun e => by cases e; omega)).cell
 refine ⟨.tuple #[v, .int .i64 p, .int .i64 c], ?_, v, rfl, hR, hB⟩
 simp [results, Try.results13, h2, h3, h4, m2, m3, m4, go_sem]
set_option maxRecDepth 100000 in
set_option maxHeartbeats 4000000 in
theorem Read_in (n : Nat) (hn : 4 ≤ n) (s : ByteArray) (hs : s.size ≤ 1048576) (r : List Cl) (p c : Int) (hr : readC (lsp s (s.size + 1) 0) 0 [] = (r, p, c)) (w : World) :
  CallsIn Fence.wide n Try.prog 13 #[.string s] w fun e W' => ∃ v, e = .returned (.tuple #[v, .int .i64 p, .int .i64 c]) ∧ Kd.R k35 35 W' w.heap.size (fun _ => True) v r ∧ Below w.heap.size w W' := by
 have h1 : 1 ≤ n := by omega
 have h11 : 1 ≤ n - 1 - 1 := by omega
 have hR := Aside0.mk hr
 clear hr
 obtain ⟨i0, hi, hz0, hz1, hz2⟩ := info_parts infoCl
 have hz : decide (1048576 < (s.size : Int)) = false := decide_eq_false (by omega)
 have hX := Aside0.mk (lns_eq s (by omega) (s.size + 1) 0 (s.size + 2) (by omega) (by omega) (by omega))
 have hlen := lsp_lenP s (s.size + 1) 0
 have hin := lsp_in s (s.size + 1) 0
 refine callsIn_of_wp_marks Try.func13 rfl trivial ?_ rfl
 simp only [Try.ntmps13, List.size_toArray, List.length_cons, List.length_nil, Nat.reduceAdd, Nat.reduceSub, Array.replicate_succ, Array.replicate_zero, List.push_toArray, List.append_toArray, List.nil_append, List.cons_append]
 gi_wp2_with (refine ⟨trivial, ?_⟩; gi_at_call 27; go_must (refine (Lines_in (n - 1) s _).mono ?_; rintro e w' ⟨rfl, rfl⟩))
 have hI0 : RdI w s (0, []) ((((((w.alloc (.cells #[.slice none 0 0] 27)).alloc (.cells #[.int .i64 0] 3)).alloc (.cells #[.int .i64 0] 29)).alloc (.cells #[.slice none 0 0] 27)).alloc (.cells #[.int .i64 0] 3)).alloc (.cells #[.string s] 9)) := by
  have b2 := (((((Boxed.new w 27 (.slice none 0 0)).alloc (.cells #[.int .i64 0] 3)).alloc (.cells #[.int .i64 0] 29)).alloc (.cells #[.slice none 0 0] 27)).alloc (.cells #[.int .i64 0] 3)).alloc (.cells #[.string s] 9)
  have b3 := ((((Boxed.new (w.alloc (.cells #[.slice none 0 0] 27)) 3 (.int .i64 0)).alloc (.cells #[.int .i64 0] 29)).alloc (.cells #[.slice none 0 0] 27)).alloc (.cells #[.int .i64 0] 3)).alloc (.cells #[.string s] 9)
  have b4 := (((Boxed.new ((w.alloc (.cells #[.slice none 0 0] 27)).alloc (.cells #[.int .i64 0] 3)) 29 (.int .i64 0)).alloc (.cells #[.slice none 0 0] 27)).alloc (.cells #[.int .i64 0] 3)).alloc (.cells #[.string s] 9)
  have b5 := ((Boxed.new (((w.alloc (.cells #[.slice none 0 0] 27)).alloc (.cells #[.int .i64 0] 3)).alloc (.cells #[.int .i64 0] 29)) 27 (.slice none 0 0)).alloc (.cells #[.int .i64 0] 3)).alloc (.cells #[.string s] 9)
  have b6 := (Boxed.new ((((w.alloc (.cells #[.slice none 0 0] 27)).alloc (.cells #[.int .i64 0] 3)).alloc (.cells #[.int .i64 0] 29)).alloc (.cells #[.slice none 0 0] 27)) 3 (.int .i64 0)).alloc (.cells #[.string s] 9)
  have b7 := Boxed.new (((((w.alloc (.cells #[.slice none 0 0] 27)).alloc (.cells #[.int .i64 0] 3)).alloc (.cells #[.int .i64 0] 29)).alloc (.cells #[.slice none 0 0] 27)).alloc (.cells #[.int .i64 0] 3)) 9 (.string s)
  simp only [World.size_alloc] at b3 b4 b5 b6 b7
  refine ⟨⟨⟨⟨⟨⟨⟨_, b5, World.ownsRow_nil _ _ _ _, trivial⟩, b6⟩, b2⟩, b3⟩, b4⟩, b7⟩, ?_⟩
  exact ((((((Below.refl _ w).alloc (Nat.le_refl _) _).alloc (by simp) _).alloc (by simp; omega) _).alloc (by simp; omega) _).alloc (by simp; omega) _).alloc (by simp; omega) _
 have hsz : ((((((w.alloc (.cells #[.slice none 0 0] 27)).alloc (.cells #[.int .i64 0] 3)).alloc (.cells #[.int .i64 0] 29)).alloc (.cells #[.slice none 0 0] 27)).alloc (.cells #[.int .i64 0] 3)).alloc (.cells #[.string s] 9)).heap.size = w.heap.size + 1 + 1 + 1 + 1 + 1 + 1 := by simp only [World.size_alloc]
 obtain ⟨W0, hW0⟩ : ∃ W0, ((((((w.alloc (.cells #[.slice none 0 0] 27)).alloc (.cells #[.int .i64 0] 3)).alloc (.cells #[.int .i64 0] 29)).alloc (.cells #[.slice none 0 0] 27)).alloc (.cells #[.int .i64 0] 3)).alloc (.cells #[.string s] 9)) = W0 := ⟨_, rfl⟩
 rw [hW0] at hI0 hsz ⊢
 clear hW0
 have hown := RdI_own w s W0.heap.size (by omega)
 refine wpIn_rangeFunc_ownG rfl h1 (gf := 38) (lb := #[.pointer (some ⟨w.heap.size + 1 + 1 + 1 + 1 + 1, 0, none⟩)]) rfl trivial (enters_of Try.func38 (by kernel_rfl) rfl)
  (lines_stopsP (fun x => 0 ≤ x.f0 ∧ x.f0 ≤ (s.size : Int) ∧ x.f1.size ≤ s.size) (n - 1) (by omega) (w.heap.size + 1 + 1 + 1 + 1 + 1) s (by omega) (lsp s (s.size + 1) 0) hin (s.size + 2) hX.out W0 (by omega) hI0.1.2)
  (fun h k => k.trans h) (fun W l o o' hl _ _ _ => World.putObj_heap_other (by omega)) (Below.refl _ _) (fun _ => rfl)
  (fun pre W => ((∀ rest, readC (vof pre ++ rest) 0 [] = readC rest (stC (vof pre)).1 (stC (vof pre)).2) ∧ (0 ≤ (stC (vof pre)).1 ∧ (stC (vof pre)).1 ≤ pre.length ∧ (stC (vof pre)).2.length ≤ pre.length * 1048577)) ∧ RdI w s (stC (vof pre)) W)
  (fun c pre W => (c = .ret ∧ ∃ p, (∀ rest, readC (vof pre ++ rest) 0 [] = ([], p, 230)) ∧ (Boxed W w.heap.size 27 (.slice none 0 0) ∧ Boxed W (w.heap.size + 1) 3 (.int .i64 p)) ∧ Boxed W (w.heap.size + 1 + 1) 29 (.int .i64 230)) ∧ Below w.heap.size w W)
  (OwnFrom.and (ownFrom_pure _ _) (fun pre X Y row h hg hr => hown _ X Y row h hg hr))
  (fun c pre X Y row hs hg hr => by
   obtain ⟨⟨h1, p, h2, ⟨h3, h4⟩, h5⟩, h6⟩ := hs
   exact ⟨⟨h1, p, h2, ⟨Own.from (boxed_own _ _ (fun _ : Unit => _)) _ () X Y row h3 hg hr, Own.from (boxed_own _ _ (fun _ : Unit => _)) _ () X Y row h4 hg hr⟩, Own.from (boxed_own _ _ (fun _ : Unit => _)) _ () X Y row h5 hg hr⟩, ownFrom_below (β := Unit) (Nat.le_refl w.heap.size) (by omega) () X Y row h6 hg hr⟩)
  ⟨⟨fun rest => rfl, Int.le_refl _, Int.natCast_nonneg _, Nat.zero_le _⟩, hI0⟩
  (fun x => { tmps := #[.string s, undef, .pointer (some ⟨w.heap.size, 0, none⟩), .pointer (some ⟨w.heap.size + 1, 0, none⟩), .pointer (some ⟨w.heap.size + 1 + 1, 0, none⟩), .pointer (some ⟨w.heap.size + 1 + 1 + 1, 0, none⟩), .pointer (some ⟨w.heap.size + 1 + 1 + 1 + 1, 0, none⟩), .int .i64 x.1.f0, .string x.1.f1, undef, undef, undef, undef, undef, .string s, .int .i64 s.size, .bool false, .string s, .func (.func 38) #[] #[.pointer (some ⟨w.heap.size + 1 + 1 + 1 + 1 + 1, 0, none⟩)], .int .i64 x.1.f0, .string x.1.f1, undef, undef, undef, undef, undef, undef, undef, undef, undef, undef, undef, undef, undef, undef, undef, undef, undef, undef, undef, undef, undef, undef, undef, undef, undef, undef, undef, undef, undef, undef, undef, undef], defers := [] })
  ?assign ?body ?done ?stop
 case assign =>
  intro l x W K hK
  gi_wp2
  exact hK
 case body =>
  rintro l pre ⟨x, hx0, hx1, hx2⟩ W ⟨⟨hcont, hy0, hy1, hac⟩, hI⟩ hlt
  have hmap : vof (pre ++ [(⟨x, hx0, hx1, hx2⟩ : {x : Ln // 0 ≤ x.f0 ∧ x.f0 ≤ (s.size : Int) ∧ x.f1.size ≤ s.size})]) = vof pre ++ [x] := by unfold vof; rw [List.map_append]; rfl
  have hsnoc := stC_snoc (vof pre) x
  have hplen : (pre ++ [(⟨x, hx0, hx1, hx2⟩ : {x : Ln // 0 ≤ x.f0 ∧ x.f0 ≤ (s.size : Int) ∧ x.f1.size ≤ s.size})]).length = pre.length + 1 := by simp
  rw [← hmap] at hsnoc
  obtain ⟨q, hq⟩ : ∃ q, pre ++ [(⟨x, hx0, hx1, hx2⟩ : {x : Ln // 0 ≤ x.f0 ∧ x.f0 ≤ (s.size : Int) ∧ x.f1.size ≤ s.size})] = q := ⟨_, rfl⟩
  rw [hq] at hmap hsnoc hplen ⊢
  obtain ⟨⟨y, acc⟩, hst⟩ : ∃ st, stC (vof pre) = st := ⟨_, rfl⟩
  rw [hst] at hcont hy0 hy1 hac hI hsnoc
  dsimp only at hcont hy0 hy1 hac
  have hC2 : ∀ rest, readC (vof q ++ rest) 0 [] = readC (x :: rest) y acc := fun rest => by rw [hmap, List.append_assoc, List.singleton_append]; exact hcont (x :: rest)
  have hpl : pre.length ≤ 1048577 := by omega
  have hCC := Aside0.mk hC2
  have hSN := Aside0.mk hsnoc
  clear hq hmap hst hcont hC2 hsnoc
  have hWs : W0.heap.size ≤ W.heap.size := by have := hI.1.2.lt; omega
  by_cases hb : bang x.f1 = true
  ·have hB := Aside0.mk hb
   have hII := Aside0.mk hI
   have hSB := Aside0.mk hI.1.2.lt
   clear hb hI
   gi_wp2_with (refine ⟨trivial, ?_⟩; gi_at_call 28; go_must (refine (CallsIn.inRound l (callsIn_wide.2 (strings_HasPrefix.calls x.f1 ⟨#[33]⟩ true _ (by rw [bang_is, hB.out])))).mono ?_; rintro e w2 ⟨rfl, hd⟩; have HD := Aside0.mk hd.below; clear hd))
   have hs2 : stC (vof q) = (y, acc) := by rw [hSN.out]; unfold stepC; rw [if_pos hB.out]
   refine ⟨(KeepsOthers.of_grownBy (grown_belowL HD.out) (fun j o e => by cases e)).from _, HD.out.block _ hSB.out, ⟨fun rest => ?_, ?_, ?_, ?_⟩, ?_⟩
   ·rw [hCC.out, readC_bang x rest y acc hB.out, hs2]
   ·rw [hs2]; exact hy0
   ·rw [hs2, hplen]; show y ≤ _; omega
   ·rw [hs2, hplen]; exact Nat.le_trans hac (Nat.mul_le_mul_right _ (Nat.le_succ _))
   ·rw [hs2]; exact hown _ _ _ none hII.out (grown_belowL HD.out) (by simp)
  ·have hB := Aside0.mk hb
   have hII := Aside0.mk hI
   have hSB := Aside0.mk hI.1.2.lt
   obtain ⟨acc2, bad, hT⟩ : ∃ a b, rowC x.f1 y x.f1.size 0 0 acc = (a, b) := ⟨_, _, rfl⟩
   have hTL : acc2.length ≤ acc.length + x.f1.size := by have := rowC_len x.f1 y x.f1.size 0 0 acc; rw [hT] at this; exact this
   have hTT := Aside0.mk hT
   have hyb : y ≤ 1048577 := by omega
   clear hb hI hT
   gi_wp2_with (refine ⟨trivial, ?_⟩; gi_at_call 28; go_must (refine (CallsIn.inRound l (callsIn_wide.2 (strings_HasPrefix.calls x.f1 ⟨#[33]⟩ false _ (by rw [bang_is, Bool.eq_false_iff.mpr hB.out])))).mono ?_; rintro e w2 ⟨rfl, hd⟩; have HD := Aside0.mk hd.below; have hgi : W.heap.size ≤ w2.heap.size := hd.below.size; clear hd))
   have HI2 := Aside0.mk (hown _ _ _ none hII.out (grown_belowL HD.out) (by simp))
   have HK2 := Aside0.mk (KeepsOthers.of_grownBy (row := none) (grown_belowL HD.out) (fun j o e => by cases e))
   gi_loopw [9] (fun t9 wr => ∃ (pos k : Nat) (x' : Int) (ac : List Cl), t9 = .int .i64 x' ∧ (0 ≤ x' ∧ x' ≤ pos ∧ ac.length ≤ acc.length + pos) ∧ x.f1.size ≤ pos + k ∧ Aside0 (rowC x.f1 y k pos x' ac = (acc2, bad)) ∧ Aside0 (wr.heap[w2.heap.size]? = some (.stringIter x.f1 pos)) ∧ Aside0 (RdI w s (y, ac) wr) ∧ Aside0 (KeepsOthers W wr))
    (fun _ wr => x.f1.size - wr.iterPos w2.heap.size)
   case atStart =>
    exact ⟨0, x.f1.size, 0, acc, rfl, ⟨by omega, by omega, by omega⟩, by omega, hTT, ⟨World.iter_heap w2 x.f1 0⟩, ⟨hown.alloc _ HI2.out⟩, ⟨HK2.out.trans (KeepsOthers.alloc _ _)⟩⟩
   case round =>
    obtain ⟨pos, k, x', ac, rfl, ⟨hx'0, hx'1, hac'⟩, hsk, HRow, HIt, HR, HK⟩ := hrel
    have hglt := (Array.getElem?_eq_some_iff.1 HIt.out).1
    have hip : wr.iterPos w2.heap.size = pos := by simp only [World.iterPos, HIt.out]
    by_cases hp : pos < x.f1.size
    ·cases k with
     | zero => omega
     | succ k =>
     have hrw := HRow.out
     rw [rowC_succ, if_pos hp] at hrw
     have hwd := width_pos x.f1 pos hp
     have hrl := decode_le x.f1 pos
     have hnx0 : ∀ ty, (Instr.next (.pointer (some ⟨w2.heap.size, 0, none⟩)) true ty).run Try.prog wr = _ := fun ty => next_at wr w2.heap.size x.f1 pos ty hp HIt.out
     obtain ⟨⟨rn, wd⟩, hde⟩ : ∃ d, Utf8.decode x.f1 pos = d := ⟨_, rfl⟩
     rw [hde] at hrw hwd hrl hnx0
     dsimp only at hrw hwd hrl hnx0
     have hor := ofP_range (rn : Int)
     have hof := of_is (rn : Int) (by omega) (by omega) 5 (by omega)
     obtain ⟨⟨sv, ok⟩, hs⟩ : ∃ st, ofP (rn : Int) = st := ⟨_, rfl⟩
     rw [hs] at hrw hof hor
     dsimp only at hrw hor
     have HRp := Aside0.mk (hown.putObj (.stringIter x.f1 (pos + wd)) HR.out (by omega) HIt.out rfl)
     have HIp : Aside0 ((wr.putObj w2.heap.size (.stringIter x.f1 (pos + wd))).heap[w2.heap.size]? = some (.stringIter x.f1 (pos + wd))) := ⟨World.putObj_heap_same hglt⟩
     have HKp : Aside0 (KeepsOthers W (wr.putObj w2.heap.size (.stringIter x.f1 (pos + wd)))) := ⟨⟨by rw [World.putObj_size]; exact HK.out.size, fun k o hk ho => (World.putObj_heap_other (by have := (Array.getElem?_eq_some_iff.1 hk).1; omega)).trans (HK.out.same k o hk ho)⟩⟩
     have HOF := Aside0.mk hof
     have hW2 := Aside0.mk hx'1
     have hx'2 : x' ≤ 1048576 := by omega
     have hpos2 : (pos : Int) ≤ 1048576 := by omega
     clear hof hs hde hrl HRow HR HK HIt
     by_cases hok : ok = true
     ·subst hok
      rw [if_pos rfl] at hrw
      by_cases h0 : sv = 0
      ·subst h0
       rw [if_pos rfl] at hrw
       have HRW := Aside0.mk hrw
       clear hrw hor
       gi_wp2_with (refine ⟨trivial, ?_⟩; gi_at_call 16; go_must (refine (CallsIn.inRound l (callsIn_wide.2 (plain_Of.calls 5 (rn : Int) 0 true _ HOF.out))).mono ?_; rintro e w4 ⟨rfl, hd⟩; have HD4 := Aside0.mk hd.below; clear hd; have HR4 := hown _ _ _ none HRp.out (grown_belowL HD4.out) (by simp); obtain ⟨⟨⟨⟨⟨⟨⟨v, hv, hrow, _⟩, hy⟩, h2⟩, h3⟩, h4⟩, hl⟩, hB4⟩ := HR4; have hcv := hv.cell; have hcy := hy.cell; have hfv := hv.frozen; have hf2 := h2.frozen; have hc2 := h2.cell; have hf3 := h3.frozen; have hc3 := h3.cell; have hf4 := h4.frozen; have hc4 := h4.cell; have hIt4 := Aside0.mk ((HD4.out.block _ (by rw [World.putObj_size]; exact hglt)).trans HIp.out); have hK4 := Aside0.mk (HKp.out.trans (KeepsOthers.of_grownBy (grown_belowL HD4.out) (fun j o e => by cases e)))))
       go_roundw
       case rel => exact ⟨pos + wd, k, x' + 1, ac, rfl, ⟨by omega, by have := hW2.out; omega, by omega⟩, by omega, HRW, hIt4, ⟨⟨⟨⟨⟨⟨⟨⟨v, hv, hrow, trivial⟩, hy⟩, h2⟩, h3⟩, h4⟩, hl⟩, hB4⟩⟩, hK4⟩
       case measure =>
        rw [hip, show w4.iterPos w2.heap.size = pos + wd from by simp only [World.iterPos, hIt4.out]]
        omega
      ·rw [if_neg h0] at hrw
       have HRW := Aside0.mk hrw
       have hacb : ac.length ≤ 1200000000000 := by omega
       have b0 : (sv != 0) = true := bne_iff_ne.mpr h0
       clear hrw hor
       gi_wp2_with (first | (refine ⟨trivial, ?_⟩; gi_at_call 16; go_must (refine (CallsIn.inRound l (callsIn_wide.2 (plain_Of.calls 5 (rn : Int) sv true _ HOF.out))).mono ?_; rintro e w4 ⟨rfl, hd⟩; have HD4 := Aside0.mk hd.below; clear hd; have HR4 := hown _ _ _ none HRp.out (grown_belowL HD4.out) (by simp); obtain ⟨⟨⟨⟨⟨⟨⟨v, hv, hrow, _⟩, hy⟩, h2⟩, h3⟩, h4⟩, hl⟩, hB4⟩ := HR4; have hcv := hv.cell; have hcy := hy.cell; have hfv := hv.frozen; have hf2 := h2.frozen; have hc2 := h2.cell; have hf3 := h3.frozen; have hc3 := h3.cell; have hf4 := h4.frozen; have hc4 := h4.cell; have hIt4 := Aside0.mk ((HD4.out.block _ (by rw [World.putObj_size]; exact hglt)).trans HIp.out); have hK4 := Aside0.mk (HKp.out.trans (KeepsOthers.of_grownBy (grown_belowL HD4.out) (fun j o e => by cases e))))) | (gi_at_builtin; go_must (refine wpListIn_append_own _ rfl _ _ 27 rfl w.heap.size 35 i0 (.agg #[.int .i64 0, .int .i64 0, .int .u8 0]) 3 24 Try.underlying27 hi hz0 hz1 hz2 rfl (by decide) _ _ _ rfl (hrow.alloc _) ⟨w4.heap.size, 0, none⟩ 1 1 [.int .i64 x', .int .i64 y, .int .u8 sv] rfl rfl (cells_three _ _ _ _ _) (by simp [Value.oneCell']) (by simp [maxLen]; omega) (by omega) (by have := hB4.size; simp; omega) ?_; intro v' w1 hown' hgrow _; obtain ⟨g', cap', rfl⟩ := ownsRow_succ hown'; have hpush := RdI_push (x := ⟨x', y, sv⟩) hv hrow hy h2 h3 h4 hl hB4 hown' hgrow; have hc1 := hpush.1.cell; have hf1 := hpush.1.frozen; have hIt5 := hpush.2.2.same _ _ hIt4.out rfl)))
       go_roundw
       case rel => exact ⟨pos + wd, k, x' + 1, ac ++ [⟨x', y, sv⟩], rfl, ⟨by omega, by have := hW2.out; omega, by rw [List.length_append, List.length_singleton]; omega⟩, by omega, HRW, ⟨hIt5⟩, ⟨hpush.2.1⟩, ⟨hK4.out.trans hpush.2.2⟩⟩
       case measure =>
        rw [hip]
        simp only [World.iterPos, hIt5]
        omega
     ·have hok : ok = false := Bool.eq_false_iff.mpr hok
      subst hok
      rw [if_neg (by decide)] at hrw
      have HRW := Aside0.mk hrw
      clear hrw hor
      gi_wp2_with (refine ⟨trivial, ?_⟩; gi_at_call 16; go_must (refine (CallsIn.inRound l (callsIn_wide.2 (plain_Of.calls 5 (rn : Int) sv false _ HOF.out))).mono ?_; rintro e w4 ⟨rfl, hd⟩; have HD4 := Aside0.mk hd.below; clear hd; have HR4 := hown _ _ _ none HRp.out (grown_belowL HD4.out) (by simp); obtain ⟨⟨⟨⟨⟨⟨⟨v, hv, hrow, _⟩, hy⟩, h2⟩, h3⟩, h4⟩, hl⟩, hB4⟩ := HR4; have hcv := hv.cell; have hcy := hy.cell; have hfv := hv.frozen; have hf2 := h2.frozen; have hc2 := h2.cell; have hf3 := h3.frozen; have hc3 := h3.cell; have hf4 := h4.frozen; have hc4 := h4.cell; have hIt4 := Aside0.mk ((HD4.out.block _ (by rw [World.putObj_size]; exact hglt)).trans HIp.out); have hK4 := Aside0.mk (HKp.out.trans (KeepsOthers.of_grownBy (grown_belowL HD4.out) (fun j o e => by cases e)))))
      have hrw := HRW.out
      simp only [Prod.mk.injEq] at hrw
      refine ⟨(hK4.out.trans ((KeepsOthers.setCell _ _ _).trans ((KeepsOthers.setCell _ _ _).trans (KeepsOthers.setCell _ _ _)))).from _, ⟨rfl, x.f0 + (pos : Int), fun rest => ?_, ⟨((h2.set _).other (by omega) _).other (by omega) _, ((h3.other (by omega) _).set _).other (by omega) _⟩, ((h4.other (by omega) _).other (by omega) _).set _⟩, ((hB4.setCell (p := ⟨w.heap.size, 0, none⟩) (Nat.le_refl _) _).setCell (p := ⟨w.heap.size + 1, 0, none⟩) (by simp) _).setCell (p := ⟨w.heap.size + 1 + 1, 0, none⟩) (by simp; omega) _⟩
      rw [hCC.out, readC_bad x rest y acc acc2 bad hB.out hTT.out (by omega), hrw.2]
    ·have hrw := HRow.out
     rw [rowC_out x.f1 y k pos x' ac hp] at hrw
     have hnx0 : ∀ ty, (Instr.next (.pointer (some ⟨w2.heap.size, 0, none⟩)) true ty).run Try.prog wr = _ := fun ty => next_end wr w2.heap.size x.f1 pos ty hp HIt.out
     obtain ⟨⟨⟨⟨⟨⟨⟨v, hv, hrow, _⟩, hy⟩, h2⟩, h3⟩, h4⟩, hl⟩, hB4⟩ := HR.out
     have hcy := hy.cell
     have hfy := hy.frozen
     have HRW := Aside0.mk hrw
     clear hrw HRow
     gi_wp2
     have hrw := HRW.out
     simp only [Prod.mk.injEq] at hrw
     obtain ⟨rfl, rfl⟩ := hrw
     have hs2 : stC (vof q) = (y + 1, ac) := by rw [hSN.out]; unfold stepC; rw [if_neg hB.out, hTT.out]
     refine ⟨(HK.out.trans (KeepsOthers.setCell _ _ _)).from _, ?_, ⟨fun rest => ?_, ?_, ?_, ?_⟩, ?_⟩
     ·exact (Below.heap_setCell _ _ _ _ (by simp)).trans (hl.trans hII.out.1.2.symm)
     ·rw [hCC.out, readC_row x rest y acc ac hB.out hTT.out, hs2]
     ·rw [hs2]; show 0 ≤ y + 1; omega
     ·rw [hs2, hplen]; show y + 1 ≤ _; omega
     ·rw [hs2, hplen]; exact Nat.le_trans hTL (by omega)
     ·rw [hs2]
      exact ⟨⟨⟨⟨⟨⟨⟨v, hv.other (by omega) _, hrow.kept (grownBy_setCell' _ _ _) (.inr (hy.not_row (by decide) hrow).symm), trivial⟩, hy.set _⟩, h2.other (by omega) _⟩, h3.other (by omega) _⟩, h4.other (by omega) _⟩, hl.other (by omega) _⟩, hB4.setCell (p := ⟨w.heap.size + 1 + 1 + 1 + 1, 0, none⟩) (by simp; omega) _⟩
 case done =>
  rintro D ys W hD hS ⟨⟨hcont, _⟩, hI⟩ hK
  have hr := hR.out
  have hr2 := hcont []
  have hS2 : vof ys = lsp s (s.size + 1) 0 := hS
  rw [List.append_nil, hS2, hr, ← hS2] at hr2
  clear hS2
  obtain ⟨⟨y, acc⟩, hst⟩ : ∃ st, stC (vof ys) = st := ⟨_, rfl⟩
  rw [hst] at hI hr2
  simp only [readC, Prod.mk.injEq] at hr2
  obtain ⟨rfl, rfl, rfl⟩ := hr2
  obtain ⟨⟨⟨⟨⟨⟨⟨v, hv, hrow, _⟩, hy⟩, h2⟩, h3⟩, h4⟩, hl⟩, hB4⟩ := hI
  obtain ⟨sa, sl, sc, rfl⟩ : ∃ a l c, v = .slice a l c := by rcases hrow.2 with ⟨h, _⟩ | ⟨g, cap, cur, h, _⟩ <;> exact ⟨_, _, _, h⟩
  have hcv := hv.cell
  have hf2 := h2.frozen
  have hf3 := h3.frozen
  have hf4 := h4.frozen
  have hc2 := h2.cell
  have hc3 := h3.cell
  have hc4 := h4.cell
  have HK := Aside0.mk hK
  clear hS hcont hst hr hK
  gi_wp2
  have D2 : w.heap.size + 6 ≤ D := by omega
  have k2 := ((h2.set (.slice sa sl sc)).other (B' := w.heap.size + 1) (by omega) (.int .i64 0)).other (B' := w.heap.size + 1 + 1) (by omega) (.int .i64 0)
  have k3 := ((h3.other (B' := w.heap.size) (by omega) (.slice sa sl sc)).set (.int .i64 0)).other (B' := w.heap.size + 1 + 1) (by omega) (.int .i64 0)
  have k4 := ((h4.other (B' := w.heap.size) (by omega) (.slice sa sl sc)).other (B' := w.heap.size + 1) (by omega) (.int .i64 0)).set (.int .i64 0)
  have r1 := hrow.kept (grownBy_setCell' W w.heap.size (.slice sa sl sc)) (.inr (h2.not_row (by decide) hrow).symm)
  have r2 := r1.kept (grownBy_setCell' _ (w.heap.size + 1) (.int .i64 0)) (.inr ((h3.other (B' := w.heap.size) (by omega) (.slice sa sl sc)).not_row (by decide) r1).symm)
  have r3 := r2.kept (grownBy_setCell' _ (w.heap.size + 1 + 1) (.int .i64 0)) (.inr (((h4.other (B' := w.heap.size) (by omega) (.slice sa sl sc)).other (B' := w.heap.size + 1) (by omega) (.int .i64 0)).not_row (by decide) r2).symm)
  have hb := ((hB4.setCell (p := ⟨w.heap.size, 0, none⟩) (Nat.le_refl _) (.slice sa sl sc)).setCell (p := ⟨w.heap.size + 1, 0, none⟩) (by simp) (.int .i64 0)).setCell (p := ⟨w.heap.size + 1 + 1, 0, none⟩) (by simp; omega) (.int .i64 0)
  have hKf := (Below.heap_setCell ((W.setCell ⟨w.heap.size, 0, none⟩ (.slice sa sl sc)).setCell ⟨w.heap.size + 1, 0, none⟩ (.int .i64 0)) ⟨w.heap.size + 1 + 1, 0, none⟩ (.int .i64 0) D (by simp; omega)).trans ((Below.heap_setCell (W.setCell ⟨w.heap.size, 0, none⟩ (.slice sa sl sc)) ⟨w.heap.size + 1, 0, none⟩ (.int .i64 0) D (by simp; omega)).trans ((Below.heap_setCell W ⟨w.heap.size, 0, none⟩ (.slice sa sl sc) D (by simp; omega)).trans HK.out))
  exact read_end rfl rfl rfl D2 k2 k3 k4 hKf ⟨fun _ _ => trivial, flatC r, ownsRow_putObj r3 _ hKf rfl, flatC_reps _ _ _ _ r rfl⟩ (hb.trans (belowK_b (w := w) (Nat.le_refl _) _ D _ _ (by omega) hKf rfl rfl))
 case stop =>
  rintro D c' pre W hD ⟨rest, hrest⟩ ⟨⟨rfl, p', hread, ⟨b2, b3⟩, b4⟩, hB4⟩ hK
  have hr := hR.out
  have hr2 := hread rest
  have hS2 : vof pre ++ rest = lsp s (s.size + 1) 0 := hrest
  rw [hS2, hr] at hr2
  clear hS2
  simp only [Prod.mk.injEq] at hr2
  obtain ⟨rfl, rfl, rfl⟩ := hr2
  gi_wp2
  have D2 : w.heap.size + 6 ≤ D := by omega
  exact read_end rfl rfl rfl D2 b2 b3 b4 hK ⟨fun _ _ => trivial, flatC [], World.ownsRow_nil _ _ _ _, flatC_reps _ _ _ _ [] rfl⟩ (hB4.trans (belowK_b (w := w) (Nat.le_refl _) _ D _ _ (by omega) hK rfl rfl))
/-- What a picture is read as. -/
def plain_Read.f (a0 : ByteArray) : Option (List S35 × Int × Int) := if 1048576 < a0.size then some ([], 0, 3) else some (readC (lsp a0 (a0.size + 1) 0) 0 [])
set_option maxRecDepth 100000 in
set_option maxHeartbeats 4000000 in
theorem Read_long (n : Nat) (hn : 4 ≤ n) (s : ByteArray) (hs : 1048576 < s.size) (w : World) :
  CallsIn Fence.wide n Try.prog 13 #[.string s] w fun e W' => ∃ v, e = .returned (.tuple #[v, .int .i64 0, .int .i64 3]) ∧ Kd.R k35 35 W' w.heap.size (fun _ => True) v [] ∧ Below w.heap.size w W' := by
 have hz : decide (1048576 < (s.size : Int)) = true := decide_eq_true (by omega)
 refine callsIn_of_wp Try.func13 rfl trivial ?_ rfl
 simp only [Try.ntmps13, List.size_toArray, List.length_cons, List.length_nil, Nat.reduceAdd, Nat.reduceSub, Array.replicate_succ, Array.replicate_zero, List.push_toArray, List.append_toArray, List.nil_append, List.cons_append]
 gi_wp2
 have k2 := (((Boxed.new w 27 (.slice none 0 0)).alloc (.cells #[.int .i64 0] 3)).alloc (.cells #[.int .i64 3] 29)).cell
 have k3 := ((Boxed.new (w.alloc (.cells #[.slice none 0 0] 27)) 3 (.int .i64 0)).alloc (.cells #[.int .i64 3] 29)).cell
 have k4 := (Boxed.new ((w.alloc (.cells #[.slice none 0 0] 27)).alloc (.cells #[.int .i64 0] 3)) 29 (.int .i64 3)).cell
 simp only [World.size_alloc] at k3 k4
 refine bodyPost_ret (v := .tuple #[.slice none 0 0, .int .i64 0, .int .i64 3]) (by simp [results, Try.results13, k2, k3, k4, go_sem]) rfl ?_
 exact ⟨_, rfl, ⟨fun _ _ => trivial, flatC [], World.ownsRow_nil _ _ _ _, flatC_reps _ _ _ _ [] rfl⟩, (((Below.refl _ w).alloc (Nat.le_refl _) _).alloc (by simp) _).alloc (by simp; omega) _⟩
theorem plain_Read.calls (a0 : ByteArray) (r1 : List S35) (r2 r3 : Int) (w : World) (h : plain_Read.f a0 = some (r1, r2, r3)) :
  Calls Try.prog 13 #[.string a0] w fun e w' => ∃ v0_ : Value, e = .returned (.tuple #[v0_, .int .i64 r2, .int .i64 r3]) ∧ Kd.R k35 35 w' w.heap.size (fun _ => True) v0_ r1 ∧ Below w.heap.size w w' := by
 unfold plain_Read.f at h
 by_cases c : 1048576 < a0.size
 ·rw [if_pos c] at h
  cases h
  exact callsIn_wide.1 (Read_long 5 (by omega) a0 c w)
 ·rw [if_neg c] at h
  exact callsIn_wide.1 (Read_in 5 (by omega) a0 (by omega) r1 r2 r3 (Option.some.inj h) w)

end Go.Proofs.Ytfgonglcmgahkab.P

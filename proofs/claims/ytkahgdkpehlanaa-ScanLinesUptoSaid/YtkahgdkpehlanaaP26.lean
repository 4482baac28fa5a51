-- Written by a program of this session (wip/tools/mk.py) that runs the kit's printer.
import Derived.Test.YtkahgdkpehlanaaP0
import Derived.Test.YtkahgdkpehlanaaP27
import Derived.Test.YtkahgdkpehlanaaP50
import Derived.RangeFuncNested
import Derived.RangeFuncBound
import Derived.RangeFuncCalls
import Derived.RangeFuncLeaves
import Derived.RangeFuncBox
import Derived.Shelf.Abstract
import Derived.Shelf.RegionOpen
import Derived.WalkKit
import Derived.OwnWalkIn
import Derived.TacticsInMore
import Derived.LoopNIn
import Derived.LoopIn
import Derived.Deep.DeepMust
import Derived.Test.YtkahgdkpehlanaaLineSame
import Derived.Test.YtkahgdkpehlanaaP27
import Derived.Test.YtkahgdkpehlanaaP50
namespace Go.Proofs.Ytkahgdkpehlanaa.P
open Go.RowKit Go.Proofs.YtkahgdkpehlanaaW.PrintWords Go.Proofs.YtkahgdkpehlanaaW.PrintLast Go.Proofs.YtkahgdkpehlanaaW.PrintMore
attribute [local go_sem] max2_int min2_int max_two min_two max_three min_three max_four min_four   -- for this text's walks alone
set_option linter.unusedVariables false
set_option linter.unusedSimpArgs false

/-! ### vivariumlaw03_walk: function 26 -/
-- EXT Derived.RangeFuncNested Derived.RangeFuncBound Derived.RangeFuncCalls Derived.RangeFuncLeaves Derived.RangeFuncBox Derived.Shelf.Abstract Derived.Shelf.RegionOpen Derived.WalkKit Derived.OwnWalkIn Derived.TacticsInMore Derived.LoopNIn Derived.LoopIn Derived.Deep.DeepMust Derived.Test.@NLineSame Derived.Test.@NP@F{vivarium/scan.Lines} Derived.Test.@NP@F{vivarium/vivariumref03.Lines}
open Go.Proofs.Ytkahgdkpehlanaa.L Go.Shelf
attribute [local go_sem] Oper.semAt_some
/-- A mark on an activation's deferred calls. -/
def markOf (D : Nat) : Deferred := { target := .collected D, args := #[] }
theorem leaves_marks {F : Fence} {n : Nat} {P : Program} {fn : Func} {tmps : Array Value} {R : Ending → World → Prop} (B : Nat) : ∀ (Ds : List Nat) (W : World), Ds.Nodup → (∀ D, D ∈ Ds → B ≤ D ∧ W.heap[D]? = some (.deferred (some []))) →
    (∀ W', Below B W W' → LeavesIn F n P fn tmps R [] .returning W') → LeavesInM F n P fn tmps R (Ds.map markOf) .returning W
  | [], W, _, _, h => h W (Below.refl _ _)
  | D :: Ds, W, hd, hk, h => by
    have hk0 := hk D List.mem_cons_self
    have hd' := List.nodup_cons.1 hd
    refine ⟨by simp, .inl ⟨D, _, rfl, run_takeDeferred hk0.2, ?_⟩⟩
    refine leaves_marks B Ds _ hd'.2 (fun E hE => ⟨(hk E (List.mem_cons_of_mem _ hE)).1, (World.putObj_heap_other (fun e => hd'.1 (by rw [← e]; exact hE))).trans (hk E (List.mem_cons_of_mem _ hE)).2⟩) (fun W' hW' => h W' ?_)
    exact ((Below.refl B W).grown (grownBy_putObj' W D _) (by have := (Array.getElem?_eq_some_iff.1 hk0.2).1; omega) (fun k e => by cases e; exact hk0.1)).trans hW'
theorem toList_injL {a b : ByteArray} (h : a.toList = b.toList) : a = b := by
  rw [ByteArray.toList_eq, ByteArray.toList_eq] at h
  exact ByteArray.ext (Array.toList_inj.1 h)
theorem prefix_snocL {xs pre : List S27} {y : S27} (hp : pre <+: xs) (hlt : pre.length < xs.length) (hy : rd_T27 xs (pre.length : Int) = y) : pre ++ [y] <+: xs := by
  obtain ⟨r, rfl⟩ := hp
  cases r with
  | nil => simp at hlt
  | cons z r =>
    have : rd_T27 (pre ++ z :: r) (pre.length : Int) = z := by unfold rd_T27; rw [Int.toNat_natCast]; simp
    rw [this] at hy
    subst hy
    exact ⟨r, by simp⟩
theorem prefix_lastL {xs pre : List S27} {x y : S27} (hp : pre ++ [x] <+: xs) (hlt : pre.length < xs.length) (hy : rd_T27 xs (pre.length : Int) = y) : y = x := by
  obtain ⟨r, rfl⟩ := hp
  have : rd_T27 (pre ++ [x] ++ r) (pre.length : Int) = x := by unfold rd_T27; rw [Int.toNat_natCast]; simp
  exact hy.symm.trans this
theorem equalIn_func_nil {P : Program} (w : World) (d : Nat) (t : TypeId) (f : Fn) (a c : Array Value) {ps rs : Array TypeId} {vd : Bool} (h : P.underlying t = some (.func ps rs vd)) :
    (Op.equalIn (d + 1) t (.func f a c) .nilFunc).run P w = .ok false w := by simp [Op.equalIn, run_underlying h]
set_option maxRecDepth 100000 in
set_option maxHeartbeats 1000000 in
theorem eql_func_nil {P : Program} (w : World) (t : TypeId) (f : Fn) (a c : Array Value) {ps rs : Array TypeId} {vd : Bool} (h : P.underlying t = some (.func ps rs vd)) :
    (binOp .eql t (.func f a c) .nilFunc).run P w = .ok (.bool false) w := by
  simp only [binOp]
  have hq := equalIn_func_nil (P := P) w 9999 t f a c h
  simp [Op.equal, Op.maxDepth, hq]
/-- Between two rounds of the outer loop. -/
def walkI (w w2 W0 : World) (s : ByteArray) (most : Int) (A0 : Option Addr) (c0 : Nat) (xs : List S27) (a : Act) (W : World) : Prop := ∃ (j : Nat) (Ds : List Nat) (u8 u17 u18 u19 u20 u21 u22 u23 u24 u25 u26 u27 u28 u29 u30 u31 u32 u33 u34 u35 u36 u37 u38 u39 u40 u41 u42 u43 u44 u45 u46 u47 u48 u49 u50 u51 u52 u53 u54 u55 u56 u57 u58 u59 u60 u61 u62 u63 u64 u65 u66 u67 u68 u69 u70 : Value), a = { tmps := #[.string s, .int .i64 most, undef, .pointer (some ⟨w.heap.size, 0, none⟩), .pointer (some ⟨w.heap.size + 1, 0, none⟩), .pointer (some ⟨w2.heap.size, 0, none⟩), .func (.func 51) #[] #[.pointer (some ⟨w2.heap.size + 1, 0, none⟩)], .int .i64 (j : Nat), u8, undef, undef, .string s, .slice A0 xs.length c0, .string s, .func (.func 51) #[] #[.pointer (some ⟨w2.heap.size + 1, 0, none⟩)], .func (.func 51) #[] #[.pointer (some ⟨w2.heap.size + 1, 0, none⟩)], .bool false, u17, u18, u19, u20, u21, u22, u23, u24, u25, u26, u27, u28, u29, u30, u31, u32, u33, u34, u35, u36, u37, u38, u39, u40, u41, u42, u43, u44, u45, u46, u47, u48, u49, u50, u51, u52, u53, u54, u55, u56, u57, u58, u59, u60, u61, u62, u63, u64, u65, u66, u67, u68, u69, u70], defers := Ds.map markOf } ∧ j ≤ 2 ∧ Ds.Nodup ∧ (∀ D, D ∈ Ds → W0.heap.size ≤ D ∧ D < W.heap.size ∧ W.heap[D]? = some (.deferred (some []))) ∧ Below W0.heap.size W0 W
def walkM (a : Act) (_ : World) : Nat := 2 - (intOf (a.tmps.getD 7 undef)).toNat
/-- One round more has been left, whatever it laid. -/
theorem walk_round {w w2 W0 wr W : World} {s : ByteArray} {most : Int} {A0 : Option Addr} {c0 : Nat} {xs : List S27} {j : Nat} {Ds : List Nat} {D : Nat} {a a0 : Act} {u8 u17 u18 u19 u20 u21 u22 u23 u24 u25 u26 u27 u28 u29 u30 u31 u32 u33 u34 u35 u36 u37 u38 u39 u40 u41 u42 u43 u44 u45 u46 u47 u48 u49 u50 u51 u52 u53 u54 u55 u56 u57 u58 u59 u60 u61 u62 u63 u64 u65 u66 u67 u68 u69 u70 : Value} (hj : j < 2) (hnd : Ds.Nodup) (hDs : ∀ D, D ∈ Ds → W0.heap.size ≤ D ∧ D < wr.heap.size ∧ wr.heap[D]? = some (.deferred (some []))) (hB : Below W0.heap.size W0 wr) (hBW : Below wr.heap.size wr W) (hD : wr.heap.size + 1 ≤ D) (hK : W.heap[D]? = some (.deferred (some []))) (h0 : a0.tmps.getD 7 undef = .int .i64 (j : Nat)) (ha : a = { tmps := #[.string s, .int .i64 most, undef, .pointer (some ⟨w.heap.size, 0, none⟩), .pointer (some ⟨w.heap.size + 1, 0, none⟩), .pointer (some ⟨w2.heap.size, 0, none⟩), .func (.func 51) #[] #[.pointer (some ⟨w2.heap.size + 1, 0, none⟩)], .int .i64 ((j : Int) + 1), u8, undef, undef, .string s, .slice A0 xs.length c0, .string s, .func (.func 51) #[] #[.pointer (some ⟨w2.heap.size + 1, 0, none⟩)], .func (.func 51) #[] #[.pointer (some ⟨w2.heap.size + 1, 0, none⟩)], .bool false, u17, u18, u19, u20, u21, u22, u23, u24, u25, u26, u27, u28, u29, u30, u31, u32, u33, u34, u35, u36, u37, u38, u39, u40, u41, u42, u43, u44, u45, u46, u47, u48, u49, u50, u51, u52, u53, u54, u55, u56, u57, u58, u59, u60, u61, u62, u63, u64, u65, u66, u67, u68, u69, u70], defers := markOf D :: Ds.map markOf }) : walkI w w2 W0 s most A0 c0 xs a W ∧ walkM a W < walkM a0 wr := by
  have hs := hB.size
  refine ⟨⟨j + 1, D :: Ds, u8, u17, u18, u19, u20, u21, u22, u23, u24, u25, u26, u27, u28, u29, u30, u31, u32, u33, u34, u35, u36, u37, u38, u39, u40, u41, u42, u43, u44, u45, u46, u47, u48, u49, u50, u51, u52, u53, u54, u55, u56, u57, u58, u59, u60, u61, u62, u63, u64, u65, u66, u67, u68, u69, u70, ha, by omega, List.nodup_cons.2 ⟨fun h => by have := (hDs D h).2.1; omega, hnd⟩, fun E hE => ?_, hB.trans (hBW.mono hs)⟩, ?_⟩
  · rcases List.mem_cons.1 hE with rfl | hE
    · exact ⟨by omega, (Array.getElem?_eq_some_iff.1 hK).1, hK⟩
    · obtain ⟨h1, h2, h3⟩ := hDs E hE
      exact ⟨h1, Nat.lt_of_lt_of_le h2 hBW.size, (hBW.block E h2).trans h3⟩
  · unfold walkM
    rw [h0, ha]
    show 2 - ((j : Int) + 1).toNat < 2 - (j : Int).toNat
    omega
set_option maxRecDepth 100000 in
set_option maxHeartbeats 4000000 in
theorem walk_in (n : Nat) (hn : 3 ≤ n) (s : ByteArray) (hs : s.size ≤ 140737488351232) (most : Int) (xs : List S27) (k0 k1 : Nat) (hxs : lns s k0 0 = some xs) (href : vivariumref03_Lines.f k1 s = some xs) (hlen : xs.length ≤ 140737488351233) (w : World) :
    CallsIn Fence.wide n Try.prog 26 #[.string s, .int .i64 most] w fun e W' => e = .returned (.bool true) ∧ Below w.heap.size w W' := by
  have h1 : 1 ≤ n := by omega
  have hX := Aside0.mk hxs
  have hR := Aside0.mk href
  clear hxs href
  have hq := eql_func_nil (P := Try.prog) (t := 56) (h := Try.underlying56)
  refine callsIn_of_wp_marks Try.func26 rfl trivial ?_ rfl
  simp only [Try.ntmps26, List.size_toArray, List.length_cons, List.length_nil, Nat.reduceAdd, Nat.reduceSub, Array.replicate_succ, Array.replicate_zero, List.push_toArray, List.append_toArray, List.nil_append, List.cons_append]
  gi_wp2_with (first | (refine ⟨trivial, ?_⟩; gi_at_call 50; go_must (refine (callsIn_wide.2 (vivariumref03_Lines.calls k1 s xs _ hR.out)).mono ?_; rintro e w2 ⟨vw, rfl, hrw, hbw⟩; obtain ⟨A0, c0, rfl⟩ := Kd.R_slice hrw)) | (refine ⟨trivial, ?_⟩; gi_at_call 27; go_must (refine (Lines_in (n - 1) s _).mono ?_; rintro e w3 ⟨rfl, rfl⟩)))
  have bM := (Boxed.new w 3 (.int .i64 most)).alloc (.cells #[.bool false] 4)
  have bF := Boxed.new (w.alloc (.cells #[.int .i64 most] 3)) 4 (.bool false)
  rw [World.size_alloc] at bF
  have hB00 : Below w.heap.size w ((w.alloc (.cells #[.int .i64 most] 3)).alloc (.cells #[.bool false] 4)) := ((Below.refl _ w).alloc (Nat.le_refl _) _).alloc (by simp) _
  have hsz0 : ((w.alloc (.cells #[.int .i64 most] 3)).alloc (.cells #[.bool false] 4)).heap.size = w.heap.size + 2 := by simp
  rw [hsz0] at hbw hrw
  have hb2 := hbw.size
  rw [hsz0] at hb2
  have bM2 : Boxed ((w2.alloc (.cells #[.slice A0 xs.length c0] 23)).alloc (.cells #[.string s] 9)) w.heap.size 3 (.int .i64 most) := (Boxed.alloc ((hbw.block _ (by omega)).trans bM) _).alloc _
  have bF2 : Boxed ((w2.alloc (.cells #[.slice A0 xs.length c0] 23)).alloc (.cells #[.string s] 9)) (w.heap.size + 1) 4 (.bool false) := (Boxed.alloc ((hbw.block _ (by omega)).trans bF) _).alloc _
  have bW2 := (Boxed.new w2 23 (.slice A0 xs.length c0)).alloc (.cells #[.string s] 9)
  have bS2 := Boxed.new (w2.alloc (.cells #[.slice A0 xs.length c0] 23)) 9 (.string s)
  rw [World.size_alloc] at bS2
  have hC2 : Kd.C k27 ((w2.alloc (.cells #[.slice A0 xs.length c0] 23)).alloc (.cells #[.string s] 9)) A0 xs.length xs := Kd.C_below (Kd.R_reads' hrw).2.2 (((Below.refl _ w2).alloc (Nat.le_refl _) _).alloc (by simp) _)
  have hB0 : Below w.heap.size w ((w2.alloc (.cells #[.slice A0 xs.length c0] 23)).alloc (.cells #[.string s] 9)) := ((hB00.trans (hbw.mono (by omega))).alloc (by omega) _).alloc (by simp; omega) _
  have hsz : ((w2.alloc (.cells #[.slice A0 xs.length c0] 23)).alloc (.cells #[.string s] 9)).heap.size = w2.heap.size + 2 := by simp
  obtain ⟨W0, hW0⟩ : ∃ W0, (w2.alloc (.cells #[.slice A0 xs.length c0] 23)).alloc (.cells #[.string s] 9) = W0 := ⟨_, rfl⟩
  rw [hW0] at bM2 bF2 bW2 bS2 hC2 hB0 hsz ⊢
  clear hW0 bM bF hB00 hsz0 hrw hbw
  have hHB0 := Aside0.mk hB0
  have hHC := Aside0.mk hC2
  clear hB0 hC2
  refine wpIn_loop (walkI w w2 W0 s most A0 c0 xs) walkM ⟨0, [], _, _, _, _, _, _, _, _, _, _, _, _, _, _, _, _, _, _, _, _, _, _, _, _, _, _, _, _, _, _, _, _, _, _, _, _, _, _, _, _, _, _, _, _, _, _, _, _, _, _, _, _, _, _, _, rfl, by omega, List.nodup_nil, (fun D hD => by cases hD), Below.refl _ _⟩ ?_
  have hsz1 : w2.heap.size + 2 ≤ W0.heap.size := by omega
  clear hsz
  rintro a wr ⟨j, Ds, u8, u17, u18, u19, u20, u21, u22, u23, u24, u25, u26, u27, u28, u29, u30, u31, u32, u33, u34, u35, u36, u37, u38, u39, u40, u41, u42, u43, u44, u45, u46, u47, u48, u49, u50, u51, u52, u53, u54, u55, u56, u57, u58, u59, u60, u61, u62, u63, u64, u65, u66, u67, u68, u69, u70, rfl, hj, hnd, hDs, hB⟩
  have hHD := Aside0.mk hDs
  have hHN := Aside0.mk hnd
  have hHB := Aside0.mk hB
  have hszr := hB.size
  have bM3 : Boxed wr w.heap.size 3 (.int .i64 most) := (hB.block _ bM2.lt).trans bM2
  have bF3 : Boxed wr (w.heap.size + 1) 4 (.bool false) := (hB.block _ bF2.lt).trans bF2
  have bW3 : Boxed wr w2.heap.size 23 (.slice A0 xs.length c0) := (hB.block _ bW2.lt).trans bW2
  clear hDs hnd hB
  by_cases hj2 : j < 2
  · have hj3 : (j : Int) < 2 := by omega
    gi_wp2
    have hline : lineAtL (wr.alloc (.cells #[.int .i64 0] 3)) (w2.heap.size + 1) s := Boxed.alloc ((hHB.out.block _ bS2.lt).trans bS2) _
    refine wpIn_rangeFunc_ownG rfl h1 (gf := 51) (lb := #[.pointer (some ⟨w2.heap.size + 1, 0, none⟩)]) rfl trivial (enters_of Try.func51 (by kernel_rfl) rfl)
      (lines_stops (n - 1) (by omega) (w2.heap.size + 1) s hs xs k0 hX.out (wr.alloc (.cells #[.int .i64 0] 3)) (by simp; omega) hline)
      (fun h k => k.trans h) (fun W l o o' hl _ _ _ => World.putObj_heap_other (by simp at hl; omega)) (Below.refl _ _) (fun _ => rfl)
      (fun pre W => ((pre <+: xs ∧ (1 ≤ most → (pre.length : Int) < most)) ∧ Boxed W wr.heap.size 3 (.int .i64 (pre.length : Nat))) ∧ Below wr.heap.size wr W)
      (fun c pre W => (c = .ret ∧ ¬ pre <+: xs) ∨ (c = .exit 2 ∧ (1 ≤ most ∧ (pre.length : Int) = most) ∧ Boxed W wr.heap.size 3 (.int .i64 (pre.length : Nat)) ∧ Below wr.heap.size wr W))
      (OwnFrom.and (OwnFrom.and (ownFrom_pure _ _) (Own.from (boxed_own _ _ _) _)) (ownFrom_below (Nat.le_refl _) (by simp)))
      (fun c s X Y row hs hg hr => by
        rcases hs with hs | ⟨h1, h2, h3, h4⟩
        · exact .inl hs
        · exact .inr ⟨h1, h2, Own.from (boxed_own wr.heap.size 3 (fun p : List S27 => Value.int .i64 (p.length : Nat))) _ s X Y row h3 hg hr, ownFrom_below (β := Unit) (Nat.le_refl wr.heap.size) (by simp) () X Y row h4 hg hr⟩)
      ⟨⟨⟨List.nil_prefix, fun h => by simp; omega⟩, Boxed.new wr 3 _⟩, (Below.refl _ wr).alloc (Nat.le_refl _) _⟩
      (fun x => { tmps := #[.string s, .int .i64 most, undef, .pointer (some ⟨w.heap.size, 0, none⟩), .pointer (some ⟨w.heap.size + 1, 0, none⟩), .pointer (some ⟨w2.heap.size, 0, none⟩), .func (.func 51) #[] #[.pointer (some ⟨w2.heap.size + 1, 0, none⟩)], .int .i64 j, .pointer (some ⟨wr.heap.size, 0, none⟩), .int .i64 x.f0, .string x.f1, .string s, .slice A0 xs.length c0, .string s, .func (.func 51) #[] #[.pointer (some ⟨w2.heap.size + 1, 0, none⟩)], .func (.func 51) #[] #[.pointer (some ⟨w2.heap.size + 1, 0, none⟩)], .bool false, .int .i64 j, .bool true, u19, u20, .func (.func 51) #[] #[.pointer (some ⟨w2.heap.size + 1, 0, none⟩)], .int .i64 x.f0, .string x.f1, u24, u25, u26, u27, u28, u29, u30, u31, u32, u33, u34, u35, u36, u37, u38, u39, u40, u41, u42, u43, u44, u45, u46, u47, u48, u49, u50, u51, u52, u53, u54, u55, u56, u57, u58, u59, u60, u61, u62, u63, u64, u65, u66, u67, u68, u69, u70], defers := [] }) ?assign ?body ?done ?stop
    case assign =>
      intro l x W K hK
      gi_wp2
      exact hK
    case body =>
      rintro l pre x W ⟨⟨⟨hp, hmo⟩, bN⟩, hBW⟩ hlt
      have bM4 : Boxed W w.heap.size 3 (.int .i64 most) := (hBW.block _ bM3.lt).trans bM3
      have bF4 : Boxed W (w.heap.size + 1) 4 (.bool false) := (hBW.block _ bF3.lt).trans bF3
      have bW4 : Boxed W w2.heap.size 23 (.slice A0 xs.length c0) := (hBW.block _ bW3.lt).trans bW3
      have hm1 := bM4.cell
      have hf1 := bF4.cell
      have hf2 := bF4.frozen
      have hw1 := bW4.cell
      have hn1 := bN.cell
      have hn2 := bN.frozen
      have hlt' : (pre.length : Int) < (xs.length : Int) := by omega
      obtain ⟨ad, rfl, hx0, hx1⟩ := at_T27 (Kd.C_below (Kd.C_below hHC.out hHB.out) hBW) (pre.length : Int) (by omega) hlt'
      obtain ⟨y, hy⟩ : ∃ y, rd_T27 xs (pre.length : Int) = y := ⟨_, rfl⟩
      rw [hy] at hx0 hx1
      rw [Int.toNat_natCast] at hx0 hx1
      have hY := Aside0.mk hy
      have hP := Aside0.mk hp
      have hMO := Aside0.mk hmo
      have hBWs := Aside0.mk hBW
      have bNs := Aside0.mk bN
      clear hy hp hmo hBW bM4 bF4 bW4 bN
      have b0 : decide (xs.length ≤ pre.length) = false := decide_eq_false (by omega)
      have hlen' : (pre.length : Int) ≤ 140737488351233 := by omega
      by_cases e0 : y = x
      · subst e0
        by_cases e3 : ((pre.length : Nat) : Int) + 1 = most
        · have b3 : (((pre.length : Nat) : Int) + 1 == most) = true := beq_iff_eq.mpr e3
          have E3 := Aside0.mk e3
          clear e3
          gi_wp2
          exact ⟨(KeepsOthers.setCell _ _ _).from _, .inr ⟨rfl, ⟨by have := E3.out; omega, by rw [List.length_append]; exact E3.out⟩, by rw [List.length_append]; exact bNs.out.set _, hBWs.out.setCell (p := ⟨wr.heap.size, 0, none⟩) (Nat.le_refl _) _⟩⟩
        · have b3 : (((pre.length : Nat) : Int) + 1 == most) = false := beq_eq_false_iff_ne.mpr e3
          have E3 := Aside0.mk e3
          clear e3
          gi_wp2
          exact ⟨(KeepsOthers.setCell _ _ _).from _, Below.heap_setCell _ _ _ _ (by simp; omega), ⟨⟨prefix_snocL hP.out hlt hY.out, fun h => by have h2 := hMO.out h; have h3 := E3.out; simp only [List.length_append, List.length_cons, List.length_nil]; omega⟩, by rw [List.length_append]; exact bNs.out.set _⟩, hBWs.out.setCell (p := ⟨wr.heap.size, 0, none⟩) (Nat.le_refl _) _⟩
      · have E0 := Aside0.mk e0
        by_cases e1 : y.f0 = x.f0
        · have b1 : (y.f0 != x.f0) = false := bne_eq_false_iff_eq.mpr e1
          have e2 : ¬ y.f1 = x.f1 := fun h => e0 (by cases y; cases x; simp_all)
          have b2 : (y.f1.toList == x.f1.toList) = false := beq_eq_false_iff_ne.mpr (fun h => e2 (toList_injL h))
          clear e0 e1 e2
          gi_wp2
          exact ⟨(KeepsOthers.setCell _ _ _).from _, .inl ⟨rfl, fun h => E0.out (prefix_lastL h hlt hY.out)⟩⟩
        · have b1 : (y.f0 != x.f0) = true := bne_iff_ne.mpr e1
          clear e0 e1
          gi_wp2
          exact ⟨(KeepsOthers.setCell _ _ _).from _, .inl ⟨rfl, fun h => E0.out (prefix_lastL h hlt hY.out)⟩⟩
    case done =>
      rintro D ys W hD hS ⟨⟨⟨hp, hmo⟩, bN⟩, hBW⟩ hK
      have hS' : xs = ys := hS.symm
      subst hS'
      have hm1 := Boxed.cell ((hBW.block _ bM3.lt).trans bM3)
      have hw1 := Boxed.cell ((hBW.block _ bW3.lt).trans bW3)
      have hn1 := bN.cell
      have hMO := Aside0.mk hmo
      have hBWs := Aside0.mk hBW
      have hKs := Aside0.mk hK
      clear hS hp hmo bN hBW hK bM3 bF3 bW3 bM2 bF2 bW2
      have hD2 : wr.heap.size + 1 ≤ D := by simpa using hD
      have hDs := Aside0.mk hD2
      clear hD hD2
      by_cases m1 : 1 ≤ most
      · have m2 := hMO.out m1
        have m4 : decide (1 ≤ most) = true := decide_eq_true m1
        have m5 : decide (most < 1) = false := decide_eq_false (by omega)
        clear m1
        gi_wp2
        exact walk_round hj2 hHN.out hHD.out hHB.out hBWs.out hDs.out hKs.out rfl rfl
      · have m2 : most < 1 := by omega
        have m4 : decide (1 ≤ most) = false := decide_eq_false m1
        have m5 : decide (most < 1) = true := decide_eq_true m2
        clear m1 m2
        gi_wp2
        exact walk_round hj2 hHN.out hHD.out hHB.out hBWs.out hDs.out hKs.out rfl rfl
    case stop =>
      rintro D c pre W hD hSp h hK
      rcases h with ⟨_, h⟩ | ⟨rfl, ⟨hpos, hl⟩, bN, hBW⟩
      · exact (h hSp).elim
      · have hle : pre.length ≤ xs.length := hSp.length_le
        have hm1 := Boxed.cell ((hBW.block _ bM3.lt).trans bM3)
        have hw1 := Boxed.cell ((hBW.block _ bW3.lt).trans bW3)
        have hn1 := bN.cell
        have hD2 : wr.heap.size + 1 ≤ D := by simpa using hD
        have hDs := Aside0.mk hD2
        have hBWs := Aside0.mk hBW
        have hKs := Aside0.mk hK
        clear hD hD2
        have m0 : ((pre.length : Int) != most) = false := bne_eq_false_iff_eq.mpr hl
        have m3 : ¬ (xs.length : Int) < most := by omega
        have m4 : decide (1 ≤ most) = true := decide_eq_true hpos
        have m5 : decide (most < 1) = false := decide_eq_false (by omega)
        clear hSp bN hBW hK bM3 bF3 bW3 bM2 bF2 bW2 hl hpos
        gi_wp2
        exact walk_round hj2 hHN.out hHD.out hHB.out hBWs.out hDs.out hKs.out rfl rfl
  · obtain rfl : j = 2 := by omega
    have bF4 := bF3.cell
    have bF5 := bF3.frozen
    have bX := bF3
    clear bF3 bM3 bW3
    gi_wp2
    have hs0 := hHB0.out.size
    refine leaves_marks W0.heap.size Ds _ hHN.out (fun D hD => ⟨(hHD.out D hD).1, (Below.heap_setCell _ _ _ _ (by have := (hHD.out D hD).1; simp; omega)).trans (hHD.out D hD).2.2⟩) (fun W' hW' => ?_)
    have bY : Boxed W' (w.heap.size + 1) 4 (.bool true) := (hW'.block _ (by omega)).trans (bX.set (.bool true))
    have hc := bY.cell
    refine ⟨.bool true, by simp [results, Try.results26, hc, go_sem], rfl, ?_⟩
    exact hHB0.out.trans (((hHB.out.mono (by omega)).setCell (p := ⟨w.heap.size + 1, 0, none⟩) (Nat.le_succ _) _).trans (hW'.mono (by omega)))
theorem lsp_len (s : ByteArray) : ∀ n i, (lsp s n i).length ≤ n
  | 0, _ => Nat.le_refl 0
  | n + 1, i => by
    unfold lsp
    by_cases c : i < s.size
    · rw [if_pos c, List.length_cons]; have := lsp_len s n (eol s (s.size - i) i + 1); omega
    · rw [if_neg c]; exact Nat.zero_le _
/-- The lines of a text are the document's: of a text whose list of lines may be. -/
def vivariumlaw03_walk.f (a0 : ByteArray) (a1 : Int) : Option Bool := if a0.size ≤ 4398046510000 then some true else none
theorem vivariumlaw03_walk.calls (a0 : ByteArray) (a1 : Int) (r : Bool) (w : World) (h : vivariumlaw03_walk.f a0 a1 = some r) :
    Calls Try.prog 26 #[.string a0, .int .i64 a1] w fun e w' => e = .returned (.bool r) ∧ Below w.heap.size w w' := by
  unfold vivariumlaw03_walk.f at h
  by_cases c : a0.size ≤ 4398046510000
  · rw [if_pos c] at h
    cases h
    have hl := lsp_len a0 (a0.size + 1) 0
    exact callsIn_wide.1 (walk_in 3 (by omega) a0 (by omega) a1 (lsp a0 (a0.size + 1) 0) (a0.size + 2) (2 * (a0.size + 2) + 4) (lns_eq a0 (by omega) (a0.size + 1) 0 _ (by omega) (by omega) (by omega)) (lines_go a0 (by omega) (a0.size + 1) 0 [] (by omega) (by omega) (by simp only [List.length_nil]; omega) _ (by omega)) (by omega) w)
  · rw [if_neg c] at h; cases h

end Go.Proofs.Ytkahgdkpehlanaa.P

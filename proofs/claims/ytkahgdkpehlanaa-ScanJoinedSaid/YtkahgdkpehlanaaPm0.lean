-- Written by a program of this session (wip/tools/mk.py) that runs the kit's printer; several functions' texts in one.
import Derived.Test.YtkahgdkpehlanaaP0
import Derived.RangeFuncNested
import Derived.RangeFuncBound
import Derived.RangeFuncCalls
import Derived.RangeFuncLeaves
import Derived.RangeFuncBox
import Derived.Shelf.Abstract
import Derived.Shelf.RegionOpen
import Derived.WalkKit
import Derived.OwnWalkIn
import Derived.TacticsInMore
import Derived.LoopNIn
import Derived.LoopIn
import Derived.Maps.AppendAt
import Derived.Laws.DeepStrings4
import Derived.Deep.DeepMust
import Derived.Test.YtkahgdkpehlanaaShelf
import Derived.Test.YtkahgdkpehlanaaPureLib
import Derived.Test.YtkahgdkpehlanaaAnyWhite
namespace Go.Proofs.Ytkahgdkpehlanaa.P
open Go.RowKit Go.Proofs.YtkahgdkpehlanaaW.PrintWords Go.Proofs.YtkahgdkpehlanaaW.PrintLast Go.Proofs.YtkahgdkpehlanaaW.PrintMore
attribute [local go_sem] max2_int min2_int max_two min_two   -- for this text's walks alone
set_option linter.unusedVariables false
set_option linter.unusedSimpArgs false

/-! ### scan_isBlank: function 57 -/
def scan_isBlank.f (a0 : Int) : Option (Bool) := if a0 = 32 then (some true) else (some (a0 == 9))
set_option maxHeartbeats 8000000 in
set_option maxRecDepth 100000 in
theorem scan_isBlank.calls (a0 : Int) (r : Bool) (w : World) (h : scan_isBlank.f a0 = some r) :
  Calls Try.prog 57 #[.int .u8 a0] w fun e w' => e = .returned (.bool r) ∧ Drawn0 w w' := by
 have H : (if a0 = 32 then (some true) else (some (a0 == 9))) = some r := h
 clear h
 by_cases c2 : a0 = 32
 ·rw [if_pos c2] at H
  have c2b0 : (a0 == 32) = true := beq_iff_eq.mpr c2
  have c2b1 : (a0 != 32) = false := bne_eq_false_iff_eq.mpr c2
  clear c2
  obtain rfl := Option.some.inj H
  go_enter Try.func57, Try.ntmps57
  go_wp2
  go_ret
  exact ⟨by first | rfl | (simp; done) | (simp [*]; done), by repeat (first | exact Drawn0.refl _ | apply Drawn0.step)⟩
 ·rw [if_neg c2] at H
  have c2b0 : (a0 == 32) = false := beq_eq_false_iff_ne.mpr c2
  have c2b1 : (a0 != 32) = true := bne_iff_ne.mpr c2
  obtain rfl := Option.some.inj H
  go_enter Try.func57, Try.ntmps57
  go_wp2
  go_ret
  exact ⟨by first | rfl | (simp; done) | (simp [*]; done), by repeat (first | exact Drawn0.refl _ | apply Drawn0.step)⟩

end Go.Proofs.Ytkahgdkpehlanaa.P

namespace Go.Proofs.Ytkahgdkpehlanaa.P
open Go.RowKit Go.Proofs.YtkahgdkpehlanaaW.PrintWords Go.Proofs.YtkahgdkpehlanaaW.PrintLast Go.Proofs.YtkahgdkpehlanaaW.PrintMore
attribute [local go_sem] max2_int min2_int max_two min_two   -- for this text's walks alone
set_option linter.unusedVariables false
set_option linter.unusedSimpArgs false

/-! ### scan_Fields: function 12 -/
-- EXT Derived.RangeFuncNested Derived.RangeFuncBound Derived.RangeFuncCalls Derived.RangeFuncLeaves Derived.RangeFuncBox Derived.Shelf.Abstract Derived.Shelf.RegionOpen Derived.WalkKit Derived.OwnWalkIn Derived.TacticsInMore Derived.LoopNIn Derived.LoopIn Derived.Maps.AppendAt Derived.Laws.DeepStrings4 Derived.Deep.DeepMust Derived.Test.@NShelf Derived.Test.@NPureLib Derived.Test.@NAnyWhite Derived.Test.@NP@F{vivarium/scan.isBlank}
open Go.Proofs.Ytkahgdkpehlanaa.L Go.Shelf
attribute [local go_sem] Oper.semAt_some
/-- How long the piece is that begins at a place. -/
def lenAt (s : ByteArray) (i : Nat) : Int := if Lib.indexAny (s.extract i s.size).data.toList [32, 9] < 0 then (s.size : Int) - (i : Int) else Lib.indexAny (s.extract i s.size).data.toList [32, 9]
/-- The pieces from a place on. -/
def pcs (s : ByteArray) : Nat → Nat → Option (List S27)
 | 0, _ => none
 | k + 1, i => if i < s.size then (scan_isBlank.f (bt s (i : Int))).bind fun t => if t = true then pcs s k (i + 1) else if 1 ≤ lenAt s i ∧ (i : Int) + lenAt s i ≤ (s.size : Int) then (pcs s k ((i : Int) + lenAt s i).toNat).map fun l => (⟨(i : Int), s.extract i ((i : Int) + lenAt s i).toNat⟩ : S27) :: l else none else some []
theorem pcs_succ (s : ByteArray) (k i : Nat) : pcs s (k + 1) i = if i < s.size then (scan_isBlank.f (bt s (i : Int))).bind fun t => if t = true then pcs s k (i + 1) else if 1 ≤ lenAt s i ∧ (i : Int) + lenAt s i ≤ (s.size : Int) then (pcs s k ((i : Int) + lenAt s i).toNat).map fun l => (⟨(i : Int), s.extract i ((i : Int) + lenAt s i).toNat⟩ : S27) :: l else none else some [] := rfl
theorem infoSp_ : (Try.prog.info? 27).map (fun i => (i.zero, i.size, i.bytes)) = some (some (.agg #[(.int .i64 0), (.string (⟨#[]⟩ : ByteArray))]), 2, 24) := by kernel_rfl
theorem grown_below0 {W W' : World} (h : Below W.heap.size W W') : W.grownBy W' none := ⟨h.os, h.tape, h.output, h.size, fun k hk _ => h.block k hk⟩
abbrev encS (x : S27) : Array Value := #[.agg #[.int .i64 x.f0, .string x.f1]]
def lineAt (W : World) (B : Nat) (s : ByteArray) : Prop := W.heap[B]? = some (.cells #[.string s] 9 (0, 0))
set_option maxRecDepth 100000 in
set_option maxHeartbeats 4000000 in
theorem pieces1_in (n : Nat) (hn : 1 ≤ n) (l Bn : Nat) (s : ByteArray) (hs : s.size < 4294967281) (xs : List S27) (k0 : Nat) (hxs : pcs s k0 0 = some xs) (J Jx : List S27 → World → Prop)
  (hY : ∀ pre x W, J pre W → pre.length < xs.length → YieldAt Fence.wide (n - 1) Try.prog l (encS x) W fun e W' =>
   (e = .returned (.bool true) ∧ J (pre ++ [x]) W' ∧ W'.heap[Bn]? = W.heap[Bn]?) ∨ (e = .returned (.bool false) ∧ Jx (pre ++ [x]) W'))
  (W : World) (hBn : lineAt W Bn s) (hJ : AbidesFrom W.heap.size J) (h0 : J [] W) :
  CallsIn Fence.wide n Try.prog 58 #[.func (.yield l) #[] #[], .pointer (some ⟨Bn, 0, none⟩)] W fun e W' => (∃ v, e = .returned v) ∧
   ((∃ ys, ys = xs ∧ J ys W') ∨ (∃ pre, pre <+: xs ∧ Jx pre W')) := by
 have hX := Aside0.mk hxs
 clear hxs
 refine callsIn_of_wp Try.func58 rfl trivial ?_ rfl
 simp only [Try.ntmps58, List.size_toArray, List.length_cons, List.length_nil, Nat.reduceAdd, Nat.reduceSub, Array.replicate_succ, Array.replicate_zero, List.push_toArray, List.append_toArray, List.nil_append, List.cons_append]
 gi_wp2
 gi_loopw [3] (fun t3 wr => ∃ (i : Nat) (k : Nat) (pre rest : List S27), t3 = .int .i64 i ∧ i ≤ s.size ∧ Aside0 (pcs s k i = some rest) ∧ Aside0 (xs = pre ++ rest) ∧ Aside0 (J pre wr) ∧ Aside0 (lineAt wr Bn s))
  (fun t3 _ => s.size - (match t3 with | .int _ i => i.toNat | _ => 0))
 case atStart =>
  exact ⟨0, k0, [], xs, rfl, Nat.zero_le _, hX, ⟨rfl⟩, ⟨h0⟩, ⟨hBn⟩⟩
 case round =>
  clear hX
  obtain ⟨i, k, pre, rest, rfl, hi, HX, HP, HJ, HL⟩ := hrel
  have hc : wr.cell? ⟨Bn, 0, none⟩ = some (.string s) := blk_cell HL.out 0
  have i0 : (0 : Int) ≤ (i : Int) := by omega
  by_cases d1 : i < s.size
  ·have d1' : (i : Int) < (s.size : Int) := by omega
   have hbt : ∀ hh : i < s.size, ((s[i]'hh).toNat : Int) = bt s (i : Int) := bt_at s (i : Int)
   have hbr := bt_range s (i : Int)
   cases k with
   | zero => exact absurd HX.out (by simp [pcs])
   | succ k =>
   have h := HX.out
   rw [pcs_succ, if_pos d1] at h
   obtain ⟨b, hb⟩ : ∃ b, bt s (i : Int) = b := ⟨_, rfl⟩
   rw [hb] at hbt hbr h
   clear hb
   obtain ⟨t, ht, h⟩ := Option.bind_eq_some_iff.mp h
   have HT := Aside0.mk ht
   clear ht HX
   cases t with
   | true =>
    rw [if_pos rfl] at h
    have HN := Aside0.mk h
    clear h
    gi_wp2_with (refine ⟨trivial, ?_⟩; gi_at_call 57; go_must (refine (callsIn_wide.2 (scan_isBlank.calls b true _ HT.out)).mono ?_; rintro e w2 ⟨rfl, hd⟩; have HJ2 := Aside0.mk (hJ _ _ _ none HJ.out (grown_below0 hd.below) (by simp)); have HL2 : Aside0 (lineAt w2 Bn s) := ⟨by obtain ⟨⟨m, rfl⟩⟩ := hd; exact HL.out⟩; clear hd))
    go_roundw
    case rel => exact ⟨i + 1, k, pre, rest, by go_num, by omega, HN, HP, HJ2, HL2⟩
    case measure => simp; omega
   | false =>
    rw [if_neg (by decide)] at h
    by_cases c1 : 1 ≤ lenAt s i ∧ (i : Int) + lenAt s i ≤ (s.size : Int)
    ·rw [if_pos c1] at h
     obtain ⟨l', hl', hr'⟩ := Option.map_eq_some_iff.1 h
     obtain ⟨L, hL⟩ : ∃ L, lenAt s i = L := ⟨_, rfl⟩
     rw [hL] at c1 hl' hr'
     obtain ⟨c1, c2⟩ := c1
     have HN := Aside0.mk hl'
     have HR := Aside0.mk hr'
     have HLEN : Aside0 (pre.length < xs.length) := ⟨by rw [HP.out, ← hr']; simp⟩
     have HS1 : Aside0 ((s.extract i s.size).size < 4294967281) := ⟨by rw [ByteArray.size_extract]; omega⟩
     have HS2 : Aside0 (∀ (j : Nat) c, (⟨#[32, 9]⟩ : ByteArray).data.toList[j]? = some c → c.toNat < 128) := ⟨fun j c hc => by
      match j with
      | 0 => simp at hc; subst hc; decide
      | 1 => simp at hc; subst hc; decide
      | j + 2 => simp at hc⟩
     unfold lenAt at hL
     obtain ⟨r, hr⟩ : ∃ r, Lib.indexAny (s.extract i s.size).data.toList [32, 9] = r := ⟨_, rfl⟩
     rw [hr] at hL
     have HI : Aside0 (Lib.indexAny (s.extract i s.size).data.toList (⟨#[32, 9]⟩ : ByteArray).data.toList = r) := ⟨hr⟩
     clear h hl' hr' hr
     by_cases c3 : r < 0
     ·rw [if_pos c3] at hL
      subst hL
      have hE : ((i : Int) + ((s.size : Int) - (i : Int))).toNat = s.size := by omega
      have HN2 := HN.out
      have HR2 := HR.out
      rw [hE] at HN2 HR2
      have HN3 := Aside0.mk HN2
      have HR3 := Aside0.mk HR2
      clear HN HR HN2 HR2 hE c1 c2
      have c3' : r < 0 := c3
      have hf0 : (0 : Int) ≤ (i : Int) + ((s.size : Int) - (i : Int)) := by omega
      have hf1 : (i : Int) ≤ (i : Int) + ((s.size : Int) - (i : Int)) := by omega
      have hf2 : (i : Int) + ((s.size : Int) - (i : Int)) ≤ (s.size : Int) := by omega
      have hf3 : ((i : Int) + ((s.size : Int) - (i : Int))).toNat = s.size := by omega
      gi_wp2_with (first | (refine ⟨trivial, ?_⟩; gi_at_call 57; go_must (refine (callsIn_wide.2 (scan_isBlank.calls b false _ HT.out)).mono ?_; rintro e w2 ⟨rfl, hd⟩; have HJ2 := Aside0.mk (hJ _ _ _ none HJ.out (grown_below0 hd.below) (by simp)); have HL2 : Aside0 (lineAt w2 Bn s) := ⟨by obtain ⟨⟨m, rfl⟩⟩ := hd; exact HL.out⟩; have hc2 : w2.cell? ⟨Bn, 0, none⟩ = some (.string s) := blk_cell HL2.out 0; clear hd)) | (refine ⟨trivial, ?_⟩; gi_at_call 59; go_must (refine (callsIn_wide.2 (anyw (s.extract i s.size) HS1.out _)).mono ?_; rintro e w3 ⟨rfl, hb⟩; rw [HI.out]; have HJ3 := Aside0.mk (hJ _ _ _ none HJ2.out (grown_below0 hb) (by simp)); have HL3 : Aside0 (lineAt w3 Bn s) := ⟨(hb.block Bn (blk_lt HL2.out)).trans HL2.out⟩; have hc3 : w3.cell? ⟨Bn, 0, none⟩ = some (.string s) := blk_cell HL3.out 0; obtain ⟨fn, tmps, assign, body, hy, hR⟩ := hY pre ⟨(i : Int), s.extract i s.size⟩ w3 HJ3.out HLEN.out; dsimp only [encS] at hy; have HRR := Aside0.mk hR; clear hb hR)))
      refine HRR.out.mono ?_
      rintro e W4 (⟨rfl, hJ4, hk4⟩ | ⟨rfl, hJx4⟩)
      ·have HP4 : Aside0 (xs = (pre ++ [(⟨(i : Int), s.extract i s.size⟩ : S27)]) ++ l') := ⟨by rw [HP.out, ← HR3.out]; simp⟩
       have HJ4 := Aside0.mk hJ4
       have HL4 : Aside0 (lineAt W4 Bn s) := ⟨hk4.trans HL3.out⟩
       clear hJ4 hk4
       gi_wp2
       go_roundw
       case rel => exact ⟨s.size, k, pre ++ [(⟨(i : Int), s.extract i s.size⟩ : S27)], l', by rw [show (i : Int) + ((s.size : Int) - (i : Int)) = (s.size : Int) from by omega], Nat.le_refl _, HN3, HP4, HJ4, HL4⟩
       case measure => simp; omega
      ·have HX4 := Aside0.mk hJx4
       clear hJx4
       gi_wp2
       refine bodyPost_ret (results_none rfl _ _ _) rfl ?_
       exact ⟨⟨_, rfl⟩, .inr ⟨pre ++ [(⟨(i : Int), s.extract i s.size⟩ : S27)], ⟨l', by rw [HP.out, ← HR3.out]; simp⟩, HX4.out⟩⟩
     ·rw [if_neg c3] at hL
      subst hL
      have HN3 := HN
      have HR3 := HR
      have r0 : 0 ≤ r := by omega
      have hE1 : (i : Int) ≤ (i : Int) + r := by omega
      have hE2 : (0 : Int) ≤ (i : Int) + r := by omega
      gi_wp2_with (first | (refine ⟨trivial, ?_⟩; gi_at_call 57; go_must (refine (callsIn_wide.2 (scan_isBlank.calls b false _ HT.out)).mono ?_; rintro e w2 ⟨rfl, hd⟩; have HJ2 := Aside0.mk (hJ _ _ _ none HJ.out (grown_below0 hd.below) (by simp)); have HL2 : Aside0 (lineAt w2 Bn s) := ⟨by obtain ⟨⟨m, rfl⟩⟩ := hd; exact HL.out⟩; have hc2 : w2.cell? ⟨Bn, 0, none⟩ = some (.string s) := blk_cell HL2.out 0; clear hd)) | (refine ⟨trivial, ?_⟩; gi_at_call 59; go_must (refine (callsIn_wide.2 (anyw (s.extract i s.size) HS1.out _)).mono ?_; rintro e w3 ⟨rfl, hb⟩; rw [HI.out]; have HJ3 := Aside0.mk (hJ _ _ _ none HJ2.out (grown_below0 hb) (by simp)); have HL3 : Aside0 (lineAt w3 Bn s) := ⟨(hb.block Bn (blk_lt HL2.out)).trans HL2.out⟩; have hc3 : w3.cell? ⟨Bn, 0, none⟩ = some (.string s) := blk_cell HL3.out 0; obtain ⟨fn, tmps, assign, body, hy, hR⟩ := hY pre ⟨(i : Int), s.extract i ((i : Int) + r).toNat⟩ w3 HJ3.out HLEN.out; dsimp only [encS] at hy; have HRR := Aside0.mk hR; clear hb hR)))
      refine HRR.out.mono ?_
      rintro e W4 (⟨rfl, hJ4, hk4⟩ | ⟨rfl, hJx4⟩)
      ·have HP4 : Aside0 (xs = (pre ++ [(⟨(i : Int), s.extract i ((i : Int) + r).toNat⟩ : S27)]) ++ l') := ⟨by rw [HP.out, ← HR3.out]; simp⟩
       have HJ4 := Aside0.mk hJ4
       have HL4 : Aside0 (lineAt W4 Bn s) := ⟨hk4.trans HL3.out⟩
       clear hJ4 hk4
       gi_wp2
       go_roundw
       case rel => exact ⟨((i : Int) + r).toNat, k, pre ++ [(⟨(i : Int), s.extract i ((i : Int) + r).toNat⟩ : S27)], l', by rw [Int.toNat_of_nonneg hE2], by omega, HN3, HP4, HJ4, HL4⟩
       case measure => simp; omega
      ·have HX4 := Aside0.mk hJx4
       clear hJx4
       gi_wp2
       refine bodyPost_ret (results_none rfl _ _ _) rfl ?_
       exact ⟨⟨_, rfl⟩, .inr ⟨pre ++ [(⟨(i : Int), s.extract i ((i : Int) + r).toNat⟩ : S27)], ⟨l', by rw [HP.out, ← HR3.out]; simp⟩, HX4.out⟩⟩
    ·rw [if_neg c1] at h; cases h
  ·have d1' : ¬ (i : Int) < (s.size : Int) := by omega
   cases k with
   | zero => exact absurd HX.out (by simp [pcs])
   | succ k =>
   have h := HX.out
   rw [pcs_succ, if_neg d1] at h
   obtain rfl := Option.some.inj h
   clear h HX
   gi_wp2
   go_end0
   exact ⟨⟨_, rfl⟩, .inl (by rw [HP.out, List.append_nil]; exact HJ.out)⟩
set_option maxHeartbeats 1000000 in
theorem pieces_in (n : Nat) (s : ByteArray) (w : World) :
  CallsIn Fence.wide n Try.prog 32 #[.string s] w fun e w' => e = .returned (.func (.func 58) #[] #[.pointer (some ⟨w.heap.size, 0, none⟩)]) ∧ w' = w.alloc (.cells #[.string s] 9) := by
 refine callsIn_of_wp Try.func32 rfl trivial ?_ rfl
 simp only [Try.ntmps32, List.size_toArray, List.length_cons, List.length_nil, Nat.reduceAdd, Nat.reduceSub, Array.replicate_succ, Array.replicate_zero, List.push_toArray, List.append_toArray, List.nil_append, List.cons_append]
 gi_wp2
 go_ret
 exact ⟨rfl, rfl⟩
def keepLine (Bn : Nat) (A B : World) : Prop := B.heap[Bn]? = A.heap[Bn]?
theorem pieces_stops (n : Nat) (hn : 1 ≤ n) (Bn : Nat) (s : ByteArray) (hs : s.size < 4294967281) (xs : List S27) (k0 : Nat) (hxs : pcs s k0 0 = some xs) (w : World) (hBl : Bn < w.heap.size) (hBn : lineAt w Bn s) :
  SeqStopsK Fence.wide n Try.prog 58 #[.pointer (some ⟨Bn, 0, none⟩)] encS (keepLine Bn) (fun ys => ys = xs) (fun pre => pre <+: xs) xs.length w := fun l J Jx W hW hJ _ hY h0 =>
 pieces1_in n hn l Bn s hs xs k0 hxs J Jx hY W ((hW.block Bn hBl).trans hBn) hJ h0
def flatS (xs : List S27) : List Value := xs.flatMap fun x => [.int .i64 x.f0, .string x.f1]
theorem flatS_snoc (xs : List S27) (x : S27) : flatS (xs ++ [x]) = flatS xs ++ [.int .i64 x.f0, .string x.f1] := by unfold flatS; simp
theorem flatS_reps (w : World) (base : Nat) (ok : Nat → Prop) : ∀ (n : Nat) (xs : List S27), xs.length = n → Reps (k27.M w base ok) 2 xs (flatS xs)
 | 0, xs, h => by
  obtain rfl := List.length_eq_zero_iff.1 h
  exact Reps.none _ _
 | n + 1, xs, h => by
  rcases List.eq_nil_or_concat xs with rfl | ⟨ys, y, rfl⟩
  ·simp at h
  ·rw [List.concat_eq_append] at h ⊢
   rw [flatS_snoc]
   exact (flatS_reps w base ok n ys (by simp at h; omega)).snoc (k27_mkM w base ok y) rfl
theorem cells_two (W : World) (a b : Value) (t : TypeId) : ∀ j u, ([a, b] : List Value)[j]? = some u → (W.alloc (.cells #[a, b] t)).cell? ((⟨W.heap.size, 0, none⟩ : Addr).add j) = some u := by
 intro j u hj
 match j with
 | 0 => simp at hj; subst hj; exact blk_cell (blk_new W _) 0
 | 1 => simp at hj; subst hj; exact blk_cell (blk_new W _) 1
 | j + 2 => simp at hj
set_option maxRecDepth 100000 in
set_option maxHeartbeats 4000000 in
theorem Fields_in (n : Nat) (hn : 3 ≤ n) (s : ByteArray) (hs : s.size < 4294967281) (xs : List S27) (k0 : Nat) (hxs : pcs s k0 0 = some xs) (hlen : xs.length ≤ 1000000) (w : World) :
  CallsIn Fence.wide n Try.prog 12 #[.string s] w fun e W' => ∃ v, e = .returned v ∧ Kd.R k27 27 W' w.heap.size (fun _ => True) v xs ∧ Below w.heap.size w W' := by
 have h1 : 1 ≤ n := by omega
 have hX := Aside0.mk hxs
 clear hxs
 obtain ⟨i0, hi, hz0, hz1, hz2⟩ := info_parts infoSp_
 refine callsIn_of_wp_marks Try.func12 rfl trivial ?_ rfl
 simp only [Try.ntmps12, List.size_toArray, List.length_cons, List.length_nil, Nat.reduceAdd, Nat.reduceSub, Array.replicate_succ, Array.replicate_zero, List.push_toArray, List.append_toArray, List.nil_append, List.cons_append]
 gi_wp2_with (refine ⟨trivial, ?_⟩; gi_at_call 32; go_must (refine (pieces_in (n - 1) s _).mono ?_; rintro e w' ⟨rfl, rfl⟩))
 have bO := (Boxed.new w 23 (.slice none 0 0)).alloc (.cells #[.string s] 9)
 have bN := Boxed.new (w.alloc (.cells #[.slice none 0 0] 23)) 9 (.string s)
 rw [World.size_alloc] at bN
 have hB0 : Below w.heap.size w ((w.alloc (.cells #[.slice none 0 0] 23)).alloc (.cells #[.string s] 9)) := ((Below.refl _ w).alloc (Nat.le_refl _) _).alloc (by simp) _
 have hsz : ((w.alloc (.cells #[.slice none 0 0] 23)).alloc (.cells #[.string s] 9)).heap.size = w.heap.size + 2 := by simp
 obtain ⟨W0, hW0⟩ : ∃ W0, (w.alloc (.cells #[.slice none 0 0] 23)).alloc (.cells #[.string s] 9) = W0 := ⟨_, rfl⟩
 rw [hW0] at bO bN hB0 hsz ⊢
 clear hW0
 refine wpIn_rangeFunc_ownH rfl h1 (gf := 58) (lb := #[.pointer (some ⟨w.heap.size + 1, 0, none⟩)]) rfl trivial (enters_of Try.func58 (by kernel_rfl) rfl)
  (pieces_stops (n - 1) (by omega) (w.heap.size + 1) s hs xs k0 hX.out W0 (by omega) bN)
  (fun h k => k.trans h) (fun W l o o' hl _ _ _ => World.putObj_heap_other (by omega)) (Below.refl _ _) (fun _ => rfl)
  (fun pre W => ((∃ v, Boxed W w.heap.size 23 v ∧ W.ownsRow w.heap.size 27 2 v pre.length (flatS pre) ∧ True) ∧ Boxed W (w.heap.size + 1) 9 (.string s)) ∧ Below w.heap.size w W)
  (fun _ _ _ => False)
  (OwnFrom.and (OwnFrom.and (Own.from (holdsRow_own w.heap.size w.heap.size 23 27 2 (fun pre => pre.length) (fun pre => flatS pre) (fun _ _ => True)) _) (Own.from (boxed_own _ _ _) _)) (ownFrom_below (Nat.le_refl _) (by omega)))
  (fun _ _ _ _ _ hs _ _ => hs)
  ⟨⟨⟨_, bO, World.ownsRow_nil _ _ _ _, trivial⟩, bN⟩, hB0⟩
  (fun x a' W => ∃ Bx, w.heap.size + 1 < Bx ∧ W.heap[Bx]? = some (.cells #[.int .i64 x.f0, .string x.f1] 27 (0, 0)) ∧ a' = { tmps := #[.string s, undef, .slice none 0 0, .pointer (some ⟨w.heap.size, 0, none⟩), .pointer (some ⟨Bx, 0, none⟩), .string s, .func (.func 58) #[] #[.pointer (some ⟨w.heap.size + 1, 0, none⟩)], .agg #[.int .i64 x.f0, .string x.f1], undef, undef, undef, undef, undef], defers := [] })
  (fun x a' _ X Y row hs hg hr => by
   obtain ⟨Bx, h1, h2, h3⟩ := hs
   refine ⟨Bx, h1, (hg.block Bx (blk_lt h2) (fun e => ?_)).trans h2, h3⟩
   obtain ⟨_, o, ho, hc⟩ := hr Bx e.symm
   rw [h2] at ho
   cases ho
   cases hc)
  ?assign ?body ?done ?stop
 case assign =>
  rintro l pre x W K ⟨⟨⟨v, hv, hrow, _⟩, hl⟩, hB⟩ hK
  gi_wp2
  exact hK _ _ ((KeepsOthers.alloc _ _).from _) (Below.heap_alloc W _ _ (blk_lt hl)) ⟨⟨⟨v, hv.alloc _, hrow.alloc _, trivial⟩, hl.alloc _⟩, hB.alloc hB.size _⟩ ⟨W.heap.size, blk_lt hl, blk_new W _, rfl⟩
 case body =>
  rintro l pre x a' W hll hr ⟨⟨⟨v, hv, hrow, _⟩, hl⟩, hB⟩ ⟨Bx, hBx, bX, rfl⟩ hlt
  have hc := hv.cell
  have x0 := blk_cell bX 0
  have x1 := blk_cell bX 1
  have hwl := hB.size
  gi_wp2_with (gi_at_builtin; go_must (refine wpListIn_append_own _ rfl _ _ 23 rfl w.heap.size 27 i0 (.agg #[.int .i64 0, .string ⟨#[]⟩]) 2 24 Try.underlying23 hi hz0 hz1 hz2 rfl (by decide) _ _ _ rfl (hrow.alloc _) ⟨W.heap.size, 0, none⟩ 1 1 [.int .i64 x.f0, .string x.f1] rfl rfl (cells_two _ _ _ _) (by simp [Value.oneCell']) (by simp [maxLen]; omega) (by omega) (by simp; omega) ?_; intro v' w1 hown' hgrow _; obtain ⟨g', cap', rfl⟩ := ownsRow_succ hown'; obtain ⟨hv1, hv2, hr2, hk2, hb2⟩ := hv.appended (by decide) hrow hB.size (Nat.le_refl _) hown' hgrow; have hl1 := (hl.alloc (.cells #[.int .i64 x.f0, .string x.f1] 27)).kept hgrow (hl.not_row (by decide) hrow); have hl2 := hl1.other (B' := w.heap.size) (by omega) (.slice (some ⟨g', 0, none⟩) (pre.length + 1) cap'); have hc1 := hv1.cell; have hf1 := hv1.frozen))
  exact ⟨hk2.from _, hl2.trans hl.symm, ⟨⟨⟨_, hv2, by rw [flatS_snoc, List.length_append]; exact hr2, trivial⟩, hl2⟩, hB.trans hb2⟩⟩
 case done =>
  rintro D ys W hD rfl ⟨⟨⟨v, hv, hrow, _⟩, hl⟩, hB⟩ hK
  have hc := hv.cell
  gi_wp2
  refine ⟨by simp, .inl ⟨_, _, rfl, run_takeDeferred hK, ?_⟩⟩
  exact ⟨_, results_tmp rfl _ _ _, v, rfl, ⟨fun _ _ => trivial, flatS ys, ownsRow_putObj hrow _ hK rfl, flatS_reps _ _ _ _ ys rfl⟩, hB.trans (belowK_b (w := w) (Nat.le_refl _) W D _ _ (by omega) hK rfl rfl)⟩
 case stop =>
  rintro D c pre W _ _ h _
  exact h.elim
/-- The pieces of a line. -/
def scan_Fields.f (a0 : ByteArray) : Option (List S27) := if a0.size < 4294967281 then (pcs a0 (a0.size + 1) 0).bind fun l => if l.length ≤ 1000000 then some l else none else none
theorem scan_Fields.calls (a0 : ByteArray) (r : List S27) (w : World) (h : scan_Fields.f a0 = some r) :
  Calls Try.prog 12 #[.string a0] w fun e w' => ∃ v0_ : Value, e = .returned v0_ ∧ Kd.R k27 27 w' w.heap.size (fun _ => True) v0_ r ∧ Below w.heap.size w w' := by
 unfold scan_Fields.f at h
 by_cases c : a0.size < 4294967281
 ·rw [if_pos c] at h
  obtain ⟨l, hl, h⟩ := Option.bind_eq_some_iff.mp h
  by_cases c2 : l.length ≤ 1000000
  ·rw [if_pos c2] at h
   cases h
   exact callsIn_wide.1 (Fields_in 3 (by omega) a0 c r _ hl c2 w)
  ·rw [if_neg c2] at h; cases h
 ·rw [if_neg c] at h; cases h

end Go.Proofs.Ytkahgdkpehlanaa.P

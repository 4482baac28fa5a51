-- Written by a program of this session (wip/tools/mk.py) that runs the kit's printer; several functions' texts in one.
import Derived.Test.YtkahgdkpehlanaaDoorP0
import Derived.Deep.DeepMust
import Derived.Test.YtkahgdkpehlanaaDoorExtLib
import Derived.Test.YtkahgdkpehlanaaDoorGensDefs
import Derived.Test.YtkahgdkpehlanaaDoorPureLib
namespace Go.Proofs.YtkahgdkpehlanaaDoor.P
open Go.RowKit Go.Proofs.YtkahgdkpehlanaaDoorW.PrintWords Go.Proofs.YtkahgdkpehlanaaDoorW.PrintLast Go.Proofs.YtkahgdkpehlanaaDoorW.PrintMore
attribute [local go_sem] max2_int min2_int max_two min_two   -- for this text's walks alone
set_option linter.unusedVariables false
set_option linter.unusedSimpArgs false

/-! ### gens_counts: function 40 -/
-- EXT Derived.Deep.DeepMust Derived.Test.@NExtLib Derived.Test.@NGensDefs
open Go.Proofs.YtkahgdkpehlanaaDoor.L
set_option maxHeartbeats 8000000 in
set_option maxRecDepth 100000 in
theorem gens_counts.calls_all (s : ByteArray) (w : World) (hs : s.size ≤ 140737488351232) (r1 r2 r3 r4 r5 : Int) (h : gmAll s = (r1, r2, r3, r4, r5)) :
  Calls Tryd.prog 40 #[.string s] w fun e w' => e = .returned (.tuple #[.agg #[.int .u8 r1, .int .u16 r2, .int .u16 r3], .int .i64 r4, .int .i64 r5]) ∧ Below w.heap.size w w' := by
 have H := Aside0.mk h
 clear h
 go_enter Tryd.func40, Tryd.ntmps40
 go_wp2
 go_loopg [6, 7, 13] s.size (fun gk tl tn ti wr => ∃ (i li m0 m1 : Nat) (nine : Int), i ≤ s.size ∧ li ≤ 1 ∧ m0 < 1024 ∧ m1 < 1024 ∧ (-1 ≤ nine ∧ nine ≤ 140737488351232) ∧ tl = .int .i64 li ∧ ti = .int .i64 i ∧ tn = .int .i64 nine ∧ Aside0 (gm s gk i li m0 m1 nine = (r1, r2, r3, r4, r5)) ∧ Aside0 (s.size ≤ gk + i) ∧ Aside0 (Below w.heap.size w wr) ∧ Aside0 (wr.heap[w.heap.size]? = some (.cells #[.int .u8 0, .int .u16 0, .int .u16 0] 40 (0, 0))) ∧ Aside0 (wr.heap[w.heap.size + 1]? = some (.cells #[.int .u16 m0, .int .u16 m1] 102 (0, 0))))
 case atStart => exact ⟨0, 0, 0, 0, -1, by omega, by omega, by omega, by omega, by omega, rfl, rfl, rfl, H, ⟨by omega⟩, ⟨((Below.refl _ _).alloc (Nat.le_refl _) _).alloc (by simp) _⟩, ⟨blk_alloc (blk_new _ _) _⟩, ⟨blk_new' _ _ _ (by simp)⟩⟩
 case round =>
  obtain ⟨i, li, m0, m1, nine, hi, hli, hm0, hm1, hn9, rfl, rfl, rfl, HG, HN, HB, HR, HL⟩ := hrel
  have hi0 : (0 : Int) ≤ (i : Int) := by omega
  have k0 : wr.cell? ⟨w.heap.size, 0, none⟩ = some (.int .u8 0) := blk_cell HR.out 0
  have k1 : wr.cell? ⟨w.heap.size, 1, none⟩ = some (.int .u16 0) := blk_cell HR.out 1
  have k2 : wr.cell? ⟨w.heap.size, 2, none⟩ = some (.int .u16 0) := blk_cell HR.out 2
  have k3 : wr.cell? ⟨w.heap.size + 1, 0, none⟩ = some (.int .u16 m0) := blk_cell HL.out 0
  have k4 : wr.cell? ⟨w.heap.size + 1, 1, none⟩ = some (.int .u16 m1) := blk_cell HL.out 1
  have z0 := blk_frozen HR.out 0
  have z1 := blk_frozen HR.out 1
  have z2 := blk_frozen HR.out 2
  have z3 := blk_frozen HL.out 0
  have z4 := blk_frozen HL.out 1
  have hh := HG.out
  by_cases c1 : i < s.size
  ·have c1' : (i : Int) < (s.size : Int) := by omega
   have hbt : ∀ hh : i < s.size, ((s[i]'hh).toNat : Int) = bt s (i : Int) := bt_at s (i : Int)
   have hbr := bt_range s (i : Int)
   obtain ⟨b, hb⟩ : ∃ b, bt s (i : Int) = b := ⟨_, rfl⟩
   cases gk with
   | zero => exact absurd HN.out (by omega)
   | succ gk =>
   rw [gm_succ, if_pos c1, hb] at hh
   rw [hb] at hbr hbt
   clear hb HG
   by_cases c2 : b = 47
   ·subst c2
    rw [if_pos rfl] at hh
    obtain rfl | rfl : li = 0 ∨ li = 1 := by omega
    ·rw [if_pos rfl] at hh
     have HG := Aside0.mk hh
     clear hh
     go_wp2
     go_roundg gk
     case measure => omega
     case rel => exact ⟨i + 1, 1, m0, m1, nine, by omega, by omega, hm0, hm1, hn9, by go_num, by go_num, rfl, HG, ⟨by have := HN.out; omega⟩, HB, HR, HL⟩
    ·rw [if_neg (by decide)] at hh
     by_cases c3 : 0 ≤ nine
     ·rw [if_pos c3] at hh
      have c3b : decide (0 ≤ nine) = true := decide_eq_true c3
      simp only [Prod.mk.injEq] at hh
      obtain ⟨rfl, rfl, rfl, rfl, rfl⟩ := hh
      go_wp2
      refine bodyPost_ret (v := .tuple #[.agg #[.int .u8 0, .int .u16 0, .int .u16 0], .int .i64 nine, .int .i64 82]) (by simp [results, Tryd.results40, go_sem, *]) rfl ⟨rfl, ?_⟩
      repeat (first | exact HB.out | apply below_alloc | apply pw_below_drewN | apply below_drew1 | refine below_set ?_ (Nat.le_refl _))
     ·rw [if_neg c3] at hh
      have c3b : decide (0 ≤ nine) = false := decide_eq_false c3
      simp only [Prod.mk.injEq] at hh
      obtain ⟨rfl, rfl, rfl, rfl, rfl⟩ := hh
      go_wp2
      refine bodyPost_ret (v := .tuple #[.agg #[.int .u8 1, .int .u16 m1, .int .u16 m0], .int .i64 0, .int .i64 0]) (by simp [results, Tryd.results40, go_sem, *]) rfl ⟨rfl, ?_⟩
      repeat (first | exact HB.out | apply below_alloc | apply pw_below_drewN | apply below_drew1 | refine below_set ?_ (Nat.le_refl _))
   ·rw [if_neg c2] at hh
    have c2b : (b == 47) = false := beq_eq_false_iff_ne.mpr c2
    by_cases c3 : b < 48 ∨ 57 < b
    ·rw [if_pos c3] at hh
     simp only [Prod.mk.injEq] at hh
     obtain ⟨rfl, rfl, rfl, rfl, rfl⟩ := hh
     rcases c3 with c3 | c3
     ·clear c2
      go_wp2
      refine bodyPost_ret (v := .tuple #[.agg #[.int .u8 0, .int .u16 0, .int .u16 0], .int .i64 i, .int .i64 80]) (by simp [results, Tryd.results40, go_sem, *]) rfl ⟨rfl, ?_⟩
      repeat (first | exact HB.out | apply below_alloc | apply pw_below_drewN | apply below_drew1 | refine below_set ?_ (Nat.le_refl _))
     ·have c4 : ¬ b < 48 := by omega
      clear c2
      go_wp2
      refine bodyPost_ret (v := .tuple #[.agg #[.int .u8 0, .int .u16 0, .int .u16 0], .int .i64 i, .int .i64 80]) (by simp [results, Tryd.results40, go_sem, *]) rfl ⟨rfl, ?_⟩
      repeat (first | exact HB.out | apply below_alloc | apply pw_below_drewN | apply below_drew1 | refine below_set ?_ (Nat.le_refl _))
    ·rw [if_neg c3] at hh
     have c4 : 48 ≤ b := by omega
     have c5 : b ≤ 57 := by omega
     have hd9 : (b - 48).toNat ≤ 9 := by omega
     obtain ⟨nine2, hn2⟩ : ∃ x, (if b = 57 ∧ nine < 0 then (i : Int) else nine) = x := ⟨_, rfl⟩
     rw [hn2] at hh
     have hn92 : -1 ≤ nine2 ∧ nine2 ≤ 140737488351232 := by rw [← hn2]; split <;> omega
     obtain rfl | rfl : li = 0 ∨ li = 1 := by omega
     ·simp only [if_true] at hh
      have ha := bit_and m0 (b - 48).toNat hm0 hd9
      have ho := bit_or m0 (b - 48).toNat hm0 hd9
      have hlt := or_lt m0 (b - 48).toNat hm0 hd9
      cases htb : m0.testBit (b - 48).toNat with
      | true =>
       rw [htb] at ha hh
       rw [if_pos rfl] at hh
       simp only [Prod.mk.injEq] at hh
       obtain ⟨rfl, rfl, rfl, rfl, rfl⟩ := hh
       clear htb ho hlt hn2 c2 c3
       go_wp2
       refine bodyPost_ret (v := .tuple #[.agg #[.int .u8 0, .int .u16 0, .int .u16 0], .int .i64 i, .int .i64 81]) (by simp [results, Tryd.results40, go_sem, *]) rfl ⟨rfl, ?_⟩
       repeat (first | exact HB.out | apply below_alloc | apply pw_below_drewN | apply below_drew1 | refine below_set ?_ (Nat.le_refl _))
      | false =>
       rw [htb] at ha hh
       rw [if_neg (by decide)] at hh
       have HG := Aside0.mk hh
       clear htb hh c2 c3
       by_cases c6 : b = 57
       ·by_cases c7 : nine < 0
        ·have e9 : nine2 = (i : Int) := by rw [← hn2]; exact if_pos ⟨c6, c7⟩
         have c6b : (b == 57) = true := beq_iff_eq.mpr c6
         have c7b : decide (nine < 0) = true := decide_eq_true c7
         clear c6
         have E9 := Aside0.mk e9
         clear e9 hn2
         go_wp2
         go_roundg gk
         case measure => omega
         case rel => exact ⟨i + 1, 0, m0 ||| 2 ^ (b - 48).toNat, m1, nine2, by omega, by omega, hlt, hm1, hn92, rfl, by go_num, by rw [E9.out], HG, ⟨by have := HN.out; omega⟩, ⟨below_set HB.out (by omega)⟩, ⟨blk_far HR.out (by show w.heap.size ≠ w.heap.size + 1; omega) _⟩, ⟨blk_put HL.out 0 _ rfl⟩⟩
        ·have e9 : nine2 = nine := by rw [← hn2]; exact if_neg (by omega)
         have c6b : (b == 57) = true := beq_iff_eq.mpr c6
         have c7b : decide (nine < 0) = false := decide_eq_false c7
         clear c6
         have E9 := Aside0.mk e9
         clear e9 hn2
         go_wp2
         go_roundg gk
         case measure => omega
         case rel => exact ⟨i + 1, 0, m0 ||| 2 ^ (b - 48).toNat, m1, nine2, by omega, by omega, hlt, hm1, hn92, rfl, by go_num, by rw [E9.out], HG, ⟨by have := HN.out; omega⟩, ⟨below_set HB.out (by omega)⟩, ⟨blk_far HR.out (by show w.heap.size ≠ w.heap.size + 1; omega) _⟩, ⟨blk_put HL.out 0 _ rfl⟩⟩
       ·have e9 : nine2 = nine := by rw [← hn2]; exact if_neg (by omega)
        have c6b : (b == 57) = false := beq_eq_false_iff_ne.mpr c6
        clear c6
        have E9 := Aside0.mk e9
        clear e9 hn2
        go_wp2
        go_roundg gk
        case measure => omega
        case rel => exact ⟨i + 1, 0, m0 ||| 2 ^ (b - 48).toNat, m1, nine2, by omega, by omega, hlt, hm1, hn92, rfl, by go_num, by rw [E9.out], HG, ⟨by have := HN.out; omega⟩, ⟨below_set HB.out (by omega)⟩, ⟨blk_far HR.out (by show w.heap.size ≠ w.heap.size + 1; omega) _⟩, ⟨blk_put HL.out 0 _ rfl⟩⟩
     ·simp only [show ¬ (1 = 0) by decide, if_false] at hh
      have ha := bit_and m1 (b - 48).toNat hm1 hd9
      have ho := bit_or m1 (b - 48).toNat hm1 hd9
      have hlt := or_lt m1 (b - 48).toNat hm1 hd9
      cases htb : m1.testBit (b - 48).toNat with
      | true =>
       rw [htb] at ha hh
       rw [if_pos rfl] at hh
       simp only [Prod.mk.injEq] at hh
       obtain ⟨rfl, rfl, rfl, rfl, rfl⟩ := hh
       clear htb ho hlt hn2 c2 c3
       go_wp2
       refine bodyPost_ret (v := .tuple #[.agg #[.int .u8 0, .int .u16 0, .int .u16 0], .int .i64 i, .int .i64 81]) (by simp [results, Tryd.results40, go_sem, *]) rfl ⟨rfl, ?_⟩
       repeat (first | exact HB.out | apply below_alloc | apply pw_below_drewN | apply below_drew1 | refine below_set ?_ (Nat.le_refl _))
      | false =>
       rw [htb] at ha hh
       rw [if_neg (by decide)] at hh
       have HG := Aside0.mk hh
       clear htb hh c2 c3
       by_cases c6 : b = 57
       ·by_cases c7 : nine < 0
        ·have e9 : nine2 = (i : Int) := by rw [← hn2]; exact if_pos ⟨c6, c7⟩
         have c6b : (b == 57) = true := beq_iff_eq.mpr c6
         have c7b : decide (nine < 0) = true := decide_eq_true c7
         clear c6
         have E9 := Aside0.mk e9
         clear e9 hn2
         go_wp2
         go_roundg gk
         case measure => omega
         case rel => exact ⟨i + 1, 1, m0, m1 ||| 2 ^ (b - 48).toNat, nine2, by omega, by omega, hm0, hlt, hn92, rfl, by go_num, by rw [E9.out], HG, ⟨by have := HN.out; omega⟩, ⟨below_set HB.out (by omega)⟩, ⟨blk_far HR.out (by show w.heap.size ≠ w.heap.size + 1; omega) _⟩, ⟨blk_put HL.out 1 _ rfl⟩⟩
        ·have e9 : nine2 = nine := by rw [← hn2]; exact if_neg (by omega)
         have c6b : (b == 57) = true := beq_iff_eq.mpr c6
         have c7b : decide (nine < 0) = false := decide_eq_false c7
         clear c6
         have E9 := Aside0.mk e9
         clear e9 hn2
         go_wp2
         go_roundg gk
         case measure => omega
         case rel => exact ⟨i + 1, 1, m0, m1 ||| 2 ^ (b - 48).toNat, nine2, by omega, by omega, hm0, hlt, hn92, rfl, by go_num, by rw [E9.out], HG, ⟨by have := HN.out; omega⟩, ⟨below_set HB.out (by omega)⟩, ⟨blk_far HR.out (by show w.heap.size ≠ w.heap.size + 1; omega) _⟩, ⟨blk_put HL.out 1 _ rfl⟩⟩
       ·have e9 : nine2 = nine := by rw [← hn2]; exact if_neg (by omega)
        have c6b : (b == 57) = false := beq_eq_false_iff_ne.mpr c6
        clear c6
        have E9 := Aside0.mk e9
        clear e9 hn2
        go_wp2
        go_roundg gk
        case measure => omega
        case rel => exact ⟨i + 1, 1, m0, m1 ||| 2 ^ (b - 48).toNat, nine2, by omega, by omega, hm0, hlt, hn92, rfl, by go_num, by rw [E9.out], HG, ⟨by have := HN.out; omega⟩, ⟨below_set HB.out (by omega)⟩, ⟨blk_far HR.out (by show w.heap.size ≠ w.heap.size + 1; omega) _⟩, ⟨blk_put HL.out 1 _ rfl⟩⟩
  ·have c1' : ¬ (i : Int) < (s.size : Int) := by omega
   rw [gm_out _ _ _ _ _ _ _ c1] at hh
   simp only [Prod.mk.injEq] at hh
   obtain ⟨rfl, rfl, rfl, rfl, rfl⟩ := hh
   clear HG
   go_wp2
   refine bodyPost_ret (v := .tuple #[.agg #[.int .u8 0, .int .u16 0, .int .u16 0], .int .i64 s.size, .int .i64 80]) (by simp [results, Tryd.results40, go_sem, *]) rfl ⟨rfl, ?_⟩
   repeat (first | exact HB.out | apply below_alloc | apply pw_below_drewN | apply below_drew1 | refine below_set ?_ (Nat.le_refl _))
def gens_counts.f (a0 : ByteArray) : Option (Int × Int × Int × Int × Int) := if a0.size ≤ 140737488351232 then some (gmAll a0) else none
theorem gens_counts.calls (a0 : ByteArray) (r1 r2 r3 r4 r5 : Int) (w : World) (h : gens_counts.f a0 = some (r1, r2, r3, r4, r5)) :
  Calls Tryd.prog 40 #[.string a0] w fun e w' => e = .returned (.tuple #[.agg #[.int .u8 r1, .int .u16 r2, .int .u16 r3], .int .i64 r4, .int .i64 r5]) ∧ Below w.heap.size w w' := by
 unfold gens_counts.f at h
 by_cases c : a0.size ≤ 140737488351232
 ·rw [if_pos c] at h
  exact gens_counts.calls_all a0 w c r1 r2 r3 r4 r5 (Option.some.inj h)
 ·rw [if_neg c] at h; cases h

end Go.Proofs.YtkahgdkpehlanaaDoor.P

namespace Go.Proofs.YtkahgdkpehlanaaDoor.P
open Go.RowKit Go.Proofs.YtkahgdkpehlanaaDoorW.PrintWords Go.Proofs.YtkahgdkpehlanaaDoorW.PrintLast Go.Proofs.YtkahgdkpehlanaaDoorW.PrintMore
attribute [local go_sem] max2_int min2_int max_two min_two   -- for this text's walks alone
set_option linter.unusedVariables false
set_option linter.unusedSimpArgs false

/-- A state of type 92 at block g of W; what its slices lead to came in by w0. -/
def IsS92 (w0 W : World) (g : Nat) (f0 : ByteArray) (f1 : Int) (f2 : Bool) : Prop := W.heap[g]? = some (.cells #[.string f0, .int .i64 f1, .bool f2] 92 (0, 0)) ∧ w0.heap.size ≤ g
theorem IsS92.grown {w0 W : World} {g : Nat} {f0 : ByteArray} {f1 : Int} {f2 : Bool} {W1 : World} {row : Option Nat} (h : IsS92 w0 W g f0 f1 f2) (hw : W.grownBy W1 row) (hne : some g ≠ row) : IsS92 w0 W1 g f0 f1 f2 := by
 obtain ⟨hb, hg⟩ := h
 exact ⟨blk_grown hb hw hne, hg⟩
theorem IsS92.fresh {w0 W : World} {g : Nat} {f0 : ByteArray} {f1 : Int} {f2 : Bool} (h : IsS92 w0 W g f0 f1 f2) : ∀ k, W.heap.size ≤ k → k ≠ g := by
 obtain ⟨hb, hg⟩ := h
 exact Kd.freshB hb
theorem IsS92.below {w0 W : World} {g : Nat} {f0 : ByteArray} {f1 : Int} {f2 : Bool} {W1 : World} (h : IsS92 w0 W g f0 f1 f2) (hw : Below W.heap.size W W1) : IsS92 w0 W1 g f0 f1 f2 := h.grown (grown_of_below hw none) (by simp)
theorem IsS92.alloc {w0 W : World} {g : Nat} {f0 : ByteArray} {f1 : Int} {f2 : Bool} (h : IsS92 w0 W g f0 f1 f2) (o : Obj) : IsS92 w0 (W.alloc o) g f0 f1 f2 := h.below (below_alloc (Below.refl _ _) o)
theorem IsS92.drewN {w0 W : World} {g : Nat} {f0 : ByteArray} {f1 : Int} {f2 : Bool} (h : IsS92 w0 W g f0 f1 f2) (m : Nat) : IsS92 w0 (W.drewN m) g f0 f1 f2 := h
theorem IsS92.drew {w0 W : World} {g : Nat} {f0 : ByteArray} {f1 : Int} {f2 : Bool} (h : IsS92 w0 W g f0 f1 f2) : IsS92 w0 W.drew g f0 f1 f2 := h
theorem IsS92.at_ {w0 W : World} {g : Nat} {f0 : ByteArray} {f1 : Int} {f2 : Bool} {w' : World} {m : Nat} (hq : W.drewN m = w') (h : IsS92 w0 W g f0 f1 f2) : IsS92 w0 w' g f0 f1 f2 := by subst hq; exact IsS92.drewN h m
theorem IsS92.apart {w0 W : World} {g : Nat} {f0 : ByteArray} {f1 : Int} {f2 : Bool} {α : Type} {d : Kd α} {e : Nat} {base : Nat} {ok : Nat → Prop} {v : Value} {xs : List α} (h : IsS92 w0 W g f0 f1 f2) (ho : d.R e W base ok v xs) (ht : ∀ q, q ∈ e :: d.E → q ≠ 92) : d.R e W base (fun k => ok k ∧ k ≠ g) v xs := by
 obtain ⟨hb, hg⟩ := h
 exact Kd.R_types ho hb ht
theorem IsS92.own_ne {w0 W : World} {g : Nat} {f0 : ByteArray} {f1 : Int} {f2 : Bool} {α : Type} {d : Kd α} {e : Nat} {base : Nat} {ok : Nat → Prop} {v : Value} {xs : List α} (h : IsS92 w0 W g f0 f1 f2) (ho : d.R e W base ok v xs) (ht : e ≠ 92) : some g ≠ v.ownBlock := by
 obtain ⟨hb, hg⟩ := h
 exact Kd.R_ne ho hb ht
theorem IsS92.lt {w0 W : World} {g : Nat} {f0 : ByteArray} {f1 : Int} {f2 : Bool} (h : IsS92 w0 W g f0 f1 f2) : g < W.heap.size := by
 obtain ⟨hb, hg⟩ := h
 exact blk_lt hb
theorem IsS92.ge {w0 W : World} {g : Nat} {f0 : ByteArray} {f1 : Int} {f2 : Bool} (h : IsS92 w0 W g f0 f1 f2) : w0.heap.size ≤ g := by
 obtain ⟨hb, hg⟩ := h
 exact hg
theorem IsS92.ne_blk {w0 W : World} {g : Nat} {f0 : ByteArray} {f1 : Int} {f2 : Bool} {a : Nat} {cs : Array Value} {t : TypeId} {fr : Nat × Nat} (h : IsS92 w0 W g f0 f1 f2) (hb2 : W.heap[a]? = some (.cells cs t fr)) (ht : t ≠ 92) : g ≠ a := by
 obtain ⟨hb, hg⟩ := h
 rintro rfl
 rw [hb] at hb2
 injection hb2 with hb2
 injection hb2 with _ ht2
 exact ht ht2.symm
theorem IsS92.far {w0 W : World} {g : Nat} {f0 : ByteArray} {f1 : Int} {f2 : Bool} {p : Addr} (h : IsS92 w0 W g f0 f1 f2) (hne : g ≠ p.block) (u : Value) : IsS92 w0 (W.setCell p u) g f0 f1 f2 := by
 obtain ⟨hb, hg⟩ := h
 exact ⟨blk_far hb hne u, hg⟩
theorem cellS92_0 {W : World} {g : Nat} {f0 : ByteArray} {f1 : Int} {f2 : Bool} (h : W.heap[g]? = some (.cells #[.string f0, .int .i64 f1, .bool f2] 92 (0, 0))) : W.cell? ⟨g, 0, none⟩ = some (.string f0) := (blk_cell h 0).trans rfl
theorem IsS92.set_0 {w0 W : World} {g : Nat} {f0 : ByteArray} {f1 : Int} {f2 : Bool} (h : IsS92 w0 W g f0 f1 f2) (x : ByteArray) : IsS92 w0 (W.setCell ⟨g, 0, none⟩ (.string x)) g x f1 f2 := by
 obtain ⟨hb, hg⟩ := h
 exact ⟨by simpa using blk_set hb 0 (.string x), hg⟩
theorem cellS92_1 {W : World} {g : Nat} {f0 : ByteArray} {f1 : Int} {f2 : Bool} (h : W.heap[g]? = some (.cells #[.string f0, .int .i64 f1, .bool f2] 92 (0, 0))) : W.cell? ⟨g, 1, none⟩ = some (.int .i64 f1) := (blk_cell h 1).trans rfl
theorem IsS92.set_1 {w0 W : World} {g : Nat} {f0 : ByteArray} {f1 : Int} {f2 : Bool} (h : IsS92 w0 W g f0 f1 f2) (x : Int) : IsS92 w0 (W.setCell ⟨g, 1, none⟩ (.int .i64 x)) g f0 x f2 := by
 obtain ⟨hb, hg⟩ := h
 exact ⟨by simpa using blk_set hb 1 (.int .i64 x), hg⟩
theorem cellS92_2 {W : World} {g : Nat} {f0 : ByteArray} {f1 : Int} {f2 : Bool} (h : W.heap[g]? = some (.cells #[.string f0, .int .i64 f1, .bool f2] 92 (0, 0))) : W.cell? ⟨g, 2, none⟩ = some (.bool f2) := (blk_cell h 2).trans rfl
theorem IsS92.set_2 {w0 W : World} {g : Nat} {f0 : ByteArray} {f1 : Int} {f2 : Bool} (h : IsS92 w0 W g f0 f1 f2) (x : Bool) : IsS92 w0 (W.setCell ⟨g, 2, none⟩ (.bool x)) g f0 f1 x := by
 obtain ⟨hb, hg⟩ := h
 exact ⟨by simpa using blk_set hb 2 (.bool x), hg⟩
theorem IsS92.new (w0 W : World) (f0 : ByteArray) (f1 : Int) (f2 : Bool) (hB : Below w0.heap.size w0 W) : IsS92 w0 (W.alloc (.cells #[.string f0, .int .i64 f1, .bool f2] 92)) W.heap.size f0 f1 f2 := ⟨by simpa using heap_alloc_new W _, hB.size⟩

/-! ### scan_New: function 23 -/
def scan_New.f (a0 : ByteArray) : Option (ByteArray × Int × Bool) := some (a0, 0, true)
set_option maxHeartbeats 8000000 in
set_option maxRecDepth 100000 in
theorem scan_New.calls (a0 : ByteArray) (r1 : ByteArray) (r2 : Int) (r3 : Bool) (w0 w : World) (hB : Below w0.heap.size w0 w) (h : scan_New.f a0 = some (r1, r2, r3)) :
  Calls Tryd.prog 23 #[.string a0] w fun e w' => ∃ g_ : Nat, e = .returned (.pointer (some ⟨g_, 0, none⟩)) ∧ IsS92 w0 w' g_ r1 r2 r3 ∧ Below w0.heap.size w0 w' ∧ Below w.heap.size w w' := by
 have hu92 := Tryd.underlying92
 have HBW := Aside0.mk (Below.refl w.heap.size w)
 have HW0 := Aside0.mk hB.size
 have HB := Aside0.mk hB
 clear hB
 have H : (some (a0, 0, true)) = some (r1, r2, r3) := h
 clear h
 simp only [Option.some.injEq, Prod.mk.injEq] at H
 obtain ⟨rfl, rfl, rfl⟩ := H
 go_enter Tryd.func23, Tryd.ntmps23
 go_wp2_with (first | ((with_reducible refine gate_dst (N := 5) rfl ?_); refine box_event ?hg (N := 5) ?hd (cs := #[.string a0, .int .i64 0, .bool true]) (t := 92) ?hr ?_; (case hd => rfl); (case hg => rfl); (case hr => first | (go_simp; done) | (go_simp; rfl)); intro gb113 hg w2 hbox hb; have n0_ := Aside0.mk (below_step HBW.out hb); have n1_ := Aside0.mk (below_step (by repeat (first | (with_reducible first | exact HB.out | apply below_alloc | apply pw_below_drewN | apply below_drew1) | exact HB.out)) hb); have n2_ := Aside0.mk (hbox); have n3_ := Aside0.mk ((by rw [hg]; exact (below_size (by repeat (first | (with_reducible first | exact HBW.out | apply below_alloc | apply pw_below_drewN | apply below_drew1) | exact HBW.out))) : w.heap.size ≤ gb113)); have n4_ := Aside0.mk ((Nat.le_trans HW0.out (by rw [hg]; exact (below_size (by repeat (first | (with_reducible first | exact HBW.out | apply below_alloc | apply pw_below_drewN | apply below_drew1) | exact HBW.out))) : w.heap.size ≤ gb113) : w0.heap.size ≤ gb113)); clear HBW; clear HB; have HBW := n0_; have HB := n1_; have BK113 := n2_; have GW113 := n3_; have GE113 := n4_; clear n0_ n1_ n2_ n3_ n4_; clear hb hbox hg))
 go_ret
 exact ⟨_, rfl, (show IsS92 w0 _ gb113 a0 0 true from ⟨by (with_reducible repeat (first | refine blk_drewN ?_ _ | refine blk_drew ?_ | refine blk_alloc ?_ _)); exact BK113.out, GE113.out⟩), by repeat (first | (with_reducible first | exact HB.out | apply below_alloc | apply pw_below_drewN | apply below_drew1 | refine below_set ?_ GE113.out) | exact HB.out), by repeat (first | (with_reducible first | exact HBW.out | apply below_alloc | apply pw_below_drewN | apply below_drew1 | refine below_set ?_ GW113.out) | exact HBW.out)⟩

end Go.Proofs.YtkahgdkpehlanaaDoor.P

namespace Go.Proofs.YtkahgdkpehlanaaDoor.P
open Go.RowKit Go.Proofs.YtkahgdkpehlanaaDoorW.PrintWords Go.Proofs.YtkahgdkpehlanaaDoorW.PrintLast Go.Proofs.YtkahgdkpehlanaaDoorW.PrintMore
attribute [local go_sem] max2_int min2_int max_two min_two   -- for this text's walks alone
set_option linter.unusedVariables false
set_option linter.unusedSimpArgs false

/-! ### scan_isDigit: function 30 -/
def scan_isDigit.f (a0 : Int) : Option (Bool) := if 48 ≤ a0 then (some (decide (a0 ≤ 57))) else (some false)
set_option maxHeartbeats 8000000 in
set_option maxRecDepth 100000 in
theorem scan_isDigit.calls (a0 : Int) (r : Bool) (w : World) (h : scan_isDigit.f a0 = some r) :
  Calls Tryd.prog 30 #[.int .u8 a0] w fun e w' => e = .returned (.bool r) ∧ Drawn0 w w' := by
 have H : (if 48 ≤ a0 then (some (decide (a0 ≤ 57))) else (some false)) = some r := h
 clear h
 by_cases c2 : 48 ≤ a0
 ·rw [if_pos c2] at H
  have c2b0 : decide (48 ≤ a0) = true := decide_eq_true c2
  clear c2
  obtain rfl := Option.some.inj H
  go_enter Tryd.func30, Tryd.ntmps30
  go_wp2
  go_ret
  exact ⟨by first | rfl | (simp; done) | (simp [*]; done), by repeat (first | exact Drawn0.refl _ | apply Drawn0.step)⟩
 ·rw [if_neg c2] at H
  have c2b0 : decide (48 ≤ a0) = false := decide_eq_false c2
  clear c2
  obtain rfl := Option.some.inj H
  go_enter Tryd.func30, Tryd.ntmps30
  go_wp2
  go_ret
  exact ⟨by first | rfl | (simp; done) | (simp [*]; done), by repeat (first | exact Drawn0.refl _ | apply Drawn0.step)⟩

end Go.Proofs.YtkahgdkpehlanaaDoor.P

namespace Go.Proofs.YtkahgdkpehlanaaDoor.P
open Go.RowKit Go.Proofs.YtkahgdkpehlanaaDoorW.PrintWords Go.Proofs.YtkahgdkpehlanaaDoorW.PrintLast Go.Proofs.YtkahgdkpehlanaaDoorW.PrintMore
attribute [local go_sem] max2_int min2_int max_two min_two   -- for this text's walks alone
set_option linter.unusedVariables false
set_option linter.unusedSimpArgs false

/-! ### scan_isLetter: function 51 -/
def scan_isLetter.f (a0 : Int) : Option (Bool) := if 97 ≤ (Go.bits .or .u8 a0 32) then (some (decide ((Go.bits .or .u8 a0 32) ≤ 122))) else (some false)
set_option maxHeartbeats 8000000 in
set_option maxRecDepth 100000 in
theorem scan_isLetter.calls (a0 : Int) (r : Bool) (w : World) (h : scan_isLetter.f a0 = some r) :
  Calls Tryd.prog 51 #[.int .u8 a0] w fun e w' => e = .returned (.bool r) ∧ Drawn0 w w' := by
 have H : (if 97 ≤ (Go.bits .or .u8 a0 32) then (some (decide ((Go.bits .or .u8 a0 32) ≤ 122))) else (some false)) = some r := h
 clear h
 by_cases c2 : 97 ≤ (Go.bits .or .u8 a0 32)
 ·rw [if_pos c2] at H
  have c2b0 : decide (97 ≤ (Go.bits .or .u8 a0 32)) = true := decide_eq_true c2
  clear c2
  obtain rfl := Option.some.inj H
  go_enter Tryd.func51, Tryd.ntmps51
  go_wp2
  go_ret
  exact ⟨by first | rfl | (simp; done) | (simp [*]; done), by repeat (first | exact Drawn0.refl _ | apply Drawn0.step)⟩
 ·rw [if_neg c2] at H
  have c2b0 : decide (97 ≤ (Go.bits .or .u8 a0 32)) = false := decide_eq_false c2
  clear c2
  obtain rfl := Option.some.inj H
  go_enter Tryd.func51, Tryd.ntmps51
  go_wp2
  go_ret
  exact ⟨by first | rfl | (simp; done) | (simp [*]; done), by repeat (first | exact Drawn0.refl _ | apply Drawn0.step)⟩

end Go.Proofs.YtkahgdkpehlanaaDoor.P

namespace Go.Proofs.YtkahgdkpehlanaaDoor.P
open Go.RowKit Go.Proofs.YtkahgdkpehlanaaDoorW.PrintWords Go.Proofs.YtkahgdkpehlanaaDoorW.PrintLast Go.Proofs.YtkahgdkpehlanaaDoorW.PrintMore
attribute [local go_sem] max2_int min2_int max_two min_two   -- for this text's walks alone
set_option linter.unusedVariables false
set_option linter.unusedSimpArgs false

/-! ### scan_inName: function 52 -/
def scan_inName.f (a0 : Int) : Option (Bool) := (scan_isLetter.f a0).bind fun t114 => (if t114 = true then (some true) else ((scan_isDigit.f a0).bind fun t115 => (if t115 = true then (some true) else (if a0 = 45 then (some true) else (some (a0 == 95))))))
set_option maxHeartbeats 8000000 in
set_option maxRecDepth 100000 in
theorem scan_inName.calls (a0 : Int) (r : Bool) (w : World) (h : scan_inName.f a0 = some r) :
  Calls Tryd.prog 52 #[.int .u8 a0] w fun e w' => e = .returned (.bool r) ∧ Drawn0 w w' := by
 have H : ((scan_isLetter.f a0).bind fun t114 => (if t114 = true then (some true) else ((scan_isDigit.f a0).bind fun t115 => (if t115 = true then (some true) else (if a0 = 45 then (some true) else (some (a0 == 95))))))) = some r := h
 clear h
 replace H := Option.bind_eq_some_iff.mp H
 obtain ⟨t114, A20, H⟩ := H
 replace H : (if t114 = true then (some true) else ((scan_isDigit.f a0).bind fun t115 => (if t115 = true then (some true) else (if a0 = 45 then (some true) else (some (a0 == 95)))))) = some r := H
 have A2 := Aside0.mk A20
 clear A20
 by_cases c3 : t114 = true
 ·subst c3
  have H1 : (some true) = some r := by rw [if_pos rfl] at H; exact H
  clear H
  have H := H1
  clear H1
  obtain rfl := Option.some.inj H
  go_enter Tryd.func52, Tryd.ntmps52
  go_wp2_with (first | ((with_reducible refine gate_callee (f := 51) rfl ?_); refine goesL_ (some 4) rfl rfl Tryd.func51 (by kernel_rfl) rfl #[.int .u8 a0] rfl (by (try simp only [List.map_toArray, List.map_cons, List.map_nil]); first | done | rfl | (simp only [List.length_drop, List.length_take]; rfl)) ?_; (with_reducible refine (scan_isLetter.calls a0 true _ A2.out).mono ?_); rintro e w' ⟨rfl, ⟨nd, rfl⟩⟩; refine ⟨_, rfl, ?_⟩))
  go_ret
  exact ⟨by first | rfl | (simp; done) | (simp [*]; done), by repeat (first | exact Drawn0.refl _ | apply Drawn0.step)⟩
 ·replace c3 := Bool.eq_false_iff.mpr c3
  subst c3
  have H1 : ((scan_isDigit.f a0).bind fun t115 => (if t115 = true then (some true) else (if a0 = 45 then (some true) else (some (a0 == 95))))) = some r := by rw [if_neg (show ¬ (false = true) by decide)] at H; exact H
  clear H
  have H := H1
  clear H1
  replace H := Option.bind_eq_some_iff.mp H
  obtain ⟨t115, A40, H⟩ := H
  replace H : (if t115 = true then (some true) else (if a0 = 45 then (some true) else (some (a0 == 95)))) = some r := H
  have A4 := Aside0.mk A40
  clear A40
  by_cases c5 : t115 = true
  ·subst c5
   have H1 : (some true) = some r := by rw [if_pos rfl] at H; exact H
   clear H
   have H := H1
   clear H1
   obtain rfl := Option.some.inj H
   go_enter Tryd.func52, Tryd.ntmps52
   go_wp2_with (first | ((with_reducible refine gate_callee (f := 51) rfl ?_); refine goesL_ (some 4) rfl rfl Tryd.func51 (by kernel_rfl) rfl #[.int .u8 a0] rfl (by (try simp only [List.map_toArray, List.map_cons, List.map_nil]); first | done | rfl | (simp only [List.length_drop, List.length_take]; rfl)) ?_; (with_reducible refine (scan_isLetter.calls a0 false _ A2.out).mono ?_); rintro e w' ⟨rfl, ⟨nd, rfl⟩⟩; refine ⟨_, rfl, ?_⟩) | (go_at_call 30; (with_reducible refine (scan_isDigit.calls a0 true _ A4.out).mono ?_); rintro e w' ⟨rfl, ⟨nd, rfl⟩⟩))
   go_ret
   exact ⟨by first | rfl | (simp; done) | (simp [*]; done), by repeat (first | exact Drawn0.refl _ | apply Drawn0.step)⟩
  ·replace c5 := Bool.eq_false_iff.mpr c5
   subst c5
   have H1 : (if a0 = 45 then (some true) else (some (a0 == 95))) = some r := by rw [if_neg (show ¬ (false = true) by decide)] at H; exact H
   clear H
   have H := H1
   clear H1
   by_cases c6 : a0 = 45
   ·rw [if_pos c6] at H
    have c6b0 : (a0 == 45) = true := beq_iff_eq.mpr c6
    have c6b1 : (a0 != 45) = false := bne_eq_false_iff_eq.mpr c6
    clear c6
    obtain rfl := Option.some.inj H
    go_enter Tryd.func52, Tryd.ntmps52
    go_wp2_with (first | ((with_reducible refine gate_callee (f := 51) rfl ?_); refine goesL_ (some 4) rfl rfl Tryd.func51 (by kernel_rfl) rfl #[.int .u8 a0] rfl (by (try simp only [List.map_toArray, List.map_cons, List.map_nil]); first | done | rfl | (simp only [List.length_drop, List.length_take]; rfl)) ?_; (with_reducible refine (scan_isLetter.calls a0 false _ A2.out).mono ?_); rintro e w' ⟨rfl, ⟨nd, rfl⟩⟩; refine ⟨_, rfl, ?_⟩) | (go_at_call 30; (with_reducible refine (scan_isDigit.calls a0 false _ A4.out).mono ?_); rintro e w' ⟨rfl, ⟨nd, rfl⟩⟩))
    go_ret
    exact ⟨by first | rfl | (simp; done) | (simp [*]; done), by repeat (first | exact Drawn0.refl _ | apply Drawn0.step)⟩
   ·rw [if_neg c6] at H
    have c6b0 : (a0 == 45) = false := beq_eq_false_iff_ne.mpr c6
    have c6b1 : (a0 != 45) = true := bne_iff_ne.mpr c6
    obtain rfl := Option.some.inj H
    go_enter Tryd.func52, Tryd.ntmps52
    go_wp2_with (first | ((with_reducible refine gate_callee (f := 51) rfl ?_); refine goesL_ (some 4) rfl rfl Tryd.func51 (by kernel_rfl) rfl #[.int .u8 a0] rfl (by (try simp only [List.map_toArray, List.map_cons, List.map_nil]); first | done | rfl | (simp only [List.length_drop, List.length_take]; rfl)) ?_; (with_reducible refine (scan_isLetter.calls a0 false _ A2.out).mono ?_); rintro e w' ⟨rfl, ⟨nd, rfl⟩⟩; refine ⟨_, rfl, ?_⟩) | (go_at_call 30; (with_reducible refine (scan_isDigit.calls a0 false _ A4.out).mono ?_); rintro e w' ⟨rfl, ⟨nd, rfl⟩⟩))
    go_ret
    exact ⟨by first | rfl | (simp; done) | (simp [*]; done), by repeat (first | exact Drawn0.refl _ | apply Drawn0.step)⟩

end Go.Proofs.YtkahgdkpehlanaaDoor.P

namespace Go.Proofs.YtkahgdkpehlanaaDoor.P
open Go.RowKit Go.Proofs.YtkahgdkpehlanaaDoorW.PrintWords Go.Proofs.YtkahgdkpehlanaaDoorW.PrintLast Go.Proofs.YtkahgdkpehlanaaDoorW.PrintMore
attribute [local go_sem] max2_int min2_int max_two min_two   -- for this text's walks alone
set_option linter.unusedVariables false
set_option linter.unusedSimpArgs false

/-! ### scan_isBlank: function 53 -/
def scan_isBlank.f (a0 : Int) : Option (Bool) := if a0 = 32 then (some true) else (some (a0 == 9))
set_option maxHeartbeats 8000000 in
set_option maxRecDepth 100000 in
theorem scan_isBlank.calls (a0 : Int) (r : Bool) (w : World) (h : scan_isBlank.f a0 = some r) :
  Calls Tryd.prog 53 #[.int .u8 a0] w fun e w' => e = .returned (.bool r) ∧ Drawn0 w w' := by
 have H : (if a0 = 32 then (some true) else (some (a0 == 9))) = some r := h
 clear h
 by_cases c2 : a0 = 32
 ·rw [if_pos c2] at H
  have c2b0 : (a0 == 32) = true := beq_iff_eq.mpr c2
  have c2b1 : (a0 != 32) = false := bne_eq_false_iff_eq.mpr c2
  clear c2
  obtain rfl := Option.some.inj H
  go_enter Tryd.func53, Tryd.ntmps53
  go_wp2
  go_ret
  exact ⟨by first | rfl | (simp; done) | (simp [*]; done), by repeat (first | exact Drawn0.refl _ | apply Drawn0.step)⟩
 ·rw [if_neg c2] at H
  have c2b0 : (a0 == 32) = false := beq_eq_false_iff_ne.mpr c2
  have c2b1 : (a0 != 32) = true := bne_iff_ne.mpr c2
  obtain rfl := Option.some.inj H
  go_enter Tryd.func53, Tryd.ntmps53
  go_wp2
  go_ret
  exact ⟨by first | rfl | (simp; done) | (simp [*]; done), by repeat (first | exact Drawn0.refl _ | apply Drawn0.step)⟩

end Go.Proofs.YtkahgdkpehlanaaDoor.P

namespace Go.Proofs.YtkahgdkpehlanaaDoor.P
open Go.RowKit Go.Proofs.YtkahgdkpehlanaaDoorW.PrintWords Go.Proofs.YtkahgdkpehlanaaDoorW.PrintLast Go.Proofs.YtkahgdkpehlanaaDoorW.PrintMore
attribute [local go_sem] max2_int min2_int max_two min_two   -- for this text's walks alone
set_option linter.unusedVariables false
set_option linter.unusedSimpArgs false

/-! ### scan_span: function 29 -/
-- EXT Derived.Deep.DeepMust Derived.Test.@NPureLib Derived.Test.@NP@F{vivarium/scan.isDigit} Derived.Test.@NP@F{vivarium/scan.isBlank} Derived.Test.@NP@F{vivarium/scan.inName}
open Go.Proofs.YtkahgdkpehlanaaDoor.L
/-- How many bytes from a place on are such. -/
def spnO (p : Int → Option Bool) (s : ByteArray) : Nat → Nat → Option Nat
 | 0, _ => none
 | n + 1, i => if i < s.size then (p (bt s (i : Int))).bind fun t => if t = true then spnO p s n (i + 1) else some i else some i
theorem spnO_succ (p : Int → Option Bool) (s : ByteArray) (n i : Nat) : spnO p s (n + 1) i = if i < s.size then (p (bt s (i : Int))).bind fun t => if t = true then spnO p s n (i + 1) else some i else some i := rfl
theorem drawn_then {w w1 w2 : World} (h : Drawn0 w w1) (k : Drawn0 w1 w2) : Drawn0 w w2 := by
 obtain ⟨⟨m, rfl⟩⟩ := k
 exact h.step m
set_option maxHeartbeats 8000000 in
set_option maxRecDepth 100000 in
theorem span_isDigit (s : ByteArray) (hs : s.size ≤ 9223372036854775806) (r : Nat) (w : World) (h : spnO scan_isDigit.f s (s.size + 1) 0 = some r) :
  Calls Tryd.prog 29 #[.string s, .func (.func 30) #[] #[]] w fun e w' => e = .returned (.int .i64 r) ∧ Drawn0 w w' := by
 have H := Aside0.mk h
 clear h
 go_enter Tryd.func29, Tryd.ntmps29
 go_wp2
 go_loopg [5] (s.size + 1) (fun k t5 wi => ∃ i : Nat, i ≤ s.size ∧ t5 = .int .i64 i ∧ Aside0 (spnO scan_isDigit.f s k i = some r) ∧ Aside0 (Drawn0 w wi))
 case atStart => exact ⟨0, by omega, rfl, H, ⟨Drawn0.refl _⟩⟩
 case round =>
  clear H
  obtain ⟨i, hi, rfl, HA, HD⟩ := hrel
  have i0 : (0 : Int) ≤ (i : Int) := by omega
  cases gk with
  | zero => exact absurd HA.out (by simp [spnO])
  | succ gk =>
   have h := HA.out
   rw [spnO_succ] at h
   by_cases d1 : i < s.size
   ·rw [if_pos d1] at h
    have d1' : (i : Int) < (s.size : Int) := by omega
    have hbt : ∀ hh : i < s.size, ((s[i]'hh).toNat : Int) = bt s (i : Int) := bt_at s (i : Int)
    have hbr := bt_range s (i : Int)
    obtain ⟨b, hb⟩ : ∃ b, bt s (i : Int) = b := ⟨_, rfl⟩
    rw [hb] at hbt hbr h
    clear hb
    obtain ⟨t, ht, h⟩ := Option.bind_eq_some_iff.mp h
    have HT := Aside0.mk ht
    clear ht
    cases t with
    | true =>
     rw [if_pos rfl] at h
     have HN := Aside0.mk h
     clear h HA
     go_wp2_with (go_at_call 30; go_must (refine (scan_isDigit.calls b true _ HT.out).mono ?_); rintro e w2 ⟨rfl, hd⟩; have HD2 := Aside0.mk (drawn_then HD.out hd); clear hd)
     go_roundg gk
     case measure => exact Nat.lt_succ_self _
     case rel => exact ⟨i + 1, by omega, by go_num, HN, HD2⟩
    | false =>
     rw [if_neg (by decide)] at h
     obtain rfl := Option.some.inj h
     clear HA
     go_wp2_with (go_at_call 30; go_must (refine (scan_isDigit.calls b false _ HT.out).mono ?_); rintro e w2 ⟨rfl, hd⟩; have HD2 := Aside0.mk (drawn_then HD.out hd); clear hd)
     go_ret
     exact ⟨rfl, HD2.out⟩
   ·rw [if_neg d1] at h
    obtain rfl := Option.some.inj h
    have d1' : ¬ (i : Int) < (s.size : Int) := by omega
    clear HA
    go_wp2
    go_ret
    exact ⟨rfl, HD.out⟩
set_option maxHeartbeats 8000000 in
set_option maxRecDepth 100000 in
theorem span_isBlank (s : ByteArray) (hs : s.size ≤ 9223372036854775806) (r : Nat) (w : World) (h : spnO scan_isBlank.f s (s.size + 1) 0 = some r) :
  Calls Tryd.prog 29 #[.string s, .func (.func 53) #[] #[]] w fun e w' => e = .returned (.int .i64 r) ∧ Drawn0 w w' := by
 have H := Aside0.mk h
 clear h
 go_enter Tryd.func29, Tryd.ntmps29
 go_wp2
 go_loopg [5] (s.size + 1) (fun k t5 wi => ∃ i : Nat, i ≤ s.size ∧ t5 = .int .i64 i ∧ Aside0 (spnO scan_isBlank.f s k i = some r) ∧ Aside0 (Drawn0 w wi))
 case atStart => exact ⟨0, by omega, rfl, H, ⟨Drawn0.refl _⟩⟩
 case round =>
  clear H
  obtain ⟨i, hi, rfl, HA, HD⟩ := hrel
  have i0 : (0 : Int) ≤ (i : Int) := by omega
  cases gk with
  | zero => exact absurd HA.out (by simp [spnO])
  | succ gk =>
   have h := HA.out
   rw [spnO_succ] at h
   by_cases d1 : i < s.size
   ·rw [if_pos d1] at h
    have d1' : (i : Int) < (s.size : Int) := by omega
    have hbt : ∀ hh : i < s.size, ((s[i]'hh).toNat : Int) = bt s (i : Int) := bt_at s (i : Int)
    have hbr := bt_range s (i : Int)
    obtain ⟨b, hb⟩ : ∃ b, bt s (i : Int) = b := ⟨_, rfl⟩
    rw [hb] at hbt hbr h
    clear hb
    obtain ⟨t, ht, h⟩ := Option.bind_eq_some_iff.mp h
    have HT := Aside0.mk ht
    clear ht
    cases t with
    | true =>
     rw [if_pos rfl] at h
     have HN := Aside0.mk h
     clear h HA
     go_wp2_with (go_at_call 53; go_must (refine (scan_isBlank.calls b true _ HT.out).mono ?_); rintro e w2 ⟨rfl, hd⟩; have HD2 := Aside0.mk (drawn_then HD.out hd); clear hd)
     go_roundg gk
     case measure => exact Nat.lt_succ_self _
     case rel => exact ⟨i + 1, by omega, by go_num, HN, HD2⟩
    | false =>
     rw [if_neg (by decide)] at h
     obtain rfl := Option.some.inj h
     clear HA
     go_wp2_with (go_at_call 53; go_must (refine (scan_isBlank.calls b false _ HT.out).mono ?_); rintro e w2 ⟨rfl, hd⟩; have HD2 := Aside0.mk (drawn_then HD.out hd); clear hd)
     go_ret
     exact ⟨rfl, HD2.out⟩
   ·rw [if_neg d1] at h
    obtain rfl := Option.some.inj h
    have d1' : ¬ (i : Int) < (s.size : Int) := by omega
    clear HA
    go_wp2
    go_ret
    exact ⟨rfl, HD.out⟩
set_option maxHeartbeats 8000000 in
set_option maxRecDepth 100000 in
theorem span_inName (s : ByteArray) (hs : s.size ≤ 9223372036854775806) (r : Nat) (w : World) (h : spnO scan_inName.f s (s.size + 1) 0 = some r) :
  Calls Tryd.prog 29 #[.string s, .func (.func 52) #[] #[]] w fun e w' => e = .returned (.int .i64 r) ∧ Drawn0 w w' := by
 have H := Aside0.mk h
 clear h
 go_enter Tryd.func29, Tryd.ntmps29
 go_wp2
 go_loopg [5] (s.size + 1) (fun k t5 wi => ∃ i : Nat, i ≤ s.size ∧ t5 = .int .i64 i ∧ Aside0 (spnO scan_inName.f s k i = some r) ∧ Aside0 (Drawn0 w wi))
 case atStart => exact ⟨0, by omega, rfl, H, ⟨Drawn0.refl _⟩⟩
 case round =>
  clear H
  obtain ⟨i, hi, rfl, HA, HD⟩ := hrel
  have i0 : (0 : Int) ≤ (i : Int) := by omega
  cases gk with
  | zero => exact absurd HA.out (by simp [spnO])
  | succ gk =>
   have h := HA.out
   rw [spnO_succ] at h
   by_cases d1 : i < s.size
   ·rw [if_pos d1] at h
    have d1' : (i : Int) < (s.size : Int) := by omega
    have hbt : ∀ hh : i < s.size, ((s[i]'hh).toNat : Int) = bt s (i : Int) := bt_at s (i : Int)
    have hbr := bt_range s (i : Int)
    obtain ⟨b, hb⟩ : ∃ b, bt s (i : Int) = b := ⟨_, rfl⟩
    rw [hb] at hbt hbr h
    clear hb
    obtain ⟨t, ht, h⟩ := Option.bind_eq_some_iff.mp h
    have HT := Aside0.mk ht
    clear ht
    cases t with
    | true =>
     rw [if_pos rfl] at h
     have HN := Aside0.mk h
     clear h HA
     go_wp2_with (go_at_call 52; go_must (refine (scan_inName.calls b true _ HT.out).mono ?_); rintro e w2 ⟨rfl, hd⟩; have HD2 := Aside0.mk (drawn_then HD.out hd); clear hd)
     go_roundg gk
     case measure => exact Nat.lt_succ_self _
     case rel => exact ⟨i + 1, by omega, by go_num, HN, HD2⟩
    | false =>
     rw [if_neg (by decide)] at h
     obtain rfl := Option.some.inj h
     clear HA
     go_wp2_with (go_at_call 52; go_must (refine (scan_inName.calls b false _ HT.out).mono ?_); rintro e w2 ⟨rfl, hd⟩; have HD2 := Aside0.mk (drawn_then HD.out hd); clear hd)
     go_ret
     exact ⟨rfl, HD2.out⟩
   ·rw [if_neg d1] at h
    obtain rfl := Option.some.inj h
    have d1' : ¬ (i : Int) < (s.size : Int) := by omega
    clear HA
    go_wp2
    go_ret
    exact ⟨rfl, HD.out⟩
def scan_span.f (s : ByteArray) (F : Nat) : Option Int := if s.size ≤ 9223372036854775806 then (
 if F = 30 then (spnO scan_isDigit.f s (s.size + 1) 0).map (fun n : Nat => (n : Int)) else
 if F = 53 then (spnO scan_isBlank.f s (s.size + 1) 0).map (fun n : Nat => (n : Int)) else
 if F = 52 then (spnO scan_inName.f s (s.size + 1) 0).map (fun n : Nat => (n : Int)) else
 none) else none
theorem scan_span.calls (s : ByteArray) (F : Nat) (r : Int) (w : World) (h : scan_span.f s F = some r) :
  Calls Tryd.prog 29 #[.string s, .func (.func F) #[] #[]] w fun e w' => e = .returned (.int .i64 r) ∧ Drawn0 w w' := by
 unfold scan_span.f at h
 by_cases c0 : s.size ≤ 9223372036854775806
 ·rw [if_pos c0] at h
  by_cases c1 : F = 30
  ·rw [if_pos c1] at h
   obtain ⟨n, hn, rfl⟩ := Option.map_eq_some_iff.1 h
   subst c1
   exact span_isDigit s c0 n w hn
  rw [if_neg c1] at h
  by_cases c2 : F = 53
  ·rw [if_pos c2] at h
   obtain ⟨n, hn, rfl⟩ := Option.map_eq_some_iff.1 h
   subst c2
   exact span_isBlank s c0 n w hn
  rw [if_neg c2] at h
  by_cases c3 : F = 52
  ·rw [if_pos c3] at h
   obtain ⟨n, hn, rfl⟩ := Option.map_eq_some_iff.1 h
   subst c3
   exact span_inName s c0 n w hn
  rw [if_neg c3] at h
  cases h
 ·rw [if_neg c0] at h; cases h

end Go.Proofs.YtkahgdkpehlanaaDoor.P

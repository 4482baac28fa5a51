-- Written by a program of this session (wip/tools/mk.py) that runs the kit's printer; several functions' texts in one.
import Derived.Test.YtkahgdkpehlanaaDoorP0
import Derived.Deep.DeepMust
import Derived.Test.YtkahgdkpehlanaaDoorExtLib
import Derived.Test.YtkahgdkpehlanaaDoorGensDefs
namespace Go.Proofs.YtkahgdkpehlanaaDoor.P
open Go.RowKit Go.Proofs.YtkahgdkpehlanaaDoorW.PrintWords Go.Proofs.YtkahgdkpehlanaaDoorW.PrintLast Go.Proofs.YtkahgdkpehlanaaDoorW.PrintMore
attribute [local go_sem] max2_int min2_int max_two min_two   -- for this text's walks alone
set_option linter.unusedVariables false
set_option linter.unusedSimpArgs false

/-! ### vivariumref09_digit: function 61 -/
def vivariumref09_digit.f (a0 : Int) : Option (Bool) := if a0 ≥ 48 then (some (decide (a0 ≤ 57))) else (some false)
set_option maxHeartbeats 8000000 in
set_option maxRecDepth 100000 in
theorem vivariumref09_digit.calls (a0 : Int) (r : Bool) (w : World) (h : vivariumref09_digit.f a0 = some r) :
  Calls Tryd.prog 61 #[.int .u8 a0] w fun e w' => e = .returned (.bool r) ∧ Drawn0 w w' := by
 have H : (if a0 ≥ 48 then (some (decide (a0 ≤ 57))) else (some false)) = some r := h
 clear h
 by_cases c2 : a0 ≥ 48
 ·rw [if_pos c2] at H
  have c2b0 : decide (48 ≤ a0) = true := decide_eq_true c2
  clear c2
  obtain rfl := Option.some.inj H
  go_enter Tryd.func61, Tryd.ntmps61
  go_wp2
  go_ret
  exact ⟨by first | rfl | (simp; done) | (simp [*]; done), by repeat (first | exact Drawn0.refl _ | apply Drawn0.step)⟩
 ·rw [if_neg c2] at H
  have c2b0 : decide (48 ≤ a0) = false := decide_eq_false c2
  clear c2
  obtain rfl := Option.some.inj H
  go_enter Tryd.func61, Tryd.ntmps61
  go_wp2
  go_ret
  exact ⟨by first | rfl | (simp; done) | (simp [*]; done), by repeat (first | exact Drawn0.refl _ | apply Drawn0.step)⟩

end Go.Proofs.YtkahgdkpehlanaaDoor.P

namespace Go.Proofs.YtkahgdkpehlanaaDoor.P
open Go.RowKit Go.Proofs.YtkahgdkpehlanaaDoorW.PrintWords Go.Proofs.YtkahgdkpehlanaaDoorW.PrintLast Go.Proofs.YtkahgdkpehlanaaDoorW.PrintMore
attribute [local go_sem] max2_int min2_int max_two min_two   -- for this text's walks alone
set_option linter.unusedVariables false
set_option linter.unusedSimpArgs false

/-! ### vivariumref09_lists: function 35 -/
-- EXT @P{vivarium/vivariumref09.digit} Derived.Deep.DeepMust Derived.Test.@NExtLib Derived.Test.@NGensDefs
open Go.Proofs.YtkahgdkpehlanaaDoor.L
def digB (b : Int) : Bool := decide (48 ≤ b ∧ b ≤ 57)
set_option maxHeartbeats 400000 in
theorem digit_calls (b : Int) (h0 : 0 ≤ b) (h1 : b ≤ 255) (w : World) : Calls Tryd.prog 61 #[.int .u8 b] w fun e w' => e = .returned (.bool (digB b)) ∧ w' = w := by
 by_cases c1 : 48 ≤ b
 ·by_cases c2 : b ≤ 57
  ·have hg : digB b = true := decide_eq_true ⟨c1, c2⟩
   rw [hg]
   clear hg
   go_enter Tryd.func61, Tryd.ntmps61
   go_wp2
   go_ret
   exact ⟨by simp, rfl⟩
  ·have hg : digB b = false := decide_eq_false (fun e => c2 e.2)
   rw [hg]
   clear hg
   go_enter Tryd.func61, Tryd.ntmps61
   go_wp2
   go_ret
   exact ⟨by simp, rfl⟩
 ·have hg : digB b = false := decide_eq_false (fun e => c1 e.1)
  rw [hg]
  clear hg
  go_enter Tryd.func61, Tryd.ntmps61
  go_wp2
  go_ret
  exact ⟨rfl, rfl⟩
set_option maxHeartbeats 8000000 in
set_option maxRecDepth 100000 in
theorem vivariumref09_lists.calls_all (s : ByteArray) (w : World) (hs : s.size ≤ 140737488351232) (r1 r2 r3 r4 r5 : Int) (h : gmAll s = (r1, r2, r3, r4, r5)) :
  Calls Tryd.prog 35 #[.string s] w fun e w' => e = .returned (.tuple #[.agg #[.int .u8 r1, .int .u16 r2, .int .u16 r3], .int .i64 r4, .int .i64 r5]) ∧ Below w.heap.size w w' := by
 have H := Aside0.mk h
 clear h
 go_enter Tryd.func35, Tryd.ntmps35
 go_wp2
 go_loopg [6, 7, 8] s.size (fun gk tl tn ti wr => ∃ (i li m0 m1 : Nat) (nine : Int), i ≤ s.size ∧ li ≤ 1 ∧ m0 < 1024 ∧ m1 < 1024 ∧ (-1 ≤ nine ∧ nine ≤ 140737488351232) ∧ tl = .int .i64 li ∧ ti = .int .i64 i ∧ tn = .int .i64 nine ∧ Aside0 (gm s gk i li m0 m1 nine = (r1, r2, r3, r4, r5)) ∧ Aside0 (s.size ≤ gk + i) ∧ Aside0 (Below w.heap.size w wr) ∧ Aside0 (wr.heap[w.heap.size]? = some (.cells #[.int .u8 0, .int .u16 0, .int .u16 0] 40 (0, 0))) ∧ Aside0 (wr.heap[w.heap.size + 1]? = some (.cells #[.int .u16 m0, .int .u16 m1] 102 (0, 0))))
 case atStart => exact ⟨0, 0, 0, 0, -1, by omega, by omega, by omega, by omega, by omega, rfl, rfl, rfl, H, ⟨by omega⟩, ⟨((Below.refl _ _).alloc (Nat.le_refl _) _).alloc (by simp) _⟩, ⟨blk_alloc (blk_new _ _) _⟩, ⟨blk_new' _ _ _ (by simp)⟩⟩
 case round =>
  obtain ⟨i, li, m0, m1, nine, hi, hli, hm0, hm1, hn9, rfl, rfl, rfl, HG, HN, HB, HR, HL⟩ := hrel
  have hi0 : (0 : Int) ≤ (i : Int) := by omega
  have k0 : wr.cell? ⟨w.heap.size, 0, none⟩ = some (.int .u8 0) := blk_cell HR.out 0
  have k1 : wr.cell? ⟨w.heap.size, 1, none⟩ = some (.int .u16 0) := blk_cell HR.out 1
  have k2 : wr.cell? ⟨w.heap.size, 2, none⟩ = some (.int .u16 0) := blk_cell HR.out 2
  have k3 : wr.cell? ⟨w.heap.size + 1, 0, none⟩ = some (.int .u16 m0) := blk_cell HL.out 0
  have k4 : wr.cell? ⟨w.heap.size + 1, 1, none⟩ = some (.int .u16 m1) := blk_cell HL.out 1
  have z0 := blk_frozen HR.out 0
  have z1 := blk_frozen HR.out 1
  have z2 := blk_frozen HR.out 2
  have z3 := blk_frozen HL.out 0
  have z4 := blk_frozen HL.out 1
  have hh := HG.out
  by_cases c1 : i < s.size
  ·have c1' : (i : Int) < (s.size : Int) := by omega
   have hbt : ∀ hh : i < s.size, ((s[i]'hh).toNat : Int) = bt s (i : Int) := bt_at s (i : Int)
   have hbr := bt_range s (i : Int)
   obtain ⟨b, hb⟩ : ∃ b, bt s (i : Int) = b := ⟨_, rfl⟩
   cases gk with
   | zero => exact absurd HN.out (by omega)
   | succ gk =>
   rw [gm_succ, if_pos c1, hb] at hh
   rw [hb] at hbr hbt
   clear hb HG
   by_cases c2 : b = 47
   ·subst c2
    rw [if_pos rfl] at hh
    obtain rfl | rfl : li = 0 ∨ li = 1 := by omega
    ·rw [if_pos rfl] at hh
     have HG := Aside0.mk hh
     clear hh
     go_wp2
     go_roundg gk
     case measure => omega
     case rel => exact ⟨i + 1, 1, m0, m1, nine, by omega, by omega, hm0, hm1, hn9, by go_num, by go_num, rfl, HG, ⟨by have := HN.out; omega⟩, HB, HR, HL⟩
    ·rw [if_neg (by decide)] at hh
     by_cases c3 : 0 ≤ nine
     ·rw [if_pos c3] at hh
      have c3b : decide (0 ≤ nine) = true := decide_eq_true c3
      simp only [Prod.mk.injEq] at hh
      obtain ⟨rfl, rfl, rfl, rfl, rfl⟩ := hh
      go_wp2
      refine bodyPost_ret (v := .tuple #[.agg #[.int .u8 0, .int .u16 0, .int .u16 0], .int .i64 nine, .int .i64 82]) (by simp [results, Tryd.results35, go_sem, *]) rfl ⟨rfl, ?_⟩
      repeat (first | exact HB.out | apply below_alloc | apply pw_below_drewN | apply below_drew1 | refine below_set ?_ (Nat.le_refl _))
     ·rw [if_neg c3] at hh
      have c3b : decide (0 ≤ nine) = false := decide_eq_false c3
      simp only [Prod.mk.injEq] at hh
      obtain ⟨rfl, rfl, rfl, rfl, rfl⟩ := hh
      go_wp2
      refine bodyPost_ret (v := .tuple #[.agg #[.int .u8 1, .int .u16 m1, .int .u16 m0], .int .i64 0, .int .i64 0]) (by simp [results, Tryd.results35, go_sem, *]) rfl ⟨rfl, ?_⟩
      repeat (first | exact HB.out | apply below_alloc | apply pw_below_drewN | apply below_drew1 | refine below_set ?_ (Nat.le_refl _))
   ·rw [if_neg c2] at hh
    have c2b : (b == 47) = false := beq_eq_false_iff_ne.mpr c2
    by_cases c3 : b < 48 ∨ 57 < b
    ·rw [if_pos c3] at hh
     simp only [Prod.mk.injEq] at hh
     obtain ⟨rfl, rfl, rfl, rfl, rfl⟩ := hh
     have hgb : digB b = false := decide_eq_false (by omega)
     clear c2 c3
     go_wp2_with (go_at_call 61; go_must (refine (digit_calls b hbr.1 hbr.2 _).mono ?_); rintro e w3 ⟨rfl, rfl⟩)
     refine bodyPost_ret (v := .tuple #[.agg #[.int .u8 0, .int .u16 0, .int .u16 0], .int .i64 i, .int .i64 80]) (by simp [results, Tryd.results35, go_sem, *]) rfl ⟨rfl, ?_⟩
     repeat (first | exact HB.out | apply below_alloc | apply pw_below_drewN | apply below_drew1 | refine below_set ?_ (Nat.le_refl _))
    ·rw [if_neg c3] at hh
     have c4 : 48 ≤ b := by omega
     have c5 : b ≤ 57 := by omega
     have hd9 : (b - 48).toNat ≤ 9 := by omega
     have hgb : digB b = true := decide_eq_true (by omega)
     obtain ⟨nine2, hn2⟩ : ∃ x, (if b = 57 ∧ nine < 0 then (i : Int) else nine) = x := ⟨_, rfl⟩
     rw [hn2] at hh
     have hn92 : -1 ≤ nine2 ∧ nine2 ≤ 140737488351232 := by rw [← hn2]; split <;> omega
     obtain rfl | rfl : li = 0 ∨ li = 1 := by omega
     ·simp only [if_true] at hh
      have ha := bit_and m0 (b - 48).toNat hm0 hd9
      have ho := bit_or m0 (b - 48).toNat hm0 hd9
      have hlt := or_lt m0 (b - 48).toNat hm0 hd9
      cases htb : m0.testBit (b - 48).toNat with
      | true =>
       rw [htb] at ha hh
       rw [if_pos rfl] at hh
       simp only [Prod.mk.injEq] at hh
       obtain ⟨rfl, rfl, rfl, rfl, rfl⟩ := hh
       clear htb ho hlt hn2 c2 c3
       go_wp2_with (go_at_call 61; go_must (refine (digit_calls b hbr.1 hbr.2 _).mono ?_); rintro e w3 ⟨rfl, rfl⟩)
       refine bodyPost_ret (v := .tuple #[.agg #[.int .u8 0, .int .u16 0, .int .u16 0], .int .i64 i, .int .i64 81]) (by simp [results, Tryd.results35, go_sem, *]) rfl ⟨rfl, ?_⟩
       repeat (first | exact HB.out | apply below_alloc | apply pw_below_drewN | apply below_drew1 | refine below_set ?_ (Nat.le_refl _))
      | false =>
       rw [htb] at ha hh
       rw [if_neg (by decide)] at hh
       have HG := Aside0.mk hh
       clear htb hh c2 c3
       by_cases c6 : b = 57
       ·by_cases c7 : nine < 0
        ·have e9 : nine2 = (i : Int) := by rw [← hn2]; exact if_pos ⟨c6, c7⟩
         have c6b : (b == 57) = true := beq_iff_eq.mpr c6
         have c7b : decide (nine < 0) = true := decide_eq_true c7
         clear c6
         have E9 := Aside0.mk e9
         clear e9 hn2
         go_wp2_with (go_at_call 61; go_must (refine (digit_calls b hbr.1 hbr.2 _).mono ?_); rintro e w3 ⟨rfl, rfl⟩)
         go_roundg gk
         case measure => omega
         case rel => exact ⟨i + 1, 0, m0 ||| 2 ^ (b - 48).toNat, m1, nine2, by omega, by omega, hlt, hm1, hn92, rfl, by go_num, by rw [E9.out], HG, ⟨by have := HN.out; omega⟩, ⟨below_set HB.out (by omega)⟩, ⟨blk_far HR.out (by show w.heap.size ≠ w.heap.size + 1; omega) _⟩, ⟨blk_put HL.out 0 _ rfl⟩⟩
        ·have e9 : nine2 = nine := by rw [← hn2]; exact if_neg (by omega)
         have c6b : (b == 57) = true := beq_iff_eq.mpr c6
         have c7b : decide (nine < 0) = false := decide_eq_false c7
         clear c6
         have E9 := Aside0.mk e9
         clear e9 hn2
         go_wp2_with (go_at_call 61; go_must (refine (digit_calls b hbr.1 hbr.2 _).mono ?_); rintro e w3 ⟨rfl, rfl⟩)
         go_roundg gk
         case measure => omega
         case rel => exact ⟨i + 1, 0, m0 ||| 2 ^ (b - 48).toNat, m1, nine2, by omega, by omega, hlt, hm1, hn92, rfl, by go_num, by rw [E9.out], HG, ⟨by have := HN.out; omega⟩, ⟨below_set HB.out (by omega)⟩, ⟨blk_far HR.out (by show w.heap.size ≠ w.heap.size + 1; omega) _⟩, ⟨blk_put HL.out 0 _ rfl⟩⟩
       ·have e9 : nine2 = nine := by rw [← hn2]; exact if_neg (by omega)
        have c6b : (b == 57) = false := beq_eq_false_iff_ne.mpr c6
        clear c6
        have E9 := Aside0.mk e9
        clear e9 hn2
        go_wp2_with (go_at_call 61; go_must (refine (digit_calls b hbr.1 hbr.2 _).mono ?_); rintro e w3 ⟨rfl, rfl⟩)
        go_roundg gk
        case measure => omega
        case rel => exact ⟨i + 1, 0, m0 ||| 2 ^ (b - 48).toNat, m1, nine2, by omega, by omega, hlt, hm1, hn92, rfl, by go_num, by rw [E9.out], HG, ⟨by have := HN.out; omega⟩, ⟨below_set HB.out (by omega)⟩, ⟨blk_far HR.out (by show w.heap.size ≠ w.heap.size + 1; omega) _⟩, ⟨blk_put HL.out 0 _ rfl⟩⟩
     ·simp only [show ¬ (1 = 0) by decide, if_false] at hh
      have ha := bit_and m1 (b - 48).toNat hm1 hd9
      have ho := bit_or m1 (b - 48).toNat hm1 hd9
      have hlt := or_lt m1 (b - 48).toNat hm1 hd9
      cases htb : m1.testBit (b - 48).toNat with
      | true =>
       rw [htb] at ha hh
       rw [if_pos rfl] at hh
       simp only [Prod.mk.injEq] at hh
       obtain ⟨rfl, rfl, rfl, rfl, rfl⟩ := hh
       clear htb ho hlt hn2 c2 c3
       go_wp2_with (go_at_call 61; go_must (refine (digit_calls b hbr.1 hbr.2 _).mono ?_); rintro e w3 ⟨rfl, rfl⟩)
       refine bodyPost_ret (v := .tuple #[.agg #[.int .u8 0, .int .u16 0, .int .u16 0], .int .i64 i, .int .i64 81]) (by simp [results, Tryd.results35, go_sem, *]) rfl ⟨rfl, ?_⟩
       repeat (first | exact HB.out | apply below_alloc | apply pw_below_drewN | apply below_drew1 | refine below_set ?_ (Nat.le_refl _))
      | false =>
       rw [htb] at ha hh
       rw [if_neg (by decide)] at hh
       have HG := Aside0.mk hh
       clear htb hh c2 c3
       by_cases c6 : b = 57
       ·by_cases c7 : nine < 0
        ·have e9 : nine2 = (i : Int) := by rw [← hn2]; exact if_pos ⟨c6, c7⟩
         have c6b : (b == 57) = true := beq_iff_eq.mpr c6
         have c7b : decide (nine < 0) = true := decide_eq_true c7
         clear c6
         have E9 := Aside0.mk e9
         clear e9 hn2
         go_wp2_with (go_at_call 61; go_must (refine (digit_calls b hbr.1 hbr.2 _).mono ?_); rintro e w3 ⟨rfl, rfl⟩)
         go_roundg gk
         case measure => omega
         case rel => exact ⟨i + 1, 1, m0, m1 ||| 2 ^ (b - 48).toNat, nine2, by omega, by omega, hm0, hlt, hn92, rfl, by go_num, by rw [E9.out], HG, ⟨by have := HN.out; omega⟩, ⟨below_set HB.out (by omega)⟩, ⟨blk_far HR.out (by show w.heap.size ≠ w.heap.size + 1; omega) _⟩, ⟨blk_put HL.out 1 _ rfl⟩⟩
        ·have e9 : nine2 = nine := by rw [← hn2]; exact if_neg (by omega)
         have c6b : (b == 57) = true := beq_iff_eq.mpr c6
         have c7b : decide (nine < 0) = false := decide_eq_false c7
         clear c6
         have E9 := Aside0.mk e9
         clear e9 hn2
         go_wp2_with (go_at_call 61; go_must (refine (digit_calls b hbr.1 hbr.2 _).mono ?_); rintro e w3 ⟨rfl, rfl⟩)
         go_roundg gk
         case measure => omega
         case rel => exact ⟨i + 1, 1, m0, m1 ||| 2 ^ (b - 48).toNat, nine2, by omega, by omega, hm0, hlt, hn92, rfl, by go_num, by rw [E9.out], HG, ⟨by have := HN.out; omega⟩, ⟨below_set HB.out (by omega)⟩, ⟨blk_far HR.out (by show w.heap.size ≠ w.heap.size + 1; omega) _⟩, ⟨blk_put HL.out 1 _ rfl⟩⟩
       ·have e9 : nine2 = nine := by rw [← hn2]; exact if_neg (by omega)
        have c6b : (b == 57) = false := beq_eq_false_iff_ne.mpr c6
        clear c6
        have E9 := Aside0.mk e9
        clear e9 hn2
        go_wp2_with (go_at_call 61; go_must (refine (digit_calls b hbr.1 hbr.2 _).mono ?_); rintro e w3 ⟨rfl, rfl⟩)
        go_roundg gk
        case measure => omega
        case rel => exact ⟨i + 1, 1, m0, m1 ||| 2 ^ (b - 48).toNat, nine2, by omega, by omega, hm0, hlt, hn92, rfl, by go_num, by rw [E9.out], HG, ⟨by have := HN.out; omega⟩, ⟨below_set HB.out (by omega)⟩, ⟨blk_far HR.out (by show w.heap.size ≠ w.heap.size + 1; omega) _⟩, ⟨blk_put HL.out 1 _ rfl⟩⟩
  ·have c1' : ¬ (i : Int) < (s.size : Int) := by omega
   rw [gm_out _ _ _ _ _ _ _ c1] at hh
   simp only [Prod.mk.injEq] at hh
   obtain ⟨rfl, rfl, rfl, rfl, rfl⟩ := hh
   clear HG
   go_wp2
   refine bodyPost_ret (v := .tuple #[.agg #[.int .u8 0, .int .u16 0, .int .u16 0], .int .i64 s.size, .int .i64 80]) (by simp [results, Tryd.results35, go_sem, *]) rfl ⟨rfl, ?_⟩
   repeat (first | exact HB.out | apply below_alloc | apply pw_below_drewN | apply below_drew1 | refine below_set ?_ (Nat.le_refl _))
def vivariumref09_lists.f (a0 : ByteArray) : Option (Int × Int × Int × Int × Int) := if a0.size ≤ 140737488351232 then some (gmAll a0) else none
theorem vivariumref09_lists.calls (a0 : ByteArray) (r1 r2 r3 r4 r5 : Int) (w : World) (h : vivariumref09_lists.f a0 = some (r1, r2, r3, r4, r5)) :
  Calls Tryd.prog 35 #[.string a0] w fun e w' => e = .returned (.tuple #[.agg #[.int .u8 r1, .int .u16 r2, .int .u16 r3], .int .i64 r4, .int .i64 r5]) ∧ Below w.heap.size w w' := by
 unfold vivariumref09_lists.f at h
 by_cases c : a0.size ≤ 140737488351232
 ·rw [if_pos c] at h
  exact vivariumref09_lists.calls_all a0 w c r1 r2 r3 r4 r5 (Option.some.inj h)
 ·rw [if_neg c] at h; cases h

end Go.Proofs.YtkahgdkpehlanaaDoor.P

namespace Go.Proofs.YtkahgdkpehlanaaDoor.P
open Go.RowKit Go.Proofs.YtkahgdkpehlanaaDoorW.PrintWords Go.Proofs.YtkahgdkpehlanaaDoorW.PrintLast Go.Proofs.YtkahgdkpehlanaaDoorW.PrintMore
attribute [local go_sem] max2_int min2_int max_two min_two   -- for this text's walks alone
set_option linter.unusedVariables false
set_option linter.unusedSimpArgs false

/-! ### vivariumref09_states: function 36 -/
mutual
def vivariumref09_states.j0 : Nat → ByteArray → Int → Bool → Option (Int × Int × Bool)
 | 0, _, _, _ => none
 | k + 1, x0, x1, x36 => if x36 = true then (vivariumref09_states.j1 k x0 (wrap64 (x1 + 1))) else (vivariumref09_states.j1 k x0 x1)
def vivariumref09_states.j1 : Nat → ByteArray → Int → Option (Int × Int × Bool)
 | 0, _, _ => none
 | k + 1, x0, x1 => vivariumref09_states.l0 k x0 x1 0 x1
def vivariumref09_states.l0 : Nat → ByteArray → Int → Int → Int → Option (Int × Int × Bool)
 | 0, _, _, _, _ => none
 | k + 1, x0, x1, x7, x8 => if x8 < (x0.size : Int) then (if 0 ≤ x8 then ((vivariumref09_digit.f (bt x0 x8)).bind fun t258 => (if t258 = true then (vivariumref09_states.l0 k x0 x1 (mn (wrap64 ((wrap64 (x7 * 10)) + (((bt x0 x8) - 48) % 256))) 1000) (wrap64 (x8 + 1))) else (some (0, x8, false)))) else (none)) else (if x1 ≥ (x0.size : Int) then (some (0, (x0.size : Int), false)) else (if x7 < 2 then (some (0, x1, false)) else (if x7 > 256 then (some (0, x1, false)) else (some (x7, 0, true)))))
end
def vivariumref09_states.f (k : Nat) (a0 : ByteArray) (a1 : Int) : Option (Int × Int × Bool) := if a1 < (a0.size : Int) then (if 0 ≤ a1 then (if (bt a0 a1) = 67 then (vivariumref09_states.j0 k a0 a1 true) else (if (bt a0 a1) = 99 then (vivariumref09_states.j0 k a0 a1 true) else (if (bt a0 a1) = 71 then (vivariumref09_states.j0 k a0 a1 true) else (vivariumref09_states.j0 k a0 a1 ((bt a0 a1) == 103))))) else (none)) else (vivariumref09_states.j0 k a0 a1 false)
theorem vivariumref09_states.mono_l : ∀ k, (∀ y0 y1 y2, LeO (vivariumref09_states.j0 k y0 y1 y2) (vivariumref09_states.j0 (k + 1) y0 y1 y2)) ∧ (∀ y0 y1, LeO (vivariumref09_states.j1 k y0 y1) (vivariumref09_states.j1 (k + 1) y0 y1)) ∧ (∀ y0 y1 y2 y3, LeO (vivariumref09_states.l0 k y0 y1 y2 y3) (vivariumref09_states.l0 (k + 1) y0 y1 y2 y3))
 | 0 => ⟨fun _ _ _ r h => by simp [vivariumref09_states.j0] at h, fun _ _ r h => by simp [vivariumref09_states.j1] at h, fun _ _ _ _ r h => by simp [vivariumref09_states.l0] at h⟩
 | k + 1 => by
  obtain ⟨ih0, ih1, ih2⟩ := vivariumref09_states.mono_l k
  refine ⟨?_, ?_, ?_⟩
  ·intro y0 y1 y2
   unfold vivariumref09_states.j0
   repeat' first
   | (with_reducible exact ih0 _ _ _)
   | (with_reducible exact ih1 _ _)
   | (with_reducible exact ih2 _ _ _ _)
   | (with_reducible exact LeO.refl _)
   | (with_reducible exact LeO.none _)
   | (with_reducible refine LeO.ite ?_ ?_)
   | (with_reducible refine LeO.bind ?_ (fun _ => ?_))
   | exact ih0 _ _ _
   | exact ih1 _ _
   | exact ih2 _ _ _ _
   | exact LeO.none _
   | refine LeO.ite ?_ ?_
   | refine LeO.bind ?_ (fun _ => ?_)
  ·intro y0 y1
   unfold vivariumref09_states.j1
   repeat' first
   | (with_reducible exact ih0 _ _ _)
   | (with_reducible exact ih1 _ _)
   | (with_reducible exact ih2 _ _ _ _)
   | (with_reducible exact LeO.refl _)
   | (with_reducible exact LeO.none _)
   | (with_reducible refine LeO.ite ?_ ?_)
   | (with_reducible refine LeO.bind ?_ (fun _ => ?_))
   | exact ih0 _ _ _
   | exact ih1 _ _
   | exact ih2 _ _ _ _
   | exact LeO.none _
   | refine LeO.ite ?_ ?_
   | refine LeO.bind ?_ (fun _ => ?_)
  ·intro y0 y1 y2 y3
   unfold vivariumref09_states.l0
   repeat' first
   | (with_reducible exact ih0 _ _ _)
   | (with_reducible exact ih1 _ _)
   | (with_reducible exact ih2 _ _ _ _)
   | (with_reducible exact LeO.refl _)
   | (with_reducible exact LeO.none _)
   | (with_reducible refine LeO.ite ?_ ?_)
   | (with_reducible refine LeO.bind ?_ (fun _ => ?_))
   | exact ih0 _ _ _
   | exact ih1 _ _
   | exact ih2 _ _ _ _
   | exact LeO.none _
   | refine LeO.ite ?_ ?_
   | refine LeO.bind ?_ (fun _ => ?_)
theorem vivariumref09_states.mono : ∀ a0 a1 k, LeO (vivariumref09_states.f k a0 a1) (vivariumref09_states.f (k + 1) a0 a1) := by
 intro a0 a1 k
 obtain ⟨ih0, ih1, ih2⟩ := vivariumref09_states.mono_l k
 unfold vivariumref09_states.f
 repeat' first
   | (with_reducible exact ih0 _ _ _)
   | (with_reducible exact ih1 _ _)
   | (with_reducible exact ih2 _ _ _ _)
   | (with_reducible exact LeO.refl _)
   | (with_reducible exact LeO.none _)
   | (with_reducible refine LeO.ite ?_ ?_)
   | (with_reducible refine LeO.bind ?_ (fun _ => ?_))
   | exact ih0 _ _ _
   | exact ih1 _ _
   | exact ih2 _ _ _ _
   | exact LeO.none _
   | refine LeO.ite ?_ ?_
   | refine LeO.bind ?_ (fun _ => ?_)
set_option maxHeartbeats 8000000 in
set_option maxRecDepth 100000 in
theorem vivariumref09_states.calls (k : Nat) (a0 : ByteArray) (a1 : Int) (r1 : Int) (r2 : Int) (r3 : Bool) (w : World) (h : vivariumref09_states.f k a0 a1 = some (r1, r2, r3)) :
  Calls Tryd.prog 36 #[.string a0, .int .i64 a1] w fun e w' => e = .returned (.tuple #[.int .i64 r1, .int .i64 r2, .bool r3]) ∧ Below w.heap.size w w' := by
 have HB := Aside0.mk (Below.refl w.heap.size w)
 have H : (if a1 < (a0.size : Int) then (if 0 ≤ a1 then (if (bt a0 a1) = 67 then (vivariumref09_states.j0 k a0 a1 true) else (if (bt a0 a1) = 99 then (vivariumref09_states.j0 k a0 a1 true) else (if (bt a0 a1) = 71 then (vivariumref09_states.j0 k a0 a1 true) else (vivariumref09_states.j0 k a0 a1 ((bt a0 a1) == 103))))) else (none)) else (vivariumref09_states.j0 k a0 a1 false)) = some (r1, r2, r3) := h
 clear h
 have HC3 := Aside0.mk H
 clear H
 go_enter Tryd.func36, Tryd.ntmps36
 go_upto_region 1 with (fail)
 go_cut [36] (fun v36 wc => ∃ (kq : Nat) (x36_2 : Bool), v36 = .bool x36_2 ∧ Aside0 (vivariumref09_states.j0 kq a0 a1 x36_2 = some (r1, r2, r3)) ∧ Aside0 (kq ≤ k) ∧ Aside0 (Below w.heap.size w wc))
 case first =>
  have H := HC3.out
  clear HC3
  by_cases c4 : a1 < (a0.size : Int)
  ·rw [if_pos c4] at H
   have c4b0 : decide (a1 < (a0.size : Int)) = true := decide_eq_true c4
   clear c4
   (first | rw [c4b0] | (simp only [i64_w, i32_w]; rw [c4b0]) | skip)
   by_cases c5 : 0 ≤ a1
   ·rw [if_pos c5] at H
    have c5b0 : decide (0 ≤ a1) = true := decide_eq_true c5
    clear c5
    by_cases c7 : (bt a0 a1) = 67
    ·rw [if_pos c7] at H
     have c7b0 : ((bt a0 a1) == 67) = true := beq_iff_eq.mpr c7
     have c7b1 : ((bt a0 a1) != 67) = false := bne_eq_false_iff_eq.mpr c7
     clear c7
     have H' := Aside0.mk H
     clear H
     have p6 : 0 ≤ (a1 : Int) := of_decide_eq_true (by first | (with_reducible assumption) | assumption)
     have q6 : a1 < (a0.size : Int) := of_decide_eq_true (by first | (with_reducible assumption) | assumption)
     have hx6 := bt_at a0 a1
     replace p6 := eq_true p6
     replace q6 := eq_true q6
     go_wp2
     go_meet
     case rel => exact ⟨_, (true), (by first | rfl | (simp; done) | (simp [*]; done)), H', ⟨by first | omega | exact Nat.le_refl _⟩, ⟨by repeat (first | (with_reducible first | exact HB.out | apply below_alloc | apply pw_below_drewN | apply below_drew1) | exact HB.out)⟩⟩
    ·rw [if_neg c7] at H
     have c7b0 : ((bt a0 a1) == 67) = false := beq_eq_false_iff_ne.mpr c7
     have c7b1 : ((bt a0 a1) != 67) = true := bne_iff_ne.mpr c7
     by_cases c9 : (bt a0 a1) = 99
     ·rw [if_pos c9] at H
      have c9b0 : ((bt a0 a1) == 99) = true := beq_iff_eq.mpr c9
      have c9b1 : ((bt a0 a1) != 99) = false := bne_eq_false_iff_eq.mpr c9
      clear c9
      have H' := Aside0.mk H
      clear H
      have p6 : 0 ≤ (a1 : Int) := of_decide_eq_true (by first | (with_reducible assumption) | assumption)
      have q6 : a1 < (a0.size : Int) := of_decide_eq_true (by first | (with_reducible assumption) | assumption)
      have hx6 := bt_at a0 a1
      replace p6 := eq_true p6
      replace q6 := eq_true q6
      have p8 : 0 ≤ (a1 : Int) := of_decide_eq_true (by first | (with_reducible assumption) | assumption)
      have q8 : a1 < (a0.size : Int) := of_decide_eq_true (by first | (with_reducible assumption) | assumption)
      have hx8 := bt_at a0 a1
      replace p8 := eq_true p8
      replace q8 := eq_true q8
      go_wp2
      go_meet
      case rel => exact ⟨_, (true), (by first | rfl | (simp; done) | (simp [*]; done)), H', ⟨by first | omega | exact Nat.le_refl _⟩, ⟨by repeat (first | (with_reducible first | exact HB.out | apply below_alloc | apply pw_below_drewN | apply below_drew1) | exact HB.out)⟩⟩
     ·rw [if_neg c9] at H
      have c9b0 : ((bt a0 a1) == 99) = false := beq_eq_false_iff_ne.mpr c9
      have c9b1 : ((bt a0 a1) != 99) = true := bne_iff_ne.mpr c9
      by_cases c11 : (bt a0 a1) = 71
      ·rw [if_pos c11] at H
       have c11b0 : ((bt a0 a1) == 71) = true := beq_iff_eq.mpr c11
       have c11b1 : ((bt a0 a1) != 71) = false := bne_eq_false_iff_eq.mpr c11
       clear c11
       have H' := Aside0.mk H
       clear H
       have p6 : 0 ≤ (a1 : Int) := of_decide_eq_true (by first | (with_reducible assumption) | assumption)
       have q6 : a1 < (a0.size : Int) := of_decide_eq_true (by first | (with_reducible assumption) | assumption)
       have hx6 := bt_at a0 a1
       replace p6 := eq_true p6
       replace q6 := eq_true q6
       have p8 : 0 ≤ (a1 : Int) := of_decide_eq_true (by first | (with_reducible assumption) | assumption)
       have q8 : a1 < (a0.size : Int) := of_decide_eq_true (by first | (with_reducible assumption) | assumption)
       have hx8 := bt_at a0 a1
       replace p8 := eq_true p8
       replace q8 := eq_true q8
       have p10 : 0 ≤ (a1 : Int) := of_decide_eq_true (by first | (with_reducible assumption) | assumption)
       have q10 : a1 < (a0.size : Int) := of_decide_eq_true (by first | (with_reducible assumption) | assumption)
       have hx10 := bt_at a0 a1
       replace p10 := eq_true p10
       replace q10 := eq_true q10
       go_wp2
       go_meet
       case rel => exact ⟨_, (true), (by first | rfl | (simp; done) | (simp [*]; done)), H', ⟨by first | omega | exact Nat.le_refl _⟩, ⟨by repeat (first | (with_reducible first | exact HB.out | apply below_alloc | apply pw_below_drewN | apply below_drew1) | exact HB.out)⟩⟩
      ·rw [if_neg c11] at H
       have c11b0 : ((bt a0 a1) == 71) = false := beq_eq_false_iff_ne.mpr c11
       have c11b1 : ((bt a0 a1) != 71) = true := bne_iff_ne.mpr c11
       have H' := Aside0.mk H
       clear H
       have p6 : 0 ≤ (a1 : Int) := of_decide_eq_true (by first | (with_reducible assumption) | assumption)
       have q6 : a1 < (a0.size : Int) := of_decide_eq_true (by first | (with_reducible assumption) | assumption)
       have hx6 := bt_at a0 a1
       replace p6 := eq_true p6
       replace q6 := eq_true q6
       have p8 : 0 ≤ (a1 : Int) := of_decide_eq_true (by first | (with_reducible assumption) | assumption)
       have q8 : a1 < (a0.size : Int) := of_decide_eq_true (by first | (with_reducible assumption) | assumption)
       have hx8 := bt_at a0 a1
       replace p8 := eq_true p8
       replace q8 := eq_true q8
       have p10 : 0 ≤ (a1 : Int) := of_decide_eq_true (by first | (with_reducible assumption) | assumption)
       have q10 : a1 < (a0.size : Int) := of_decide_eq_true (by first | (with_reducible assumption) | assumption)
       have hx10 := bt_at a0 a1
       replace p10 := eq_true p10
       replace q10 := eq_true q10
       have p12 : 0 ≤ (a1 : Int) := of_decide_eq_true (by first | (with_reducible assumption) | assumption)
       have q12 : a1 < (a0.size : Int) := of_decide_eq_true (by first | (with_reducible assumption) | assumption)
       have hx12 := bt_at a0 a1
       replace p12 := eq_true p12
       replace q12 := eq_true q12
       go_wp2
       go_meet
       case rel => exact ⟨_, (((bt a0 a1) == 103)), (by first | rfl | (simp; done) | (simp [*]; done)), H', ⟨by first | omega | exact Nat.le_refl _⟩, ⟨by repeat (first | (with_reducible first | exact HB.out | apply below_alloc | apply pw_below_drewN | apply below_drew1) | exact HB.out)⟩⟩
   ·rw [if_neg c5] at H
    exact absurd H (by simp)
  ·rw [if_neg c4] at H
   have c4b0 : decide (a1 < (a0.size : Int)) = false := decide_eq_false c4
   clear c4
   (first | rw [c4b0] | (simp only [i64_w, i32_w]; rw [c4b0]) | skip)
   have H' := Aside0.mk H
   clear H
   go_wp2
   go_meet
   case rel => exact ⟨_, (false), (by first | rfl | (simp; done) | (simp [*]; done)), H', ⟨by first | omega | exact Nat.le_refl _⟩, ⟨by repeat (first | (with_reducible first | exact HB.out | apply below_alloc | apply pw_below_drewN | apply below_drew1) | exact HB.out)⟩⟩
 case rest =>
  clear HC3
  try clear c1
  try clear p1
  try clear q1
  try clear hx1
  try clear p2
  try clear c3
  try clear c4
  try clear c4b0
  try clear c5
  try clear c5b0
  try clear p6
  try clear q6
  try clear hx6
  try clear c7
  try clear c7b0
  try clear c7b1
  try clear p8
  try clear q8
  try clear hx8
  try clear c9
  try clear c9b0
  try clear c9b1
  try clear p10
  try clear q10
  try clear hx10
  try clear c11
  try clear c11b0
  try clear c11b1
  try clear p12
  try clear q12
  try clear hx12
  try clear p10
  try clear p12
  try clear p6
  try clear p8
  try clear q10
  try clear q12
  try clear q6
  try clear q8
  obtain ⟨kq, x36_2, rfl, HA, HJ2, HB⟩ := hcut
  cases kq with
  | zero => exact absurd HA.out (by simp [vivariumref09_states.j0])
  | succ kj2 =>
   have H := HA.out
   clear HA
   simp only [vivariumref09_states.j0] at H
   have HC13 := Aside0.mk H
   clear H
   go_upto_if 36 with (fail)
   go_cut [1] (fun v1 wc => ∃ (kq : Nat) (x1_12 : Int), v1 = .int .i64 x1_12 ∧ Aside0 (vivariumref09_states.j1 kq a0 x1_12 = some (r1, r2, r3)) ∧ Aside0 (kq ≤ kj2) ∧ Aside0 (Below w.heap.size w wc))
   case first =>
    have H := HC13.out
    clear HC13
    by_cases c14 : x36_2 = true
    ·subst c14
     have H1 : (vivariumref09_states.j1 kj2 a0 (wrap64 (a1 + 1))) = some (r1, r2, r3) := by rw [if_pos rfl] at H; exact H
     clear H
     have H := H1
     clear H1
     have H' := Aside0.mk H
     clear H
     go_wp2
     go_meet
     case rel => exact ⟨_, (wrap64 (a1 + 1)), (by first | rfl | (simp; done) | (simp [*]; done)), H', ⟨by have := HJ2.out; first | omega | exact Nat.le_refl _⟩, ⟨by repeat (first | (with_reducible first | exact HB.out | apply below_alloc | apply pw_below_drewN | apply below_drew1) | exact HB.out)⟩⟩
    ·replace c14 := Bool.eq_false_iff.mpr c14
     subst c14
     have H1 : (vivariumref09_states.j1 kj2 a0 a1) = some (r1, r2, r3) := by rw [if_neg (show ¬ (false = true) by decide)] at H; exact H
     clear H
     have H := H1
     clear H1
     have H' := Aside0.mk H
     clear H
     go_wp2
     go_meet
     case rel => exact ⟨_, (a1), (by first | rfl | (simp; done) | (simp [*]; done)), H', ⟨by have := HJ2.out; first | omega | exact Nat.le_refl _⟩, ⟨by repeat (first | (with_reducible first | exact HB.out | apply below_alloc | apply pw_below_drewN | apply below_drew1) | exact HB.out)⟩⟩
   case rest =>
    clear HC13
    try clear c1
    try clear p1
    try clear q1
    try clear hx1
    try clear p2
    try clear c3
    try clear c4
    try clear c4b0
    try clear c5
    try clear c5b0
    try clear p6
    try clear q6
    try clear hx6
    try clear c7
    try clear c7b0
    try clear c7b1
    try clear p8
    try clear q8
    try clear hx8
    try clear c9
    try clear c9b0
    try clear c9b1
    try clear p10
    try clear q10
    try clear hx10
    try clear c11
    try clear c11b0
    try clear c11b1
    try clear p12
    try clear q12
    try clear hx12
    try clear c14
    try clear p1
    try clear p10
    try clear p12
    try clear p2
    try clear p6
    try clear p8
    try clear q1
    try clear q10
    try clear q12
    try clear q6
    try clear q8
    obtain ⟨kq, x1_12, rfl, HA, HJ12, HB⟩ := hcut
    cases kq with
    | zero => exact absurd HA.out (by simp [vivariumref09_states.j1])
    | succ kj12 =>
     have H := HA.out
     clear HA
     simp only [vivariumref09_states.j1] at H
     have H' := Aside0.mk H
     clear H
     go_wp2
     go_loopg [7, 8] kj12 (fun kq v7 v8 w' => ∃ (x7_3 : Int) (x8_3 : Int), v7 = .int .i64 x7_3 ∧ v8 = .int .i64 x8_3 ∧ Aside0 (vivariumref09_states.l0 kq a0 x1_12 x7_3 x8_3 = some (r1, r2, r3)) ∧ Aside0 (kq ≤ kj12) ∧ Aside0 (Below w.heap.size w w'))
     case atStart => exact ⟨(0), (x1_12), (by first | rfl | (simp; done) | (simp [*]; done)), (by first | rfl | (simp; done) | (simp [*]; done)), H', ⟨Nat.le_refl _⟩, ⟨by repeat (first | (with_reducible first | exact HB.out | apply below_alloc | apply pw_below_drewN | apply below_drew1) | exact HB.out)⟩⟩
     case round =>
      clear H'
      try clear c1
      try clear p1
      try clear q1
      try clear hx1
      try clear p2
      try clear c3
      try clear c4
      try clear c4b0
      try clear c5
      try clear c5b0
      try clear p6
      try clear q6
      try clear hx6
      try clear c7
      try clear c7b0
      try clear c7b1
      try clear p8
      try clear q8
      try clear hx8
      try clear c9
      try clear c9b0
      try clear c9b1
      try clear p10
      try clear q10
      try clear hx10
      try clear c11
      try clear c11b0
      try clear c11b1
      try clear p12
      try clear q12
      try clear hx12
      try clear c14
      try clear p1
      try clear p10
      try clear p12
      try clear p2
      try clear p6
      try clear p8
      try clear q1
      try clear q10
      try clear q12
      try clear q6
      try clear q8
      obtain ⟨x7_3, x8_3, rfl, rfl, HA, HK3, HB⟩ := hrel
      cases gk with
      | zero => exact absurd HA.out (by simp [vivariumref09_states.l0])
      | succ k3 =>
       have H := HA.out
       clear HA
       simp only [vivariumref09_states.l0] at H
       by_cases c15 : x8_3 < (a0.size : Int)
       ·rw [if_pos c15] at H
        have c15b0 : decide (x8_3 < (a0.size : Int)) = true := decide_eq_true c15
        clear c15
        by_cases c16 : 0 ≤ x8_3
        ·rw [if_pos c16] at H
         have c16b0 : decide (0 ≤ x8_3) = true := decide_eq_true c16
         clear c16
         replace H := Option.bind_eq_some_iff.mp H
         obtain ⟨t258, A180, H⟩ := H
         replace H : (if t258 = true then (vivariumref09_states.l0 k3 a0 x1_12 (mn (wrap64 ((wrap64 (x7_3 * 10)) + (((bt a0 x8_3) - 48) % 256))) 1000) (wrap64 (x8_3 + 1))) else (some (0, x8_3, false))) = some (r1, r2, r3) := H
         have A18 := Aside0.mk A180
         clear A180
         by_cases c19 : t258 = true
         ·subst c19
          have H1 : (vivariumref09_states.l0 k3 a0 x1_12 (mn (wrap64 ((wrap64 (x7_3 * 10)) + (((bt a0 x8_3) - 48) % 256))) 1000) (wrap64 (x8_3 + 1))) = some (r1, r2, r3) := by rw [if_pos rfl] at H; exact H
          clear H
          have H := H1
          clear H1
          obtain ⟨ji21, hji21⟩ : ∃ j_ : Int, (mn (wrap64 ((wrap64 (x7_3 * 10)) + (((bt a0 x8_3) - 48) % 256))) 1000) = j_ := ⟨_, rfl⟩
          replace H : (vivariumref09_states.l0 k3 a0 x1_12 ji21 (wrap64 (x8_3 + 1))) = some (r1, r2, r3) := by first | (rw [hji21] at H; exact H) | (simp only [hji21] at H ⊢; exact H)
          (try rw [hji21] at A18)
          have hji21_ : (if 1000 < (wrap64 ((wrap64 (x7_3 * 10)) + (((bt a0 x8_3) - 48) % 256))) then 1000 else (wrap64 ((wrap64 (x7_3 * 10)) + (((bt a0 x8_3) - 48) % 256)))) = ji21 := hji21
          have H' := Aside0.mk H
          clear H
          have p17 : 0 ≤ (x8_3 : Int) := of_decide_eq_true (by first | (with_reducible assumption) | assumption)
          have q17 : x8_3 < (a0.size : Int) := of_decide_eq_true (by first | (with_reducible assumption) | assumption)
          have hx17 := bt_at a0 x8_3
          replace p17 := eq_true p17
          replace q17 := eq_true q17
          go_wp2_with (first | ((with_reducible refine gate_callee (f := 61) rfl ?_); refine goesL_ (some 49) rfl rfl Tryd.func61 (by kernel_rfl) rfl #[.int .u8 (bt a0 x8_3)] rfl (by (try simp only [List.map_toArray, List.map_cons, List.map_nil]); first | done | rfl | (simp only [List.length_drop, List.length_take]; rfl)) ?_; (with_reducible refine (vivariumref09_digit.calls (bt a0 x8_3) true _ A18.out).mono ?_); rintro e w' ⟨rfl, ⟨nd, rfl⟩⟩; refine ⟨_, rfl, ?_⟩; have p20 : 0 ≤ (x8_3 : Int) := of_decide_eq_true (by first | (with_reducible assumption) | assumption); have q20 : x8_3 < (a0.size : Int) := of_decide_eq_true (by first | (with_reducible assumption) | assumption); have hx20 := bt_at a0 x8_3; replace p20 := eq_true p20; replace q20 := eq_true q20))
          go_roundg k3
          case measure => have := HJ2.out; have := HJ12.out; have := HK3.out; omega
          case rel => exact ⟨(ji21), (wrap64 (x8_3 + 1)), (by first | rfl | (simp; done) | (simp only [← hji21] <;> (first | rfl | simp)) | (simp [*]; done)), (by first | rfl | (simp; done) | (simp [*]; done)), H', ⟨by have := HJ2.out; have := HJ12.out; have := HK3.out; omega⟩, ⟨by repeat (first | (with_reducible first | exact HB.out | apply below_alloc | apply pw_below_drewN | apply below_drew1) | exact HB.out)⟩⟩
         ·replace c19 := Bool.eq_false_iff.mpr c19
          subst c19
          have H1 : (some (0, x8_3, false)) = some (r1, r2, r3) := by rw [if_neg (show ¬ (false = true) by decide)] at H; exact H
          clear H
          have H := H1
          clear H1
          simp only [Option.some.injEq, Prod.mk.injEq] at H
          obtain ⟨rfl, rfl, rfl⟩ := H
          have p17 : 0 ≤ (x8_3 : Int) := of_decide_eq_true (by first | (with_reducible assumption) | assumption)
          have q17 : x8_3 < (a0.size : Int) := of_decide_eq_true (by first | (with_reducible assumption) | assumption)
          have hx17 := bt_at a0 x8_3
          replace p17 := eq_true p17
          replace q17 := eq_true q17
          go_wp2_with (first | ((with_reducible refine gate_callee (f := 61) rfl ?_); refine goesL_ (some 49) rfl rfl Tryd.func61 (by kernel_rfl) rfl #[.int .u8 (bt a0 x8_3)] rfl (by (try simp only [List.map_toArray, List.map_cons, List.map_nil]); first | done | rfl | (simp only [List.length_drop, List.length_take]; rfl)) ?_; (with_reducible refine (vivariumref09_digit.calls (bt a0 x8_3) false _ A18.out).mono ?_); rintro e w' ⟨rfl, ⟨nd, rfl⟩⟩; refine ⟨_, rfl, ?_⟩))
          go_ret3
          exact ⟨by first | rfl | (simp [errW_none, errW_some] <;> rfl) | (simp [*, errW_none, errW_some] <;> rfl), by repeat (first | (with_reducible first | exact HB.out | apply below_alloc | apply pw_below_drewN | apply below_drew1) | exact HB.out)⟩
        ·rw [if_neg c16] at H
         exact absurd H (by simp)
       ·rw [if_neg c15] at H
        have c15b0 : decide (x8_3 < (a0.size : Int)) = false := decide_eq_false c15
        clear c15
        by_cases c22 : x1_12 ≥ (a0.size : Int)
        ·rw [if_pos c22] at H
         have c22b0 : decide ((a0.size : Int) ≤ x1_12) = true := decide_eq_true c22
         clear c22
         simp only [Option.some.injEq, Prod.mk.injEq] at H
         obtain ⟨rfl, rfl, rfl⟩ := H
         go_wp2
         go_ret3
         exact ⟨by first | rfl | (simp [errW_none, errW_some] <;> rfl) | (simp [*, errW_none, errW_some] <;> rfl), by repeat (first | (with_reducible first | exact HB.out | apply below_alloc | apply pw_below_drewN | apply below_drew1) | exact HB.out)⟩
        ·rw [if_neg c22] at H
         have c22b0 : decide ((a0.size : Int) ≤ x1_12) = false := decide_eq_false c22
         clear c22
         by_cases c23 : x7_3 < 2
         ·rw [if_pos c23] at H
          have c23b0 : decide (x7_3 < 2) = true := decide_eq_true c23
          clear c23
          simp only [Option.some.injEq, Prod.mk.injEq] at H
          obtain ⟨rfl, rfl, rfl⟩ := H
          go_wp2
          go_ret3
          exact ⟨by first | rfl | (simp [errW_none, errW_some] <;> rfl) | (simp [*, errW_none, errW_some] <;> rfl), by repeat (first | (with_reducible first | exact HB.out | apply below_alloc | apply pw_below_drewN | apply below_drew1) | exact HB.out)⟩
         ·rw [if_neg c23] at H
          have c23b0 : decide (x7_3 < 2) = false := decide_eq_false c23
          clear c23
          by_cases c24 : x7_3 > 256
          ·rw [if_pos c24] at H
           have c24b0 : decide (256 < x7_3) = true := decide_eq_true c24
           clear c24
           simp only [Option.some.injEq, Prod.mk.injEq] at H
           obtain ⟨rfl, rfl, rfl⟩ := H
           go_wp2
           go_ret3
           exact ⟨by first | rfl | (simp [errW_none, errW_some] <;> rfl) | (simp [*, errW_none, errW_some] <;> rfl), by repeat (first | (with_reducible first | exact HB.out | apply below_alloc | apply pw_below_drewN | apply below_drew1) | exact HB.out)⟩
          ·rw [if_neg c24] at H
           have c24b0 : decide (256 < x7_3) = false := decide_eq_false c24
           clear c24
           simp only [Option.some.injEq, Prod.mk.injEq] at H
           obtain ⟨rfl, rfl, rfl⟩ := H
           go_wp2
           go_ret3
           exact ⟨by first | rfl | (simp [errW_none, errW_some] <;> rfl) | (simp [*, errW_none, errW_some] <;> rfl), by repeat (first | (with_reducible first | exact HB.out | apply below_alloc | apply pw_below_drewN | apply below_drew1) | exact HB.out)⟩

end Go.Proofs.YtkahgdkpehlanaaDoor.P

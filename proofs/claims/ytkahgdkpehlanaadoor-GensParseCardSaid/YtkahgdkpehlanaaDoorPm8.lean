-- Written by a program of this session (wip/tools/mk.py) that runs the kit's printer; several functions' texts in one.
import Derived.Test.YtkahgdkpehlanaaDoorP0
import Derived.Test.YtkahgdkpehlanaaDoorPm7
import Derived.Great.BuildSlice
import Derived.Deep.DeepMust
import Derived.Laws.CopyOwn
import Derived.Test.YtkahgdkpehlanaaDoorExtLib
import Derived.Test.YtkahgdkpehlanaaDoorLifeDefs
namespace Go.Proofs.YtkahgdkpehlanaaDoor.P
open Go.RowKit Go.Proofs.YtkahgdkpehlanaaDoorW.PrintWords Go.Proofs.YtkahgdkpehlanaaDoorW.PrintLast Go.Proofs.YtkahgdkpehlanaaDoorW.PrintMore
attribute [local go_sem] max2_int min2_int max_two min_two   -- for this text's walks alone
set_option linter.unusedVariables false
set_option linter.unusedSimpArgs false

/-! ### vivariumref08_Parse: function 34 -/
-- EXT Derived.Great.BuildSlice Derived.Deep.DeepMust Derived.Laws.CopyOwn Derived.Test.@NExtLib Derived.Test.@NLifeDefs Derived.Test.@NP@F{vivarium/vivariumref08.is} Derived.Test.@NP@F{vivarium/vivariumref08.Greatest}
open Go.Proofs.YtkahgdkpehlanaaDoor.L
def boolsOf (m : Nat) : Array Value := #[.bool (m.testBit 0), .bool (m.testBit 1), .bool (m.testBit 2), .bool (m.testBit 3), .bool (m.testBit 4), .bool (m.testBit 5), .bool (m.testBit 6), .bool (m.testBit 7), .bool (m.testBit 8), .bool (m.testBit 9)]
theorem boolsOf_at (m d : Nat) (hd : d ≤ 9) : (boolsOf m)[d]? = some (.bool (m.testBit d)) := by
 obtain rfl | rfl | rfl | rfl | rfl | rfl | rfl | rfl | rfl | rfl : d = 0 ∨ d = 1 ∨ d = 2 ∨ d = 3 ∨ d = 4 ∨ d = 5 ∨ d = 6 ∨ d = 7 ∨ d = 8 ∨ d = 9 := by omega
 all_goals rfl
theorem boolsOf_set (m d : Nat) (hd : d ≤ 9) : (boolsOf m).setIfInBounds d (.bool true) = boolsOf (m ||| 2 ^ d) := by
 unfold boolsOf
 simp only [Nat.testBit_or, Nat.testBit_two_pow]
 obtain rfl | rfl | rfl | rfl | rfl | rfl | rfl | rfl | rfl | rfl : d = 0 ∨ d = 1 ∨ d = 2 ∨ d = 3 ∨ d = 4 ∨ d = 5 ∨ d = 6 ∨ d = 7 ∨ d = 8 ∨ d = 9 := by omega
 all_goals simp
theorem is_calls (s : ByteArray) (pi : Int) (p : Nat) (hpi : pi = p) (c : Int) (hc : 0 ≤ c ∧ c < 200) (b : Bool) (hb : decide (isL s p c) = b) (w : World) : Calls Tryd.prog 57 #[.string s, .int .i64 pi, .int .u8 c] w fun e w' => e = .returned (.bool b) ∧ Drawn0 w w' := by
 subst hpi hb
 refine vivariumref08_is.calls s p c _ w ?_
 unfold vivariumref08_is.f
 by_cases h : p < s.size
 ·rw [if_pos (by omega), if_pos (by omega)]
  by_cases h2 : bt s p = c
  ·rw [if_pos h2, decide_eq_true (show isL s p c from ⟨h, .inl h2⟩)]
  ·rw [if_neg h2, show (c + 32) % 256 = c + 32 from by omega]
   congr 1
   by_cases h3 : bt s p = c + 32
   ·rw [decide_eq_true (show isL s p c from ⟨h, .inr h3⟩), h3, beq_self_eq_true]
   ·rw [decide_eq_false (show ¬ isL s p c from fun e => e.2.elim h2 h3)]
    exact beq_eq_false_iff_ne.mpr h3
 ·rw [if_neg (by omega), decide_eq_false (show ¬ isL s p c from fun e => h e.1)]
theorem boolsOf_one (m : Nat) : (boolsOf m).all (·.oneCell') = true := by simp [boolsOf, Value.oneCell']
theorem boolsOf_info (m : Nat) : (Tryd.prog.info? 97).map (·.size) = some (boolsOf m).size := by show _ = some 10; kernel_rfl
theorem boolsOf_size (m m' : Nat) : (boolsOf m).size = (boolsOf m').size := by
 have h : ∀ n, (boolsOf n).size = 10 := fun n => rfl
 rw [h, h]
theorem boolsOf_zero : boolsOf 0 = #[.bool false, .bool false, .bool false, .bool false, .bool false, .bool false, .bool false, .bool false, .bool false, .bool false] := by unfold boolsOf; simp only [Nat.zero_testBit]
attribute [irreducible] boolsOf
set_option maxHeartbeats 8000000 in
set_option maxRecDepth 100000 in
theorem list_calls (s : ByteArray) (hs : s.size ≤ 1048576) (pi : Int) (p : Nat) (hpi : pi = p) (hp : p ≤ s.size + 2) (tw : Bool) (qq mm : Nat) (h : digs s s.size p 0 = (tw, qq, mm)) (tt : Int) (htt : (if tw = true then (qq : Int) else -1) = tt) (w : World) :
  Calls Tryd.prog 58 #[.string s, .int .i64 pi] w fun e w' => e = .returned (.tuple #[.agg (boolsOf mm), .int .i64 qq, .int .i64 tt]) ∧ Below w.heap.size w w' := by
 subst hpi htt
 have HD0 := Aside0.mk h
 clear h
 go_enter Tryd.func58, Tryd.ntmps58
 go_wp2
 go_loopg [1] s.size (fun k t1 wi => ∃ (q m : Nat), q ≤ s.size + 2 ∧ t1 = .int .i64 q ∧ Aside0 (digs s k q m = (tw, qq, mm)) ∧ Aside0 (s.size ≤ k + q) ∧ Aside0 (Below w.heap.size w wi) ∧ Aside0 (wi.heap[w.heap.size]? = some (.cells (boolsOf 0) 97 (0, 0))) ∧ Aside0 (wi.heap[w.heap.size + 1]? = some (.cells (boolsOf m) 97 (0, 0))))
 case atStart => exact ⟨p, 0, by omega, rfl, HD0, ⟨by omega⟩, ⟨((Below.refl _ _).alloc (Nat.le_refl _) _).alloc (by simp) _⟩, ⟨by rw [boolsOf_zero]; exact blk_alloc (blk_new _ _) _⟩, ⟨by rw [boolsOf_zero]; exact blk_new' _ _ _ (by simp)⟩⟩
 case round =>
  clear HD0
  obtain ⟨q, m, hq, rfl, HD, HN, HB, HR, HL⟩ := hrel
  have q0 : (0 : Int) ≤ (q : Int) := by omega
  by_cases d1 : q < s.size
  ·have hbt : ∀ hh : q < s.size, ((s[q]'hh).toNat : Int) = bt s (q : Int) := bt_at s (q : Int)
   have hbr := bt_range s (q : Int)
   have d1' : (q : Int) < (s.size : Int) := by omega
   obtain ⟨b, hb⟩ : ∃ b, bt s (q : Int) = b := ⟨_, rfl⟩
   rw [hb] at hbr
   rw [hb] at hbt
   have HB' := Aside0.mk hb
   clear hb
   by_cases d2 : 48 ≤ b ∧ b ≤ 57
   ·obtain ⟨d2, d3⟩ := d2
    have hd9 : (b - 48).toNat ≤ 9 := by omega
    have hm : (b - 48) % 256 = b - 48 := by omega
    have e0 : 0 ≤ b - 48 := by omega
    have e1 : b - 48 < 10 := by omega
    have kd : wr.cell? ⟨w.heap.size + 1, (b - 48).toNat, none⟩ = some (.bool (m.testBit (b - 48).toNat)) := (blk_cell HL.out _).trans (boolsOf_at m _ hd9)
    cases gk with
    | zero => exact absurd HN.out (by omega)
    | succ gk =>
    have hds := HD.out
    rw [digs_succ, HB'.out, if_pos ⟨d1, d2, d3⟩] at hds
    cases htb : m.testBit (b - 48).toNat with
    | true =>
     rw [htb] at kd
     rw [htb, if_pos rfl] at hds
     simp only [Prod.mk.injEq] at hds
     obtain ⟨rfl, rfl, rfl⟩ := hds
     clear htb
     go_wp2_with (first | ((with_reducible refine gate_ (Op.load 97 (.tmp 7)) rfl ?_); go_must (refine wpList_load_row rfl 97 (.tmp 7) rfl (w.heap.size + 1) (by kernel_rfl) 97 (boolsOf m) (0, 0) _ HL.out Tryd.underlying97 rfl (boolsOf_info _) ?_); simp only [Act.put, List.setIfInBounds_toArray, List.set_cons_succ, List.set_cons_zero]) | ((with_reducible refine gate_ (Op.store 97 (.tmp 4) (.tmp 30)) rfl ?_); go_must (refine wpList_store_rowTo rfl 97 (.tmp 4) (.tmp 30) rfl rfl w.heap.size (boolsOf m) (by kernel_rfl) (by kernel_rfl) 97 (boolsOf 0) HR.out (boolsOf_info _) (boolsOf_size _ _) (boolsOf_one _) ?_)))
     try rw [Exit.noGoto_ret]
     refine bodyPost_ret (results_ctt Tryd.results58 _ _ w.heap.size 97 (boolsOf m) (0, 0) _ rfl (setRow_heap _ _ (boolsOf 0) (boolsOf m) _ _ HR.out) Tryd.underlying97 rfl (boolsOf_info _)) rfl ⟨rfl, ?_⟩
     repeat (first | exact HB.out | exact below_setRow HB.out (Nat.le_refl _) _ | apply below_alloc | apply pw_below_drewN | apply below_drew1 | refine below_set ?_ (Nat.le_refl _))
    | false =>
     rw [htb] at kd
     rw [htb, if_neg (by decide)] at hds
     have HD2 := Aside0.mk hds
     have zd := blk_frozen HL.out (b - 48).toNat
     clear htb hds
     go_wp2
     go_roundg gk
     case measure => omega
     case rel => exact ⟨q + 1, m ||| 2 ^ (b - 48).toNat, by omega, by go_num, HD2, ⟨by have := HN.out; omega⟩, ⟨below_set HB.out (by omega)⟩, ⟨blk_far HR.out (by show w.heap.size ≠ w.heap.size + 1; omega) _⟩, ⟨blk_put HL.out _ _ (boolsOf_set m _ hd9)⟩⟩
   ·have hds := HD.out
    have hdd : (tw, qq, mm) = (false, q, m) := by
     rw [← hds]
     cases gk with
     | zero => rfl
     | succ gk => rw [digs_succ, HB'.out, if_neg (fun e => d2 e.2)]
    simp only [Prod.mk.injEq] at hdd
    obtain ⟨rfl, rfl, rfl⟩ := hdd
    clear hds
    by_cases d2a : 48 ≤ b
    ·have d2b : ¬ b ≤ 57 := fun e => d2 ⟨d2a, e⟩
     clear d2
     go_wp2_with (first | ((with_reducible refine gate_ (Op.load 97 (.tmp 7)) rfl ?_); go_must (refine wpList_load_row rfl 97 (.tmp 7) rfl (w.heap.size + 1) (by kernel_rfl) 97 (boolsOf mm) (0, 0) _ HL.out Tryd.underlying97 rfl (boolsOf_info _) ?_); simp only [Act.put, List.setIfInBounds_toArray, List.set_cons_succ, List.set_cons_zero]) | ((with_reducible refine gate_ (Op.store 97 (.tmp 4) (.tmp 40)) rfl ?_); go_must (refine wpList_store_rowTo rfl 97 (.tmp 4) (.tmp 40) rfl rfl w.heap.size (boolsOf mm) (by kernel_rfl) (by kernel_rfl) 97 (boolsOf 0) HR.out (boolsOf_info _) (boolsOf_size _ _) (boolsOf_one _) ?_)))
     try rw [Exit.noGoto_ret]
     refine bodyPost_ret (results_ctt Tryd.results58 _ _ w.heap.size 97 (boolsOf mm) (0, 0) _ rfl (setRow_heap _ _ (boolsOf 0) (boolsOf mm) _ _ HR.out) Tryd.underlying97 rfl (boolsOf_info _)) rfl ⟨rfl, ?_⟩
     repeat (first | exact HB.out | exact below_setRow HB.out (Nat.le_refl _) _ | apply below_alloc | apply pw_below_drewN | apply below_drew1 | refine below_set ?_ (Nat.le_refl _))
    ·clear d2
     go_wp2_with (first | ((with_reducible refine gate_ (Op.load 97 (.tmp 7)) rfl ?_); go_must (refine wpList_load_row rfl 97 (.tmp 7) rfl (w.heap.size + 1) (by kernel_rfl) 97 (boolsOf mm) (0, 0) _ HL.out Tryd.underlying97 rfl (boolsOf_info _) ?_); simp only [Act.put, List.setIfInBounds_toArray, List.set_cons_succ, List.set_cons_zero]) | ((with_reducible refine gate_ (Op.store 97 (.tmp 4) (.tmp 40)) rfl ?_); go_must (refine wpList_store_rowTo rfl 97 (.tmp 4) (.tmp 40) rfl rfl w.heap.size (boolsOf mm) (by kernel_rfl) (by kernel_rfl) 97 (boolsOf 0) HR.out (boolsOf_info _) (boolsOf_size _ _) (boolsOf_one _) ?_)))
     try rw [Exit.noGoto_ret]
     refine bodyPost_ret (results_ctt Tryd.results58 _ _ w.heap.size 97 (boolsOf mm) (0, 0) _ rfl (setRow_heap _ _ (boolsOf 0) (boolsOf mm) _ _ HR.out) Tryd.underlying97 rfl (boolsOf_info _)) rfl ⟨rfl, ?_⟩
     repeat (first | exact HB.out | exact below_setRow HB.out (Nat.le_refl _) _ | apply below_alloc | apply pw_below_drewN | apply below_drew1 | refine below_set ?_ (Nat.le_refl _))
  ·have hds := HD.out
   have hdd : (tw, qq, mm) = (false, q, m) := by
    rw [← hds]
    cases gk with
    | zero => rfl
    | succ gk => rw [digs_succ, if_neg (fun e => d1 e.1)]
   simp only [Prod.mk.injEq] at hdd
   obtain ⟨rfl, rfl, rfl⟩ := hdd
   clear hds
   have d1' : ¬ (qq : Int) < (s.size : Int) := by omega
   go_wp2_with (first | ((with_reducible refine gate_ (Op.load 97 (.tmp 7)) rfl ?_); go_must (refine wpList_load_row rfl 97 (.tmp 7) rfl (w.heap.size + 1) (by kernel_rfl) 97 (boolsOf mm) (0, 0) _ HL.out Tryd.underlying97 rfl (boolsOf_info _) ?_); simp only [Act.put, List.setIfInBounds_toArray, List.set_cons_succ, List.set_cons_zero]) | ((with_reducible refine gate_ (Op.store 97 (.tmp 4) (.tmp 40)) rfl ?_); go_must (refine wpList_store_rowTo rfl 97 (.tmp 4) (.tmp 40) rfl rfl w.heap.size (boolsOf mm) (by kernel_rfl) (by kernel_rfl) 97 (boolsOf 0) HR.out (boolsOf_info _) (boolsOf_size _ _) (boolsOf_one _) ?_)))
   try rw [Exit.noGoto_ret]
   refine bodyPost_ret (results_ctt Tryd.results58 _ _ w.heap.size 97 (boolsOf mm) (0, 0) _ rfl (setRow_heap _ _ (boolsOf 0) (boolsOf mm) _ _ HR.out) Tryd.underlying97 rfl (boolsOf_info _)) rfl ⟨rfl, ?_⟩
   repeat (first | exact HB.out | exact below_setRow HB.out (Nat.le_refl _) _ | apply below_alloc | apply pw_below_drewN | apply below_drew1 | refine below_set ?_ (Nat.le_refl _))
set_option maxHeartbeats 8000000 in
set_option maxRecDepth 100000 in
theorem number_calls (m : Nat) (hm : m < 1024) (w : World) :
  Calls Tryd.prog 59 #[.agg (boolsOf m)] w fun e w' => e = .returned (.int .u16 m) ∧ Below w.heap.size w w' := by
 go_enter Tryd.func59, Tryd.ntmps59
 go_wp2
 go_loopg [3, 4, 5] 10 (fun k t3 t4 t5 wi => ∃ i : Nat, i ≤ 10 ∧ Aside0 (k = 10 - i) ∧ t3 = .int .u16 ((m % 2 ^ i : Nat) : Int) ∧ t4 = .int .u16 ((2 ^ i : Nat) : Int) ∧ t5 = .int .i64 i ∧ Aside0 (Below w.heap.size w wi) ∧ Aside0 (wi.heap[w.heap.size]? = some (.cells (boolsOf m) 97 (0, 0))))
 case atStart => exact ⟨0, by omega, ⟨rfl⟩, by rw [Nat.pow_zero, Nat.mod_one]; rfl, rfl, rfl, ⟨(Below.refl _ _).alloc (Nat.le_refl _) _⟩, ⟨blk_new _ _⟩⟩
 case round =>
  obtain ⟨i, hi, HK, rfl, rfl, rfl, HB, HL⟩ := hrel
  have i0 : (0 : Int) ≤ (i : Int) := by omega
  by_cases h : i < 10
  ·have h' : (i : Int) < 10 := by omega
   have ki : wr.cell? ⟨w.heap.size, i, none⟩ = some (.bool (m.testBit i)) := (blk_cell HL.out _).trans (boolsOf_at m _ (by omega))
   have hmod : m % 2 ^ (i + 1) = m % 2 ^ i + 2 ^ i * (m / 2 ^ i % 2) := Nat.mod_pow_succ
   have hpw : 2 ^ i < 2 ^ 10 := Nat.pow_lt_pow_right (by decide) h
   have hp2 : 2 ^ (i + 1) = 2 * 2 ^ i := by rw [Nat.pow_succ]; omega
   have hml : m % 2 ^ i < 2 ^ i := Nat.mod_lt _ (Nat.two_pow_pos i)
   have htb := Nat.testBit_eq_decide_div_mod_eq (x := m) (i := i)
   obtain ⟨z, hz⟩ : ∃ z, 2 ^ i = z := ⟨_, rfl⟩
   rw [hz] at hmod hpw hp2 hml htb ⊢
   obtain ⟨y, hy⟩ : ∃ y, m % z = y := ⟨_, rfl⟩
   rw [hy] at hmod hml ⊢
   have w1 : IntKind.u16.wrap ((y : Int) + (z : Int)) = ((y + z : Nat) : Int) := by rw [IntKind.wrap_u16]; omega
   have w2 : IntKind.u16.wrap (2 * (z : Int)) = ((2 * z : Nat) : Int) := by rw [IntKind.wrap_u16]; omega
   have w1' : ((y : Int) + (z : Int)) % 65536 = ((y + z : Nat) : Int) := by omega
   have w2' : (2 * (z : Int)) % 65536 = ((2 * z : Nat) : Int) := by omega
   have HMOD := Aside0.mk hmod
   have HP2 := Aside0.mk hp2
   clear hmod hp2 hml hz hy
   cases ht : m.testBit i with
   | true =>
    rw [ht] at ki
    have hd : m / z % 2 = 1 := of_decide_eq_true (htb.symm.trans ht)
    clear htb ht
    go_wp2
    go_roundg (9 - i)
    case measure => have := HK.out; omega
    case rel => exact ⟨i + 1, by omega, ⟨by omega⟩, by rw [HMOD.out, hd, Nat.mul_one]; rfl, by rw [HP2.out]; rfl, by go_num, HB, HL⟩
   | false =>
    rw [ht] at ki
    have hd : m / z % 2 = 0 := by
     have := of_decide_eq_false (htb.symm.trans ht)
     omega
    clear htb ht
    go_wp2
    go_roundg (9 - i)
    case measure => have := HK.out; omega
    case rel => exact ⟨i + 1, by omega, ⟨by omega⟩, by rw [HMOD.out, hd, Nat.mul_zero, Nat.add_zero], by rw [HP2.out]; rfl, by go_num, HB, HL⟩
  ·obtain rfl : i = 10 := by omega
   have hmm : m % 2 ^ 10 = m := Nat.mod_eq_of_lt (by omega)
   rw [hmm]
   go_wp2
   go_ret
   exact ⟨rfl, HB.out⟩
theorem digs_lt (s : ByteArray) : ∀ (n p m : Nat), m < 1024 → (digs s n p m).2.2 < 1024
 | 0, _, _, h => h
 | n + 1, p, m, h => by
  rw [digs_succ]
  by_cases c : p < s.size ∧ 48 ≤ bt s p ∧ bt s p ≤ 57
  ·rw [if_pos c]
   by_cases d : m.testBit (bt s p - 48).toNat = true
   ·rw [if_pos d]; exact h
   ·rw [if_neg d]; exact digs_lt s n (p + 1) _ (or_lt m _ h (by omega))
  ·rw [if_neg c]; exact h
theorem digs_le (s : ByteArray) : ∀ (n p m : Nat), (digs s n p m).2.1 ≤ max p s.size
 | 0, p, _ => Nat.le_max_left _ _
 | n + 1, p, m => by
  rw [digs_succ]
  by_cases c : p < s.size ∧ 48 ≤ bt s p ∧ bt s p ≤ 57
  ·rw [if_pos c]
   by_cases d : m.testBit (bt s p - 48).toNat = true
   ·rw [if_pos d]; exact Nat.le_max_left _ _
   ·rw [if_neg d]
    have := digs_le s n (p + 1) (m ||| 2 ^ (bt s p - 48).toNat)
    omega
  ·rw [if_neg c]; exact Nat.le_max_left _ _
theorem firstBig_succ (s : ByteArray) (g : Int) (n p : Nat) : firstBig s g (n + 1) p = if p < s.size then (if 48 ≤ bt s p ∧ bt s p ≤ 57 ∧ g < bt s p - 48 then some p else firstBig s g n (p + 1)) else none := rfl
def tailOf (h : Int) (m0 m1 : Nat) : Option Nat → Int × Int × Int × Int × Int
 | some i => (0, 0, 0, (i : Int), 82)
 | none => (h, (m0 : Int), (m1 : Int), 0, 0)
theorem blk_drawn {w w' : World} {g : Nat} {o : Obj} (h : w.heap[g]? = some o) (hd : Drawn0 w w') : w'.heap[g]? = some o := by
 obtain ⟨n, rfl⟩ := hd
 exact h
theorem row_old {W : World} {g : Nat} {o : Obj} (hg : W.heap[g]? = some o) (o' : Obj) (cs : Array Value) : ((W.alloc o').setRow W.heap.size cs).heap[g]? = some o := by
 have hlt := blk_lt hg
 rw [setRow_other _ _ _ _ (by omega)]
 exact blk_alloc hg o'
theorem row_new (W : World) (old cs : Array Value) (t : TypeId) : ((W.alloc (.cells old t (0, 0))).setRow W.heap.size cs).heap[W.heap.size]? = some (.cells cs t (0, 0)) := setRow_heap _ _ _ _ _ _ (blk_new W _)
theorem load_row_run {P : Program} {o : Oper} {a : Act} {W : World} {ty : TypeId} {x : Operand} {g : Nat} {t : TypeId} {cs : Array Value} {fr : Nat × Nat} {d : TypeDesc} (ho : o.op = .load ty x) (hx : a.eval x = .pointer (some ⟨g, 0, none⟩)) (hg : W.heap[g]? = some (.cells cs t fr))
  (hu : P.underlying ty = some d) (hd : (match d with | .struct _ | .array _ _ => true | _ => false) = true) (hi : (P.info? ty).map (·.size) = some cs.size) : (execOp a.eval o).run P W = .ok (.value (.agg cs)) W := by
 unfold execOp
 simp only [ho, hx, Instr.loadAt, Instr.sureAddr, Sem.run_bind, Sem.run_pure, Result.andThen_ok, run_loadVar_row W g t ty cs fr d hg hu hd hi]
theorem store_row_step {P : Program} {ops : Array Oper} {o : Oper} {a : Act} {Q : Exit → Act → World → Prop} {Kc : Act → World → Prop} {W : World} (hw : Region.wanted o (yielded ops a.tmps) = true) (ty : TypeId) (x y : Operand) (ho : o.op = .store ty x y)
  (g : Nat) (cells : Array Value) (hx : a.eval x = .pointer (some ⟨g, 0, none⟩)) (hy : a.eval y = .agg cells) (t : TypeId) (old : Array Value) (hg : W.heap[g]? = some (.cells old t (0, 0))) (hi : (P.info? ty).map (·.size) = some cells.size)
  (hold : old.size = cells.size) (h1 : cells.all (·.oneCell') = true) (h : Kc (a.put o.dst undef) (W.setRow g cells)) : if Region.wanted o (yielded ops a.tmps) = true then Oper.wp P o a W Kc Q else Kc (a.put o.dst undef) W := by
 rw [if_pos hw]
 exact wp_store_row ty x y ho g cells hx hy t old hg hi hold h1 h
set_option maxHeartbeats 16000000 in
set_option maxRecDepth 100000 in
theorem Parse_V (s : ByteArray) (w : World) (hs : ¬ (1048576 < (s.size : Int))) (hs' : s.size ≤ 1048576) (r1 r2 r3 r4 r5 : Int) (q m q2 m2 : Nat) (C1 : Aside0 (decide (isL s 0 66) = true)) (hm : m < 1024) (hq : q ≤ s.size + 1) (HD : Aside0 (digs s s.size 1 0 = (false, q, m))) (q0 : (0 : Int) ≤ (q : Int)) (q00 : (q : Int) < 1000000000) (c2 : q < s.size) (c2' : (q : Int) < (s.size : Int)) (c2n : ¬ s.size ≤ q) (c2d : decide (s.size ≤ q) = false) (hbt : ∀ hh : q < s.size, ((s[q]'hh).toNat : Int) = 47) (C4 : Aside0 (decide (isL s (q + 1) 83) = true)) (hm2 : m2 < 1024) (hq2 : q2 ≤ s.size + 2) (HD2 : Aside0 (digs s s.size (q + 1 + 1) 0 = (false, q2, m2))) (p0 : (0 : Int) ≤ (q2 : Int)) (p00 : (q2 : Int) < 1000000000) (HS5 : Aside0 (lifeTail s q2 m m2 = (r1, r2, r3, r4, r5))) (v1 : isL s q2 86) :
  Calls Tryd.prog 34 #[.string s] w fun e w' => e = .returned (.tuple #[.agg #[.int .u8 r1, .int .u16 r2, .int .u16 r3], .int .i64 r4, .int .i64 r5]) ∧ Below w.heap.size w w' := by
 go_enter Tryd.func34, Tryd.ntmps34
 go_wp2_with (first | (go_at_call_of 57 (Value.int .u8 66); go_must (refine (is_calls s (0) (0) rfl 66 (by omega) true C1.out _).mono ?_); rintro e w1 ⟨rfl, hd⟩; have HR1 := Aside0.mk (blk_drawn (blk_new w _) hd); have HB1 := Aside0.mk (below_step (below_alloc (Below.refl w.heap.size w) _) hd.below); clear hd) | (go_at_call_of 58 (Value.int .i64 1); go_must (refine (list_calls s hs' 1 1 rfl (by omega) false q m HD.out (-1) rfl _).mono ?_); rintro e w2 ⟨rfl, hb⟩; have HR2 := Aside0.mk (blk_below HR1.out hb); have HB2 := Aside0.mk (below_step HB1.out hb); clear hb) | ((with_reducible refine gate_ (Op.store 97 (.tmp 5) (.tmp 23)) rfl ?_); go_must (refine wpList_store_rowTo rfl 97 (.tmp 5) (.tmp 23) rfl rfl w2.heap.size (boolsOf m) (by kernel_rfl) (by kernel_rfl) 97 #[.bool false, .bool false, .bool false, .bool false, .bool false, .bool false, .bool false, .bool false, .bool false, .bool false] (blk_new w2 _) (boolsOf_info _) (by rw [boolsOf_size _ 0, boolsOf_zero]) (boolsOf_one _) ?_); have HR3 := Aside0.mk (row_old HR2.out (Obj.cells #[.bool false, .bool false, .bool false, .bool false, .bool false, .bool false, .bool false, .bool false, .bool false, .bool false] 97) (boolsOf m)); have HT3 := Aside0.mk (row_new w2 #[.bool false, .bool false, .bool false, .bool false, .bool false, .bool false, .bool false, .bool false, .bool false, .bool false] (boolsOf m) 97); have HB3 := Aside0.mk (below_setRow (below_alloc HB2.out (Obj.cells #[.bool false, .bool false, .bool false, .bool false, .bool false, .bool false, .bool false, .bool false, .bool false, .bool false] 97)) HB2.out.size (boolsOf m)); generalize hw3 : (w2.alloc (Obj.cells #[.bool false, .bool false, .bool false, .bool false, .bool false, .bool false, .bool false, .bool false, .bool false, .bool false] 97)).setRow w2.heap.size (boolsOf m) = w3 at HR3 HT3 HB3 ⊢; clear hw3) | (go_at_call_of 57 (Value.int .u8 83); go_must (refine (is_calls s ((q : Int) + 1) (q + 1) rfl 83 (by omega) true C4.out _).mono ?_); rintro e w4 ⟨rfl, hd⟩; have HR4 := Aside0.mk (blk_drawn (HR3.out) hd); have HT4 := Aside0.mk (blk_drawn (HT3.out) hd); have HB4 := Aside0.mk (below_step (HB3.out) hd.below); clear hd) | (go_at_call 58; go_must (refine (list_calls s hs' ((q : Int) + 1 + 1) (q + 1 + 1) rfl (by omega) false q2 m2 HD2.out (-1) rfl _).mono ?_); rintro e w5 ⟨rfl, hb⟩; have HR5 := Aside0.mk (blk_below HR4.out hb); have HT5 := Aside0.mk (blk_below HT4.out hb); have HB5 := Aside0.mk (below_step HB4.out hb); clear hb) | ((with_reducible refine gate_ (Op.store 97 (.tmp 8) (.tmp 55)) rfl ?_); go_must (refine wpList_store_rowTo rfl 97 (.tmp 8) (.tmp 55) rfl rfl w5.heap.size (boolsOf m2) (by kernel_rfl) (by kernel_rfl) 97 #[.bool false, .bool false, .bool false, .bool false, .bool false, .bool false, .bool false, .bool false, .bool false, .bool false] (blk_new w5 _) (boolsOf_info _) (by rw [boolsOf_size _ 0, boolsOf_zero]) (boolsOf_one _) ?_); have HR6 := Aside0.mk (row_old HR5.out (Obj.cells #[.bool false, .bool false, .bool false, .bool false, .bool false, .bool false, .bool false, .bool false, .bool false, .bool false] 97) (boolsOf m2)); have HT6 := Aside0.mk (row_old HT5.out (Obj.cells #[.bool false, .bool false, .bool false, .bool false, .bool false, .bool false, .bool false, .bool false, .bool false, .bool false] 97) (boolsOf m2)); have HU6 := Aside0.mk (row_new w5 #[.bool false, .bool false, .bool false, .bool false, .bool false, .bool false, .bool false, .bool false, .bool false, .bool false] (boolsOf m2) 97); have HB6 := Aside0.mk (below_setRow (below_alloc HB5.out (Obj.cells #[.bool false, .bool false, .bool false, .bool false, .bool false, .bool false, .bool false, .bool false, .bool false, .bool false] 97)) HB5.out.size (boolsOf m2)); generalize hw6 : (w5.alloc (Obj.cells #[.bool false, .bool false, .bool false, .bool false, .bool false, .bool false, .bool false, .bool false, .bool false, .bool false] 97)).setRow w5.heap.size (boolsOf m2) = w6 at HR6 HT6 HU6 HB6 ⊢; clear hw6))
 clear hbt
 refine start_ (n := 7) (S := fun w' => w'.heap[w2.heap.size]? = some (.cells (boolsOf m) 97 (0, 0)) ∧ w'.heap[w5.heap.size]? = some (.cells (boolsOf m2) 97 (0, 0)) ∧ w'.heap[w.heap.size]? = some (.cells #[.int .u8 0, .int .u16 0, .int .u16 0] 40 (0, 0))) (ds := [6]) #[false, false, false, false, false, false, false] (by kernel_rfl) rfl rfl ⟨HT6.out, HU6.out, HR6.out⟩ (fun hHeld => ?_)
 refine take_ (i := 0) (N := some 62) (v := ?_) (a' := ?_) #[true, false, false, false, false, false, false] rfl rfl (by kernel_rfl) (fun _ _ _ h => h) (Or.inl ⟨by rfl, ?_⟩) hHeld ?_ ?_
 rotate_left
 ·rintro w' ⟨s0, s1, s2⟩
  rw [load_row_run (ty := 97) (x := .tmp 5) (hg := s0) (hu := Tryd.underlying97) (hd := rfl) (hi := boolsOf_info _)] <;> rfl
 rotate_left
 ·simp only [Act.put, List.setIfInBounds_toArray, List.set_cons_zero, List.set_cons_succ, i64_w, i32_w]
  rfl
 refine take_ (i := 2) (N := some 64) (v := ?_) (a' := ?_) #[true, false, true, false, false, false, false] rfl rfl (by kernel_rfl) (fun _ _ _ h => h) (Or.inl ⟨by rfl, ?_⟩) hHeld ?_ ?_
 rotate_left
 ·rintro w' ⟨s0, s1, s2⟩
  rw [load_row_run (ty := 97) (x := .tmp 8) (hg := s1) (hu := Tryd.underlying97) (hd := rfl) (hi := boolsOf_info _)] <;> rfl
 rotate_left
 ·simp only [Act.put, List.setIfInBounds_toArray, List.set_cons_zero, List.set_cons_succ, i64_w, i32_w]
  rfl
 refine join_ (σ := Nat) 1 #[true, true, true, true, true, true, false] (fun s_ => [(63, .int .u16 m), (65, .int .u16 m2), (10, .pointer (some ⟨s_, 0, none⟩)), (66, .agg #[.int .u8 1, .int .u16 m, .int .u16 m2])]) (fun s_ w' => (w'.heap[w2.heap.size]? = some (.cells (boolsOf m) 97 (0, 0)) ∧ w'.heap[w5.heap.size]? = some (.cells (boolsOf m2) 97 (0, 0)) ∧ w'.heap[w.heap.size]? = some (.cells #[.int .u8 0, .int .u16 0, .int .u16 0] 40 (0, 0))) ∧ w'.heap[s_]? = some (.cells #[.int .u8 0, .int .u16 0, .int .u16 0] 40 (0, 0)) ∧ Below w.heap.size w w' ∧ w.heap.size < s_) ?_ ?_
 rotate_left
 ·intro hCont
  refine two_ (i := 1) (j := 5) (Ni := some 63) (Nj := some 10) #[true, true, true, false, false, false, false] #[true, false, true, false, false, true, false] rfl rfl rfl rfl (by kernel_rfl) (by decide) (by decide) (fun K hK => ?_) (fun K hK => ?_)
  ·skip
   refine goes_ Tryd.func59 (by kernel_rfl) rfl #[.agg (boolsOf m)] (by rfl) rfl rfl (by simp only [List.map_toArray, List.map_cons, List.map_nil]; rfl) ?_
   with_reducible refine (number_calls m hm _).mono ?_
   rintro e wc1 ⟨rfl, hb⟩
   have HTc1 : Aside0 ((wc1).heap[w2.heap.size]? = some (.cells (boolsOf m) 97 (0, 0))) := ⟨blk_below (w := w6.drew) HT6.out hb⟩
   have HUc1 : Aside0 ((wc1).heap[w5.heap.size]? = some (.cells (boolsOf m2) 97 (0, 0))) := ⟨blk_below (w := w6.drew) HU6.out hb⟩
   have HRc1 : Aside0 ((wc1).heap[w.heap.size]? = some (.cells #[.int .u8 0, .int .u16 0, .int .u16 0] 40 (0, 0))) := ⟨blk_below (w := w6.drew) HR6.out hb⟩
   have HBc1 : Aside0 (Below w.heap.size w (wc1)) := ⟨below_step (below_drew1 HB6.out) hb⟩
   clear hb
   refine ⟨_, rfl, ?_⟩
   refine hK.out _ _ ⟨HTc1.out, HUc1.out, HRc1.out⟩ (fun hHeld => ?_)
   clear hK K
   refine norm_ (a' := ?_) ?_ ?_
   rotate_left
   ·show Act.put _ (some 63) _ = _
    simp only [Act.put, List.setIfInBounds_toArray, List.set_cons_zero, List.set_cons_succ, i64_w, i32_w]
    rfl
   refine two_ (i := 3) (j := 5) (Ni := some 65) (Nj := some 10) #[true, true, true, true, false, false, false] #[true, true, true, false, false, true, false] rfl rfl rfl rfl (by kernel_rfl) (by decide) (by decide) (fun K hK => ?_) (fun K hK => ?_)
   ·skip
    refine goes_ Tryd.func59 (by kernel_rfl) rfl #[.agg (boolsOf m2)] (by rfl) rfl rfl (by simp only [List.map_toArray, List.map_cons, List.map_nil]; rfl) ?_
    with_reducible refine (number_calls m2 hm2 _).mono ?_
    rintro e wc13 ⟨rfl, hb⟩
    have HTc13 : Aside0 ((wc13).heap[w2.heap.size]? = some (.cells (boolsOf m) 97 (0, 0))) := ⟨blk_below (w := wc1) HTc1.out hb⟩
    have HUc13 : Aside0 ((wc13).heap[w5.heap.size]? = some (.cells (boolsOf m2) 97 (0, 0))) := ⟨blk_below (w := wc1) HUc1.out hb⟩
    have HRc13 : Aside0 ((wc13).heap[w.heap.size]? = some (.cells #[.int .u8 0, .int .u16 0, .int .u16 0] 40 (0, 0))) := ⟨blk_below (w := wc1) HRc1.out hb⟩
    have HBc13 : Aside0 (Below w.heap.size w (wc13)) := ⟨below_step HBc1.out hb⟩
    clear hb
    refine ⟨_, rfl, ?_⟩
    refine hK.out _ _ ⟨HTc13.out, HUc13.out, HRc13.out⟩ (fun hHeld => ?_)
    clear hK K
    refine norm_ (a' := ?_) ?_ ?_
    rotate_left
    ·show Act.put _ (some 65) _ = _
     simp only [Act.put, List.setIfInBounds_toArray, List.set_cons_zero, List.set_cons_succ, i64_w, i32_w]
     rfl
    refine pure_ (i := 4) (N := some 66) (v := ?_) (a' := ?_) #[true, true, true, true, true, false, false] rfl rfl (by kernel_rfl) (fun _ _ _ h => h) (Or.inl ⟨by rfl, ?_⟩) ?_ ?_
    rotate_left
    ·intro w'
     go_simp
     with_reducible rfl
    rotate_left
    ·simp only [Act.put, List.setIfInBounds_toArray, List.set_cons_zero, List.set_cons_succ, i64_w, i32_w]
     rfl
    refine one_ (i := 5) (N := some 10) #[true, true, true, true, true, true, false] rfl rfl (by kernel_rfl) (by decide) (fun K hK => ?_)
    refine value_ (w1 := ?_) (v := ?_) (by rfl) rfl ?_ ?_
    rotate_left 2
    ·go_simp
     constructor
     ·rfl
     ·rfl
    have HTc135 : Aside0 (((wc13).alloc (Obj.cells #[.int .u8 0, .int .u16 0, .int .u16 0] 40)).heap[w2.heap.size]? = some (.cells (boolsOf m) 97 (0, 0))) := ⟨blk_alloc (w := wc13) HTc13.out _⟩
    have HUc135 : Aside0 (((wc13).alloc (Obj.cells #[.int .u8 0, .int .u16 0, .int .u16 0] 40)).heap[w5.heap.size]? = some (.cells (boolsOf m2) 97 (0, 0))) := ⟨blk_alloc (w := wc13) HUc13.out _⟩
    have HRc135 : Aside0 (((wc13).alloc (Obj.cells #[.int .u8 0, .int .u16 0, .int .u16 0] 40)).heap[w.heap.size]? = some (.cells #[.int .u8 0, .int .u16 0, .int .u16 0] 40 (0, 0))) := ⟨blk_alloc (w := wc13) HRc13.out _⟩
    have HLc135 : Aside0 (((wc13).alloc (Obj.cells #[.int .u8 0, .int .u16 0, .int .u16 0] 40)).heap[(wc13).heap.size]? = some (Obj.cells #[.int .u8 0, .int .u16 0, .int .u16 0] 40)) := ⟨blk_new (wc13) _⟩
    have HBc135 : Aside0 (Below w.heap.size w ((wc13).alloc (Obj.cells #[.int .u8 0, .int .u16 0, .int .u16 0] 40))) := ⟨below_alloc HBc13.out _⟩
    refine hK.out _ _ ⟨HTc135.out, HUc135.out, HRc135.out⟩ (fun hHeld => ?_)
    clear hK K
    refine norm_ (a' := ?_) ?_ ?_
    rotate_left
    ·show Act.put _ (some 10) _ = _
     simp only [Act.put, List.setIfInBounds_toArray, List.set_cons_zero, List.set_cons_succ, i64_w, i32_w]
     rfl
    exact norm_ (by simp only [putAll, Act.put, List.setIfInBounds_toArray, List.set_cons_zero, List.set_cons_succ]) (hCont (wc13.heap.size) _ ⟨⟨HTc135.out, HUc135.out, HRc135.out⟩, HLc135.out, HBc135.out, blk_lt HRc13.out⟩)
   ·skip
    refine value_ (w1 := ?_) (v := ?_) (by rfl) rfl ?_ ?_
    rotate_left 2
    ·go_simp
     constructor
     ·rfl
     ·rfl
    have HTc15 : Aside0 (((wc1).alloc (Obj.cells #[.int .u8 0, .int .u16 0, .int .u16 0] 40)).heap[w2.heap.size]? = some (.cells (boolsOf m) 97 (0, 0))) := ⟨blk_alloc (w := wc1) HTc1.out _⟩
    have HUc15 : Aside0 (((wc1).alloc (Obj.cells #[.int .u8 0, .int .u16 0, .int .u16 0] 40)).heap[w5.heap.size]? = some (.cells (boolsOf m2) 97 (0, 0))) := ⟨blk_alloc (w := wc1) HUc1.out _⟩
    have HRc15 : Aside0 (((wc1).alloc (Obj.cells #[.int .u8 0, .int .u16 0, .int .u16 0] 40)).heap[w.heap.size]? = some (.cells #[.int .u8 0, .int .u16 0, .int .u16 0] 40 (0, 0))) := ⟨blk_alloc (w := wc1) HRc1.out _⟩
    have HLc15 : Aside0 (((wc1).alloc (Obj.cells #[.int .u8 0, .int .u16 0, .int .u16 0] 40)).heap[(wc1).heap.size]? = some (Obj.cells #[.int .u8 0, .int .u16 0, .int .u16 0] 40)) := ⟨blk_new (wc1) _⟩
    have HBc15 : Aside0 (Below w.heap.size w ((wc1).alloc (Obj.cells #[.int .u8 0, .int .u16 0, .int .u16 0] 40))) := ⟨below_alloc HBc1.out _⟩
    refine hK.out _ _ ⟨HTc15.out, HUc15.out, HRc15.out⟩ (fun hHeld => ?_)
    clear hK K
    refine norm_ (a' := ?_) ?_ ?_
    rotate_left
    ·show Act.put _ (some 10) _ = _
     simp only [Act.put, List.setIfInBounds_toArray, List.set_cons_zero, List.set_cons_succ, i64_w, i32_w]
     rfl
    refine one_ (i := 3) (N := some 65) #[true, true, true, true, false, true, false] rfl rfl (by kernel_rfl) (by decide) (fun K hK => ?_)
    refine goes_ Tryd.func59 (by kernel_rfl) rfl #[.agg (boolsOf m2)] (by rfl) rfl rfl (by simp only [List.map_toArray, List.map_cons, List.map_nil]; rfl) ?_
    with_reducible refine (number_calls m2 hm2 _).mono ?_
    rintro e wc153 ⟨rfl, hb⟩
    have HTc153 : Aside0 ((wc153).heap[w2.heap.size]? = some (.cells (boolsOf m) 97 (0, 0))) := ⟨blk_below (w := (wc1).alloc (Obj.cells #[.int .u8 0, .int .u16 0, .int .u16 0] 40)) HTc15.out hb⟩
    have HUc153 : Aside0 ((wc153).heap[w5.heap.size]? = some (.cells (boolsOf m2) 97 (0, 0))) := ⟨blk_below (w := (wc1).alloc (Obj.cells #[.int .u8 0, .int .u16 0, .int .u16 0] 40)) HUc15.out hb⟩
    have HRc153 : Aside0 ((wc153).heap[w.heap.size]? = some (.cells #[.int .u8 0, .int .u16 0, .int .u16 0] 40 (0, 0))) := ⟨blk_below (w := (wc1).alloc (Obj.cells #[.int .u8 0, .int .u16 0, .int .u16 0] 40)) HRc15.out hb⟩
    have HLc153 : Aside0 ((wc153).heap[wc1.heap.size]? = some (.cells #[.int .u8 0, .int .u16 0, .int .u16 0] 40 (0, 0))) := ⟨blk_below (w := (wc1).alloc (Obj.cells #[.int .u8 0, .int .u16 0, .int .u16 0] 40)) HLc15.out hb⟩
    have HBc153 : Aside0 (Below w.heap.size w (wc153)) := ⟨below_step HBc15.out hb⟩
    clear hb
    refine ⟨_, rfl, ?_⟩
    refine hK.out _ _ ⟨HTc153.out, HUc153.out, HRc153.out⟩ (fun hHeld => ?_)
    clear hK K
    refine norm_ (a' := ?_) ?_ ?_
    rotate_left
    ·show Act.put _ (some 65) _ = _
     simp only [Act.put, List.setIfInBounds_toArray, List.set_cons_zero, List.set_cons_succ, i64_w, i32_w]
     rfl
    refine pure_ (i := 4) (N := some 66) (v := ?_) (a' := ?_) #[true, true, true, true, true, true, false] rfl rfl (by kernel_rfl) (fun _ _ _ h => h) (Or.inl ⟨by rfl, ?_⟩) ?_ ?_
    rotate_left
    ·intro w'
     go_simp
     with_reducible rfl
    rotate_left
    ·simp only [Act.put, List.setIfInBounds_toArray, List.set_cons_zero, List.set_cons_succ, i64_w, i32_w]
     rfl
    exact norm_ (by simp only [putAll, Act.put, List.setIfInBounds_toArray, List.set_cons_zero, List.set_cons_succ]) (hCont (wc1.heap.size) _ ⟨⟨HTc153.out, HUc153.out, HRc153.out⟩, HLc153.out, HBc153.out, blk_lt HRc1.out⟩)
  ·skip
   refine value_ (w1 := ?_) (v := ?_) (by rfl) rfl ?_ ?_
   rotate_left 2
   ·go_simp
    constructor
    ·rfl
    ·rfl
   have HTc5 : Aside0 (((w6.drew).alloc (Obj.cells #[.int .u8 0, .int .u16 0, .int .u16 0] 40)).heap[w2.heap.size]? = some (.cells (boolsOf m) 97 (0, 0))) := ⟨blk_alloc (w := w6.drew) HT6.out _⟩
   have HUc5 : Aside0 (((w6.drew).alloc (Obj.cells #[.int .u8 0, .int .u16 0, .int .u16 0] 40)).heap[w5.heap.size]? = some (.cells (boolsOf m2) 97 (0, 0))) := ⟨blk_alloc (w := w6.drew) HU6.out _⟩
   have HRc5 : Aside0 (((w6.drew).alloc (Obj.cells #[.int .u8 0, .int .u16 0, .int .u16 0] 40)).heap[w.heap.size]? = some (.cells #[.int .u8 0, .int .u16 0, .int .u16 0] 40 (0, 0))) := ⟨blk_alloc (w := w6.drew) HR6.out _⟩
   have HLc5 : Aside0 (((w6.drew).alloc (Obj.cells #[.int .u8 0, .int .u16 0, .int .u16 0] 40)).heap[(w6.drew).heap.size]? = some (Obj.cells #[.int .u8 0, .int .u16 0, .int .u16 0] 40)) := ⟨blk_new (w6.drew) _⟩
   have HBc5 : Aside0 (Below w.heap.size w ((w6.drew).alloc (Obj.cells #[.int .u8 0, .int .u16 0, .int .u16 0] 40))) := ⟨below_alloc (below_drew1 HB6.out) _⟩
   refine hK.out _ _ ⟨HTc5.out, HUc5.out, HRc5.out⟩ (fun hHeld => ?_)
   clear hK K
   refine norm_ (a' := ?_) ?_ ?_
   rotate_left
   ·show Act.put _ (some 10) _ = _
    simp only [Act.put, List.setIfInBounds_toArray, List.set_cons_zero, List.set_cons_succ, i64_w, i32_w]
    rfl
   refine one_ (i := 1) (N := some 63) #[true, true, true, false, false, true, false] rfl rfl (by kernel_rfl) (by decide) (fun K hK => ?_)
   refine goes_ Tryd.func59 (by kernel_rfl) rfl #[.agg (boolsOf m)] (by rfl) rfl rfl (by simp only [List.map_toArray, List.map_cons, List.map_nil]; rfl) ?_
   with_reducible refine (number_calls m hm _).mono ?_
   rintro e wc51 ⟨rfl, hb⟩
   have HTc51 : Aside0 ((wc51).heap[w2.heap.size]? = some (.cells (boolsOf m) 97 (0, 0))) := ⟨blk_below (w := (w6.drew).alloc (Obj.cells #[.int .u8 0, .int .u16 0, .int .u16 0] 40)) HTc5.out hb⟩
   have HUc51 : Aside0 ((wc51).heap[w5.heap.size]? = some (.cells (boolsOf m2) 97 (0, 0))) := ⟨blk_below (w := (w6.drew).alloc (Obj.cells #[.int .u8 0, .int .u16 0, .int .u16 0] 40)) HUc5.out hb⟩
   have HRc51 : Aside0 ((wc51).heap[w.heap.size]? = some (.cells #[.int .u8 0, .int .u16 0, .int .u16 0] 40 (0, 0))) := ⟨blk_below (w := (w6.drew).alloc (Obj.cells #[.int .u8 0, .int .u16 0, .int .u16 0] 40)) HRc5.out hb⟩
   have HLc51 : Aside0 ((wc51).heap[w6.heap.size]? = some (.cells #[.int .u8 0, .int .u16 0, .int .u16 0] 40 (0, 0))) := ⟨blk_below (w := (w6.drew).alloc (Obj.cells #[.int .u8 0, .int .u16 0, .int .u16 0] 40)) HLc5.out hb⟩
   have HBc51 : Aside0 (Below w.heap.size w (wc51)) := ⟨below_step HBc5.out hb⟩
   clear hb
   refine ⟨_, rfl, ?_⟩
   refine hK.out _ _ ⟨HTc51.out, HUc51.out, HRc51.out⟩ (fun hHeld => ?_)
   clear hK K
   refine norm_ (a' := ?_) ?_ ?_
   rotate_left
   ·show Act.put _ (some 63) _ = _
    simp only [Act.put, List.setIfInBounds_toArray, List.set_cons_zero, List.set_cons_succ, i64_w, i32_w]
    rfl
   refine one_ (i := 3) (N := some 65) #[true, true, true, true, false, true, false] rfl rfl (by kernel_rfl) (by decide) (fun K hK => ?_)
   refine goes_ Tryd.func59 (by kernel_rfl) rfl #[.agg (boolsOf m2)] (by rfl) rfl rfl (by simp only [List.map_toArray, List.map_cons, List.map_nil]; rfl) ?_
   with_reducible refine (number_calls m2 hm2 _).mono ?_
   rintro e wc513 ⟨rfl, hb⟩
   have HTc513 : Aside0 ((wc513).heap[w2.heap.size]? = some (.cells (boolsOf m) 97 (0, 0))) := ⟨blk_below (w := wc51) HTc51.out hb⟩
   have HUc513 : Aside0 ((wc513).heap[w5.heap.size]? = some (.cells (boolsOf m2) 97 (0, 0))) := ⟨blk_below (w := wc51) HUc51.out hb⟩
   have HRc513 : Aside0 ((wc513).heap[w.heap.size]? = some (.cells #[.int .u8 0, .int .u16 0, .int .u16 0] 40 (0, 0))) := ⟨blk_below (w := wc51) HRc51.out hb⟩
   have HLc513 : Aside0 ((wc513).heap[w6.heap.size]? = some (.cells #[.int .u8 0, .int .u16 0, .int .u16 0] 40 (0, 0))) := ⟨blk_below (w := wc51) HLc51.out hb⟩
   have HBc513 : Aside0 (Below w.heap.size w (wc513)) := ⟨below_step HBc51.out hb⟩
   clear hb
   refine ⟨_, rfl, ?_⟩
   refine hK.out _ _ ⟨HTc513.out, HUc513.out, HRc513.out⟩ (fun hHeld => ?_)
   clear hK K
   refine norm_ (a' := ?_) ?_ ?_
   rotate_left
   ·show Act.put _ (some 65) _ = _
    simp only [Act.put, List.setIfInBounds_toArray, List.set_cons_zero, List.set_cons_succ, i64_w, i32_w]
    rfl
   refine pure_ (i := 4) (N := some 66) (v := ?_) (a' := ?_) #[true, true, true, true, true, true, false] rfl rfl (by kernel_rfl) (fun _ _ _ h => h) (Or.inl ⟨by rfl, ?_⟩) ?_ ?_
   rotate_left
   ·intro w'
    go_simp
    with_reducible rfl
   rotate_left
   ·simp only [Act.put, List.setIfInBounds_toArray, List.set_cons_zero, List.set_cons_succ, i64_w, i32_w]
    rfl
   exact norm_ (by simp only [putAll, Act.put, List.setIfInBounds_toArray, List.set_cons_zero, List.set_cons_succ]) (hCont (w6.heap.size) _ ⟨⟨HTc513.out, HUc513.out, HRc513.out⟩, HLc513.out, HBc513.out, blk_lt HR6.out⟩)
 rintro g w9 ⟨⟨hT, hU, hR⟩, hL, hB, hne⟩
 have hHeld : _ ∧ _ ∧ _ := ⟨hT, hU, hR⟩
 have HT9 := Aside0.mk hT
 have HU9 := Aside0.mk hU
 have HR9 := Aside0.mk hR
 have HL9 := Aside0.mk hL
 have HB9 := Aside0.mk hB
 clear hT hU hR hL hB
 refine norm_ (a' := ?_) ?_ ?_
 rotate_left
 ·simp only [putAll, Act.put, List.setIfInBounds_toArray, List.set_cons_zero, List.set_cons_succ]
  rfl
 refine last_ (i := 6) (N := none) #[true, true, true, true, true, true, true] rfl rfl (by kernel_rfl) (by decide) (fun K hK => ?_)
 refine store_row_step (by rfl) 40 (.tmp 10) (.tmp 66) rfl g #[.int .u8 1, .int .u16 m, .int .u16 m2] (by rfl) (by rfl) 40 #[.int .u8 0, .int .u16 0, .int .u16 0] HL9.out (by kernel_rfl) rfl (by simp [Value.oneCell']) ?_
 have HR10 := Aside0.mk ((setRow_other w9 g w.heap.size #[.int .u8 1, .int .u16 m, .int .u16 m2] (Nat.ne_of_lt hne)).trans HR9.out)
 have HL10 := Aside0.mk (setRow_heap w9 g _ #[.int .u8 1, .int .u16 m, .int .u16 m2] _ _ HL9.out)
 have HB10 := Aside0.mk (below_setRow HB9.out (Nat.le_of_lt hne) #[.int .u8 1, .int .u16 m, .int .u16 m2])
 generalize hw10 : World.setRow w9 g #[.int .u8 1, .int .u16 m, .int .u16 m2] = w10 at HR10 HL10 HB10 ⊢
 clear hw10
 refine hK.out _ _ ?_
 clear hK K
 refine done_ (by kernel_rfl) ?_
 have gne : ¬ g = w.heap.size := Nat.ne_of_gt hne
 have gne' : ¬ w.heap.size = g := Nat.ne_of_lt hne
 have hh := HS5.out
 clear HS5
 have C5 := Aside0.mk (decide_eq_true v1)
 have hho := hood_v s q2 v1.1 v1.2
 rw [tail_v s q2 m m2 _ hho (by decide)] at hh
 clear hho v1
 by_cases q1 : q2 + 1 < s.size
 ·have q1' : (q2 : Int) + 1 < (s.size : Int) := by omega
  have q1n : ¬ s.size ≤ q2 + 1 := by omega
  rw [if_pos q1] at hh
  simp only [Prod.mk.injEq] at hh
  obtain ⟨rfl, rfl, rfl, rfl, rfl⟩ := hh
  go_wp2_with (first | (go_at_call_of 57 (Value.int .u8 86); go_must (refine (is_calls s q2 q2 rfl 86 (by omega) true C5.out _).mono ?_); rintro e w11 ⟨rfl, hd⟩; have HR11 := Aside0.mk (blk_drawn HR10.out hd); have HL11 := Aside0.mk (blk_drawn HL10.out hd); have HB11 := Aside0.mk (below_step HB10.out hd.below); clear hd; have k0 : w11.cell? ⟨w.heap.size, 0, none⟩ = some (.int .u8 0) := blk_cell HR11.out 0; have z0 := blk_frozen HR11.out 0; have k1 : w11.cell? ⟨w.heap.size, 1, none⟩ = some (.int .u16 0) := blk_cell HR11.out 1; have z1 := blk_frozen HR11.out 1; have k2 : w11.cell? ⟨w.heap.size, 2, none⟩ = some (.int .u16 0) := blk_cell HR11.out 2; have z2 := blk_frozen HR11.out 2; have l0 : w11.cell? ⟨g, 0, none⟩ = some (.int .u8 1) := blk_cell HL11.out 0; have y0 := blk_frozen HL11.out 0; have l1 : w11.cell? ⟨g, 1, none⟩ = some (.int .u16 m) := blk_cell HL11.out 1; have y1 := blk_frozen HL11.out 1; have l2 : w11.cell? ⟨g, 2, none⟩ = some (.int .u16 m2) := blk_cell HL11.out 2; have y2 := blk_frozen HL11.out 2))
  try rw [Exit.noGoto_ret]
  refine bodyPost_ret (v := .tuple #[.agg #[.int .u8 0, .int .u16 0, .int .u16 0], .int .i64 ((q2 + 1 : Nat) : Int), .int .i64 80]) (by simp [results, Tryd.results34, go_sem, *]) rfl ⟨rfl, ?_⟩
  repeat (first | exact HB11.out | apply below_alloc | apply pw_below_drewN | apply below_drew1 | refine below_set ?_ (Nat.le_refl _) | refine below_set ?_ (Nat.le_of_lt hne))
 ·have q1' : ¬ (q2 : Int) + 1 < (s.size : Int) := by omega
  rw [if_neg q1] at hh
  have HS6 := Aside0.mk hh
  have q1d : decide ((q2 : Int) + 1 < (s.size : Int)) = false := decide_eq_false q1'
  clear hh q1 q1'
  go_wp2_with (first | (go_at_call_of 57 (Value.int .u8 86); go_must (refine (is_calls s q2 q2 rfl 86 (by omega) true C5.out _).mono ?_); rintro e w11 ⟨rfl, hd⟩; have HR11 := Aside0.mk (blk_drawn HR10.out hd); have HL11 := Aside0.mk (blk_drawn HL10.out hd); have HB11 := Aside0.mk (below_step HB10.out hd.below); clear hd; have k0 : w11.cell? ⟨w.heap.size, 0, none⟩ = some (.int .u8 0) := blk_cell HR11.out 0; have z0 := blk_frozen HR11.out 0; have k1 : w11.cell? ⟨w.heap.size, 1, none⟩ = some (.int .u16 0) := blk_cell HR11.out 1; have z1 := blk_frozen HR11.out 1; have k2 : w11.cell? ⟨w.heap.size, 2, none⟩ = some (.int .u16 0) := blk_cell HR11.out 2; have z2 := blk_frozen HR11.out 2; have l0 : w11.cell? ⟨g, 0, none⟩ = some (.int .u8 1) := blk_cell HL11.out 0; have y0 := blk_frozen HL11.out 0; have l1 : w11.cell? ⟨g, 1, none⟩ = some (.int .u16 m) := blk_cell HL11.out 1; have y1 := blk_frozen HL11.out 1; have l2 : w11.cell? ⟨g, 2, none⟩ = some (.int .u16 m2) := blk_cell HL11.out 2; have y2 := blk_frozen HL11.out 2))
  have HS7' : tailOf 2 m m2 (firstBig s 4 s.size 0) = (r1, r2, r3, r4, r5) := by
   have h6 := HS6.out
   cases hf : firstBig s (mostOf 2) s.size 0 with
   | none => rw [hf] at h6; rw [show firstBig s 4 s.size 0 = none from hf]; exact h6
   | some x => rw [hf] at h6; rw [show firstBig s 4 s.size 0 = some x from hf]; exact h6
  obtain ⟨fb, hfb⟩ : ∃ fb, firstBig s 4 s.size 0 = fb := ⟨_, rfl⟩
  rw [hfb] at HS7'
  have HS7 := Aside0.mk HS7'
  clear HS7'
  have HFB := Aside0.mk hfb
  clear hfb HS6 hHeld
  go_loopg [11] s.size (fun k t11 wi => ∃ i : Nat, i ≤ s.size ∧ t11 = .int .i64 i ∧ Aside0 (firstBig s 4 k i = fb) ∧ Aside0 (s.size ≤ k + i) ∧ Aside0 (Below w.heap.size w wi) ∧ Aside0 (wi.heap[w.heap.size]? = some (.cells #[.int .u8 0, .int .u16 0, .int .u16 0] 40 (0, 0))) ∧ Aside0 (wi.heap[g]? = some (.cells #[.int .u8 2, .int .u16 m, .int .u16 m2] 40 (0, 0))))
  case atStart => exact ⟨0, by omega, rfl, HFB, ⟨by omega⟩, ⟨below_set HB11.out (Nat.le_of_lt hne)⟩, ⟨blk_far HR11.out (by show w.heap.size ≠ g; exact gne') _⟩, ⟨blk_put HL11.out 0 _ rfl⟩⟩
  case round =>
   obtain ⟨i, hi, rfl, HF, HN, HB, HR, HL⟩ := hrel
   have i0 : (0 : Int) ≤ (i : Int) := by omega
   have i00 : (i : Int) < 1000000000 := by omega
   have k0 : wr.cell? ⟨w.heap.size, 0, none⟩ = some (.int .u8 0) := blk_cell HR.out 0
   have z0 := blk_frozen HR.out 0
   have k1 : wr.cell? ⟨w.heap.size, 1, none⟩ = some (.int .u16 0) := blk_cell HR.out 1
   have z1 := blk_frozen HR.out 1
   have k2 : wr.cell? ⟨w.heap.size, 2, none⟩ = some (.int .u16 0) := blk_cell HR.out 2
   have z2 := blk_frozen HR.out 2
   have l0 : wr.cell? ⟨g, 0, none⟩ = some (.int .u8 2) := blk_cell HL.out 0
   have y0 := blk_frozen HL.out 0
   have l1 : wr.cell? ⟨g, 1, none⟩ = some (.int .u16 m) := blk_cell HL.out 1
   have y1 := blk_frozen HL.out 1
   have l2 : wr.cell? ⟨g, 2, none⟩ = some (.int .u16 m2) := blk_cell HL.out 2
   have y2 := blk_frozen HL.out 2
   by_cases d1 : i < s.size
   ·have d1d : decide ((i : Int) < (s.size : Int)) = true := decide_eq_true (by omega)
    have d1' : (i : Int) < (s.size : Int) := by omega
    have hbt : ∀ hh : i < s.size, ((s[i]'hh).toNat : Int) = bt s (i : Int) := bt_at s (i : Int)
    have hbr := bt_range s (i : Int)
    obtain ⟨b, hb⟩ : ∃ b, bt s (i : Int) = b := ⟨_, rfl⟩
    rw [hb] at hbt hbr
    have HB' := Aside0.mk hb
    clear hb
    cases gk with
    | zero => exact absurd HN.out (by omega)
    | succ gk =>
    have hi1 : i + 1 ≤ s.size := d1
    have HW : Aside0 (wrap64 ((i : Int) + 1) = ((i + 1 : Nat) : Int)) := ⟨by unfold wrap64; omega⟩
    have hnn : Aside0 (s.size ≤ gk + (i + 1)) := ⟨by have := HN.out; omega⟩
    have hf := HF.out
    rw [firstBig_succ, if_pos d1, HB'.out] at hf
    by_cases d2 : 48 ≤ b
    ·have d2d : decide (48 ≤ b) = true := decide_eq_true d2
     by_cases d3 : b ≤ 57
     ·have d3d : decide (b ≤ 57) = true := decide_eq_true d3
      have HW8 : Aside0 (wrap64 (IntKind.u8.wrap (b - 48)) = b - 48) := ⟨by rw [show IntKind.u8.wrap (b - 48) = b - 48 from by rw [IntKind.wrap_u8]; omega]; unfold wrap64; omega⟩
      by_cases d4 : 4 < b - 48
      ·have d4d : decide (4 < wrap64 (IntKind.u8.wrap (b - 48))) = true := decide_eq_true (by rw [HW8.out]; exact d4)
       rw [if_pos ⟨d2, d3, d4⟩] at hf
       have HF2 := Aside0.mk hf
       clear hf d2 d3 d4
       go_wp2_with fail
       refine start_ (n := 21) (S := fun w' => w'.cell? ⟨g, 0, none⟩ = some (.int .u8 2)) (ds := []) #[false, false, false, false, false, false, false, false, false, false, false, false, false, false, false, false, false, false, false, false, false] (by kernel_rfl) rfl rfl ((blk_cell HL.out 0)) (fun hHeld => ?_)
       refine pure_ (i := 0) (N := some 91) (v := ?_) (a' := ?_) #[true, false, false, false, false, false, false, false, false, false, false, false, false, false, false, false, false, false, false, false, false] rfl rfl (by kernel_rfl) (fun _ _ _ h => h) (Or.inl ⟨by rfl, ?_⟩) ?_ ?_
       rotate_left
       ·intro w'
        go_simp
        with_reducible rfl
       rotate_left
       ·simp only [Act.put, List.setIfInBounds_toArray, List.set_cons_zero, List.set_cons_succ, i64_w, i32_w]
        rfl
       refine pure_ (i := 1) (N := some 92) (v := ?_) (a' := ?_) #[true, true, false, false, false, false, false, false, false, false, false, false, false, false, false, false, false, false, false, false, false] rfl rfl (by kernel_rfl) (fun _ _ _ h => h) (Or.inl ⟨by rfl, ?_⟩) ?_ ?_
       rotate_left
       ·intro w'
        go_simp
        with_reducible rfl
       rotate_left
       ·simp only [Act.put, List.setIfInBounds_toArray, List.set_cons_zero, List.set_cons_succ, i64_w, i32_w]
        rfl
       refine take_ (i := 2) (N := some 93) (v := ?_) (a' := ?_) #[true, true, true, false, false, false, false, false, false, false, false, false, false, false, false, false, false, false, false, false, false] rfl rfl (by kernel_rfl) (fun _ _ _ h => h) (Or.inl ⟨by rfl, ?_⟩) hHeld ?_ ?_
       rotate_left
       ·intro w' s0
        go_simp
        with_reducible rfl
       rotate_left
       ·simp only [Act.put, List.setIfInBounds_toArray, List.set_cons_zero, List.set_cons_succ, i64_w, i32_w]
        rfl
       refine pure_ (i := 3) (N := some 94) (v := ?_) (a' := ?_) #[true, true, true, true, false, false, false, false, false, false, false, false, false, false, false, false, false, false, false, false, false] rfl rfl (by kernel_rfl) (fun _ _ _ h => h) (Or.inl ⟨by rfl, ?_⟩) ?_ ?_
       rotate_left
       ·intro w'
        go_simp
        with_reducible rfl
       rotate_left
       ·simp only [Act.put, List.setIfInBounds_toArray, List.set_cons_zero, List.set_cons_succ, i64_w, i32_w]
        rfl
       refine pure_ (i := 4) (N := some 95) (v := ?_) (a' := ?_) #[true, true, true, true, true, false, false, false, false, false, false, false, false, false, false, false, false, false, false, false, false] rfl rfl (by kernel_rfl) (fun _ _ _ h => h) (Or.inl ⟨by rfl, ?_⟩) ?_ ?_
       rotate_left
       ·intro w'
        go_simp
        with_reducible rfl
       rotate_left
       ·simp only [Act.put, List.setIfInBounds_toArray, List.set_cons_zero, List.set_cons_succ, i64_w, i32_w]
        rfl
       refine pure_ (i := 5) (N := some 96) (v := ?_) (a' := ?_) #[true, true, true, true, true, true, false, false, false, false, false, false, false, false, false, false, false, false, false, false, false] rfl rfl (by kernel_rfl) (fun _ _ _ h => h) (Or.inl ⟨by rfl, ?_⟩) ?_ ?_
       rotate_left
       ·intro w'
        go_simp
        with_reducible rfl
       rotate_left
       ·simp only [Act.put, List.setIfInBounds_toArray, List.set_cons_zero, List.set_cons_succ, i64_w, i32_w]
        rfl
       refine pure_ (i := 6) (N := some 97) (v := ?_) (a' := ?_) #[true, true, true, true, true, true, true, false, false, false, false, false, false, false, false, false, false, false, false, false, false] rfl rfl (by kernel_rfl) (fun _ _ _ h => h) (Or.inl ⟨by rfl, ?_⟩) ?_ ?_
       rotate_left
       ·intro w'
        go_simp
        with_reducible rfl
       rotate_left
       ·simp only [Act.put, List.setIfInBounds_toArray, List.set_cons_zero, List.set_cons_succ, i64_w, i32_w]
        rfl
       refine take_ (i := 7) (N := some 98) (v := ?_) (a' := ?_) #[true, true, true, true, true, true, true, true, false, false, false, false, false, false, false, false, false, false, false, false, false] rfl rfl (by kernel_rfl) (fun _ _ _ h => h) (Or.inl ⟨by rfl, ?_⟩) hHeld ?_ ?_
       rotate_left
       ·intro w' s0
        go_simp
        with_reducible rfl
       rotate_left
       ·simp only [Act.put, List.setIfInBounds_toArray, List.set_cons_zero, List.set_cons_succ, i64_w, i32_w]
        rfl
       refine pure_ (i := 8) (N := some 99) (v := ?_) (a' := ?_) #[true, true, true, true, true, true, true, true, true, false, false, false, false, false, false, false, false, false, false, false, false] rfl rfl (by kernel_rfl) (fun _ _ _ h => h) (Or.inl ⟨by rfl, ?_⟩) ?_ ?_
       rotate_left
       ·intro w'
        go_simp
        with_reducible rfl
       rotate_left
       ·simp only [Act.put, List.setIfInBounds_toArray, List.set_cons_zero, List.set_cons_succ, i64_w, i32_w]
        rfl
       refine pure_ (i := 9) (N := some 100) (v := ?_) (a' := ?_) #[true, true, true, true, true, true, true, true, true, true, false, false, false, false, false, false, false, false, false, false, false] rfl rfl (by kernel_rfl) (fun _ _ _ h => h) (Or.inl ⟨by rfl, ?_⟩) ?_ ?_
       rotate_left
       ·intro w'
        go_simp
        with_reducible rfl
       rotate_left
       ·simp only [Act.put, List.setIfInBounds_toArray, List.set_cons_zero, List.set_cons_succ, i64_w, i32_w]
        rfl
       refine pure_ (i := 10) (N := some 101) (v := ?_) (a' := ?_) #[true, true, true, true, true, true, true, true, true, true, true, false, false, false, false, false, false, false, false, false, false] rfl rfl (by kernel_rfl) (fun _ _ _ h => h) (Or.inl ⟨by rfl, ?_⟩) ?_ ?_
       rotate_left
       ·intro w'
        go_simp
        with_reducible rfl
       rotate_left
       ·simp only [Act.put, List.setIfInBounds_toArray, List.set_cons_zero, List.set_cons_succ, i64_w, i32_w]
        rfl
       refine pure_ (i := 11) (N := some 102) (v := ?_) (a' := ?_) #[true, true, true, true, true, true, true, true, true, true, true, true, false, false, false, false, false, false, false, false, false] rfl rfl (by kernel_rfl) (fun _ _ _ h => h) (Or.inl ⟨by rfl, ?_⟩) ?_ ?_
       rotate_left
       ·intro w'
        go_simp
        with_reducible rfl
       rotate_left
       ·simp only [Act.put, List.setIfInBounds_toArray, List.set_cons_zero, List.set_cons_succ, i64_w, i32_w]
        rfl
       refine pure_ (i := 12) (N := some 103) (v := ?_) (a' := ?_) #[true, true, true, true, true, true, true, true, true, true, true, true, true, false, false, false, false, false, false, false, false] rfl rfl (by kernel_rfl) (fun _ _ _ h => h) (Or.inl ⟨by rfl, ?_⟩) ?_ ?_
       rotate_left
       ·intro w'
        go_simp
        with_reducible rfl
       rotate_left
       ·simp only [Act.put, List.setIfInBounds_toArray, List.set_cons_zero, List.set_cons_succ, i64_w, i32_w]
        rfl
       refine pure_ (i := 16) (N := some 107) (v := ?_) (a' := ?_) #[true, true, true, true, true, true, true, true, true, true, true, true, true, false, false, false, true, false, false, false, false] rfl rfl (by kernel_rfl) (fun _ _ _ h => h) (Or.inl ⟨by rfl, ?_⟩) ?_ ?_
       rotate_left
       ·intro w'
        go_simp
        with_reducible rfl
       rotate_left
       ·simp only [Act.put, List.setIfInBounds_toArray, List.set_cons_zero, List.set_cons_succ, i64_w, i32_w]
        rfl
       refine take_ (i := 13) (N := some 104) (v := ?_) (a' := ?_) #[true, true, true, true, true, true, true, true, true, true, true, true, true, true, false, false, true, false, false, false, false] rfl rfl (by kernel_rfl) (fun _ _ _ h => h) (Or.inl ⟨by rfl, ?_⟩) hHeld ?_ ?_
       rotate_left
       ·intro w' s0
        go_simp
        with_reducible rfl
       rotate_left
       ·simp only [Act.put, List.setIfInBounds_toArray, List.set_cons_zero, List.set_cons_succ, i64_w, i32_w]
        rfl
       refine pure_ (i := 14) (N := some 105) (v := ?_) (a' := ?_) #[true, true, true, true, true, true, true, true, true, true, true, true, true, true, true, false, true, false, false, false, false] rfl rfl (by kernel_rfl) (fun _ _ _ h => h) (Or.inl ⟨by rfl, ?_⟩) ?_ ?_
       rotate_left
       ·intro w'
        go_simp
        with_reducible rfl
       rotate_left
       ·simp only [Act.put, List.setIfInBounds_toArray, List.set_cons_zero, List.set_cons_succ, i64_w, i32_w]
        rfl
       refine pure_ (i := 15) (N := some 106) (v := ?_) (a' := ?_) #[true, true, true, true, true, true, true, true, true, true, true, true, true, true, true, true, true, false, false, false, false] rfl rfl (by kernel_rfl) (fun _ _ _ h => h) (Or.inl ⟨by rfl, ?_⟩) ?_ ?_
       rotate_left
       ·intro w'
        go_simp
        with_reducible rfl
       rotate_left
       ·simp only [Act.put, List.setIfInBounds_toArray, List.set_cons_zero, List.set_cons_succ, i64_w, i32_w]
        rfl
       refine take_ (i := 17) (N := some 108) (v := ?_) (a' := ?_) #[true, true, true, true, true, true, true, true, true, true, true, true, true, true, true, true, true, true, false, false, false] rfl rfl (by kernel_rfl) (fun _ _ _ h => h) (Or.inl ⟨by rfl, ?_⟩) hHeld ?_ ?_
       rotate_left
       ·intro w' s0
        go_simp
        with_reducible rfl
       rotate_left
       ·simp only [Act.put, List.setIfInBounds_toArray, List.set_cons_zero, List.set_cons_succ, i64_w, i32_w]
        rfl
       refine one_ (i := 18) (N := some 109) #[true, true, true, true, true, true, true, true, true, true, true, true, true, true, true, true, true, true, true, false, false] rfl rfl (by kernel_rfl) (by decide) (fun K hK => ?_)
       refine goes_ Tryd.func60 (by kernel_rfl) rfl #[.int .u8 2] (by rfl) rfl rfl (by simp only [List.map_toArray, List.map_cons, List.map_nil]; rfl) ?_
       with_reducible refine (vivariumref08_Greatest.calls 2 4 _ rfl).mono ?_
       rintro e w20 ⟨rfl, hd⟩
       have HR20 := Aside0.mk (blk_drawn (w := wr.drew) HR.out hd)
       have HL20 := Aside0.mk (blk_drawn (w := wr.drew) HL.out hd)
       have HB20 := Aside0.mk (below_step (below_drew1 HB.out) hd.below)
       clear hd
       refine ⟨_, rfl, ?_⟩
       refine hK.out _ _ (blk_cell HL20.out 0) (fun hHeld => ?_)
       clear hK K
       refine norm_ (a' := ?_) ?_ ?_
       rotate_left
       ·show Act.put _ (some 109) _ = _
        simp only [Act.put, List.setIfInBounds_toArray, List.set_cons_zero, List.set_cons_succ, i64_w, i32_w]
        rfl
       refine pure_ (i := 19) (N := some 110) (v := ?_) (a' := ?_) #[true, true, true, true, true, true, true, true, true, true, true, true, true, true, true, true, true, true, true, true, false] rfl rfl (by kernel_rfl) (fun _ _ _ h => h) (Or.inl ⟨by rfl, ?_⟩) ?_ ?_
       rotate_left
       ·intro w'
        go_simp
        with_reducible rfl
       rotate_left
       ·simp only [Act.put, List.setIfInBounds_toArray, List.set_cons_zero, List.set_cons_succ, i64_w, i32_w]
        rfl
       refine pure_ (i := 20) (N := some 111) (v := ?_) (a' := ?_) #[true, true, true, true, true, true, true, true, true, true, true, true, true, true, true, true, true, true, true, true, true] rfl rfl (by kernel_rfl) (fun _ _ _ h => h) (Or.inl ⟨by rfl, ?_⟩) ?_ ?_
       rotate_left
       ·intro w'
        go_simp
        with_reducible rfl
       rotate_left
       ·simp only [Act.put, List.setIfInBounds_toArray, List.set_cons_zero, List.set_cons_succ, i64_w, i32_w]
        rfl
       refine done_ (by kernel_rfl) ?_
       have hr := HS7.out
       rw [← HF2.out] at hr
       simp only [tailOf, Prod.mk.injEq] at hr
       obtain ⟨rfl, rfl, rfl, rfl, rfl⟩ := hr
       clear k0 k1 k2 z0 z1 z2 l0 l1 l2 y0 y1 y2
       have k0 : w20.cell? ⟨w.heap.size, 0, none⟩ = some (.int .u8 0) := blk_cell HR20.out 0
       have z0 := blk_frozen HR20.out 0
       have k1 : w20.cell? ⟨w.heap.size, 1, none⟩ = some (.int .u16 0) := blk_cell HR20.out 1
       have z1 := blk_frozen HR20.out 1
       have k2 : w20.cell? ⟨w.heap.size, 2, none⟩ = some (.int .u16 0) := blk_cell HR20.out 2
       have z2 := blk_frozen HR20.out 2
       go_wp2
       try rw [Exit.noGoto_ret]
       refine bodyPost_ret (v := .tuple #[.agg #[.int .u8 0, .int .u16 0, .int .u16 0], .int .i64 i, .int .i64 82]) (by simp [results, Tryd.results34, go_sem, *]) rfl ⟨rfl, ?_⟩
       repeat (first | exact HB20.out | apply below_alloc | apply pw_below_drewN | apply below_drew1 | refine below_set ?_ (Nat.le_refl _))
      ·have d4d : decide (4 < wrap64 (IntKind.u8.wrap (b - 48))) = false := decide_eq_false (by rw [HW8.out]; exact d4)
       rw [if_neg (fun e => d4 e.2.2)] at hf
       have HF2 := Aside0.mk hf
       clear hf d2 d3 d4
       go_wp2_with fail
       refine start_ (n := 21) (S := fun w' => w'.cell? ⟨g, 0, none⟩ = some (.int .u8 2)) (ds := []) #[false, false, false, false, false, false, false, false, false, false, false, false, false, false, false, false, false, false, false, false, false] (by kernel_rfl) rfl rfl ((blk_cell HL.out 0)) (fun hHeld => ?_)
       refine pure_ (i := 0) (N := some 91) (v := ?_) (a' := ?_) #[true, false, false, false, false, false, false, false, false, false, false, false, false, false, false, false, false, false, false, false, false] rfl rfl (by kernel_rfl) (fun _ _ _ h => h) (Or.inl ⟨by rfl, ?_⟩) ?_ ?_
       rotate_left
       ·intro w'
        go_simp
        with_reducible rfl
       rotate_left
       ·simp only [Act.put, List.setIfInBounds_toArray, List.set_cons_zero, List.set_cons_succ, i64_w, i32_w]
        rfl
       refine pure_ (i := 1) (N := some 92) (v := ?_) (a' := ?_) #[true, true, false, false, false, false, false, false, false, false, false, false, false, false, false, false, false, false, false, false, false] rfl rfl (by kernel_rfl) (fun _ _ _ h => h) (Or.inl ⟨by rfl, ?_⟩) ?_ ?_
       rotate_left
       ·intro w'
        go_simp
        with_reducible rfl
       rotate_left
       ·simp only [Act.put, List.setIfInBounds_toArray, List.set_cons_zero, List.set_cons_succ, i64_w, i32_w]
        rfl
       refine take_ (i := 2) (N := some 93) (v := ?_) (a' := ?_) #[true, true, true, false, false, false, false, false, false, false, false, false, false, false, false, false, false, false, false, false, false] rfl rfl (by kernel_rfl) (fun _ _ _ h => h) (Or.inl ⟨by rfl, ?_⟩) hHeld ?_ ?_
       rotate_left
       ·intro w' s0
        go_simp
        with_reducible rfl
       rotate_left
       ·simp only [Act.put, List.setIfInBounds_toArray, List.set_cons_zero, List.set_cons_succ, i64_w, i32_w]
        rfl
       refine pure_ (i := 3) (N := some 94) (v := ?_) (a' := ?_) #[true, true, true, true, false, false, false, false, false, false, false, false, false, false, false, false, false, false, false, false, false] rfl rfl (by kernel_rfl) (fun _ _ _ h => h) (Or.inl ⟨by rfl, ?_⟩) ?_ ?_
       rotate_left
       ·intro w'
        go_simp
        with_reducible rfl
       rotate_left
       ·simp only [Act.put, List.setIfInBounds_toArray, List.set_cons_zero, List.set_cons_succ, i64_w, i32_w]
        rfl
       refine pure_ (i := 4) (N := some 95) (v := ?_) (a' := ?_) #[true, true, true, true, true, false, false, false, false, false, false, false, false, false, false, false, false, false, false, false, false] rfl rfl (by kernel_rfl) (fun _ _ _ h => h) (Or.inl ⟨by rfl, ?_⟩) ?_ ?_
       rotate_left
       ·intro w'
        go_simp
        with_reducible rfl
       rotate_left
       ·simp only [Act.put, List.setIfInBounds_toArray, List.set_cons_zero, List.set_cons_succ, i64_w, i32_w]
        rfl
       refine pure_ (i := 5) (N := some 96) (v := ?_) (a' := ?_) #[true, true, true, true, true, true, false, false, false, false, false, false, false, false, false, false, false, false, false, false, false] rfl rfl (by kernel_rfl) (fun _ _ _ h => h) (Or.inl ⟨by rfl, ?_⟩) ?_ ?_
       rotate_left
       ·intro w'
        go_simp
        with_reducible rfl
       rotate_left
       ·simp only [Act.put, List.setIfInBounds_toArray, List.set_cons_zero, List.set_cons_succ, i64_w, i32_w]
        rfl
       refine pure_ (i := 6) (N := some 97) (v := ?_) (a' := ?_) #[true, true, true, true, true, true, true, false, false, false, false, false, false, false, false, false, false, false, false, false, false] rfl rfl (by kernel_rfl) (fun _ _ _ h => h) (Or.inl ⟨by rfl, ?_⟩) ?_ ?_
       rotate_left
       ·intro w'
        go_simp
        with_reducible rfl
       rotate_left
       ·simp only [Act.put, List.setIfInBounds_toArray, List.set_cons_zero, List.set_cons_succ, i64_w, i32_w]
        rfl
       refine take_ (i := 7) (N := some 98) (v := ?_) (a' := ?_) #[true, true, true, true, true, true, true, true, false, false, false, false, false, false, false, false, false, false, false, false, false] rfl rfl (by kernel_rfl) (fun _ _ _ h => h) (Or.inl ⟨by rfl, ?_⟩) hHeld ?_ ?_
       rotate_left
       ·intro w' s0
        go_simp
        with_reducible rfl
       rotate_left
       ·simp only [Act.put, List.setIfInBounds_toArray, List.set_cons_zero, List.set_cons_succ, i64_w, i32_w]
        rfl
       refine pure_ (i := 8) (N := some 99) (v := ?_) (a' := ?_) #[true, true, true, true, true, true, true, true, true, false, false, false, false, false, false, false, false, false, false, false, false] rfl rfl (by kernel_rfl) (fun _ _ _ h => h) (Or.inl ⟨by rfl, ?_⟩) ?_ ?_
       rotate_left
       ·intro w'
        go_simp
        with_reducible rfl
       rotate_left
       ·simp only [Act.put, List.setIfInBounds_toArray, List.set_cons_zero, List.set_cons_succ, i64_w, i32_w]
        rfl
       refine pure_ (i := 9) (N := some 100) (v := ?_) (a' := ?_) #[true, true, true, true, true, true, true, true, true, true, false, false, false, false, false, false, false, false, false, false, false] rfl rfl (by kernel_rfl) (fun _ _ _ h => h) (Or.inl ⟨by rfl, ?_⟩) ?_ ?_
       rotate_left
       ·intro w'
        go_simp
        with_reducible rfl
       rotate_left
       ·simp only [Act.put, List.setIfInBounds_toArray, List.set_cons_zero, List.set_cons_succ, i64_w, i32_w]
        rfl
       refine pure_ (i := 10) (N := some 101) (v := ?_) (a' := ?_) #[true, true, true, true, true, true, true, true, true, true, true, false, false, false, false, false, false, false, false, false, false] rfl rfl (by kernel_rfl) (fun _ _ _ h => h) (Or.inl ⟨by rfl, ?_⟩) ?_ ?_
       rotate_left
       ·intro w'
        go_simp
        with_reducible rfl
       rotate_left
       ·simp only [Act.put, List.setIfInBounds_toArray, List.set_cons_zero, List.set_cons_succ, i64_w, i32_w]
        rfl
       refine pure_ (i := 11) (N := some 102) (v := ?_) (a' := ?_) #[true, true, true, true, true, true, true, true, true, true, true, true, false, false, false, false, false, false, false, false, false] rfl rfl (by kernel_rfl) (fun _ _ _ h => h) (Or.inl ⟨by rfl, ?_⟩) ?_ ?_
       rotate_left
       ·intro w'
        go_simp
        with_reducible rfl
       rotate_left
       ·simp only [Act.put, List.setIfInBounds_toArray, List.set_cons_zero, List.set_cons_succ, i64_w, i32_w]
        rfl
       refine pure_ (i := 12) (N := some 103) (v := ?_) (a' := ?_) #[true, true, true, true, true, true, true, true, true, true, true, true, true, false, false, false, false, false, false, false, false] rfl rfl (by kernel_rfl) (fun _ _ _ h => h) (Or.inl ⟨by rfl, ?_⟩) ?_ ?_
       rotate_left
       ·intro w'
        go_simp
        with_reducible rfl
       rotate_left
       ·simp only [Act.put, List.setIfInBounds_toArray, List.set_cons_zero, List.set_cons_succ, i64_w, i32_w]
        rfl
       refine pure_ (i := 16) (N := some 107) (v := ?_) (a' := ?_) #[true, true, true, true, true, true, true, true, true, true, true, true, true, false, false, false, true, false, false, false, false] rfl rfl (by kernel_rfl) (fun _ _ _ h => h) (Or.inl ⟨by rfl, ?_⟩) ?_ ?_
       rotate_left
       ·intro w'
        go_simp
        with_reducible rfl
       rotate_left
       ·simp only [Act.put, List.setIfInBounds_toArray, List.set_cons_zero, List.set_cons_succ, i64_w, i32_w]
        rfl
       refine take_ (i := 13) (N := some 104) (v := ?_) (a' := ?_) #[true, true, true, true, true, true, true, true, true, true, true, true, true, true, false, false, true, false, false, false, false] rfl rfl (by kernel_rfl) (fun _ _ _ h => h) (Or.inl ⟨by rfl, ?_⟩) hHeld ?_ ?_
       rotate_left
       ·intro w' s0
        go_simp
        with_reducible rfl
       rotate_left
       ·simp only [Act.put, List.setIfInBounds_toArray, List.set_cons_zero, List.set_cons_succ, i64_w, i32_w]
        rfl
       refine pure_ (i := 14) (N := some 105) (v := ?_) (a' := ?_) #[true, true, true, true, true, true, true, true, true, true, true, true, true, true, true, false, true, false, false, false, false] rfl rfl (by kernel_rfl) (fun _ _ _ h => h) (Or.inl ⟨by rfl, ?_⟩) ?_ ?_
       rotate_left
       ·intro w'
        go_simp
        with_reducible rfl
       rotate_left
       ·simp only [Act.put, List.setIfInBounds_toArray, List.set_cons_zero, List.set_cons_succ, i64_w, i32_w]
        rfl
       refine pure_ (i := 15) (N := some 106) (v := ?_) (a' := ?_) #[true, true, true, true, true, true, true, true, true, true, true, true, true, true, true, true, true, false, false, false, false] rfl rfl (by kernel_rfl) (fun _ _ _ h => h) (Or.inl ⟨by rfl, ?_⟩) ?_ ?_
       rotate_left
       ·intro w'
        go_simp
        with_reducible rfl
       rotate_left
       ·simp only [Act.put, List.setIfInBounds_toArray, List.set_cons_zero, List.set_cons_succ, i64_w, i32_w]
        rfl
       refine take_ (i := 17) (N := some 108) (v := ?_) (a' := ?_) #[true, true, true, true, true, true, true, true, true, true, true, true, true, true, true, true, true, true, false, false, false] rfl rfl (by kernel_rfl) (fun _ _ _ h => h) (Or.inl ⟨by rfl, ?_⟩) hHeld ?_ ?_
       rotate_left
       ·intro w' s0
        go_simp
        with_reducible rfl
       rotate_left
       ·simp only [Act.put, List.setIfInBounds_toArray, List.set_cons_zero, List.set_cons_succ, i64_w, i32_w]
        rfl
       refine one_ (i := 18) (N := some 109) #[true, true, true, true, true, true, true, true, true, true, true, true, true, true, true, true, true, true, true, false, false] rfl rfl (by kernel_rfl) (by decide) (fun K hK => ?_)
       refine goes_ Tryd.func60 (by kernel_rfl) rfl #[.int .u8 2] (by rfl) rfl rfl (by simp only [List.map_toArray, List.map_cons, List.map_nil]; rfl) ?_
       with_reducible refine (vivariumref08_Greatest.calls 2 4 _ rfl).mono ?_
       rintro e w20 ⟨rfl, hd⟩
       have HR20 := Aside0.mk (blk_drawn (w := wr.drew) HR.out hd)
       have HL20 := Aside0.mk (blk_drawn (w := wr.drew) HL.out hd)
       have HB20 := Aside0.mk (below_step (below_drew1 HB.out) hd.below)
       clear hd
       refine ⟨_, rfl, ?_⟩
       refine hK.out _ _ (blk_cell HL20.out 0) (fun hHeld => ?_)
       clear hK K
       refine norm_ (a' := ?_) ?_ ?_
       rotate_left
       ·show Act.put _ (some 109) _ = _
        simp only [Act.put, List.setIfInBounds_toArray, List.set_cons_zero, List.set_cons_succ, i64_w, i32_w]
        rfl
       refine pure_ (i := 19) (N := some 110) (v := ?_) (a' := ?_) #[true, true, true, true, true, true, true, true, true, true, true, true, true, true, true, true, true, true, true, true, false] rfl rfl (by kernel_rfl) (fun _ _ _ h => h) (Or.inl ⟨by rfl, ?_⟩) ?_ ?_
       rotate_left
       ·intro w'
        go_simp
        with_reducible rfl
       rotate_left
       ·simp only [Act.put, List.setIfInBounds_toArray, List.set_cons_zero, List.set_cons_succ, i64_w, i32_w]
        rfl
       refine pure_ (i := 20) (N := some 111) (v := ?_) (a' := ?_) #[true, true, true, true, true, true, true, true, true, true, true, true, true, true, true, true, true, true, true, true, true] rfl rfl (by kernel_rfl) (fun _ _ _ h => h) (Or.inl ⟨by rfl, ?_⟩) ?_ ?_
       rotate_left
       ·intro w'
        go_simp
        with_reducible rfl
       rotate_left
       ·simp only [Act.put, List.setIfInBounds_toArray, List.set_cons_zero, List.set_cons_succ, i64_w, i32_w]
        rfl
       refine done_ (by kernel_rfl) ?_
       go_wp2_with ((go_roundg gk); (case measure => exact Nat.lt_succ_self _); go_must (case rel => exact ⟨i + 1, hi1, by first | rfl | (exact congrArg (Value.int .i64) HW.out), HF2, hnn, HB20, HR20, HL20⟩))
     ·skip
      rw [if_neg (fun e => d3 e.2.1)] at hf
      have HF2 := Aside0.mk hf
      clear hf
      have d3d : decide (b ≤ 57) = false := decide_eq_false d3
      clear d2 d3
      go_wp2_with fail
      refine start_ (n := 21) (S := fun w' => w'.cell? ⟨g, 0, none⟩ = some (.int .u8 2)) (ds := []) #[false, false, false, false, false, false, false, false, false, false, false, false, false, false, false, false, false, false, false, false, false] (by kernel_rfl) rfl rfl ((blk_cell HL.out 0)) (fun hHeld => ?_)
      refine pure_ (i := 0) (N := some 91) (v := ?_) (a' := ?_) #[true, false, false, false, false, false, false, false, false, false, false, false, false, false, false, false, false, false, false, false, false] rfl rfl (by kernel_rfl) (fun _ _ _ h => h) (Or.inl ⟨by rfl, ?_⟩) ?_ ?_
      rotate_left
      ·intro w'
       go_simp
       with_reducible rfl
      rotate_left
      ·simp only [Act.put, List.setIfInBounds_toArray, List.set_cons_zero, List.set_cons_succ, i64_w, i32_w]
       rfl
      refine pure_ (i := 1) (N := some 92) (v := ?_) (a' := ?_) #[true, true, false, false, false, false, false, false, false, false, false, false, false, false, false, false, false, false, false, false, false] rfl rfl (by kernel_rfl) (fun _ _ _ h => h) (Or.inl ⟨by rfl, ?_⟩) ?_ ?_
      rotate_left
      ·intro w'
       go_simp
       with_reducible rfl
      rotate_left
      ·simp only [Act.put, List.setIfInBounds_toArray, List.set_cons_zero, List.set_cons_succ, i64_w, i32_w]
       rfl
      refine take_ (i := 2) (N := some 93) (v := ?_) (a' := ?_) #[true, true, true, false, false, false, false, false, false, false, false, false, false, false, false, false, false, false, false, false, false] rfl rfl (by kernel_rfl) (fun _ _ _ h => h) (Or.inl ⟨by rfl, ?_⟩) hHeld ?_ ?_
      rotate_left
      ·intro w' s0
       go_simp
       with_reducible rfl
      rotate_left
      ·simp only [Act.put, List.setIfInBounds_toArray, List.set_cons_zero, List.set_cons_succ, i64_w, i32_w]
       rfl
      refine pure_ (i := 3) (N := some 94) (v := ?_) (a' := ?_) #[true, true, true, true, false, false, false, false, false, false, false, false, false, false, false, false, false, false, false, false, false] rfl rfl (by kernel_rfl) (fun _ _ _ h => h) (Or.inl ⟨by rfl, ?_⟩) ?_ ?_
      rotate_left
      ·intro w'
       go_simp
       with_reducible rfl
      rotate_left
      ·simp only [Act.put, List.setIfInBounds_toArray, List.set_cons_zero, List.set_cons_succ, i64_w, i32_w]
       rfl
      refine pure_ (i := 4) (N := some 95) (v := ?_) (a' := ?_) #[true, true, true, true, true, false, false, false, false, false, false, false, false, false, false, false, false, false, false, false, false] rfl rfl (by kernel_rfl) (fun _ _ _ h => h) (Or.inl ⟨by rfl, ?_⟩) ?_ ?_
      rotate_left
      ·intro w'
       go_simp
       with_reducible rfl
      rotate_left
      ·simp only [Act.put, List.setIfInBounds_toArray, List.set_cons_zero, List.set_cons_succ, i64_w, i32_w]
       rfl
      refine pure_ (i := 5) (N := some 96) (v := ?_) (a' := ?_) #[true, true, true, true, true, true, false, false, false, false, false, false, false, false, false, false, false, false, false, false, false] rfl rfl (by kernel_rfl) (fun _ _ _ h => h) (Or.inl ⟨by rfl, ?_⟩) ?_ ?_
      rotate_left
      ·intro w'
       go_simp
       with_reducible rfl
      rotate_left
      ·simp only [Act.put, List.setIfInBounds_toArray, List.set_cons_zero, List.set_cons_succ, i64_w, i32_w]
       rfl
      refine pure_ (i := 6) (N := some 97) (v := ?_) (a' := ?_) #[true, true, true, true, true, true, true, false, false, false, false, false, false, false, false, false, false, false, false, false, false] rfl rfl (by kernel_rfl) (fun _ _ _ h => h) (Or.inl ⟨by rfl, ?_⟩) ?_ ?_
      rotate_left
      ·intro w'
       go_simp
       with_reducible rfl
      rotate_left
      ·simp only [Act.put, List.setIfInBounds_toArray, List.set_cons_zero, List.set_cons_succ, i64_w, i32_w]
       rfl
      refine take_ (i := 7) (N := some 98) (v := ?_) (a' := ?_) #[true, true, true, true, true, true, true, true, false, false, false, false, false, false, false, false, false, false, false, false, false] rfl rfl (by kernel_rfl) (fun _ _ _ h => h) (Or.inl ⟨by rfl, ?_⟩) hHeld ?_ ?_
      rotate_left
      ·intro w' s0
       go_simp
       with_reducible rfl
      rotate_left
      ·simp only [Act.put, List.setIfInBounds_toArray, List.set_cons_zero, List.set_cons_succ, i64_w, i32_w]
       rfl
      refine pure_ (i := 8) (N := some 99) (v := ?_) (a' := ?_) #[true, true, true, true, true, true, true, true, true, false, false, false, false, false, false, false, false, false, false, false, false] rfl rfl (by kernel_rfl) (fun _ _ _ h => h) (Or.inl ⟨by rfl, ?_⟩) ?_ ?_
      rotate_left
      ·intro w'
       go_simp
       with_reducible rfl
      rotate_left
      ·simp only [Act.put, List.setIfInBounds_toArray, List.set_cons_zero, List.set_cons_succ, i64_w, i32_w]
       rfl
      refine pure_ (i := 9) (N := some 100) (v := ?_) (a' := ?_) #[true, true, true, true, true, true, true, true, true, true, false, false, false, false, false, false, false, false, false, false, false] rfl rfl (by kernel_rfl) (fun _ _ _ h => h) (Or.inl ⟨by rfl, ?_⟩) ?_ ?_
      rotate_left
      ·intro w'
       go_simp
       with_reducible rfl
      rotate_left
      ·simp only [Act.put, List.setIfInBounds_toArray, List.set_cons_zero, List.set_cons_succ, i64_w, i32_w]
       rfl
      refine pure_ (i := 10) (N := some 101) (v := ?_) (a' := ?_) #[true, true, true, true, true, true, true, true, true, true, true, false, false, false, false, false, false, false, false, false, false] rfl rfl (by kernel_rfl) (fun _ _ _ h => h) (Or.inl ⟨by rfl, ?_⟩) ?_ ?_
      rotate_left
      ·intro w'
       go_simp
       with_reducible rfl
      rotate_left
      ·simp only [Act.put, List.setIfInBounds_toArray, List.set_cons_zero, List.set_cons_succ, i64_w, i32_w]
       rfl
      refine pure_ (i := 11) (N := some 102) (v := undef) (a' := ?_) #[true, true, true, true, true, true, true, true, true, true, true, true, false, false, false, false, false, false, false, false, false] rfl rfl (by kernel_rfl) (fun _ _ _ h => h) (Or.inr ⟨by rfl, rfl⟩) ?_ ?_
      rotate_left
      ·simp only [Act.put, List.setIfInBounds_toArray, List.set_cons_zero, List.set_cons_succ, i64_w, i32_w]
       rfl
      refine pure_ (i := 12) (N := some 103) (v := undef) (a' := ?_) #[true, true, true, true, true, true, true, true, true, true, true, true, true, false, false, false, false, false, false, false, false] rfl rfl (by kernel_rfl) (fun _ _ _ h => h) (Or.inr ⟨by rfl, rfl⟩) ?_ ?_
      rotate_left
      ·simp only [Act.put, List.setIfInBounds_toArray, List.set_cons_zero, List.set_cons_succ, i64_w, i32_w]
       rfl
      refine pure_ (i := 13) (N := some 104) (v := undef) (a' := ?_) #[true, true, true, true, true, true, true, true, true, true, true, true, true, true, false, false, false, false, false, false, false] rfl rfl (by kernel_rfl) (fun _ _ _ h => h) (Or.inr ⟨by rfl, rfl⟩) ?_ ?_
      rotate_left
      ·simp only [Act.put, List.setIfInBounds_toArray, List.set_cons_zero, List.set_cons_succ, i64_w, i32_w]
       rfl
      refine pure_ (i := 14) (N := some 105) (v := undef) (a' := ?_) #[true, true, true, true, true, true, true, true, true, true, true, true, true, true, true, false, false, false, false, false, false] rfl rfl (by kernel_rfl) (fun _ _ _ h => h) (Or.inr ⟨by rfl, rfl⟩) ?_ ?_
      rotate_left
      ·simp only [Act.put, List.setIfInBounds_toArray, List.set_cons_zero, List.set_cons_succ, i64_w, i32_w]
       rfl
      refine pure_ (i := 15) (N := some 106) (v := undef) (a' := ?_) #[true, true, true, true, true, true, true, true, true, true, true, true, true, true, true, true, false, false, false, false, false] rfl rfl (by kernel_rfl) (fun _ _ _ h => h) (Or.inr ⟨by rfl, rfl⟩) ?_ ?_
      rotate_left
      ·simp only [Act.put, List.setIfInBounds_toArray, List.set_cons_zero, List.set_cons_succ, i64_w, i32_w]
       rfl
      refine pure_ (i := 16) (N := some 107) (v := undef) (a' := ?_) #[true, true, true, true, true, true, true, true, true, true, true, true, true, true, true, true, true, false, false, false, false] rfl rfl (by kernel_rfl) (fun _ _ _ h => h) (Or.inr ⟨by rfl, rfl⟩) ?_ ?_
      rotate_left
      ·simp only [Act.put, List.setIfInBounds_toArray, List.set_cons_zero, List.set_cons_succ, i64_w, i32_w]
       rfl
      refine pure_ (i := 17) (N := some 108) (v := undef) (a' := ?_) #[true, true, true, true, true, true, true, true, true, true, true, true, true, true, true, true, true, true, false, false, false] rfl rfl (by kernel_rfl) (fun _ _ _ h => h) (Or.inr ⟨by rfl, rfl⟩) ?_ ?_
      rotate_left
      ·simp only [Act.put, List.setIfInBounds_toArray, List.set_cons_zero, List.set_cons_succ, i64_w, i32_w]
       rfl
      refine pure_ (i := 18) (N := some 109) (v := undef) (a' := ?_) #[true, true, true, true, true, true, true, true, true, true, true, true, true, true, true, true, true, true, true, false, false] rfl rfl (by kernel_rfl) (fun _ _ _ h => h) (Or.inr ⟨by rfl, rfl⟩) ?_ ?_
      rotate_left
      ·simp only [Act.put, List.setIfInBounds_toArray, List.set_cons_zero, List.set_cons_succ, i64_w, i32_w]
       rfl
      refine pure_ (i := 19) (N := some 110) (v := undef) (a' := ?_) #[true, true, true, true, true, true, true, true, true, true, true, true, true, true, true, true, true, true, true, true, false] rfl rfl (by kernel_rfl) (fun _ _ _ h => h) (Or.inr ⟨by rfl, rfl⟩) ?_ ?_
      rotate_left
      ·simp only [Act.put, List.setIfInBounds_toArray, List.set_cons_zero, List.set_cons_succ, i64_w, i32_w]
       rfl
      refine pure_ (i := 20) (N := some 111) (v := ?_) (a' := ?_) #[true, true, true, true, true, true, true, true, true, true, true, true, true, true, true, true, true, true, true, true, true] rfl rfl (by kernel_rfl) (fun _ _ _ h => h) (Or.inl ⟨by rfl, ?_⟩) ?_ ?_
      rotate_left
      ·intro w'
       go_simp
       with_reducible rfl
      rotate_left
      ·simp only [Act.put, List.setIfInBounds_toArray, List.set_cons_zero, List.set_cons_succ, i64_w, i32_w]
       rfl
      refine done_ (by kernel_rfl) ?_
      go_wp2_with ((go_roundg gk); (case measure => exact Nat.lt_succ_self _); go_must (case rel => exact ⟨i + 1, hi1, by first | rfl | (exact congrArg (Value.int .i64) HW.out), HF2, hnn, ⟨below_drew1 HB.out⟩, ⟨HR.out⟩, ⟨HL.out⟩⟩))
    ·skip
     rw [if_neg (fun e => d2 e.1)] at hf
     have HF2 := Aside0.mk hf
     clear hf
     have d2d : decide (48 ≤ b) = false := decide_eq_false d2
     clear d2
     go_wp2_with fail
     refine start_ (n := 21) (S := fun w' => w'.cell? ⟨g, 0, none⟩ = some (.int .u8 2)) (ds := []) #[false, false, false, false, false, false, false, false, false, false, false, false, false, false, false, false, false, false, false, false, false] (by kernel_rfl) rfl rfl ((blk_cell HL.out 0)) (fun hHeld => ?_)
     refine pure_ (i := 0) (N := some 91) (v := ?_) (a' := ?_) #[true, false, false, false, false, false, false, false, false, false, false, false, false, false, false, false, false, false, false, false, false] rfl rfl (by kernel_rfl) (fun _ _ _ h => h) (Or.inl ⟨by rfl, ?_⟩) ?_ ?_
     rotate_left
     ·intro w'
      go_simp
      with_reducible rfl
     rotate_left
     ·simp only [Act.put, List.setIfInBounds_toArray, List.set_cons_zero, List.set_cons_succ, i64_w, i32_w]
      rfl
     refine pure_ (i := 1) (N := some 92) (v := ?_) (a' := ?_) #[true, true, false, false, false, false, false, false, false, false, false, false, false, false, false, false, false, false, false, false, false] rfl rfl (by kernel_rfl) (fun _ _ _ h => h) (Or.inl ⟨by rfl, ?_⟩) ?_ ?_
     rotate_left
     ·intro w'
      go_simp
      with_reducible rfl
     rotate_left
     ·simp only [Act.put, List.setIfInBounds_toArray, List.set_cons_zero, List.set_cons_succ, i64_w, i32_w]
      rfl
     refine take_ (i := 2) (N := some 93) (v := ?_) (a' := ?_) #[true, true, true, false, false, false, false, false, false, false, false, false, false, false, false, false, false, false, false, false, false] rfl rfl (by kernel_rfl) (fun _ _ _ h => h) (Or.inl ⟨by rfl, ?_⟩) hHeld ?_ ?_
     rotate_left
     ·intro w' s0
      go_simp
      with_reducible rfl
     rotate_left
     ·simp only [Act.put, List.setIfInBounds_toArray, List.set_cons_zero, List.set_cons_succ, i64_w, i32_w]
      rfl
     refine pure_ (i := 3) (N := some 94) (v := ?_) (a' := ?_) #[true, true, true, true, false, false, false, false, false, false, false, false, false, false, false, false, false, false, false, false, false] rfl rfl (by kernel_rfl) (fun _ _ _ h => h) (Or.inl ⟨by rfl, ?_⟩) ?_ ?_
     rotate_left
     ·intro w'
      go_simp
      with_reducible rfl
     rotate_left
     ·simp only [Act.put, List.setIfInBounds_toArray, List.set_cons_zero, List.set_cons_succ, i64_w, i32_w]
      rfl
     refine pure_ (i := 4) (N := some 95) (v := ?_) (a' := ?_) #[true, true, true, true, true, false, false, false, false, false, false, false, false, false, false, false, false, false, false, false, false] rfl rfl (by kernel_rfl) (fun _ _ _ h => h) (Or.inl ⟨by rfl, ?_⟩) ?_ ?_
     rotate_left
     ·intro w'
      go_simp
      with_reducible rfl
     rotate_left
     ·simp only [Act.put, List.setIfInBounds_toArray, List.set_cons_zero, List.set_cons_succ, i64_w, i32_w]
      rfl
     refine pure_ (i := 5) (N := some 96) (v := undef) (a' := ?_) #[true, true, true, true, true, true, false, false, false, false, false, false, false, false, false, false, false, false, false, false, false] rfl rfl (by kernel_rfl) (fun _ _ _ h => h) (Or.inr ⟨by rfl, rfl⟩) ?_ ?_
     rotate_left
     ·simp only [Act.put, List.setIfInBounds_toArray, List.set_cons_zero, List.set_cons_succ, i64_w, i32_w]
      rfl
     refine pure_ (i := 6) (N := some 97) (v := undef) (a' := ?_) #[true, true, true, true, true, true, true, false, false, false, false, false, false, false, false, false, false, false, false, false, false] rfl rfl (by kernel_rfl) (fun _ _ _ h => h) (Or.inr ⟨by rfl, rfl⟩) ?_ ?_
     rotate_left
     ·simp only [Act.put, List.setIfInBounds_toArray, List.set_cons_zero, List.set_cons_succ, i64_w, i32_w]
      rfl
     refine pure_ (i := 7) (N := some 98) (v := undef) (a' := ?_) #[true, true, true, true, true, true, true, true, false, false, false, false, false, false, false, false, false, false, false, false, false] rfl rfl (by kernel_rfl) (fun _ _ _ h => h) (Or.inr ⟨by rfl, rfl⟩) ?_ ?_
     rotate_left
     ·simp only [Act.put, List.setIfInBounds_toArray, List.set_cons_zero, List.set_cons_succ, i64_w, i32_w]
      rfl
     refine pure_ (i := 8) (N := some 99) (v := undef) (a' := ?_) #[true, true, true, true, true, true, true, true, true, false, false, false, false, false, false, false, false, false, false, false, false] rfl rfl (by kernel_rfl) (fun _ _ _ h => h) (Or.inr ⟨by rfl, rfl⟩) ?_ ?_
     rotate_left
     ·simp only [Act.put, List.setIfInBounds_toArray, List.set_cons_zero, List.set_cons_succ, i64_w, i32_w]
      rfl
     refine pure_ (i := 9) (N := some 100) (v := ?_) (a' := ?_) #[true, true, true, true, true, true, true, true, true, true, false, false, false, false, false, false, false, false, false, false, false] rfl rfl (by kernel_rfl) (fun _ _ _ h => h) (Or.inl ⟨by rfl, ?_⟩) ?_ ?_
     rotate_left
     ·intro w'
      go_simp
      with_reducible rfl
     rotate_left
     ·simp only [Act.put, List.setIfInBounds_toArray, List.set_cons_zero, List.set_cons_succ, i64_w, i32_w]
      rfl
     refine pure_ (i := 10) (N := some 101) (v := ?_) (a' := ?_) #[true, true, true, true, true, true, true, true, true, true, true, false, false, false, false, false, false, false, false, false, false] rfl rfl (by kernel_rfl) (fun _ _ _ h => h) (Or.inl ⟨by rfl, ?_⟩) ?_ ?_
     rotate_left
     ·intro w'
      go_simp
      with_reducible rfl
     rotate_left
     ·simp only [Act.put, List.setIfInBounds_toArray, List.set_cons_zero, List.set_cons_succ, i64_w, i32_w]
      rfl
     refine pure_ (i := 11) (N := some 102) (v := undef) (a' := ?_) #[true, true, true, true, true, true, true, true, true, true, true, true, false, false, false, false, false, false, false, false, false] rfl rfl (by kernel_rfl) (fun _ _ _ h => h) (Or.inr ⟨by rfl, rfl⟩) ?_ ?_
     rotate_left
     ·simp only [Act.put, List.setIfInBounds_toArray, List.set_cons_zero, List.set_cons_succ, i64_w, i32_w]
      rfl
     refine pure_ (i := 12) (N := some 103) (v := undef) (a' := ?_) #[true, true, true, true, true, true, true, true, true, true, true, true, true, false, false, false, false, false, false, false, false] rfl rfl (by kernel_rfl) (fun _ _ _ h => h) (Or.inr ⟨by rfl, rfl⟩) ?_ ?_
     rotate_left
     ·simp only [Act.put, List.setIfInBounds_toArray, List.set_cons_zero, List.set_cons_succ, i64_w, i32_w]
      rfl
     refine pure_ (i := 13) (N := some 104) (v := undef) (a' := ?_) #[true, true, true, true, true, true, true, true, true, true, true, true, true, true, false, false, false, false, false, false, false] rfl rfl (by kernel_rfl) (fun _ _ _ h => h) (Or.inr ⟨by rfl, rfl⟩) ?_ ?_
     rotate_left
     ·simp only [Act.put, List.setIfInBounds_toArray, List.set_cons_zero, List.set_cons_succ, i64_w, i32_w]
      rfl
     refine pure_ (i := 14) (N := some 105) (v := undef) (a' := ?_) #[true, true, true, true, true, true, true, true, true, true, true, true, true, true, true, false, false, false, false, false, false] rfl rfl (by kernel_rfl) (fun _ _ _ h => h) (Or.inr ⟨by rfl, rfl⟩) ?_ ?_
     rotate_left
     ·simp only [Act.put, List.setIfInBounds_toArray, List.set_cons_zero, List.set_cons_succ, i64_w, i32_w]
      rfl
     refine pure_ (i := 15) (N := some 106) (v := undef) (a' := ?_) #[true, true, true, true, true, true, true, true, true, true, true, true, true, true, true, true, false, false, false, false, false] rfl rfl (by kernel_rfl) (fun _ _ _ h => h) (Or.inr ⟨by rfl, rfl⟩) ?_ ?_
     rotate_left
     ·simp only [Act.put, List.setIfInBounds_toArray, List.set_cons_zero, List.set_cons_succ, i64_w, i32_w]
      rfl
     refine pure_ (i := 16) (N := some 107) (v := undef) (a' := ?_) #[true, true, true, true, true, true, true, true, true, true, true, true, true, true, true, true, true, false, false, false, false] rfl rfl (by kernel_rfl) (fun _ _ _ h => h) (Or.inr ⟨by rfl, rfl⟩) ?_ ?_
     rotate_left
     ·simp only [Act.put, List.setIfInBounds_toArray, List.set_cons_zero, List.set_cons_succ, i64_w, i32_w]
      rfl
     refine pure_ (i := 17) (N := some 108) (v := undef) (a' := ?_) #[true, true, true, true, true, true, true, true, true, true, true, true, true, true, true, true, true, true, false, false, false] rfl rfl (by kernel_rfl) (fun _ _ _ h => h) (Or.inr ⟨by rfl, rfl⟩) ?_ ?_
     rotate_left
     ·simp only [Act.put, List.setIfInBounds_toArray, List.set_cons_zero, List.set_cons_succ, i64_w, i32_w]
      rfl
     refine pure_ (i := 18) (N := some 109) (v := undef) (a' := ?_) #[true, true, true, true, true, true, true, true, true, true, true, true, true, true, true, true, true, true, true, false, false] rfl rfl (by kernel_rfl) (fun _ _ _ h => h) (Or.inr ⟨by rfl, rfl⟩) ?_ ?_
     rotate_left
     ·simp only [Act.put, List.setIfInBounds_toArray, List.set_cons_zero, List.set_cons_succ, i64_w, i32_w]
      rfl
     refine pure_ (i := 19) (N := some 110) (v := undef) (a' := ?_) #[true, true, true, true, true, true, true, true, true, true, true, true, true, true, true, true, true, true, true, true, false] rfl rfl (by kernel_rfl) (fun _ _ _ h => h) (Or.inr ⟨by rfl, rfl⟩) ?_ ?_
     rotate_left
     ·simp only [Act.put, List.setIfInBounds_toArray, List.set_cons_zero, List.set_cons_succ, i64_w, i32_w]
      rfl
     refine pure_ (i := 20) (N := some 111) (v := ?_) (a' := ?_) #[true, true, true, true, true, true, true, true, true, true, true, true, true, true, true, true, true, true, true, true, true] rfl rfl (by kernel_rfl) (fun _ _ _ h => h) (Or.inl ⟨by rfl, ?_⟩) ?_ ?_
     rotate_left
     ·intro w'
      go_simp
      with_reducible rfl
     rotate_left
     ·simp only [Act.put, List.setIfInBounds_toArray, List.set_cons_zero, List.set_cons_succ, i64_w, i32_w]
      rfl
     refine done_ (by kernel_rfl) ?_
     go_wp2_with ((go_roundg gk); (case measure => exact Nat.lt_succ_self _); go_must (case rel => exact ⟨i + 1, hi1, by first | rfl | (exact congrArg (Value.int .i64) HW.out), HF2, hnn, ⟨below_drew1 HB.out⟩, ⟨HR.out⟩, ⟨HL.out⟩⟩))
   ·have d1d : decide ((i : Int) < (s.size : Int)) = false := decide_eq_false (by omega)
    have hf : fb = none := by
     rw [← HF.out]
     cases gk with
     | zero => rfl
     | succ gk => rw [firstBig_succ, if_neg d1]
    have hr := HS7.out
    rw [hf] at hr
    simp only [tailOf, Prod.mk.injEq] at hr
    obtain ⟨rfl, rfl, rfl, rfl, rfl⟩ := hr
    clear hf d1 hi
    have d1p : ¬ ((i : Int) < (s.size : Int)) := of_decide_eq_false d1d
    go_wp2
    try rw [Exit.noGoto_ret]
    refine bodyPost_ret (v := .tuple #[.agg #[.int .u8 2, .int .u16 m, .int .u16 m2], .int .i64 0, .int .i64 0]) (by simp [results, Tryd.results34, go_sem, *]) rfl ⟨rfl, ?_⟩
    repeat (first | exact HB.out | apply below_alloc | apply pw_below_drewN | apply below_drew1 | refine below_set ?_ (Nat.le_refl _))
set_option maxHeartbeats 16000000 in
set_option maxRecDepth 100000 in
theorem Parse_H (s : ByteArray) (w : World) (hs : ¬ (1048576 < (s.size : Int))) (hs' : s.size ≤ 1048576) (r1 r2 r3 r4 r5 : Int) (q m q2 m2 : Nat) (C1 : Aside0 (decide (isL s 0 66) = true)) (hm : m < 1024) (hq : q ≤ s.size + 1) (HD : Aside0 (digs s s.size 1 0 = (false, q, m))) (q0 : (0 : Int) ≤ (q : Int)) (q00 : (q : Int) < 1000000000) (c2 : q < s.size) (c2' : (q : Int) < (s.size : Int)) (c2n : ¬ s.size ≤ q) (c2d : decide (s.size ≤ q) = false) (hbt : ∀ hh : q < s.size, ((s[q]'hh).toNat : Int) = 47) (C4 : Aside0 (decide (isL s (q + 1) 83) = true)) (hm2 : m2 < 1024) (hq2 : q2 ≤ s.size + 2) (HD2 : Aside0 (digs s s.size (q + 1 + 1) 0 = (false, q2, m2))) (p0 : (0 : Int) ≤ (q2 : Int)) (p00 : (q2 : Int) < 1000000000) (HS5 : Aside0 (lifeTail s q2 m m2 = (r1, r2, r3, r4, r5))) (v1 : ¬ isL s q2 86) (v2 : isL s q2 72) :
  Calls Tryd.prog 34 #[.string s] w fun e w' => e = .returned (.tuple #[.agg #[.int .u8 r1, .int .u16 r2, .int .u16 r3], .int .i64 r4, .int .i64 r5]) ∧ Below w.heap.size w w' := by
 go_enter Tryd.func34, Tryd.ntmps34
 go_wp2_with (first | (go_at_call_of 57 (Value.int .u8 66); go_must (refine (is_calls s (0) (0) rfl 66 (by omega) true C1.out _).mono ?_); rintro e w1 ⟨rfl, hd⟩; have HR1 := Aside0.mk (blk_drawn (blk_new w _) hd); have HB1 := Aside0.mk (below_step (below_alloc (Below.refl w.heap.size w) _) hd.below); clear hd) | (go_at_call_of 58 (Value.int .i64 1); go_must (refine (list_calls s hs' 1 1 rfl (by omega) false q m HD.out (-1) rfl _).mono ?_); rintro e w2 ⟨rfl, hb⟩; have HR2 := Aside0.mk (blk_below HR1.out hb); have HB2 := Aside0.mk (below_step HB1.out hb); clear hb) | ((with_reducible refine gate_ (Op.store 97 (.tmp 5) (.tmp 23)) rfl ?_); go_must (refine wpList_store_rowTo rfl 97 (.tmp 5) (.tmp 23) rfl rfl w2.heap.size (boolsOf m) (by kernel_rfl) (by kernel_rfl) 97 #[.bool false, .bool false, .bool false, .bool false, .bool false, .bool false, .bool false, .bool false, .bool false, .bool false] (blk_new w2 _) (boolsOf_info _) (by rw [boolsOf_size _ 0, boolsOf_zero]) (boolsOf_one _) ?_); have HR3 := Aside0.mk (row_old HR2.out (Obj.cells #[.bool false, .bool false, .bool false, .bool false, .bool false, .bool false, .bool false, .bool false, .bool false, .bool false] 97) (boolsOf m)); have HT3 := Aside0.mk (row_new w2 #[.bool false, .bool false, .bool false, .bool false, .bool false, .bool false, .bool false, .bool false, .bool false, .bool false] (boolsOf m) 97); have HB3 := Aside0.mk (below_setRow (below_alloc HB2.out (Obj.cells #[.bool false, .bool false, .bool false, .bool false, .bool false, .bool false, .bool false, .bool false, .bool false, .bool false] 97)) HB2.out.size (boolsOf m)); generalize hw3 : (w2.alloc (Obj.cells #[.bool false, .bool false, .bool false, .bool false, .bool false, .bool false, .bool false, .bool false, .bool false, .bool false] 97)).setRow w2.heap.size (boolsOf m) = w3 at HR3 HT3 HB3 ⊢; clear hw3) | (go_at_call_of 57 (Value.int .u8 83); go_must (refine (is_calls s ((q : Int) + 1) (q + 1) rfl 83 (by omega) true C4.out _).mono ?_); rintro e w4 ⟨rfl, hd⟩; have HR4 := Aside0.mk (blk_drawn (HR3.out) hd); have HT4 := Aside0.mk (blk_drawn (HT3.out) hd); have HB4 := Aside0.mk (below_step (HB3.out) hd.below); clear hd) | (go_at_call 58; go_must (refine (list_calls s hs' ((q : Int) + 1 + 1) (q + 1 + 1) rfl (by omega) false q2 m2 HD2.out (-1) rfl _).mono ?_); rintro e w5 ⟨rfl, hb⟩; have HR5 := Aside0.mk (blk_below HR4.out hb); have HT5 := Aside0.mk (blk_below HT4.out hb); have HB5 := Aside0.mk (below_step HB4.out hb); clear hb) | ((with_reducible refine gate_ (Op.store 97 (.tmp 8) (.tmp 55)) rfl ?_); go_must (refine wpList_store_rowTo rfl 97 (.tmp 8) (.tmp 55) rfl rfl w5.heap.size (boolsOf m2) (by kernel_rfl) (by kernel_rfl) 97 #[.bool false, .bool false, .bool false, .bool false, .bool false, .bool false, .bool false, .bool false, .bool false, .bool false] (blk_new w5 _) (boolsOf_info _) (by rw [boolsOf_size _ 0, boolsOf_zero]) (boolsOf_one _) ?_); have HR6 := Aside0.mk (row_old HR5.out (Obj.cells #[.bool false, .bool false, .bool false, .bool false, .bool false, .bool false, .bool false, .bool false, .bool false, .bool false] 97) (boolsOf m2)); have HT6 := Aside0.mk (row_old HT5.out (Obj.cells #[.bool false, .bool false, .bool false, .bool false, .bool false, .bool false, .bool false, .bool false, .bool false, .bool false] 97) (boolsOf m2)); have HU6 := Aside0.mk (row_new w5 #[.bool false, .bool false, .bool false, .bool false, .bool false, .bool false, .bool false, .bool false, .bool false, .bool false] (boolsOf m2) 97); have HB6 := Aside0.mk (below_setRow (below_alloc HB5.out (Obj.cells #[.bool false, .bool false, .bool false, .bool false, .bool false, .bool false, .bool false, .bool false, .bool false, .bool false] 97)) HB5.out.size (boolsOf m2)); generalize hw6 : (w5.alloc (Obj.cells #[.bool false, .bool false, .bool false, .bool false, .bool false, .bool false, .bool false, .bool false, .bool false, .bool false] 97)).setRow w5.heap.size (boolsOf m2) = w6 at HR6 HT6 HU6 HB6 ⊢; clear hw6))
 clear hbt
 refine start_ (n := 7) (S := fun w' => w'.heap[w2.heap.size]? = some (.cells (boolsOf m) 97 (0, 0)) ∧ w'.heap[w5.heap.size]? = some (.cells (boolsOf m2) 97 (0, 0)) ∧ w'.heap[w.heap.size]? = some (.cells #[.int .u8 0, .int .u16 0, .int .u16 0] 40 (0, 0))) (ds := [6]) #[false, false, false, false, false, false, false] (by kernel_rfl) rfl rfl ⟨HT6.out, HU6.out, HR6.out⟩ (fun hHeld => ?_)
 refine take_ (i := 0) (N := some 62) (v := ?_) (a' := ?_) #[true, false, false, false, false, false, false] rfl rfl (by kernel_rfl) (fun _ _ _ h => h) (Or.inl ⟨by rfl, ?_⟩) hHeld ?_ ?_
 rotate_left
 ·rintro w' ⟨s0, s1, s2⟩
  rw [load_row_run (ty := 97) (x := .tmp 5) (hg := s0) (hu := Tryd.underlying97) (hd := rfl) (hi := boolsOf_info _)] <;> rfl
 rotate_left
 ·simp only [Act.put, List.setIfInBounds_toArray, List.set_cons_zero, List.set_cons_succ, i64_w, i32_w]
  rfl
 refine take_ (i := 2) (N := some 64) (v := ?_) (a' := ?_) #[true, false, true, false, false, false, false] rfl rfl (by kernel_rfl) (fun _ _ _ h => h) (Or.inl ⟨by rfl, ?_⟩) hHeld ?_ ?_
 rotate_left
 ·rintro w' ⟨s0, s1, s2⟩
  rw [load_row_run (ty := 97) (x := .tmp 8) (hg := s1) (hu := Tryd.underlying97) (hd := rfl) (hi := boolsOf_info _)] <;> rfl
 rotate_left
 ·simp only [Act.put, List.setIfInBounds_toArray, List.set_cons_zero, List.set_cons_succ, i64_w, i32_w]
  rfl
 refine join_ (σ := Nat) 1 #[true, true, true, true, true, true, false] (fun s_ => [(63, .int .u16 m), (65, .int .u16 m2), (10, .pointer (some ⟨s_, 0, none⟩)), (66, .agg #[.int .u8 1, .int .u16 m, .int .u16 m2])]) (fun s_ w' => (w'.heap[w2.heap.size]? = some (.cells (boolsOf m) 97 (0, 0)) ∧ w'.heap[w5.heap.size]? = some (.cells (boolsOf m2) 97 (0, 0)) ∧ w'.heap[w.heap.size]? = some (.cells #[.int .u8 0, .int .u16 0, .int .u16 0] 40 (0, 0))) ∧ w'.heap[s_]? = some (.cells #[.int .u8 0, .int .u16 0, .int .u16 0] 40 (0, 0)) ∧ Below w.heap.size w w' ∧ w.heap.size < s_) ?_ ?_
 rotate_left
 ·intro hCont
  refine two_ (i := 1) (j := 5) (Ni := some 63) (Nj := some 10) #[true, true, true, false, false, false, false] #[true, false, true, false, false, true, false] rfl rfl rfl rfl (by kernel_rfl) (by decide) (by decide) (fun K hK => ?_) (fun K hK => ?_)
  ·skip
   refine goes_ Tryd.func59 (by kernel_rfl) rfl #[.agg (boolsOf m)] (by rfl) rfl rfl (by simp only [List.map_toArray, List.map_cons, List.map_nil]; rfl) ?_
   with_reducible refine (number_calls m hm _).mono ?_
   rintro e wc1 ⟨rfl, hb⟩
   have HTc1 : Aside0 ((wc1).heap[w2.heap.size]? = some (.cells (boolsOf m) 97 (0, 0))) := ⟨blk_below (w := w6.drew) HT6.out hb⟩
   have HUc1 : Aside0 ((wc1).heap[w5.heap.size]? = some (.cells (boolsOf m2) 97 (0, 0))) := ⟨blk_below (w := w6.drew) HU6.out hb⟩
   have HRc1 : Aside0 ((wc1).heap[w.heap.size]? = some (.cells #[.int .u8 0, .int .u16 0, .int .u16 0] 40 (0, 0))) := ⟨blk_below (w := w6.drew) HR6.out hb⟩
   have HBc1 : Aside0 (Below w.heap.size w (wc1)) := ⟨below_step (below_drew1 HB6.out) hb⟩
   clear hb
   refine ⟨_, rfl, ?_⟩
   refine hK.out _ _ ⟨HTc1.out, HUc1.out, HRc1.out⟩ (fun hHeld => ?_)
   clear hK K
   refine norm_ (a' := ?_) ?_ ?_
   rotate_left
   ·show Act.put _ (some 63) _ = _
    simp only [Act.put, List.setIfInBounds_toArray, List.set_cons_zero, List.set_cons_succ, i64_w, i32_w]
    rfl
   refine two_ (i := 3) (j := 5) (Ni := some 65) (Nj := some 10) #[true, true, true, true, false, false, false] #[true, true, true, false, false, true, false] rfl rfl rfl rfl (by kernel_rfl) (by decide) (by decide) (fun K hK => ?_) (fun K hK => ?_)
   ·skip
    refine goes_ Tryd.func59 (by kernel_rfl) rfl #[.agg (boolsOf m2)] (by rfl) rfl rfl (by simp only [List.map_toArray, List.map_cons, List.map_nil]; rfl) ?_
    with_reducible refine (number_calls m2 hm2 _).mono ?_
    rintro e wc13 ⟨rfl, hb⟩
    have HTc13 : Aside0 ((wc13).heap[w2.heap.size]? = some (.cells (boolsOf m) 97 (0, 0))) := ⟨blk_below (w := wc1) HTc1.out hb⟩
    have HUc13 : Aside0 ((wc13).heap[w5.heap.size]? = some (.cells (boolsOf m2) 97 (0, 0))) := ⟨blk_below (w := wc1) HUc1.out hb⟩
    have HRc13 : Aside0 ((wc13).heap[w.heap.size]? = some (.cells #[.int .u8 0, .int .u16 0, .int .u16 0] 40 (0, 0))) := ⟨blk_below (w := wc1) HRc1.out hb⟩
    have HBc13 : Aside0 (Below w.heap.size w (wc13)) := ⟨below_step HBc1.out hb⟩
    clear hb
    refine ⟨_, rfl, ?_⟩
    refine hK.out _ _ ⟨HTc13.out, HUc13.out, HRc13.out⟩ (fun hHeld => ?_)
    clear hK K
    refine norm_ (a' := ?_) ?_ ?_
    rotate_left
    ·show Act.put _ (some 65) _ = _
     simp only [Act.put, List.setIfInBounds_toArray, List.set_cons_zero, List.set_cons_succ, i64_w, i32_w]
     rfl
    refine pure_ (i := 4) (N := some 66) (v := ?_) (a' := ?_) #[true, true, true, true, true, false, false] rfl rfl (by kernel_rfl) (fun _ _ _ h => h) (Or.inl ⟨by rfl, ?_⟩) ?_ ?_
    rotate_left
    ·intro w'
     go_simp
     with_reducible rfl
    rotate_left
    ·simp only [Act.put, List.setIfInBounds_toArray, List.set_cons_zero, List.set_cons_succ, i64_w, i32_w]
     rfl
    refine one_ (i := 5) (N := some 10) #[true, true, true, true, true, true, false] rfl rfl (by kernel_rfl) (by decide) (fun K hK => ?_)
    refine value_ (w1 := ?_) (v := ?_) (by rfl) rfl ?_ ?_
    rotate_left 2
    ·go_simp
     constructor
     ·rfl
     ·rfl
    have HTc135 : Aside0 (((wc13).alloc (Obj.cells #[.int .u8 0, .int .u16 0, .int .u16 0] 40)).heap[w2.heap.size]? = some (.cells (boolsOf m) 97 (0, 0))) := ⟨blk_alloc (w := wc13) HTc13.out _⟩
    have HUc135 : Aside0 (((wc13).alloc (Obj.cells #[.int .u8 0, .int .u16 0, .int .u16 0] 40)).heap[w5.heap.size]? = some (.cells (boolsOf m2) 97 (0, 0))) := ⟨blk_alloc (w := wc13) HUc13.out _⟩
    have HRc135 : Aside0 (((wc13).alloc (Obj.cells #[.int .u8 0, .int .u16 0, .int .u16 0] 40)).heap[w.heap.size]? = some (.cells #[.int .u8 0, .int .u16 0, .int .u16 0] 40 (0, 0))) := ⟨blk_alloc (w := wc13) HRc13.out _⟩
    have HLc135 : Aside0 (((wc13).alloc (Obj.cells #[.int .u8 0, .int .u16 0, .int .u16 0] 40)).heap[(wc13).heap.size]? = some (Obj.cells #[.int .u8 0, .int .u16 0, .int .u16 0] 40)) := ⟨blk_new (wc13) _⟩
    have HBc135 : Aside0 (Below w.heap.size w ((wc13).alloc (Obj.cells #[.int .u8 0, .int .u16 0, .int .u16 0] 40))) := ⟨below_alloc HBc13.out _⟩
    refine hK.out _ _ ⟨HTc135.out, HUc135.out, HRc135.out⟩ (fun hHeld => ?_)
    clear hK K
    refine norm_ (a' := ?_) ?_ ?_
    rotate_left
    ·show Act.put _ (some 10) _ = _
     simp only [Act.put, List.setIfInBounds_toArray, List.set_cons_zero, List.set_cons_succ, i64_w, i32_w]
     rfl
    exact norm_ (by simp only [putAll, Act.put, List.setIfInBounds_toArray, List.set_cons_zero, List.set_cons_succ]) (hCont (wc13.heap.size) _ ⟨⟨HTc135.out, HUc135.out, HRc135.out⟩, HLc135.out, HBc135.out, blk_lt HRc13.out⟩)
   ·skip
    refine value_ (w1 := ?_) (v := ?_) (by rfl) rfl ?_ ?_
    rotate_left 2
    ·go_simp
     constructor
     ·rfl
     ·rfl
    have HTc15 : Aside0 (((wc1).alloc (Obj.cells #[.int .u8 0, .int .u16 0, .int .u16 0] 40)).heap[w2.heap.size]? = some (.cells (boolsOf m) 97 (0, 0))) := ⟨blk_alloc (w := wc1) HTc1.out _⟩
    have HUc15 : Aside0 (((wc1).alloc (Obj.cells #[.int .u8 0, .int .u16 0, .int .u16 0] 40)).heap[w5.heap.size]? = some (.cells (boolsOf m2) 97 (0, 0))) := ⟨blk_alloc (w := wc1) HUc1.out _⟩
    have HRc15 : Aside0 (((wc1).alloc (Obj.cells #[.int .u8 0, .int .u16 0, .int .u16 0] 40)).heap[w.heap.size]? = some (.cells #[.int .u8 0, .int .u16 0, .int .u16 0] 40 (0, 0))) := ⟨blk_alloc (w := wc1) HRc1.out _⟩
    have HLc15 : Aside0 (((wc1).alloc (Obj.cells #[.int .u8 0, .int .u16 0, .int .u16 0] 40)).heap[(wc1).heap.size]? = some (Obj.cells #[.int .u8 0, .int .u16 0, .int .u16 0] 40)) := ⟨blk_new (wc1) _⟩
    have HBc15 : Aside0 (Below w.heap.size w ((wc1).alloc (Obj.cells #[.int .u8 0, .int .u16 0, .int .u16 0] 40))) := ⟨below_alloc HBc1.out _⟩
    refine hK.out _ _ ⟨HTc15.out, HUc15.out, HRc15.out⟩ (fun hHeld => ?_)
    clear hK K
    refine norm_ (a' := ?_) ?_ ?_
    rotate_left
    ·show Act.put _ (some 10) _ = _
     simp only [Act.put, List.setIfInBounds_toArray, List.set_cons_zero, List.set_cons_succ, i64_w, i32_w]
     rfl
    refine one_ (i := 3) (N := some 65) #[true, true, true, true, false, true, false] rfl rfl (by kernel_rfl) (by decide) (fun K hK => ?_)
    refine goes_ Tryd.func59 (by kernel_rfl) rfl #[.agg (boolsOf m2)] (by rfl) rfl rfl (by simp only [List.map_toArray, List.map_cons, List.map_nil]; rfl) ?_
    with_reducible refine (number_calls m2 hm2 _).mono ?_
    rintro e wc153 ⟨rfl, hb⟩
    have HTc153 : Aside0 ((wc153).heap[w2.heap.size]? = some (.cells (boolsOf m) 97 (0, 0))) := ⟨blk_below (w := (wc1).alloc (Obj.cells #[.int .u8 0, .int .u16 0, .int .u16 0] 40)) HTc15.out hb⟩
    have HUc153 : Aside0 ((wc153).heap[w5.heap.size]? = some (.cells (boolsOf m2) 97 (0, 0))) := ⟨blk_below (w := (wc1).alloc (Obj.cells #[.int .u8 0, .int .u16 0, .int .u16 0] 40)) HUc15.out hb⟩
    have HRc153 : Aside0 ((wc153).heap[w.heap.size]? = some (.cells #[.int .u8 0, .int .u16 0, .int .u16 0] 40 (0, 0))) := ⟨blk_below (w := (wc1).alloc (Obj.cells #[.int .u8 0, .int .u16 0, .int .u16 0] 40)) HRc15.out hb⟩
    have HLc153 : Aside0 ((wc153).heap[wc1.heap.size]? = some (.cells #[.int .u8 0, .int .u16 0, .int .u16 0] 40 (0, 0))) := ⟨blk_below (w := (wc1).alloc (Obj.cells #[.int .u8 0, .int .u16 0, .int .u16 0] 40)) HLc15.out hb⟩
    have HBc153 : Aside0 (Below w.heap.size w (wc153)) := ⟨below_step HBc15.out hb⟩
    clear hb
    refine ⟨_, rfl, ?_⟩
    refine hK.out _ _ ⟨HTc153.out, HUc153.out, HRc153.out⟩ (fun hHeld => ?_)
    clear hK K
    refine norm_ (a' := ?_) ?_ ?_
    rotate_left
    ·show Act.put _ (some 65) _ = _
     simp only [Act.put, List.setIfInBounds_toArray, List.set_cons_zero, List.set_cons_succ, i64_w, i32_w]
     rfl
    refine pure_ (i := 4) (N := some 66) (v := ?_) (a' := ?_) #[true, true, true, true, true, true, false] rfl rfl (by kernel_rfl) (fun _ _ _ h => h) (Or.inl ⟨by rfl, ?_⟩) ?_ ?_
    rotate_left
    ·intro w'
     go_simp
     with_reducible rfl
    rotate_left
    ·simp only [Act.put, List.setIfInBounds_toArray, List.set_cons_zero, List.set_cons_succ, i64_w, i32_w]
     rfl
    exact norm_ (by simp only [putAll, Act.put, List.setIfInBounds_toArray, List.set_cons_zero, List.set_cons_succ]) (hCont (wc1.heap.size) _ ⟨⟨HTc153.out, HUc153.out, HRc153.out⟩, HLc153.out, HBc153.out, blk_lt HRc1.out⟩)
  ·skip
   refine value_ (w1 := ?_) (v := ?_) (by rfl) rfl ?_ ?_
   rotate_left 2
   ·go_simp
    constructor
    ·rfl
    ·rfl
   have HTc5 : Aside0 (((w6.drew).alloc (Obj.cells #[.int .u8 0, .int .u16 0, .int .u16 0] 40)).heap[w2.heap.size]? = some (.cells (boolsOf m) 97 (0, 0))) := ⟨blk_alloc (w := w6.drew) HT6.out _⟩
   have HUc5 : Aside0 (((w6.drew).alloc (Obj.cells #[.int .u8 0, .int .u16 0, .int .u16 0] 40)).heap[w5.heap.size]? = some (.cells (boolsOf m2) 97 (0, 0))) := ⟨blk_alloc (w := w6.drew) HU6.out _⟩
   have HRc5 : Aside0 (((w6.drew).alloc (Obj.cells #[.int .u8 0, .int .u16 0, .int .u16 0] 40)).heap[w.heap.size]? = some (.cells #[.int .u8 0, .int .u16 0, .int .u16 0] 40 (0, 0))) := ⟨blk_alloc (w := w6.drew) HR6.out _⟩
   have HLc5 : Aside0 (((w6.drew).alloc (Obj.cells #[.int .u8 0, .int .u16 0, .int .u16 0] 40)).heap[(w6.drew).heap.size]? = some (Obj.cells #[.int .u8 0, .int .u16 0, .int .u16 0] 40)) := ⟨blk_new (w6.drew) _⟩
   have HBc5 : Aside0 (Below w.heap.size w ((w6.drew).alloc (Obj.cells #[.int .u8 0, .int .u16 0, .int .u16 0] 40))) := ⟨below_alloc (below_drew1 HB6.out) _⟩
   refine hK.out _ _ ⟨HTc5.out, HUc5.out, HRc5.out⟩ (fun hHeld => ?_)
   clear hK K
   refine norm_ (a' := ?_) ?_ ?_
   rotate_left
   ·show Act.put _ (some 10) _ = _
    simp only [Act.put, List.setIfInBounds_toArray, List.set_cons_zero, List.set_cons_succ, i64_w, i32_w]
    rfl
   refine one_ (i := 1) (N := some 63) #[true, true, true, false, false, true, false] rfl rfl (by kernel_rfl) (by decide) (fun K hK => ?_)
   refine goes_ Tryd.func59 (by kernel_rfl) rfl #[.agg (boolsOf m)] (by rfl) rfl rfl (by simp only [List.map_toArray, List.map_cons, List.map_nil]; rfl) ?_
   with_reducible refine (number_calls m hm _).mono ?_
   rintro e wc51 ⟨rfl, hb⟩
   have HTc51 : Aside0 ((wc51).heap[w2.heap.size]? = some (.cells (boolsOf m) 97 (0, 0))) := ⟨blk_below (w := (w6.drew).alloc (Obj.cells #[.int .u8 0, .int .u16 0, .int .u16 0] 40)) HTc5.out hb⟩
   have HUc51 : Aside0 ((wc51).heap[w5.heap.size]? = some (.cells (boolsOf m2) 97 (0, 0))) := ⟨blk_below (w := (w6.drew).alloc (Obj.cells #[.int .u8 0, .int .u16 0, .int .u16 0] 40)) HUc5.out hb⟩
   have HRc51 : Aside0 ((wc51).heap[w.heap.size]? = some (.cells #[.int .u8 0, .int .u16 0, .int .u16 0] 40 (0, 0))) := ⟨blk_below (w := (w6.drew).alloc (Obj.cells #[.int .u8 0, .int .u16 0, .int .u16 0] 40)) HRc5.out hb⟩
   have HLc51 : Aside0 ((wc51).heap[w6.heap.size]? = some (.cells #[.int .u8 0, .int .u16 0, .int .u16 0] 40 (0, 0))) := ⟨blk_below (w := (w6.drew).alloc (Obj.cells #[.int .u8 0, .int .u16 0, .int .u16 0] 40)) HLc5.out hb⟩
   have HBc51 : Aside0 (Below w.heap.size w (wc51)) := ⟨below_step HBc5.out hb⟩
   clear hb
   refine ⟨_, rfl, ?_⟩
   refine hK.out _ _ ⟨HTc51.out, HUc51.out, HRc51.out⟩ (fun hHeld => ?_)
   clear hK K
   refine norm_ (a' := ?_) ?_ ?_
   rotate_left
   ·show Act.put _ (some 63) _ = _
    simp only [Act.put, List.setIfInBounds_toArray, List.set_cons_zero, List.set_cons_succ, i64_w, i32_w]
    rfl
   refine one_ (i := 3) (N := some 65) #[true, true, true, true, false, true, false] rfl rfl (by kernel_rfl) (by decide) (fun K hK => ?_)
   refine goes_ Tryd.func59 (by kernel_rfl) rfl #[.agg (boolsOf m2)] (by rfl) rfl rfl (by simp only [List.map_toArray, List.map_cons, List.map_nil]; rfl) ?_
   with_reducible refine (number_calls m2 hm2 _).mono ?_
   rintro e wc513 ⟨rfl, hb⟩
   have HTc513 : Aside0 ((wc513).heap[w2.heap.size]? = some (.cells (boolsOf m) 97 (0, 0))) := ⟨blk_below (w := wc51) HTc51.out hb⟩
   have HUc513 : Aside0 ((wc513).heap[w5.heap.size]? = some (.cells (boolsOf m2) 97 (0, 0))) := ⟨blk_below (w := wc51) HUc51.out hb⟩
   have HRc513 : Aside0 ((wc513).heap[w.heap.size]? = some (.cells #[.int .u8 0, .int .u16 0, .int .u16 0] 40 (0, 0))) := ⟨blk_below (w := wc51) HRc51.out hb⟩
   have HLc513 : Aside0 ((wc513).heap[w6.heap.size]? = some (.cells #[.int .u8 0, .int .u16 0, .int .u16 0] 40 (0, 0))) := ⟨blk_below (w := wc51) HLc51.out hb⟩
   have HBc513 : Aside0 (Below w.heap.size w (wc513)) := ⟨below_step HBc51.out hb⟩
   clear hb
   refine ⟨_, rfl, ?_⟩
   refine hK.out _ _ ⟨HTc513.out, HUc513.out, HRc513.out⟩ (fun hHeld => ?_)
   clear hK K
   refine norm_ (a' := ?_) ?_ ?_
   rotate_left
   ·show Act.put _ (some 65) _ = _
    simp only [Act.put, List.setIfInBounds_toArray, List.set_cons_zero, List.set_cons_succ, i64_w, i32_w]
    rfl
   refine pure_ (i := 4) (N := some 66) (v := ?_) (a' := ?_) #[true, true, true, true, true, true, false] rfl rfl (by kernel_rfl) (fun _ _ _ h => h) (Or.inl ⟨by rfl, ?_⟩) ?_ ?_
   rotate_left
   ·intro w'
    go_simp
    with_reducible rfl
   rotate_left
   ·simp only [Act.put, List.setIfInBounds_toArray, List.set_cons_zero, List.set_cons_succ, i64_w, i32_w]
    rfl
   exact norm_ (by simp only [putAll, Act.put, List.setIfInBounds_toArray, List.set_cons_zero, List.set_cons_succ]) (hCont (w6.heap.size) _ ⟨⟨HTc513.out, HUc513.out, HRc513.out⟩, HLc513.out, HBc513.out, blk_lt HR6.out⟩)
 rintro g w9 ⟨⟨hT, hU, hR⟩, hL, hB, hne⟩
 have hHeld : _ ∧ _ ∧ _ := ⟨hT, hU, hR⟩
 have HT9 := Aside0.mk hT
 have HU9 := Aside0.mk hU
 have HR9 := Aside0.mk hR
 have HL9 := Aside0.mk hL
 have HB9 := Aside0.mk hB
 clear hT hU hR hL hB
 refine norm_ (a' := ?_) ?_ ?_
 rotate_left
 ·simp only [putAll, Act.put, List.setIfInBounds_toArray, List.set_cons_zero, List.set_cons_succ]
  rfl
 refine last_ (i := 6) (N := none) #[true, true, true, true, true, true, true] rfl rfl (by kernel_rfl) (by decide) (fun K hK => ?_)
 refine store_row_step (by rfl) 40 (.tmp 10) (.tmp 66) rfl g #[.int .u8 1, .int .u16 m, .int .u16 m2] (by rfl) (by rfl) 40 #[.int .u8 0, .int .u16 0, .int .u16 0] HL9.out (by kernel_rfl) rfl (by simp [Value.oneCell']) ?_
 have HR10 := Aside0.mk ((setRow_other w9 g w.heap.size #[.int .u8 1, .int .u16 m, .int .u16 m2] (Nat.ne_of_lt hne)).trans HR9.out)
 have HL10 := Aside0.mk (setRow_heap w9 g _ #[.int .u8 1, .int .u16 m, .int .u16 m2] _ _ HL9.out)
 have HB10 := Aside0.mk (below_setRow HB9.out (Nat.le_of_lt hne) #[.int .u8 1, .int .u16 m, .int .u16 m2])
 generalize hw10 : World.setRow w9 g #[.int .u8 1, .int .u16 m, .int .u16 m2] = w10 at HR10 HL10 HB10 ⊢
 clear hw10
 refine hK.out _ _ ?_
 clear hK K
 refine done_ (by kernel_rfl) ?_
 have gne : ¬ g = w.heap.size := Nat.ne_of_gt hne
 have gne' : ¬ w.heap.size = g := Nat.ne_of_lt hne
 have hh := HS5.out
 clear HS5
 have C5 := Aside0.mk (decide_eq_false v1)
 have C6 := Aside0.mk (decide_eq_true v2)
 have hho := hood_h s q2 v2.1 (fun e => v1 ⟨v2.1, e⟩) v2.2
 rw [tail_v s q2 m m2 _ hho (by decide)] at hh
 clear v2
 clear hho v1
 by_cases q1 : q2 + 1 < s.size
 ·have q1' : (q2 : Int) + 1 < (s.size : Int) := by omega
  have q1n : ¬ s.size ≤ q2 + 1 := by omega
  rw [if_pos q1] at hh
  simp only [Prod.mk.injEq] at hh
  obtain ⟨rfl, rfl, rfl, rfl, rfl⟩ := hh
  go_wp2_with (first | (go_at_call_of 57 (Value.int .u8 86); go_must (refine (is_calls s q2 q2 rfl 86 (by omega) false C5.out _).mono ?_); rintro e w11 ⟨rfl, hd⟩; have HR11 := Aside0.mk (blk_drawn HR10.out hd); have HL11 := Aside0.mk (blk_drawn HL10.out hd); have HB11 := Aside0.mk (below_step HB10.out hd.below); clear hd; skip) | (go_at_call_of 57 (Value.int .u8 72); go_must (refine (is_calls s q2 q2 rfl 72 (by omega) true C6.out _).mono ?_); rintro e w12 ⟨rfl, hd⟩; have HR12 := Aside0.mk (blk_drawn HR11.out hd); have HL12 := Aside0.mk (blk_drawn HL11.out hd); have HB12 := Aside0.mk (below_step HB11.out hd.below); clear hd; have k0 : w12.cell? ⟨w.heap.size, 0, none⟩ = some (.int .u8 0) := blk_cell HR12.out 0; have z0 := blk_frozen HR12.out 0; have k1 : w12.cell? ⟨w.heap.size, 1, none⟩ = some (.int .u16 0) := blk_cell HR12.out 1; have z1 := blk_frozen HR12.out 1; have k2 : w12.cell? ⟨w.heap.size, 2, none⟩ = some (.int .u16 0) := blk_cell HR12.out 2; have z2 := blk_frozen HR12.out 2; have l0 : w12.cell? ⟨g, 0, none⟩ = some (.int .u8 1) := blk_cell HL12.out 0; have y0 := blk_frozen HL12.out 0; have l1 : w12.cell? ⟨g, 1, none⟩ = some (.int .u16 m) := blk_cell HL12.out 1; have y1 := blk_frozen HL12.out 1; have l2 : w12.cell? ⟨g, 2, none⟩ = some (.int .u16 m2) := blk_cell HL12.out 2; have y2 := blk_frozen HL12.out 2))
  try rw [Exit.noGoto_ret]
  refine bodyPost_ret (v := .tuple #[.agg #[.int .u8 0, .int .u16 0, .int .u16 0], .int .i64 ((q2 + 1 : Nat) : Int), .int .i64 80]) (by simp [results, Tryd.results34, go_sem, *]) rfl ⟨rfl, ?_⟩
  repeat (first | exact HB12.out | apply below_alloc | apply pw_below_drewN | apply below_drew1 | refine below_set ?_ (Nat.le_refl _) | refine below_set ?_ (Nat.le_of_lt hne))
 ·have q1' : ¬ (q2 : Int) + 1 < (s.size : Int) := by omega
  rw [if_neg q1] at hh
  have HS6 := Aside0.mk hh
  have q1d : decide ((q2 : Int) + 1 < (s.size : Int)) = false := decide_eq_false q1'
  clear hh q1 q1'
  go_wp2_with (first | (go_at_call_of 57 (Value.int .u8 86); go_must (refine (is_calls s q2 q2 rfl 86 (by omega) false C5.out _).mono ?_); rintro e w11 ⟨rfl, hd⟩; have HR11 := Aside0.mk (blk_drawn HR10.out hd); have HL11 := Aside0.mk (blk_drawn HL10.out hd); have HB11 := Aside0.mk (below_step HB10.out hd.below); clear hd; skip) | (go_at_call_of 57 (Value.int .u8 72); go_must (refine (is_calls s q2 q2 rfl 72 (by omega) true C6.out _).mono ?_); rintro e w12 ⟨rfl, hd⟩; have HR12 := Aside0.mk (blk_drawn HR11.out hd); have HL12 := Aside0.mk (blk_drawn HL11.out hd); have HB12 := Aside0.mk (below_step HB11.out hd.below); clear hd; have k0 : w12.cell? ⟨w.heap.size, 0, none⟩ = some (.int .u8 0) := blk_cell HR12.out 0; have z0 := blk_frozen HR12.out 0; have k1 : w12.cell? ⟨w.heap.size, 1, none⟩ = some (.int .u16 0) := blk_cell HR12.out 1; have z1 := blk_frozen HR12.out 1; have k2 : w12.cell? ⟨w.heap.size, 2, none⟩ = some (.int .u16 0) := blk_cell HR12.out 2; have z2 := blk_frozen HR12.out 2; have l0 : w12.cell? ⟨g, 0, none⟩ = some (.int .u8 1) := blk_cell HL12.out 0; have y0 := blk_frozen HL12.out 0; have l1 : w12.cell? ⟨g, 1, none⟩ = some (.int .u16 m) := blk_cell HL12.out 1; have y1 := blk_frozen HL12.out 1; have l2 : w12.cell? ⟨g, 2, none⟩ = some (.int .u16 m2) := blk_cell HL12.out 2; have y2 := blk_frozen HL12.out 2))
  have HS7' : tailOf 3 m m2 (firstBig s 6 s.size 0) = (r1, r2, r3, r4, r5) := by
   have h6 := HS6.out
   cases hf : firstBig s (mostOf 3) s.size 0 with
   | none => rw [hf] at h6; rw [show firstBig s 6 s.size 0 = none from hf]; exact h6
   | some x => rw [hf] at h6; rw [show firstBig s 6 s.size 0 = some x from hf]; exact h6
  obtain ⟨fb, hfb⟩ : ∃ fb, firstBig s 6 s.size 0 = fb := ⟨_, rfl⟩
  rw [hfb] at HS7'
  have HS7 := Aside0.mk HS7'
  clear HS7'
  have HFB := Aside0.mk hfb
  clear hfb HS6 hHeld
  go_loopg [11] s.size (fun k t11 wi => ∃ i : Nat, i ≤ s.size ∧ t11 = .int .i64 i ∧ Aside0 (firstBig s 6 k i = fb) ∧ Aside0 (s.size ≤ k + i) ∧ Aside0 (Below w.heap.size w wi) ∧ Aside0 (wi.heap[w.heap.size]? = some (.cells #[.int .u8 0, .int .u16 0, .int .u16 0] 40 (0, 0))) ∧ Aside0 (wi.heap[g]? = some (.cells #[.int .u8 3, .int .u16 m, .int .u16 m2] 40 (0, 0))))
  case atStart => exact ⟨0, by omega, rfl, HFB, ⟨by omega⟩, ⟨below_set HB12.out (Nat.le_of_lt hne)⟩, ⟨blk_far HR12.out (by show w.heap.size ≠ g; exact gne') _⟩, ⟨blk_put HL12.out 0 _ rfl⟩⟩
  case round =>
   obtain ⟨i, hi, rfl, HF, HN, HB, HR, HL⟩ := hrel
   have i0 : (0 : Int) ≤ (i : Int) := by omega
   have i00 : (i : Int) < 1000000000 := by omega
   have k0 : wr.cell? ⟨w.heap.size, 0, none⟩ = some (.int .u8 0) := blk_cell HR.out 0
   have z0 := blk_frozen HR.out 0
   have k1 : wr.cell? ⟨w.heap.size, 1, none⟩ = some (.int .u16 0) := blk_cell HR.out 1
   have z1 := blk_frozen HR.out 1
   have k2 : wr.cell? ⟨w.heap.size, 2, none⟩ = some (.int .u16 0) := blk_cell HR.out 2
   have z2 := blk_frozen HR.out 2
   have l0 : wr.cell? ⟨g, 0, none⟩ = some (.int .u8 3) := blk_cell HL.out 0
   have y0 := blk_frozen HL.out 0
   have l1 : wr.cell? ⟨g, 1, none⟩ = some (.int .u16 m) := blk_cell HL.out 1
   have y1 := blk_frozen HL.out 1
   have l2 : wr.cell? ⟨g, 2, none⟩ = some (.int .u16 m2) := blk_cell HL.out 2
   have y2 := blk_frozen HL.out 2
   by_cases d1 : i < s.size
   ·have d1d : decide ((i : Int) < (s.size : Int)) = true := decide_eq_true (by omega)
    have d1' : (i : Int) < (s.size : Int) := by omega
    have hbt : ∀ hh : i < s.size, ((s[i]'hh).toNat : Int) = bt s (i : Int) := bt_at s (i : Int)
    have hbr := bt_range s (i : Int)
    obtain ⟨b, hb⟩ : ∃ b, bt s (i : Int) = b := ⟨_, rfl⟩
    rw [hb] at hbt hbr
    have HB' := Aside0.mk hb
    clear hb
    cases gk with
    | zero => exact absurd HN.out (by omega)
    | succ gk =>
    have hi1 : i + 1 ≤ s.size := d1
    have HW : Aside0 (wrap64 ((i : Int) + 1) = ((i + 1 : Nat) : Int)) := ⟨by unfold wrap64; omega⟩
    have hnn : Aside0 (s.size ≤ gk + (i + 1)) := ⟨by have := HN.out; omega⟩
    have hf := HF.out
    rw [firstBig_succ, if_pos d1, HB'.out] at hf
    by_cases d2 : 48 ≤ b
    ·have d2d : decide (48 ≤ b) = true := decide_eq_true d2
     by_cases d3 : b ≤ 57
     ·have d3d : decide (b ≤ 57) = true := decide_eq_true d3
      have HW8 : Aside0 (wrap64 (IntKind.u8.wrap (b - 48)) = b - 48) := ⟨by rw [show IntKind.u8.wrap (b - 48) = b - 48 from by rw [IntKind.wrap_u8]; omega]; unfold wrap64; omega⟩
      by_cases d4 : 6 < b - 48
      ·have d4d : decide (6 < wrap64 (IntKind.u8.wrap (b - 48))) = true := decide_eq_true (by rw [HW8.out]; exact d4)
       rw [if_pos ⟨d2, d3, d4⟩] at hf
       have HF2 := Aside0.mk hf
       clear hf d2 d3 d4
       go_wp2_with fail
       refine start_ (n := 21) (S := fun w' => w'.cell? ⟨g, 0, none⟩ = some (.int .u8 3)) (ds := []) #[false, false, false, false, false, false, false, false, false, false, false, false, false, false, false, false, false, false, false, false, false] (by kernel_rfl) rfl rfl ((blk_cell HL.out 0)) (fun hHeld => ?_)
       refine pure_ (i := 0) (N := some 91) (v := ?_) (a' := ?_) #[true, false, false, false, false, false, false, false, false, false, false, false, false, false, false, false, false, false, false, false, false] rfl rfl (by kernel_rfl) (fun _ _ _ h => h) (Or.inl ⟨by rfl, ?_⟩) ?_ ?_
       rotate_left
       ·intro w'
        go_simp
        with_reducible rfl
       rotate_left
       ·simp only [Act.put, List.setIfInBounds_toArray, List.set_cons_zero, List.set_cons_succ, i64_w, i32_w]
        rfl
       refine pure_ (i := 1) (N := some 92) (v := ?_) (a' := ?_) #[true, true, false, false, false, false, false, false, false, false, false, false, false, false, false, false, false, false, false, false, false] rfl rfl (by kernel_rfl) (fun _ _ _ h => h) (Or.inl ⟨by rfl, ?_⟩) ?_ ?_
       rotate_left
       ·intro w'
        go_simp
        with_reducible rfl
       rotate_left
       ·simp only [Act.put, List.setIfInBounds_toArray, List.set_cons_zero, List.set_cons_succ, i64_w, i32_w]
        rfl
       refine take_ (i := 2) (N := some 93) (v := ?_) (a' := ?_) #[true, true, true, false, false, false, false, false, false, false, false, false, false, false, false, false, false, false, false, false, false] rfl rfl (by kernel_rfl) (fun _ _ _ h => h) (Or.inl ⟨by rfl, ?_⟩) hHeld ?_ ?_
       rotate_left
       ·intro w' s0
        go_simp
        with_reducible rfl
       rotate_left
       ·simp only [Act.put, List.setIfInBounds_toArray, List.set_cons_zero, List.set_cons_succ, i64_w, i32_w]
        rfl
       refine pure_ (i := 3) (N := some 94) (v := ?_) (a' := ?_) #[true, true, true, true, false, false, false, false, false, false, false, false, false, false, false, false, false, false, false, false, false] rfl rfl (by kernel_rfl) (fun _ _ _ h => h) (Or.inl ⟨by rfl, ?_⟩) ?_ ?_
       rotate_left
       ·intro w'
        go_simp
        with_reducible rfl
       rotate_left
       ·simp only [Act.put, List.setIfInBounds_toArray, List.set_cons_zero, List.set_cons_succ, i64_w, i32_w]
        rfl
       refine pure_ (i := 4) (N := some 95) (v := ?_) (a' := ?_) #[true, true, true, true, true, false, false, false, false, false, false, false, false, false, false, false, false, false, false, false, false] rfl rfl (by kernel_rfl) (fun _ _ _ h => h) (Or.inl ⟨by rfl, ?_⟩) ?_ ?_
       rotate_left
       ·intro w'
        go_simp
        with_reducible rfl
       rotate_left
       ·simp only [Act.put, List.setIfInBounds_toArray, List.set_cons_zero, List.set_cons_succ, i64_w, i32_w]
        rfl
       refine pure_ (i := 5) (N := some 96) (v := ?_) (a' := ?_) #[true, true, true, true, true, true, false, false, false, false, false, false, false, false, false, false, false, false, false, false, false] rfl rfl (by kernel_rfl) (fun _ _ _ h => h) (Or.inl ⟨by rfl, ?_⟩) ?_ ?_
       rotate_left
       ·intro w'
        go_simp
        with_reducible rfl
       rotate_left
       ·simp only [Act.put, List.setIfInBounds_toArray, List.set_cons_zero, List.set_cons_succ, i64_w, i32_w]
        rfl
       refine pure_ (i := 6) (N := some 97) (v := ?_) (a' := ?_) #[true, true, true, true, true, true, true, false, false, false, false, false, false, false, false, false, false, false, false, false, false] rfl rfl (by kernel_rfl) (fun _ _ _ h => h) (Or.inl ⟨by rfl, ?_⟩) ?_ ?_
       rotate_left
       ·intro w'
        go_simp
        with_reducible rfl
       rotate_left
       ·simp only [Act.put, List.setIfInBounds_toArray, List.set_cons_zero, List.set_cons_succ, i64_w, i32_w]
        rfl
       refine take_ (i := 7) (N := some 98) (v := ?_) (a' := ?_) #[true, true, true, true, true, true, true, true, false, false, false, false, false, false, false, false, false, false, false, false, false] rfl rfl (by kernel_rfl) (fun _ _ _ h => h) (Or.inl ⟨by rfl, ?_⟩) hHeld ?_ ?_
       rotate_left
       ·intro w' s0
        go_simp
        with_reducible rfl
       rotate_left
       ·simp only [Act.put, List.setIfInBounds_toArray, List.set_cons_zero, List.set_cons_succ, i64_w, i32_w]
        rfl
       refine pure_ (i := 8) (N := some 99) (v := ?_) (a' := ?_) #[true, true, true, true, true, true, true, true, true, false, false, false, false, false, false, false, false, false, false, false, false] rfl rfl (by kernel_rfl) (fun _ _ _ h => h) (Or.inl ⟨by rfl, ?_⟩) ?_ ?_
       rotate_left
       ·intro w'
        go_simp
        with_reducible rfl
       rotate_left
       ·simp only [Act.put, List.setIfInBounds_toArray, List.set_cons_zero, List.set_cons_succ, i64_w, i32_w]
        rfl
       refine pure_ (i := 9) (N := some 100) (v := ?_) (a' := ?_) #[true, true, true, true, true, true, true, true, true, true, false, false, false, false, false, false, false, false, false, false, false] rfl rfl (by kernel_rfl) (fun _ _ _ h => h) (Or.inl ⟨by rfl, ?_⟩) ?_ ?_
       rotate_left
       ·intro w'
        go_simp
        with_reducible rfl
       rotate_left
       ·simp only [Act.put, List.setIfInBounds_toArray, List.set_cons_zero, List.set_cons_succ, i64_w, i32_w]
        rfl
       refine pure_ (i := 10) (N := some 101) (v := ?_) (a' := ?_) #[true, true, true, true, true, true, true, true, true, true, true, false, false, false, false, false, false, false, false, false, false] rfl rfl (by kernel_rfl) (fun _ _ _ h => h) (Or.inl ⟨by rfl, ?_⟩) ?_ ?_
       rotate_left
       ·intro w'
        go_simp
        with_reducible rfl
       rotate_left
       ·simp only [Act.put, List.setIfInBounds_toArray, List.set_cons_zero, List.set_cons_succ, i64_w, i32_w]
        rfl
       refine pure_ (i := 11) (N := some 102) (v := ?_) (a' := ?_) #[true, true, true, true, true, true, true, true, true, true, true, true, false, false, false, false, false, false, false, false, false] rfl rfl (by kernel_rfl) (fun _ _ _ h => h) (Or.inl ⟨by rfl, ?_⟩) ?_ ?_
       rotate_left
       ·intro w'
        go_simp
        with_reducible rfl
       rotate_left
       ·simp only [Act.put, List.setIfInBounds_toArray, List.set_cons_zero, List.set_cons_succ, i64_w, i32_w]
        rfl
       refine pure_ (i := 12) (N := some 103) (v := ?_) (a' := ?_) #[true, true, true, true, true, true, true, true, true, true, true, true, true, false, false, false, false, false, false, false, false] rfl rfl (by kernel_rfl) (fun _ _ _ h => h) (Or.inl ⟨by rfl, ?_⟩) ?_ ?_
       rotate_left
       ·intro w'
        go_simp
        with_reducible rfl
       rotate_left
       ·simp only [Act.put, List.setIfInBounds_toArray, List.set_cons_zero, List.set_cons_succ, i64_w, i32_w]
        rfl
       refine pure_ (i := 16) (N := some 107) (v := ?_) (a' := ?_) #[true, true, true, true, true, true, true, true, true, true, true, true, true, false, false, false, true, false, false, false, false] rfl rfl (by kernel_rfl) (fun _ _ _ h => h) (Or.inl ⟨by rfl, ?_⟩) ?_ ?_
       rotate_left
       ·intro w'
        go_simp
        with_reducible rfl
       rotate_left
       ·simp only [Act.put, List.setIfInBounds_toArray, List.set_cons_zero, List.set_cons_succ, i64_w, i32_w]
        rfl
       refine take_ (i := 13) (N := some 104) (v := ?_) (a' := ?_) #[true, true, true, true, true, true, true, true, true, true, true, true, true, true, false, false, true, false, false, false, false] rfl rfl (by kernel_rfl) (fun _ _ _ h => h) (Or.inl ⟨by rfl, ?_⟩) hHeld ?_ ?_
       rotate_left
       ·intro w' s0
        go_simp
        with_reducible rfl
       rotate_left
       ·simp only [Act.put, List.setIfInBounds_toArray, List.set_cons_zero, List.set_cons_succ, i64_w, i32_w]
        rfl
       refine pure_ (i := 14) (N := some 105) (v := ?_) (a' := ?_) #[true, true, true, true, true, true, true, true, true, true, true, true, true, true, true, false, true, false, false, false, false] rfl rfl (by kernel_rfl) (fun _ _ _ h => h) (Or.inl ⟨by rfl, ?_⟩) ?_ ?_
       rotate_left
       ·intro w'
        go_simp
        with_reducible rfl
       rotate_left
       ·simp only [Act.put, List.setIfInBounds_toArray, List.set_cons_zero, List.set_cons_succ, i64_w, i32_w]
        rfl
       refine pure_ (i := 15) (N := some 106) (v := ?_) (a' := ?_) #[true, true, true, true, true, true, true, true, true, true, true, true, true, true, true, true, true, false, false, false, false] rfl rfl (by kernel_rfl) (fun _ _ _ h => h) (Or.inl ⟨by rfl, ?_⟩) ?_ ?_
       rotate_left
       ·intro w'
        go_simp
        with_reducible rfl
       rotate_left
       ·simp only [Act.put, List.setIfInBounds_toArray, List.set_cons_zero, List.set_cons_succ, i64_w, i32_w]
        rfl
       refine take_ (i := 17) (N := some 108) (v := ?_) (a' := ?_) #[true, true, true, true, true, true, true, true, true, true, true, true, true, true, true, true, true, true, false, false, false] rfl rfl (by kernel_rfl) (fun _ _ _ h => h) (Or.inl ⟨by rfl, ?_⟩) hHeld ?_ ?_
       rotate_left
       ·intro w' s0
        go_simp
        with_reducible rfl
       rotate_left
       ·simp only [Act.put, List.setIfInBounds_toArray, List.set_cons_zero, List.set_cons_succ, i64_w, i32_w]
        rfl
       refine one_ (i := 18) (N := some 109) #[true, true, true, true, true, true, true, true, true, true, true, true, true, true, true, true, true, true, true, false, false] rfl rfl (by kernel_rfl) (by decide) (fun K hK => ?_)
       refine goes_ Tryd.func60 (by kernel_rfl) rfl #[.int .u8 3] (by rfl) rfl rfl (by simp only [List.map_toArray, List.map_cons, List.map_nil]; rfl) ?_
       with_reducible refine (vivariumref08_Greatest.calls 3 6 _ rfl).mono ?_
       rintro e w20 ⟨rfl, hd⟩
       have HR20 := Aside0.mk (blk_drawn (w := wr.drew) HR.out hd)
       have HL20 := Aside0.mk (blk_drawn (w := wr.drew) HL.out hd)
       have HB20 := Aside0.mk (below_step (below_drew1 HB.out) hd.below)
       clear hd
       refine ⟨_, rfl, ?_⟩
       refine hK.out _ _ (blk_cell HL20.out 0) (fun hHeld => ?_)
       clear hK K
       refine norm_ (a' := ?_) ?_ ?_
       rotate_left
       ·show Act.put _ (some 109) _ = _
        simp only [Act.put, List.setIfInBounds_toArray, List.set_cons_zero, List.set_cons_succ, i64_w, i32_w]
        rfl
       refine pure_ (i := 19) (N := some 110) (v := ?_) (a' := ?_) #[true, true, true, true, true, true, true, true, true, true, true, true, true, true, true, true, true, true, true, true, false] rfl rfl (by kernel_rfl) (fun _ _ _ h => h) (Or.inl ⟨by rfl, ?_⟩) ?_ ?_
       rotate_left
       ·intro w'
        go_simp
        with_reducible rfl
       rotate_left
       ·simp only [Act.put, List.setIfInBounds_toArray, List.set_cons_zero, List.set_cons_succ, i64_w, i32_w]
        rfl
       refine pure_ (i := 20) (N := some 111) (v := ?_) (a' := ?_) #[true, true, true, true, true, true, true, true, true, true, true, true, true, true, true, true, true, true, true, true, true] rfl rfl (by kernel_rfl) (fun _ _ _ h => h) (Or.inl ⟨by rfl, ?_⟩) ?_ ?_
       rotate_left
       ·intro w'
        go_simp
        with_reducible rfl
       rotate_left
       ·simp only [Act.put, List.setIfInBounds_toArray, List.set_cons_zero, List.set_cons_succ, i64_w, i32_w]
        rfl
       refine done_ (by kernel_rfl) ?_
       have hr := HS7.out
       rw [← HF2.out] at hr
       simp only [tailOf, Prod.mk.injEq] at hr
       obtain ⟨rfl, rfl, rfl, rfl, rfl⟩ := hr
       clear k0 k1 k2 z0 z1 z2 l0 l1 l2 y0 y1 y2
       have k0 : w20.cell? ⟨w.heap.size, 0, none⟩ = some (.int .u8 0) := blk_cell HR20.out 0
       have z0 := blk_frozen HR20.out 0
       have k1 : w20.cell? ⟨w.heap.size, 1, none⟩ = some (.int .u16 0) := blk_cell HR20.out 1
       have z1 := blk_frozen HR20.out 1
       have k2 : w20.cell? ⟨w.heap.size, 2, none⟩ = some (.int .u16 0) := blk_cell HR20.out 2
       have z2 := blk_frozen HR20.out 2
       go_wp2
       try rw [Exit.noGoto_ret]
       refine bodyPost_ret (v := .tuple #[.agg #[.int .u8 0, .int .u16 0, .int .u16 0], .int .i64 i, .int .i64 82]) (by simp [results, Tryd.results34, go_sem, *]) rfl ⟨rfl, ?_⟩
       repeat (first | exact HB20.out | apply below_alloc | apply pw_below_drewN | apply below_drew1 | refine below_set ?_ (Nat.le_refl _))
      ·have d4d : decide (6 < wrap64 (IntKind.u8.wrap (b - 48))) = false := decide_eq_false (by rw [HW8.out]; exact d4)
       rw [if_neg (fun e => d4 e.2.2)] at hf
       have HF2 := Aside0.mk hf
       clear hf d2 d3 d4
       go_wp2_with fail
       refine start_ (n := 21) (S := fun w' => w'.cell? ⟨g, 0, none⟩ = some (.int .u8 3)) (ds := []) #[false, false, false, false, false, false, false, false, false, false, false, false, false, false, false, false, false, false, false, false, false] (by kernel_rfl) rfl rfl ((blk_cell HL.out 0)) (fun hHeld => ?_)
       refine pure_ (i := 0) (N := some 91) (v := ?_) (a' := ?_) #[true, false, false, false, false, false, false, false, false, false, false, false, false, false, false, false, false, false, false, false, false] rfl rfl (by kernel_rfl) (fun _ _ _ h => h) (Or.inl ⟨by rfl, ?_⟩) ?_ ?_
       rotate_left
       ·intro w'
        go_simp
        with_reducible rfl
       rotate_left
       ·simp only [Act.put, List.setIfInBounds_toArray, List.set_cons_zero, List.set_cons_succ, i64_w, i32_w]
        rfl
       refine pure_ (i := 1) (N := some 92) (v := ?_) (a' := ?_) #[true, true, false, false, false, false, false, false, false, false, false, false, false, false, false, false, false, false, false, false, false] rfl rfl (by kernel_rfl) (fun _ _ _ h => h) (Or.inl ⟨by rfl, ?_⟩) ?_ ?_
       rotate_left
       ·intro w'
        go_simp
        with_reducible rfl
       rotate_left
       ·simp only [Act.put, List.setIfInBounds_toArray, List.set_cons_zero, List.set_cons_succ, i64_w, i32_w]
        rfl
       refine take_ (i := 2) (N := some 93) (v := ?_) (a' := ?_) #[true, true, true, false, false, false, false, false, false, false, false, false, false, false, false, false, false, false, false, false, false] rfl rfl (by kernel_rfl) (fun _ _ _ h => h) (Or.inl ⟨by rfl, ?_⟩) hHeld ?_ ?_
       rotate_left
       ·intro w' s0
        go_simp
        with_reducible rfl
       rotate_left
       ·simp only [Act.put, List.setIfInBounds_toArray, List.set_cons_zero, List.set_cons_succ, i64_w, i32_w]
        rfl
       refine pure_ (i := 3) (N := some 94) (v := ?_) (a' := ?_) #[true, true, true, true, false, false, false, false, false, false, false, false, false, false, false, false, false, false, false, false, false] rfl rfl (by kernel_rfl) (fun _ _ _ h => h) (Or.inl ⟨by rfl, ?_⟩) ?_ ?_
       rotate_left
       ·intro w'
        go_simp
        with_reducible rfl
       rotate_left
       ·simp only [Act.put, List.setIfInBounds_toArray, List.set_cons_zero, List.set_cons_succ, i64_w, i32_w]
        rfl
       refine pure_ (i := 4) (N := some 95) (v := ?_) (a' := ?_) #[true, true, true, true, true, false, false, false, false, false, false, false, false, false, false, false, false, false, false, false, false] rfl rfl (by kernel_rfl) (fun _ _ _ h => h) (Or.inl ⟨by rfl, ?_⟩) ?_ ?_
       rotate_left
       ·intro w'
        go_simp
        with_reducible rfl
       rotate_left
       ·simp only [Act.put, List.setIfInBounds_toArray, List.set_cons_zero, List.set_cons_succ, i64_w, i32_w]
        rfl
       refine pure_ (i := 5) (N := some 96) (v := ?_) (a' := ?_) #[true, true, true, true, true, true, false, false, false, false, false, false, false, false, false, false, false, false, false, false, false] rfl rfl (by kernel_rfl) (fun _ _ _ h => h) (Or.inl ⟨by rfl, ?_⟩) ?_ ?_
       rotate_left
       ·intro w'
        go_simp
        with_reducible rfl
       rotate_left
       ·simp only [Act.put, List.setIfInBounds_toArray, List.set_cons_zero, List.set_cons_succ, i64_w, i32_w]
        rfl
       refine pure_ (i := 6) (N := some 97) (v := ?_) (a' := ?_) #[true, true, true, true, true, true, true, false, false, false, false, false, false, false, false, false, false, false, false, false, false] rfl rfl (by kernel_rfl) (fun _ _ _ h => h) (Or.inl ⟨by rfl, ?_⟩) ?_ ?_
       rotate_left
       ·intro w'
        go_simp
        with_reducible rfl
       rotate_left
       ·simp only [Act.put, List.setIfInBounds_toArray, List.set_cons_zero, List.set_cons_succ, i64_w, i32_w]
        rfl
       refine take_ (i := 7) (N := some 98) (v := ?_) (a' := ?_) #[true, true, true, true, true, true, true, true, false, false, false, false, false, false, false, false, false, false, false, false, false] rfl rfl (by kernel_rfl) (fun _ _ _ h => h) (Or.inl ⟨by rfl, ?_⟩) hHeld ?_ ?_
       rotate_left
       ·intro w' s0
        go_simp
        with_reducible rfl
       rotate_left
       ·simp only [Act.put, List.setIfInBounds_toArray, List.set_cons_zero, List.set_cons_succ, i64_w, i32_w]
        rfl
       refine pure_ (i := 8) (N := some 99) (v := ?_) (a' := ?_) #[true, true, true, true, true, true, true, true, true, false, false, false, false, false, false, false, false, false, false, false, false] rfl rfl (by kernel_rfl) (fun _ _ _ h => h) (Or.inl ⟨by rfl, ?_⟩) ?_ ?_
       rotate_left
       ·intro w'
        go_simp
        with_reducible rfl
       rotate_left
       ·simp only [Act.put, List.setIfInBounds_toArray, List.set_cons_zero, List.set_cons_succ, i64_w, i32_w]
        rfl
       refine pure_ (i := 9) (N := some 100) (v := ?_) (a' := ?_) #[true, true, true, true, true, true, true, true, true, true, false, false, false, false, false, false, false, false, false, false, false] rfl rfl (by kernel_rfl) (fun _ _ _ h => h) (Or.inl ⟨by rfl, ?_⟩) ?_ ?_
       rotate_left
       ·intro w'
        go_simp
        with_reducible rfl
       rotate_left
       ·simp only [Act.put, List.setIfInBounds_toArray, List.set_cons_zero, List.set_cons_succ, i64_w, i32_w]
        rfl
       refine pure_ (i := 10) (N := some 101) (v := ?_) (a' := ?_) #[true, true, true, true, true, true, true, true, true, true, true, false, false, false, false, false, false, false, false, false, false] rfl rfl (by kernel_rfl) (fun _ _ _ h => h) (Or.inl ⟨by rfl, ?_⟩) ?_ ?_
       rotate_left
       ·intro w'
        go_simp
        with_reducible rfl
       rotate_left
       ·simp only [Act.put, List.setIfInBounds_toArray, List.set_cons_zero, List.set_cons_succ, i64_w, i32_w]
        rfl
       refine pure_ (i := 11) (N := some 102) (v := ?_) (a' := ?_) #[true, true, true, true, true, true, true, true, true, true, true, true, false, false, false, false, false, false, false, false, false] rfl rfl (by kernel_rfl) (fun _ _ _ h => h) (Or.inl ⟨by rfl, ?_⟩) ?_ ?_
       rotate_left
       ·intro w'
        go_simp
        with_reducible rfl
       rotate_left
       ·simp only [Act.put, List.setIfInBounds_toArray, List.set_cons_zero, List.set_cons_succ, i64_w, i32_w]
        rfl
       refine pure_ (i := 12) (N := some 103) (v := ?_) (a' := ?_) #[true, true, true, true, true, true, true, true, true, true, true, true, true, false, false, false, false, false, false, false, false] rfl rfl (by kernel_rfl) (fun _ _ _ h => h) (Or.inl ⟨by rfl, ?_⟩) ?_ ?_
       rotate_left
       ·intro w'
        go_simp
        with_reducible rfl
       rotate_left
       ·simp only [Act.put, List.setIfInBounds_toArray, List.set_cons_zero, List.set_cons_succ, i64_w, i32_w]
        rfl
       refine pure_ (i := 16) (N := some 107) (v := ?_) (a' := ?_) #[true, true, true, true, true, true, true, true, true, true, true, true, true, false, false, false, true, false, false, false, false] rfl rfl (by kernel_rfl) (fun _ _ _ h => h) (Or.inl ⟨by rfl, ?_⟩) ?_ ?_
       rotate_left
       ·intro w'
        go_simp
        with_reducible rfl
       rotate_left
       ·simp only [Act.put, List.setIfInBounds_toArray, List.set_cons_zero, List.set_cons_succ, i64_w, i32_w]
        rfl
       refine take_ (i := 13) (N := some 104) (v := ?_) (a' := ?_) #[true, true, true, true, true, true, true, true, true, true, true, true, true, true, false, false, true, false, false, false, false] rfl rfl (by kernel_rfl) (fun _ _ _ h => h) (Or.inl ⟨by rfl, ?_⟩) hHeld ?_ ?_
       rotate_left
       ·intro w' s0
        go_simp
        with_reducible rfl
       rotate_left
       ·simp only [Act.put, List.setIfInBounds_toArray, List.set_cons_zero, List.set_cons_succ, i64_w, i32_w]
        rfl
       refine pure_ (i := 14) (N := some 105) (v := ?_) (a' := ?_) #[true, true, true, true, true, true, true, true, true, true, true, true, true, true, true, false, true, false, false, false, false] rfl rfl (by kernel_rfl) (fun _ _ _ h => h) (Or.inl ⟨by rfl, ?_⟩) ?_ ?_
       rotate_left
       ·intro w'
        go_simp
        with_reducible rfl
       rotate_left
       ·simp only [Act.put, List.setIfInBounds_toArray, List.set_cons_zero, List.set_cons_succ, i64_w, i32_w]
        rfl
       refine pure_ (i := 15) (N := some 106) (v := ?_) (a' := ?_) #[true, true, true, true, true, true, true, true, true, true, true, true, true, true, true, true, true, false, false, false, false] rfl rfl (by kernel_rfl) (fun _ _ _ h => h) (Or.inl ⟨by rfl, ?_⟩) ?_ ?_
       rotate_left
       ·intro w'
        go_simp
        with_reducible rfl
       rotate_left
       ·simp only [Act.put, List.setIfInBounds_toArray, List.set_cons_zero, List.set_cons_succ, i64_w, i32_w]
        rfl
       refine take_ (i := 17) (N := some 108) (v := ?_) (a' := ?_) #[true, true, true, true, true, true, true, true, true, true, true, true, true, true, true, true, true, true, false, false, false] rfl rfl (by kernel_rfl) (fun _ _ _ h => h) (Or.inl ⟨by rfl, ?_⟩) hHeld ?_ ?_
       rotate_left
       ·intro w' s0
        go_simp
        with_reducible rfl
       rotate_left
       ·simp only [Act.put, List.setIfInBounds_toArray, List.set_cons_zero, List.set_cons_succ, i64_w, i32_w]
        rfl
       refine one_ (i := 18) (N := some 109) #[true, true, true, true, true, true, true, true, true, true, true, true, true, true, true, true, true, true, true, false, false] rfl rfl (by kernel_rfl) (by decide) (fun K hK => ?_)
       refine goes_ Tryd.func60 (by kernel_rfl) rfl #[.int .u8 3] (by rfl) rfl rfl (by simp only [List.map_toArray, List.map_cons, List.map_nil]; rfl) ?_
       with_reducible refine (vivariumref08_Greatest.calls 3 6 _ rfl).mono ?_
       rintro e w20 ⟨rfl, hd⟩
       have HR20 := Aside0.mk (blk_drawn (w := wr.drew) HR.out hd)
       have HL20 := Aside0.mk (blk_drawn (w := wr.drew) HL.out hd)
       have HB20 := Aside0.mk (below_step (below_drew1 HB.out) hd.below)
       clear hd
       refine ⟨_, rfl, ?_⟩
       refine hK.out _ _ (blk_cell HL20.out 0) (fun hHeld => ?_)
       clear hK K
       refine norm_ (a' := ?_) ?_ ?_
       rotate_left
       ·show Act.put _ (some 109) _ = _
        simp only [Act.put, List.setIfInBounds_toArray, List.set_cons_zero, List.set_cons_succ, i64_w, i32_w]
        rfl
       refine pure_ (i := 19) (N := some 110) (v := ?_) (a' := ?_) #[true, true, true, true, true, true, true, true, true, true, true, true, true, true, true, true, true, true, true, true, false] rfl rfl (by kernel_rfl) (fun _ _ _ h => h) (Or.inl ⟨by rfl, ?_⟩) ?_ ?_
       rotate_left
       ·intro w'
        go_simp
        with_reducible rfl
       rotate_left
       ·simp only [Act.put, List.setIfInBounds_toArray, List.set_cons_zero, List.set_cons_succ, i64_w, i32_w]
        rfl
       refine pure_ (i := 20) (N := some 111) (v := ?_) (a' := ?_) #[true, true, true, true, true, true, true, true, true, true, true, true, true, true, true, true, true, true, true, true, true] rfl rfl (by kernel_rfl) (fun _ _ _ h => h) (Or.inl ⟨by rfl, ?_⟩) ?_ ?_
       rotate_left
       ·intro w'
        go_simp
        with_reducible rfl
       rotate_left
       ·simp only [Act.put, List.setIfInBounds_toArray, List.set_cons_zero, List.set_cons_succ, i64_w, i32_w]
        rfl
       refine done_ (by kernel_rfl) ?_
       go_wp2_with ((go_roundg gk); (case measure => exact Nat.lt_succ_self _); go_must (case rel => exact ⟨i + 1, hi1, by first | rfl | (exact congrArg (Value.int .i64) HW.out), HF2, hnn, HB20, HR20, HL20⟩))
     ·skip
      rw [if_neg (fun e => d3 e.2.1)] at hf
      have HF2 := Aside0.mk hf
      clear hf
      have d3d : decide (b ≤ 57) = false := decide_eq_false d3
      clear d2 d3
      go_wp2_with fail
      refine start_ (n := 21) (S := fun w' => w'.cell? ⟨g, 0, none⟩ = some (.int .u8 3)) (ds := []) #[false, false, false, false, false, false, false, false, false, false, false, false, false, false, false, false, false, false, false, false, false] (by kernel_rfl) rfl rfl ((blk_cell HL.out 0)) (fun hHeld => ?_)
      refine pure_ (i := 0) (N := some 91) (v := ?_) (a' := ?_) #[true, false, false, false, false, false, false, false, false, false, false, false, false, false, false, false, false, false, false, false, false] rfl rfl (by kernel_rfl) (fun _ _ _ h => h) (Or.inl ⟨by rfl, ?_⟩) ?_ ?_
      rotate_left
      ·intro w'
       go_simp
       with_reducible rfl
      rotate_left
      ·simp only [Act.put, List.setIfInBounds_toArray, List.set_cons_zero, List.set_cons_succ, i64_w, i32_w]
       rfl
      refine pure_ (i := 1) (N := some 92) (v := ?_) (a' := ?_) #[true, true, false, false, false, false, false, false, false, false, false, false, false, false, false, false, false, false, false, false, false] rfl rfl (by kernel_rfl) (fun _ _ _ h => h) (Or.inl ⟨by rfl, ?_⟩) ?_ ?_
      rotate_left
      ·intro w'
       go_simp
       with_reducible rfl
      rotate_left
      ·simp only [Act.put, List.setIfInBounds_toArray, List.set_cons_zero, List.set_cons_succ, i64_w, i32_w]
       rfl
      refine take_ (i := 2) (N := some 93) (v := ?_) (a' := ?_) #[true, true, true, false, false, false, false, false, false, false, false, false, false, false, false, false, false, false, false, false, false] rfl rfl (by kernel_rfl) (fun _ _ _ h => h) (Or.inl ⟨by rfl, ?_⟩) hHeld ?_ ?_
      rotate_left
      ·intro w' s0
       go_simp
       with_reducible rfl
      rotate_left
      ·simp only [Act.put, List.setIfInBounds_toArray, List.set_cons_zero, List.set_cons_succ, i64_w, i32_w]
       rfl
      refine pure_ (i := 3) (N := some 94) (v := ?_) (a' := ?_) #[true, true, true, true, false, false, false, false, false, false, false, false, false, false, false, false, false, false, false, false, false] rfl rfl (by kernel_rfl) (fun _ _ _ h => h) (Or.inl ⟨by rfl, ?_⟩) ?_ ?_
      rotate_left
      ·intro w'
       go_simp
       with_reducible rfl
      rotate_left
      ·simp only [Act.put, List.setIfInBounds_toArray, List.set_cons_zero, List.set_cons_succ, i64_w, i32_w]
       rfl
      refine pure_ (i := 4) (N := some 95) (v := ?_) (a' := ?_) #[true, true, true, true, true, false, false, false, false, false, false, false, false, false, false, false, false, false, false, false, false] rfl rfl (by kernel_rfl) (fun _ _ _ h => h) (Or.inl ⟨by rfl, ?_⟩) ?_ ?_
      rotate_left
      ·intro w'
       go_simp
       with_reducible rfl
      rotate_left
      ·simp only [Act.put, List.setIfInBounds_toArray, List.set_cons_zero, List.set_cons_succ, i64_w, i32_w]
       rfl
      refine pure_ (i := 5) (N := some 96) (v := ?_) (a' := ?_) #[true, true, true, true, true, true, false, false, false, false, false, false, false, false, false, false, false, false, false, false, false] rfl rfl (by kernel_rfl) (fun _ _ _ h => h) (Or.inl ⟨by rfl, ?_⟩) ?_ ?_
      rotate_left
      ·intro w'
       go_simp
       with_reducible rfl
      rotate_left
      ·simp only [Act.put, List.setIfInBounds_toArray, List.set_cons_zero, List.set_cons_succ, i64_w, i32_w]
       rfl
      refine pure_ (i := 6) (N := some 97) (v := ?_) (a' := ?_) #[true, true, true, true, true, true, true, false, false, false, false, false, false, false, false, false, false, false, false, false, false] rfl rfl (by kernel_rfl) (fun _ _ _ h => h) (Or.inl ⟨by rfl, ?_⟩) ?_ ?_
      rotate_left
      ·intro w'
       go_simp
       with_reducible rfl
      rotate_left
      ·simp only [Act.put, List.setIfInBounds_toArray, List.set_cons_zero, List.set_cons_succ, i64_w, i32_w]
       rfl
      refine take_ (i := 7) (N := some 98) (v := ?_) (a' := ?_) #[true, true, true, true, true, true, true, true, false, false, false, false, false, false, false, false, false, false, false, false, false] rfl rfl (by kernel_rfl) (fun _ _ _ h => h) (Or.inl ⟨by rfl, ?_⟩) hHeld ?_ ?_
      rotate_left
      ·intro w' s0
       go_simp
       with_reducible rfl
      rotate_left
      ·simp only [Act.put, List.setIfInBounds_toArray, List.set_cons_zero, List.set_cons_succ, i64_w, i32_w]
       rfl
      refine pure_ (i := 8) (N := some 99) (v := ?_) (a' := ?_) #[true, true, true, true, true, true, true, true, true, false, false, false, false, false, false, false, false, false, false, false, false] rfl rfl (by kernel_rfl) (fun _ _ _ h => h) (Or.inl ⟨by rfl, ?_⟩) ?_ ?_
      rotate_left
      ·intro w'
       go_simp
       with_reducible rfl
      rotate_left
      ·simp only [Act.put, List.setIfInBounds_toArray, List.set_cons_zero, List.set_cons_succ, i64_w, i32_w]
       rfl
      refine pure_ (i := 9) (N := some 100) (v := ?_) (a' := ?_) #[true, true, true, true, true, true, true, true, true, true, false, false, false, false, false, false, false, false, false, false, false] rfl rfl (by kernel_rfl) (fun _ _ _ h => h) (Or.inl ⟨by rfl, ?_⟩) ?_ ?_
      rotate_left
      ·intro w'
       go_simp
       with_reducible rfl
      rotate_left
      ·simp only [Act.put, List.setIfInBounds_toArray, List.set_cons_zero, List.set_cons_succ, i64_w, i32_w]
       rfl
      refine pure_ (i := 10) (N := some 101) (v := ?_) (a' := ?_) #[true, true, true, true, true, true, true, true, true, true, true, false, false, false, false, false, false, false, false, false, false] rfl rfl (by kernel_rfl) (fun _ _ _ h => h) (Or.inl ⟨by rfl, ?_⟩) ?_ ?_
      rotate_left
      ·intro w'
       go_simp
       with_reducible rfl
      rotate_left
      ·simp only [Act.put, List.setIfInBounds_toArray, List.set_cons_zero, List.set_cons_succ, i64_w, i32_w]
       rfl
      refine pure_ (i := 11) (N := some 102) (v := undef) (a' := ?_) #[true, true, true, true, true, true, true, true, true, true, true, true, false, false, false, false, false, false, false, false, false] rfl rfl (by kernel_rfl) (fun _ _ _ h => h) (Or.inr ⟨by rfl, rfl⟩) ?_ ?_
      rotate_left
      ·simp only [Act.put, List.setIfInBounds_toArray, List.set_cons_zero, List.set_cons_succ, i64_w, i32_w]
       rfl
      refine pure_ (i := 12) (N := some 103) (v := undef) (a' := ?_) #[true, true, true, true, true, true, true, true, true, true, true, true, true, false, false, false, false, false, false, false, false] rfl rfl (by kernel_rfl) (fun _ _ _ h => h) (Or.inr ⟨by rfl, rfl⟩) ?_ ?_
      rotate_left
      ·simp only [Act.put, List.setIfInBounds_toArray, List.set_cons_zero, List.set_cons_succ, i64_w, i32_w]
       rfl
      refine pure_ (i := 13) (N := some 104) (v := undef) (a' := ?_) #[true, true, true, true, true, true, true, true, true, true, true, true, true, true, false, false, false, false, false, false, false] rfl rfl (by kernel_rfl) (fun _ _ _ h => h) (Or.inr ⟨by rfl, rfl⟩) ?_ ?_
      rotate_left
      ·simp only [Act.put, List.setIfInBounds_toArray, List.set_cons_zero, List.set_cons_succ, i64_w, i32_w]
       rfl
      refine pure_ (i := 14) (N := some 105) (v := undef) (a' := ?_) #[true, true, true, true, true, true, true, true, true, true, true, true, true, true, true, false, false, false, false, false, false] rfl rfl (by kernel_rfl) (fun _ _ _ h => h) (Or.inr ⟨by rfl, rfl⟩) ?_ ?_
      rotate_left
      ·simp only [Act.put, List.setIfInBounds_toArray, List.set_cons_zero, List.set_cons_succ, i64_w, i32_w]
       rfl
      refine pure_ (i := 15) (N := some 106) (v := undef) (a' := ?_) #[true, true, true, true, true, true, true, true, true, true, true, true, true, true, true, true, false, false, false, false, false] rfl rfl (by kernel_rfl) (fun _ _ _ h => h) (Or.inr ⟨by rfl, rfl⟩) ?_ ?_
      rotate_left
      ·simp only [Act.put, List.setIfInBounds_toArray, List.set_cons_zero, List.set_cons_succ, i64_w, i32_w]
       rfl
      refine pure_ (i := 16) (N := some 107) (v := undef) (a' := ?_) #[true, true, true, true, true, true, true, true, true, true, true, true, true, true, true, true, true, false, false, false, false] rfl rfl (by kernel_rfl) (fun _ _ _ h => h) (Or.inr ⟨by rfl, rfl⟩) ?_ ?_
      rotate_left
      ·simp only [Act.put, List.setIfInBounds_toArray, List.set_cons_zero, List.set_cons_succ, i64_w, i32_w]
       rfl
      refine pure_ (i := 17) (N := some 108) (v := undef) (a' := ?_) #[true, true, true, true, true, true, true, true, true, true, true, true, true, true, true, true, true, true, false, false, false] rfl rfl (by kernel_rfl) (fun _ _ _ h => h) (Or.inr ⟨by rfl, rfl⟩) ?_ ?_
      rotate_left
      ·simp only [Act.put, List.setIfInBounds_toArray, List.set_cons_zero, List.set_cons_succ, i64_w, i32_w]
       rfl
      refine pure_ (i := 18) (N := some 109) (v := undef) (a' := ?_) #[true, true, true, true, true, true, true, true, true, true, true, true, true, true, true, true, true, true, true, false, false] rfl rfl (by kernel_rfl) (fun _ _ _ h => h) (Or.inr ⟨by rfl, rfl⟩) ?_ ?_
      rotate_left
      ·simp only [Act.put, List.setIfInBounds_toArray, List.set_cons_zero, List.set_cons_succ, i64_w, i32_w]
       rfl
      refine pure_ (i := 19) (N := some 110) (v := undef) (a' := ?_) #[true, true, true, true, true, true, true, true, true, true, true, true, true, true, true, true, true, true, true, true, false] rfl rfl (by kernel_rfl) (fun _ _ _ h => h) (Or.inr ⟨by rfl, rfl⟩) ?_ ?_
      rotate_left
      ·simp only [Act.put, List.setIfInBounds_toArray, List.set_cons_zero, List.set_cons_succ, i64_w, i32_w]
       rfl
      refine pure_ (i := 20) (N := some 111) (v := ?_) (a' := ?_) #[true, true, true, true, true, true, true, true, true, true, true, true, true, true, true, true, true, true, true, true, true] rfl rfl (by kernel_rfl) (fun _ _ _ h => h) (Or.inl ⟨by rfl, ?_⟩) ?_ ?_
      rotate_left
      ·intro w'
       go_simp
       with_reducible rfl
      rotate_left
      ·simp only [Act.put, List.setIfInBounds_toArray, List.set_cons_zero, List.set_cons_succ, i64_w, i32_w]
       rfl
      refine done_ (by kernel_rfl) ?_
      go_wp2_with ((go_roundg gk); (case measure => exact Nat.lt_succ_self _); go_must (case rel => exact ⟨i + 1, hi1, by first | rfl | (exact congrArg (Value.int .i64) HW.out), HF2, hnn, ⟨below_drew1 HB.out⟩, ⟨HR.out⟩, ⟨HL.out⟩⟩))
    ·skip
     rw [if_neg (fun e => d2 e.1)] at hf
     have HF2 := Aside0.mk hf
     clear hf
     have d2d : decide (48 ≤ b) = false := decide_eq_false d2
     clear d2
     go_wp2_with fail
     refine start_ (n := 21) (S := fun w' => w'.cell? ⟨g, 0, none⟩ = some (.int .u8 3)) (ds := []) #[false, false, false, false, false, false, false, false, false, false, false, false, false, false, false, false, false, false, false, false, false] (by kernel_rfl) rfl rfl ((blk_cell HL.out 0)) (fun hHeld => ?_)
     refine pure_ (i := 0) (N := some 91) (v := ?_) (a' := ?_) #[true, false, false, false, false, false, false, false, false, false, false, false, false, false, false, false, false, false, false, false, false] rfl rfl (by kernel_rfl) (fun _ _ _ h => h) (Or.inl ⟨by rfl, ?_⟩) ?_ ?_
     rotate_left
     ·intro w'
      go_simp
      with_reducible rfl
     rotate_left
     ·simp only [Act.put, List.setIfInBounds_toArray, List.set_cons_zero, List.set_cons_succ, i64_w, i32_w]
      rfl
     refine pure_ (i := 1) (N := some 92) (v := ?_) (a' := ?_) #[true, true, false, false, false, false, false, false, false, false, false, false, false, false, false, false, false, false, false, false, false] rfl rfl (by kernel_rfl) (fun _ _ _ h => h) (Or.inl ⟨by rfl, ?_⟩) ?_ ?_
     rotate_left
     ·intro w'
      go_simp
      with_reducible rfl
     rotate_left
     ·simp only [Act.put, List.setIfInBounds_toArray, List.set_cons_zero, List.set_cons_succ, i64_w, i32_w]
      rfl
     refine take_ (i := 2) (N := some 93) (v := ?_) (a' := ?_) #[true, true, true, false, false, false, false, false, false, false, false, false, false, false, false, false, false, false, false, false, false] rfl rfl (by kernel_rfl) (fun _ _ _ h => h) (Or.inl ⟨by rfl, ?_⟩) hHeld ?_ ?_
     rotate_left
     ·intro w' s0
      go_simp
      with_reducible rfl
     rotate_left
     ·simp only [Act.put, List.setIfInBounds_toArray, List.set_cons_zero, List.set_cons_succ, i64_w, i32_w]
      rfl
     refine pure_ (i := 3) (N := some 94) (v := ?_) (a' := ?_) #[true, true, true, true, false, false, false, false, false, false, false, false, false, false, false, false, false, false, false, false, false] rfl rfl (by kernel_rfl) (fun _ _ _ h => h) (Or.inl ⟨by rfl, ?_⟩) ?_ ?_
     rotate_left
     ·intro w'
      go_simp
      with_reducible rfl
     rotate_left
     ·simp only [Act.put, List.setIfInBounds_toArray, List.set_cons_zero, List.set_cons_succ, i64_w, i32_w]
      rfl
     refine pure_ (i := 4) (N := some 95) (v := ?_) (a' := ?_) #[true, true, true, true, true, false, false, false, false, false, false, false, false, false, false, false, false, false, false, false, false] rfl rfl (by kernel_rfl) (fun _ _ _ h => h) (Or.inl ⟨by rfl, ?_⟩) ?_ ?_
     rotate_left
     ·intro w'
      go_simp
      with_reducible rfl
     rotate_left
     ·simp only [Act.put, List.setIfInBounds_toArray, List.set_cons_zero, List.set_cons_succ, i64_w, i32_w]
      rfl
     refine pure_ (i := 5) (N := some 96) (v := undef) (a' := ?_) #[true, true, true, true, true, true, false, false, false, false, false, false, false, false, false, false, false, false, false, false, false] rfl rfl (by kernel_rfl) (fun _ _ _ h => h) (Or.inr ⟨by rfl, rfl⟩) ?_ ?_
     rotate_left
     ·simp only [Act.put, List.setIfInBounds_toArray, List.set_cons_zero, List.set_cons_succ, i64_w, i32_w]
      rfl
     refine pure_ (i := 6) (N := some 97) (v := undef) (a' := ?_) #[true, true, true, true, true, true, true, false, false, false, false, false, false, false, false, false, false, false, false, false, false] rfl rfl (by kernel_rfl) (fun _ _ _ h => h) (Or.inr ⟨by rfl, rfl⟩) ?_ ?_
     rotate_left
     ·simp only [Act.put, List.setIfInBounds_toArray, List.set_cons_zero, List.set_cons_succ, i64_w, i32_w]
      rfl
     refine pure_ (i := 7) (N := some 98) (v := undef) (a' := ?_) #[true, true, true, true, true, true, true, true, false, false, false, false, false, false, false, false, false, false, false, false, false] rfl rfl (by kernel_rfl) (fun _ _ _ h => h) (Or.inr ⟨by rfl, rfl⟩) ?_ ?_
     rotate_left
     ·simp only [Act.put, List.setIfInBounds_toArray, List.set_cons_zero, List.set_cons_succ, i64_w, i32_w]
      rfl
     refine pure_ (i := 8) (N := some 99) (v := undef) (a' := ?_) #[true, true, true, true, true, true, true, true, true, false, false, false, false, false, false, false, false, false, false, false, false] rfl rfl (by kernel_rfl) (fun _ _ _ h => h) (Or.inr ⟨by rfl, rfl⟩) ?_ ?_
     rotate_left
     ·simp only [Act.put, List.setIfInBounds_toArray, List.set_cons_zero, List.set_cons_succ, i64_w, i32_w]
      rfl
     refine pure_ (i := 9) (N := some 100) (v := ?_) (a' := ?_) #[true, true, true, true, true, true, true, true, true, true, false, false, false, false, false, false, false, false, false, false, false] rfl rfl (by kernel_rfl) (fun _ _ _ h => h) (Or.inl ⟨by rfl, ?_⟩) ?_ ?_
     rotate_left
     ·intro w'
      go_simp
      with_reducible rfl
     rotate_left
     ·simp only [Act.put, List.setIfInBounds_toArray, List.set_cons_zero, List.set_cons_succ, i64_w, i32_w]
      rfl
     refine pure_ (i := 10) (N := some 101) (v := ?_) (a' := ?_) #[true, true, true, true, true, true, true, true, true, true, true, false, false, false, false, false, false, false, false, false, false] rfl rfl (by kernel_rfl) (fun _ _ _ h => h) (Or.inl ⟨by rfl, ?_⟩) ?_ ?_
     rotate_left
     ·intro w'
      go_simp
      with_reducible rfl
     rotate_left
     ·simp only [Act.put, List.setIfInBounds_toArray, List.set_cons_zero, List.set_cons_succ, i64_w, i32_w]
      rfl
     refine pure_ (i := 11) (N := some 102) (v := undef) (a' := ?_) #[true, true, true, true, true, true, true, true, true, true, true, true, false, false, false, false, false, false, false, false, false] rfl rfl (by kernel_rfl) (fun _ _ _ h => h) (Or.inr ⟨by rfl, rfl⟩) ?_ ?_
     rotate_left
     ·simp only [Act.put, List.setIfInBounds_toArray, List.set_cons_zero, List.set_cons_succ, i64_w, i32_w]
      rfl
     refine pure_ (i := 12) (N := some 103) (v := undef) (a' := ?_) #[true, true, true, true, true, true, true, true, true, true, true, true, true, false, false, false, false, false, false, false, false] rfl rfl (by kernel_rfl) (fun _ _ _ h => h) (Or.inr ⟨by rfl, rfl⟩) ?_ ?_
     rotate_left
     ·simp only [Act.put, List.setIfInBounds_toArray, List.set_cons_zero, List.set_cons_succ, i64_w, i32_w]
      rfl
     refine pure_ (i := 13) (N := some 104) (v := undef) (a' := ?_) #[true, true, true, true, true, true, true, true, true, true, true, true, true, true, false, false, false, false, false, false, false] rfl rfl (by kernel_rfl) (fun _ _ _ h => h) (Or.inr ⟨by rfl, rfl⟩) ?_ ?_
     rotate_left
     ·simp only [Act.put, List.setIfInBounds_toArray, List.set_cons_zero, List.set_cons_succ, i64_w, i32_w]
      rfl
     refine pure_ (i := 14) (N := some 105) (v := undef) (a' := ?_) #[true, true, true, true, true, true, true, true, true, true, true, true, true, true, true, false, false, false, false, false, false] rfl rfl (by kernel_rfl) (fun _ _ _ h => h) (Or.inr ⟨by rfl, rfl⟩) ?_ ?_
     rotate_left
     ·simp only [Act.put, List.setIfInBounds_toArray, List.set_cons_zero, List.set_cons_succ, i64_w, i32_w]
      rfl
     refine pure_ (i := 15) (N := some 106) (v := undef) (a' := ?_) #[true, true, true, true, true, true, true, true, true, true, true, true, true, true, true, true, false, false, false, false, false] rfl rfl (by kernel_rfl) (fun _ _ _ h => h) (Or.inr ⟨by rfl, rfl⟩) ?_ ?_
     rotate_left
     ·simp only [Act.put, List.setIfInBounds_toArray, List.set_cons_zero, List.set_cons_succ, i64_w, i32_w]
      rfl
     refine pure_ (i := 16) (N := some 107) (v := undef) (a' := ?_) #[true, true, true, true, true, true, true, true, true, true, true, true, true, true, true, true, true, false, false, false, false] rfl rfl (by kernel_rfl) (fun _ _ _ h => h) (Or.inr ⟨by rfl, rfl⟩) ?_ ?_
     rotate_left
     ·simp only [Act.put, List.setIfInBounds_toArray, List.set_cons_zero, List.set_cons_succ, i64_w, i32_w]
      rfl
     refine pure_ (i := 17) (N := some 108) (v := undef) (a' := ?_) #[true, true, true, true, true, true, true, true, true, true, true, true, true, true, true, true, true, true, false, false, false] rfl rfl (by kernel_rfl) (fun _ _ _ h => h) (Or.inr ⟨by rfl, rfl⟩) ?_ ?_
     rotate_left
     ·simp only [Act.put, List.setIfInBounds_toArray, List.set_cons_zero, List.set_cons_succ, i64_w, i32_w]
      rfl
     refine pure_ (i := 18) (N := some 109) (v := undef) (a' := ?_) #[true, true, true, true, true, true, true, true, true, true, true, true, true, true, true, true, true, true, true, false, false] rfl rfl (by kernel_rfl) (fun _ _ _ h => h) (Or.inr ⟨by rfl, rfl⟩) ?_ ?_
     rotate_left
     ·simp only [Act.put, List.setIfInBounds_toArray, List.set_cons_zero, List.set_cons_succ, i64_w, i32_w]
      rfl
     refine pure_ (i := 19) (N := some 110) (v := undef) (a' := ?_) #[true, true, true, true, true, true, true, true, true, true, true, true, true, true, true, true, true, true, true, true, false] rfl rfl (by kernel_rfl) (fun _ _ _ h => h) (Or.inr ⟨by rfl, rfl⟩) ?_ ?_
     rotate_left
     ·simp only [Act.put, List.setIfInBounds_toArray, List.set_cons_zero, List.set_cons_succ, i64_w, i32_w]
      rfl
     refine pure_ (i := 20) (N := some 111) (v := ?_) (a' := ?_) #[true, true, true, true, true, true, true, true, true, true, true, true, true, true, true, true, true, true, true, true, true] rfl rfl (by kernel_rfl) (fun _ _ _ h => h) (Or.inl ⟨by rfl, ?_⟩) ?_ ?_
     rotate_left
     ·intro w'
      go_simp
      with_reducible rfl
     rotate_left
     ·simp only [Act.put, List.setIfInBounds_toArray, List.set_cons_zero, List.set_cons_succ, i64_w, i32_w]
      rfl
     refine done_ (by kernel_rfl) ?_
     go_wp2_with ((go_roundg gk); (case measure => exact Nat.lt_succ_self _); go_must (case rel => exact ⟨i + 1, hi1, by first | rfl | (exact congrArg (Value.int .i64) HW.out), HF2, hnn, ⟨below_drew1 HB.out⟩, ⟨HR.out⟩, ⟨HL.out⟩⟩))
   ·have d1d : decide ((i : Int) < (s.size : Int)) = false := decide_eq_false (by omega)
    have hf : fb = none := by
     rw [← HF.out]
     cases gk with
     | zero => rfl
     | succ gk => rw [firstBig_succ, if_neg d1]
    have hr := HS7.out
    rw [hf] at hr
    simp only [tailOf, Prod.mk.injEq] at hr
    obtain ⟨rfl, rfl, rfl, rfl, rfl⟩ := hr
    clear hf d1 hi
    have d1p : ¬ ((i : Int) < (s.size : Int)) := of_decide_eq_false d1d
    go_wp2
    try rw [Exit.noGoto_ret]
    refine bodyPost_ret (v := .tuple #[.agg #[.int .u8 3, .int .u16 m, .int .u16 m2], .int .i64 0, .int .i64 0]) (by simp [results, Tryd.results34, go_sem, *]) rfl ⟨rfl, ?_⟩
    repeat (first | exact HB.out | apply below_alloc | apply pw_below_drewN | apply below_drew1 | refine below_set ?_ (Nat.le_refl _))
set_option maxHeartbeats 16000000 in
set_option maxRecDepth 100000 in
theorem Parse_N (s : ByteArray) (w : World) (hs : ¬ (1048576 < (s.size : Int))) (hs' : s.size ≤ 1048576) (r1 r2 r3 r4 r5 : Int) (q m q2 m2 : Nat) (C1 : Aside0 (decide (isL s 0 66) = true)) (hm : m < 1024) (hq : q ≤ s.size + 1) (HD : Aside0 (digs s s.size 1 0 = (false, q, m))) (q0 : (0 : Int) ≤ (q : Int)) (q00 : (q : Int) < 1000000000) (c2 : q < s.size) (c2' : (q : Int) < (s.size : Int)) (c2n : ¬ s.size ≤ q) (c2d : decide (s.size ≤ q) = false) (hbt : ∀ hh : q < s.size, ((s[q]'hh).toNat : Int) = 47) (C4 : Aside0 (decide (isL s (q + 1) 83) = true)) (hm2 : m2 < 1024) (hq2 : q2 ≤ s.size + 2) (HD2 : Aside0 (digs s s.size (q + 1 + 1) 0 = (false, q2, m2))) (p0 : (0 : Int) ≤ (q2 : Int)) (p00 : (q2 : Int) < 1000000000) (HS5 : Aside0 (lifeTail s q2 m m2 = (r1, r2, r3, r4, r5))) (v1 : ¬ isL s q2 86) (v2 : ¬ isL s q2 72) :
  Calls Tryd.prog 34 #[.string s] w fun e w' => e = .returned (.tuple #[.agg #[.int .u8 r1, .int .u16 r2, .int .u16 r3], .int .i64 r4, .int .i64 r5]) ∧ Below w.heap.size w w' := by
 go_enter Tryd.func34, Tryd.ntmps34
 go_wp2_with (first | (go_at_call_of 57 (Value.int .u8 66); go_must (refine (is_calls s (0) (0) rfl 66 (by omega) true C1.out _).mono ?_); rintro e w1 ⟨rfl, hd⟩; have HR1 := Aside0.mk (blk_drawn (blk_new w _) hd); have HB1 := Aside0.mk (below_step (below_alloc (Below.refl w.heap.size w) _) hd.below); clear hd) | (go_at_call_of 58 (Value.int .i64 1); go_must (refine (list_calls s hs' 1 1 rfl (by omega) false q m HD.out (-1) rfl _).mono ?_); rintro e w2 ⟨rfl, hb⟩; have HR2 := Aside0.mk (blk_below HR1.out hb); have HB2 := Aside0.mk (below_step HB1.out hb); clear hb) | ((with_reducible refine gate_ (Op.store 97 (.tmp 5) (.tmp 23)) rfl ?_); go_must (refine wpList_store_rowTo rfl 97 (.tmp 5) (.tmp 23) rfl rfl w2.heap.size (boolsOf m) (by kernel_rfl) (by kernel_rfl) 97 #[.bool false, .bool false, .bool false, .bool false, .bool false, .bool false, .bool false, .bool false, .bool false, .bool false] (blk_new w2 _) (boolsOf_info _) (by rw [boolsOf_size _ 0, boolsOf_zero]) (boolsOf_one _) ?_); have HR3 := Aside0.mk (row_old HR2.out (Obj.cells #[.bool false, .bool false, .bool false, .bool false, .bool false, .bool false, .bool false, .bool false, .bool false, .bool false] 97) (boolsOf m)); have HT3 := Aside0.mk (row_new w2 #[.bool false, .bool false, .bool false, .bool false, .bool false, .bool false, .bool false, .bool false, .bool false, .bool false] (boolsOf m) 97); have HB3 := Aside0.mk (below_setRow (below_alloc HB2.out (Obj.cells #[.bool false, .bool false, .bool false, .bool false, .bool false, .bool false, .bool false, .bool false, .bool false, .bool false] 97)) HB2.out.size (boolsOf m)); generalize hw3 : (w2.alloc (Obj.cells #[.bool false, .bool false, .bool false, .bool false, .bool false, .bool false, .bool false, .bool false, .bool false, .bool false] 97)).setRow w2.heap.size (boolsOf m) = w3 at HR3 HT3 HB3 ⊢; clear hw3) | (go_at_call_of 57 (Value.int .u8 83); go_must (refine (is_calls s ((q : Int) + 1) (q + 1) rfl 83 (by omega) true C4.out _).mono ?_); rintro e w4 ⟨rfl, hd⟩; have HR4 := Aside0.mk (blk_drawn (HR3.out) hd); have HT4 := Aside0.mk (blk_drawn (HT3.out) hd); have HB4 := Aside0.mk (below_step (HB3.out) hd.below); clear hd) | (go_at_call 58; go_must (refine (list_calls s hs' ((q : Int) + 1 + 1) (q + 1 + 1) rfl (by omega) false q2 m2 HD2.out (-1) rfl _).mono ?_); rintro e w5 ⟨rfl, hb⟩; have HR5 := Aside0.mk (blk_below HR4.out hb); have HT5 := Aside0.mk (blk_below HT4.out hb); have HB5 := Aside0.mk (below_step HB4.out hb); clear hb) | ((with_reducible refine gate_ (Op.store 97 (.tmp 8) (.tmp 55)) rfl ?_); go_must (refine wpList_store_rowTo rfl 97 (.tmp 8) (.tmp 55) rfl rfl w5.heap.size (boolsOf m2) (by kernel_rfl) (by kernel_rfl) 97 #[.bool false, .bool false, .bool false, .bool false, .bool false, .bool false, .bool false, .bool false, .bool false, .bool false] (blk_new w5 _) (boolsOf_info _) (by rw [boolsOf_size _ 0, boolsOf_zero]) (boolsOf_one _) ?_); have HR6 := Aside0.mk (row_old HR5.out (Obj.cells #[.bool false, .bool false, .bool false, .bool false, .bool false, .bool false, .bool false, .bool false, .bool false, .bool false] 97) (boolsOf m2)); have HT6 := Aside0.mk (row_old HT5.out (Obj.cells #[.bool false, .bool false, .bool false, .bool false, .bool false, .bool false, .bool false, .bool false, .bool false, .bool false] 97) (boolsOf m2)); have HU6 := Aside0.mk (row_new w5 #[.bool false, .bool false, .bool false, .bool false, .bool false, .bool false, .bool false, .bool false, .bool false, .bool false] (boolsOf m2) 97); have HB6 := Aside0.mk (below_setRow (below_alloc HB5.out (Obj.cells #[.bool false, .bool false, .bool false, .bool false, .bool false, .bool false, .bool false, .bool false, .bool false, .bool false] 97)) HB5.out.size (boolsOf m2)); generalize hw6 : (w5.alloc (Obj.cells #[.bool false, .bool false, .bool false, .bool false, .bool false, .bool false, .bool false, .bool false, .bool false, .bool false] 97)).setRow w5.heap.size (boolsOf m2) = w6 at HR6 HT6 HU6 HB6 ⊢; clear hw6))
 clear hbt
 refine start_ (n := 7) (S := fun w' => w'.heap[w2.heap.size]? = some (.cells (boolsOf m) 97 (0, 0)) ∧ w'.heap[w5.heap.size]? = some (.cells (boolsOf m2) 97 (0, 0)) ∧ w'.heap[w.heap.size]? = some (.cells #[.int .u8 0, .int .u16 0, .int .u16 0] 40 (0, 0))) (ds := [6]) #[false, false, false, false, false, false, false] (by kernel_rfl) rfl rfl ⟨HT6.out, HU6.out, HR6.out⟩ (fun hHeld => ?_)
 refine take_ (i := 0) (N := some 62) (v := ?_) (a' := ?_) #[true, false, false, false, false, false, false] rfl rfl (by kernel_rfl) (fun _ _ _ h => h) (Or.inl ⟨by rfl, ?_⟩) hHeld ?_ ?_
 rotate_left
 ·rintro w' ⟨s0, s1, s2⟩
  rw [load_row_run (ty := 97) (x := .tmp 5) (hg := s0) (hu := Tryd.underlying97) (hd := rfl) (hi := boolsOf_info _)] <;> rfl
 rotate_left
 ·simp only [Act.put, List.setIfInBounds_toArray, List.set_cons_zero, List.set_cons_succ, i64_w, i32_w]
  rfl
 refine take_ (i := 2) (N := some 64) (v := ?_) (a' := ?_) #[true, false, true, false, false, false, false] rfl rfl (by kernel_rfl) (fun _ _ _ h => h) (Or.inl ⟨by rfl, ?_⟩) hHeld ?_ ?_
 rotate_left
 ·rintro w' ⟨s0, s1, s2⟩
  rw [load_row_run (ty := 97) (x := .tmp 8) (hg := s1) (hu := Tryd.underlying97) (hd := rfl) (hi := boolsOf_info _)] <;> rfl
 rotate_left
 ·simp only [Act.put, List.setIfInBounds_toArray, List.set_cons_zero, List.set_cons_succ, i64_w, i32_w]
  rfl
 refine join_ (σ := Nat) 1 #[true, true, true, true, true, true, false] (fun s_ => [(63, .int .u16 m), (65, .int .u16 m2), (10, .pointer (some ⟨s_, 0, none⟩)), (66, .agg #[.int .u8 1, .int .u16 m, .int .u16 m2])]) (fun s_ w' => (w'.heap[w2.heap.size]? = some (.cells (boolsOf m) 97 (0, 0)) ∧ w'.heap[w5.heap.size]? = some (.cells (boolsOf m2) 97 (0, 0)) ∧ w'.heap[w.heap.size]? = some (.cells #[.int .u8 0, .int .u16 0, .int .u16 0] 40 (0, 0))) ∧ w'.heap[s_]? = some (.cells #[.int .u8 0, .int .u16 0, .int .u16 0] 40 (0, 0)) ∧ Below w.heap.size w w' ∧ w.heap.size < s_) ?_ ?_
 rotate_left
 ·intro hCont
  refine two_ (i := 1) (j := 5) (Ni := some 63) (Nj := some 10) #[true, true, true, false, false, false, false] #[true, false, true, false, false, true, false] rfl rfl rfl rfl (by kernel_rfl) (by decide) (by decide) (fun K hK => ?_) (fun K hK => ?_)
  ·skip
   refine goes_ Tryd.func59 (by kernel_rfl) rfl #[.agg (boolsOf m)] (by rfl) rfl rfl (by simp only [List.map_toArray, List.map_cons, List.map_nil]; rfl) ?_
   with_reducible refine (number_calls m hm _).mono ?_
   rintro e wc1 ⟨rfl, hb⟩
   have HTc1 : Aside0 ((wc1).heap[w2.heap.size]? = some (.cells (boolsOf m) 97 (0, 0))) := ⟨blk_below (w := w6.drew) HT6.out hb⟩
   have HUc1 : Aside0 ((wc1).heap[w5.heap.size]? = some (.cells (boolsOf m2) 97 (0, 0))) := ⟨blk_below (w := w6.drew) HU6.out hb⟩
   have HRc1 : Aside0 ((wc1).heap[w.heap.size]? = some (.cells #[.int .u8 0, .int .u16 0, .int .u16 0] 40 (0, 0))) := ⟨blk_below (w := w6.drew) HR6.out hb⟩
   have HBc1 : Aside0 (Below w.heap.size w (wc1)) := ⟨below_step (below_drew1 HB6.out) hb⟩
   clear hb
   refine ⟨_, rfl, ?_⟩
   refine hK.out _ _ ⟨HTc1.out, HUc1.out, HRc1.out⟩ (fun hHeld => ?_)
   clear hK K
   refine norm_ (a' := ?_) ?_ ?_
   rotate_left
   ·show Act.put _ (some 63) _ = _
    simp only [Act.put, List.setIfInBounds_toArray, List.set_cons_zero, List.set_cons_succ, i64_w, i32_w]
    rfl
   refine two_ (i := 3) (j := 5) (Ni := some 65) (Nj := some 10) #[true, true, true, true, false, false, false] #[true, true, true, false, false, true, false] rfl rfl rfl rfl (by kernel_rfl) (by decide) (by decide) (fun K hK => ?_) (fun K hK => ?_)
   ·skip
    refine goes_ Tryd.func59 (by kernel_rfl) rfl #[.agg (boolsOf m2)] (by rfl) rfl rfl (by simp only [List.map_toArray, List.map_cons, List.map_nil]; rfl) ?_
    with_reducible refine (number_calls m2 hm2 _).mono ?_
    rintro e wc13 ⟨rfl, hb⟩
    have HTc13 : Aside0 ((wc13).heap[w2.heap.size]? = some (.cells (boolsOf m) 97 (0, 0))) := ⟨blk_below (w := wc1) HTc1.out hb⟩
    have HUc13 : Aside0 ((wc13).heap[w5.heap.size]? = some (.cells (boolsOf m2) 97 (0, 0))) := ⟨blk_below (w := wc1) HUc1.out hb⟩
    have HRc13 : Aside0 ((wc13).heap[w.heap.size]? = some (.cells #[.int .u8 0, .int .u16 0, .int .u16 0] 40 (0, 0))) := ⟨blk_below (w := wc1) HRc1.out hb⟩
    have HBc13 : Aside0 (Below w.heap.size w (wc13)) := ⟨below_step HBc1.out hb⟩
    clear hb
    refine ⟨_, rfl, ?_⟩
    refine hK.out _ _ ⟨HTc13.out, HUc13.out, HRc13.out⟩ (fun hHeld => ?_)
    clear hK K
    refine norm_ (a' := ?_) ?_ ?_
    rotate_left
    ·show Act.put _ (some 65) _ = _
     simp only [Act.put, List.setIfInBounds_toArray, List.set_cons_zero, List.set_cons_succ, i64_w, i32_w]
     rfl
    refine pure_ (i := 4) (N := some 66) (v := ?_) (a' := ?_) #[true, true, true, true, true, false, false] rfl rfl (by kernel_rfl) (fun _ _ _ h => h) (Or.inl ⟨by rfl, ?_⟩) ?_ ?_
    rotate_left
    ·intro w'
     go_simp
     with_reducible rfl
    rotate_left
    ·simp only [Act.put, List.setIfInBounds_toArray, List.set_cons_zero, List.set_cons_succ, i64_w, i32_w]
     rfl
    refine one_ (i := 5) (N := some 10) #[true, true, true, true, true, true, false] rfl rfl (by kernel_rfl) (by decide) (fun K hK => ?_)
    refine value_ (w1 := ?_) (v := ?_) (by rfl) rfl ?_ ?_
    rotate_left 2
    ·go_simp
     constructor
     ·rfl
     ·rfl
    have HTc135 : Aside0 (((wc13).alloc (Obj.cells #[.int .u8 0, .int .u16 0, .int .u16 0] 40)).heap[w2.heap.size]? = some (.cells (boolsOf m) 97 (0, 0))) := ⟨blk_alloc (w := wc13) HTc13.out _⟩
    have HUc135 : Aside0 (((wc13).alloc (Obj.cells #[.int .u8 0, .int .u16 0, .int .u16 0] 40)).heap[w5.heap.size]? = some (.cells (boolsOf m2) 97 (0, 0))) := ⟨blk_alloc (w := wc13) HUc13.out _⟩
    have HRc135 : Aside0 (((wc13).alloc (Obj.cells #[.int .u8 0, .int .u16 0, .int .u16 0] 40)).heap[w.heap.size]? = some (.cells #[.int .u8 0, .int .u16 0, .int .u16 0] 40 (0, 0))) := ⟨blk_alloc (w := wc13) HRc13.out _⟩
    have HLc135 : Aside0 (((wc13).alloc (Obj.cells #[.int .u8 0, .int .u16 0, .int .u16 0] 40)).heap[(wc13).heap.size]? = some (Obj.cells #[.int .u8 0, .int .u16 0, .int .u16 0] 40)) := ⟨blk_new (wc13) _⟩
    have HBc135 : Aside0 (Below w.heap.size w ((wc13).alloc (Obj.cells #[.int .u8 0, .int .u16 0, .int .u16 0] 40))) := ⟨below_alloc HBc13.out _⟩
    refine hK.out _ _ ⟨HTc135.out, HUc135.out, HRc135.out⟩ (fun hHeld => ?_)
    clear hK K
    refine norm_ (a' := ?_) ?_ ?_
    rotate_left
    ·show Act.put _ (some 10) _ = _
     simp only [Act.put, List.setIfInBounds_toArray, List.set_cons_zero, List.set_cons_succ, i64_w, i32_w]
     rfl
    exact norm_ (by simp only [putAll, Act.put, List.setIfInBounds_toArray, List.set_cons_zero, List.set_cons_succ]) (hCont (wc13.heap.size) _ ⟨⟨HTc135.out, HUc135.out, HRc135.out⟩, HLc135.out, HBc135.out, blk_lt HRc13.out⟩)
   ·skip
    refine value_ (w1 := ?_) (v := ?_) (by rfl) rfl ?_ ?_
    rotate_left 2
    ·go_simp
     constructor
     ·rfl
     ·rfl
    have HTc15 : Aside0 (((wc1).alloc (Obj.cells #[.int .u8 0, .int .u16 0, .int .u16 0] 40)).heap[w2.heap.size]? = some (.cells (boolsOf m) 97 (0, 0))) := ⟨blk_alloc (w := wc1) HTc1.out _⟩
    have HUc15 : Aside0 (((wc1).alloc (Obj.cells #[.int .u8 0, .int .u16 0, .int .u16 0] 40)).heap[w5.heap.size]? = some (.cells (boolsOf m2) 97 (0, 0))) := ⟨blk_alloc (w := wc1) HUc1.out _⟩
    have HRc15 : Aside0 (((wc1).alloc (Obj.cells #[.int .u8 0, .int .u16 0, .int .u16 0] 40)).heap[w.heap.size]? = some (.cells #[.int .u8 0, .int .u16 0, .int .u16 0] 40 (0, 0))) := ⟨blk_alloc (w := wc1) HRc1.out _⟩
    have HLc15 : Aside0 (((wc1).alloc (Obj.cells #[.int .u8 0, .int .u16 0, .int .u16 0] 40)).heap[(wc1).heap.size]? = some (Obj.cells #[.int .u8 0, .int .u16 0, .int .u16 0] 40)) := ⟨blk_new (wc1) _⟩
    have HBc15 : Aside0 (Below w.heap.size w ((wc1).alloc (Obj.cells #[.int .u8 0, .int .u16 0, .int .u16 0] 40))) := ⟨below_alloc HBc1.out _⟩
    refine hK.out _ _ ⟨HTc15.out, HUc15.out, HRc15.out⟩ (fun hHeld => ?_)
    clear hK K
    refine norm_ (a' := ?_) ?_ ?_
    rotate_left
    ·show Act.put _ (some 10) _ = _
     simp only [Act.put, List.setIfInBounds_toArray, List.set_cons_zero, List.set_cons_succ, i64_w, i32_w]
     rfl
    refine one_ (i := 3) (N := some 65) #[true, true, true, true, false, true, false] rfl rfl (by kernel_rfl) (by decide) (fun K hK => ?_)
    refine goes_ Tryd.func59 (by kernel_rfl) rfl #[.agg (boolsOf m2)] (by rfl) rfl rfl (by simp only [List.map_toArray, List.map_cons, List.map_nil]; rfl) ?_
    with_reducible refine (number_calls m2 hm2 _).mono ?_
    rintro e wc153 ⟨rfl, hb⟩
    have HTc153 : Aside0 ((wc153).heap[w2.heap.size]? = some (.cells (boolsOf m) 97 (0, 0))) := ⟨blk_below (w := (wc1).alloc (Obj.cells #[.int .u8 0, .int .u16 0, .int .u16 0] 40)) HTc15.out hb⟩
    have HUc153 : Aside0 ((wc153).heap[w5.heap.size]? = some (.cells (boolsOf m2) 97 (0, 0))) := ⟨blk_below (w := (wc1).alloc (Obj.cells #[.int .u8 0, .int .u16 0, .int .u16 0] 40)) HUc15.out hb⟩
    have HRc153 : Aside0 ((wc153).heap[w.heap.size]? = some (.cells #[.int .u8 0, .int .u16 0, .int .u16 0] 40 (0, 0))) := ⟨blk_below (w := (wc1).alloc (Obj.cells #[.int .u8 0, .int .u16 0, .int .u16 0] 40)) HRc15.out hb⟩
    have HLc153 : Aside0 ((wc153).heap[wc1.heap.size]? = some (.cells #[.int .u8 0, .int .u16 0, .int .u16 0] 40 (0, 0))) := ⟨blk_below (w := (wc1).alloc (Obj.cells #[.int .u8 0, .int .u16 0, .int .u16 0] 40)) HLc15.out hb⟩
    have HBc153 : Aside0 (Below w.heap.size w (wc153)) := ⟨below_step HBc15.out hb⟩
    clear hb
    refine ⟨_, rfl, ?_⟩
    refine hK.out _ _ ⟨HTc153.out, HUc153.out, HRc153.out⟩ (fun hHeld => ?_)
    clear hK K
    refine norm_ (a' := ?_) ?_ ?_
    rotate_left
    ·show Act.put _ (some 65) _ = _
     simp only [Act.put, List.setIfInBounds_toArray, List.set_cons_zero, List.set_cons_succ, i64_w, i32_w]
     rfl
    refine pure_ (i := 4) (N := some 66) (v := ?_) (a' := ?_) #[true, true, true, true, true, true, false] rfl rfl (by kernel_rfl) (fun _ _ _ h => h) (Or.inl ⟨by rfl, ?_⟩) ?_ ?_
    rotate_left
    ·intro w'
     go_simp
     with_reducible rfl
    rotate_left
    ·simp only [Act.put, List.setIfInBounds_toArray, List.set_cons_zero, List.set_cons_succ, i64_w, i32_w]
     rfl
    exact norm_ (by simp only [putAll, Act.put, List.setIfInBounds_toArray, List.set_cons_zero, List.set_cons_succ]) (hCont (wc1.heap.size) _ ⟨⟨HTc153.out, HUc153.out, HRc153.out⟩, HLc153.out, HBc153.out, blk_lt HRc1.out⟩)
  ·skip
   refine value_ (w1 := ?_) (v := ?_) (by rfl) rfl ?_ ?_
   rotate_left 2
   ·go_simp
    constructor
    ·rfl
    ·rfl
   have HTc5 : Aside0 (((w6.drew).alloc (Obj.cells #[.int .u8 0, .int .u16 0, .int .u16 0] 40)).heap[w2.heap.size]? = some (.cells (boolsOf m) 97 (0, 0))) := ⟨blk_alloc (w := w6.drew) HT6.out _⟩
   have HUc5 : Aside0 (((w6.drew).alloc (Obj.cells #[.int .u8 0, .int .u16 0, .int .u16 0] 40)).heap[w5.heap.size]? = some (.cells (boolsOf m2) 97 (0, 0))) := ⟨blk_alloc (w := w6.drew) HU6.out _⟩
   have HRc5 : Aside0 (((w6.drew).alloc (Obj.cells #[.int .u8 0, .int .u16 0, .int .u16 0] 40)).heap[w.heap.size]? = some (.cells #[.int .u8 0, .int .u16 0, .int .u16 0] 40 (0, 0))) := ⟨blk_alloc (w := w6.drew) HR6.out _⟩
   have HLc5 : Aside0 (((w6.drew).alloc (Obj.cells #[.int .u8 0, .int .u16 0, .int .u16 0] 40)).heap[(w6.drew).heap.size]? = some (Obj.cells #[.int .u8 0, .int .u16 0, .int .u16 0] 40)) := ⟨blk_new (w6.drew) _⟩
   have HBc5 : Aside0 (Below w.heap.size w ((w6.drew).alloc (Obj.cells #[.int .u8 0, .int .u16 0, .int .u16 0] 40))) := ⟨below_alloc (below_drew1 HB6.out) _⟩
   refine hK.out _ _ ⟨HTc5.out, HUc5.out, HRc5.out⟩ (fun hHeld => ?_)
   clear hK K
   refine norm_ (a' := ?_) ?_ ?_
   rotate_left
   ·show Act.put _ (some 10) _ = _
    simp only [Act.put, List.setIfInBounds_toArray, List.set_cons_zero, List.set_cons_succ, i64_w, i32_w]
    rfl
   refine one_ (i := 1) (N := some 63) #[true, true, true, false, false, true, false] rfl rfl (by kernel_rfl) (by decide) (fun K hK => ?_)
   refine goes_ Tryd.func59 (by kernel_rfl) rfl #[.agg (boolsOf m)] (by rfl) rfl rfl (by simp only [List.map_toArray, List.map_cons, List.map_nil]; rfl) ?_
   with_reducible refine (number_calls m hm _).mono ?_
   rintro e wc51 ⟨rfl, hb⟩
   have HTc51 : Aside0 ((wc51).heap[w2.heap.size]? = some (.cells (boolsOf m) 97 (0, 0))) := ⟨blk_below (w := (w6.drew).alloc (Obj.cells #[.int .u8 0, .int .u16 0, .int .u16 0] 40)) HTc5.out hb⟩
   have HUc51 : Aside0 ((wc51).heap[w5.heap.size]? = some (.cells (boolsOf m2) 97 (0, 0))) := ⟨blk_below (w := (w6.drew).alloc (Obj.cells #[.int .u8 0, .int .u16 0, .int .u16 0] 40)) HUc5.out hb⟩
   have HRc51 : Aside0 ((wc51).heap[w.heap.size]? = some (.cells #[.int .u8 0, .int .u16 0, .int .u16 0] 40 (0, 0))) := ⟨blk_below (w := (w6.drew).alloc (Obj.cells #[.int .u8 0, .int .u16 0, .int .u16 0] 40)) HRc5.out hb⟩
   have HLc51 : Aside0 ((wc51).heap[w6.heap.size]? = some (.cells #[.int .u8 0, .int .u16 0, .int .u16 0] 40 (0, 0))) := ⟨blk_below (w := (w6.drew).alloc (Obj.cells #[.int .u8 0, .int .u16 0, .int .u16 0] 40)) HLc5.out hb⟩
   have HBc51 : Aside0 (Below w.heap.size w (wc51)) := ⟨below_step HBc5.out hb⟩
   clear hb
   refine ⟨_, rfl, ?_⟩
   refine hK.out _ _ ⟨HTc51.out, HUc51.out, HRc51.out⟩ (fun hHeld => ?_)
   clear hK K
   refine norm_ (a' := ?_) ?_ ?_
   rotate_left
   ·show Act.put _ (some 63) _ = _
    simp only [Act.put, List.setIfInBounds_toArray, List.set_cons_zero, List.set_cons_succ, i64_w, i32_w]
    rfl
   refine one_ (i := 3) (N := some 65) #[true, true, true, true, false, true, false] rfl rfl (by kernel_rfl) (by decide) (fun K hK => ?_)
   refine goes_ Tryd.func59 (by kernel_rfl) rfl #[.agg (boolsOf m2)] (by rfl) rfl rfl (by simp only [List.map_toArray, List.map_cons, List.map_nil]; rfl) ?_
   with_reducible refine (number_calls m2 hm2 _).mono ?_
   rintro e wc513 ⟨rfl, hb⟩
   have HTc513 : Aside0 ((wc513).heap[w2.heap.size]? = some (.cells (boolsOf m) 97 (0, 0))) := ⟨blk_below (w := wc51) HTc51.out hb⟩
   have HUc513 : Aside0 ((wc513).heap[w5.heap.size]? = some (.cells (boolsOf m2) 97 (0, 0))) := ⟨blk_below (w := wc51) HUc51.out hb⟩
   have HRc513 : Aside0 ((wc513).heap[w.heap.size]? = some (.cells #[.int .u8 0, .int .u16 0, .int .u16 0] 40 (0, 0))) := ⟨blk_below (w := wc51) HRc51.out hb⟩
   have HLc513 : Aside0 ((wc513).heap[w6.heap.size]? = some (.cells #[.int .u8 0, .int .u16 0, .int .u16 0] 40 (0, 0))) := ⟨blk_below (w := wc51) HLc51.out hb⟩
   have HBc513 : Aside0 (Below w.heap.size w (wc513)) := ⟨below_step HBc51.out hb⟩
   clear hb
   refine ⟨_, rfl, ?_⟩
   refine hK.out _ _ ⟨HTc513.out, HUc513.out, HRc513.out⟩ (fun hHeld => ?_)
   clear hK K
   refine norm_ (a' := ?_) ?_ ?_
   rotate_left
   ·show Act.put _ (some 65) _ = _
    simp only [Act.put, List.setIfInBounds_toArray, List.set_cons_zero, List.set_cons_succ, i64_w, i32_w]
    rfl
   refine pure_ (i := 4) (N := some 66) (v := ?_) (a' := ?_) #[true, true, true, true, true, true, false] rfl rfl (by kernel_rfl) (fun _ _ _ h => h) (Or.inl ⟨by rfl, ?_⟩) ?_ ?_
   rotate_left
   ·intro w'
    go_simp
    with_reducible rfl
   rotate_left
   ·simp only [Act.put, List.setIfInBounds_toArray, List.set_cons_zero, List.set_cons_succ, i64_w, i32_w]
    rfl
   exact norm_ (by simp only [putAll, Act.put, List.setIfInBounds_toArray, List.set_cons_zero, List.set_cons_succ]) (hCont (w6.heap.size) _ ⟨⟨HTc513.out, HUc513.out, HRc513.out⟩, HLc513.out, HBc513.out, blk_lt HR6.out⟩)
 rintro g w9 ⟨⟨hT, hU, hR⟩, hL, hB, hne⟩
 have hHeld : _ ∧ _ ∧ _ := ⟨hT, hU, hR⟩
 have HT9 := Aside0.mk hT
 have HU9 := Aside0.mk hU
 have HR9 := Aside0.mk hR
 have HL9 := Aside0.mk hL
 have HB9 := Aside0.mk hB
 clear hT hU hR hL hB
 refine norm_ (a' := ?_) ?_ ?_
 rotate_left
 ·simp only [putAll, Act.put, List.setIfInBounds_toArray, List.set_cons_zero, List.set_cons_succ]
  rfl
 refine last_ (i := 6) (N := none) #[true, true, true, true, true, true, true] rfl rfl (by kernel_rfl) (by decide) (fun K hK => ?_)
 refine store_row_step (by rfl) 40 (.tmp 10) (.tmp 66) rfl g #[.int .u8 1, .int .u16 m, .int .u16 m2] (by rfl) (by rfl) 40 #[.int .u8 0, .int .u16 0, .int .u16 0] HL9.out (by kernel_rfl) rfl (by simp [Value.oneCell']) ?_
 have HR10 := Aside0.mk ((setRow_other w9 g w.heap.size #[.int .u8 1, .int .u16 m, .int .u16 m2] (Nat.ne_of_lt hne)).trans HR9.out)
 have HL10 := Aside0.mk (setRow_heap w9 g _ #[.int .u8 1, .int .u16 m, .int .u16 m2] _ _ HL9.out)
 have HB10 := Aside0.mk (below_setRow HB9.out (Nat.le_of_lt hne) #[.int .u8 1, .int .u16 m, .int .u16 m2])
 generalize hw10 : World.setRow w9 g #[.int .u8 1, .int .u16 m, .int .u16 m2] = w10 at HR10 HL10 HB10 ⊢
 clear hw10
 refine hK.out _ _ ?_
 clear hK K
 refine done_ (by kernel_rfl) ?_
 have gne : ¬ g = w.heap.size := Nat.ne_of_gt hne
 have gne' : ¬ w.heap.size = g := Nat.ne_of_lt hne
 have hh := HS5.out
 clear HS5
 have C5 := Aside0.mk (decide_eq_false v1)
 have C6 := Aside0.mk (decide_eq_false v2)
 have hho := hood_n s q2 v1 v2
 rw [tail_n s q2 m m2 hho] at hh
 clear v2
 clear hho v1
 by_cases q1 : q2 < s.size
 ·have q1' : (q2 : Int) < (s.size : Int) := by omega
  have q1n : ¬ s.size ≤ q2 := by omega
  rw [if_pos q1] at hh
  simp only [Prod.mk.injEq] at hh
  obtain ⟨rfl, rfl, rfl, rfl, rfl⟩ := hh
  go_wp2_with (first | (go_at_call_of 57 (Value.int .u8 86); go_must (refine (is_calls s q2 q2 rfl 86 (by omega) false C5.out _).mono ?_); rintro e w11 ⟨rfl, hd⟩; have HR11 := Aside0.mk (blk_drawn HR10.out hd); have HL11 := Aside0.mk (blk_drawn HL10.out hd); have HB11 := Aside0.mk (below_step HB10.out hd.below); clear hd; skip) | (go_at_call_of 57 (Value.int .u8 72); go_must (refine (is_calls s q2 q2 rfl 72 (by omega) false C6.out _).mono ?_); rintro e w12 ⟨rfl, hd⟩; have HR12 := Aside0.mk (blk_drawn HR11.out hd); have HL12 := Aside0.mk (blk_drawn HL11.out hd); have HB12 := Aside0.mk (below_step HB11.out hd.below); clear hd; have k0 : w12.cell? ⟨w.heap.size, 0, none⟩ = some (.int .u8 0) := blk_cell HR12.out 0; have z0 := blk_frozen HR12.out 0; have k1 : w12.cell? ⟨w.heap.size, 1, none⟩ = some (.int .u16 0) := blk_cell HR12.out 1; have z1 := blk_frozen HR12.out 1; have k2 : w12.cell? ⟨w.heap.size, 2, none⟩ = some (.int .u16 0) := blk_cell HR12.out 2; have z2 := blk_frozen HR12.out 2; have l0 : w12.cell? ⟨g, 0, none⟩ = some (.int .u8 1) := blk_cell HL12.out 0; have y0 := blk_frozen HL12.out 0; have l1 : w12.cell? ⟨g, 1, none⟩ = some (.int .u16 m) := blk_cell HL12.out 1; have y1 := blk_frozen HL12.out 1; have l2 : w12.cell? ⟨g, 2, none⟩ = some (.int .u16 m2) := blk_cell HL12.out 2; have y2 := blk_frozen HL12.out 2))
  try rw [Exit.noGoto_ret]
  refine bodyPost_ret (v := .tuple #[.agg #[.int .u8 0, .int .u16 0, .int .u16 0], .int .i64 ((q2 : Nat) : Int), .int .i64 80]) (by simp [results, Tryd.results34, go_sem, *]) rfl ⟨rfl, ?_⟩
  repeat (first | exact HB12.out | apply below_alloc | apply pw_below_drewN | apply below_drew1 | refine below_set ?_ (Nat.le_refl _) | refine below_set ?_ (Nat.le_of_lt hne))
 ·have q1' : ¬ (q2 : Int) < (s.size : Int) := by omega
  rw [if_neg q1] at hh
  have HS6 := Aside0.mk hh
  have q1d : decide ((q2 : Int) < (s.size : Int)) = false := decide_eq_false q1'
  clear hh
  go_wp2_with (first | (go_at_call_of 57 (Value.int .u8 86); go_must (refine (is_calls s q2 q2 rfl 86 (by omega) false C5.out _).mono ?_); rintro e w11 ⟨rfl, hd⟩; have HR11 := Aside0.mk (blk_drawn HR10.out hd); have HL11 := Aside0.mk (blk_drawn HL10.out hd); have HB11 := Aside0.mk (below_step HB10.out hd.below); clear hd; skip) | (go_at_call_of 57 (Value.int .u8 72); go_must (refine (is_calls s q2 q2 rfl 72 (by omega) false C6.out _).mono ?_); rintro e w12 ⟨rfl, hd⟩; have HR12 := Aside0.mk (blk_drawn HR11.out hd); have HL12 := Aside0.mk (blk_drawn HL11.out hd); have HB12 := Aside0.mk (below_step HB11.out hd.below); clear hd; have k0 : w12.cell? ⟨w.heap.size, 0, none⟩ = some (.int .u8 0) := blk_cell HR12.out 0; have z0 := blk_frozen HR12.out 0; have k1 : w12.cell? ⟨w.heap.size, 1, none⟩ = some (.int .u16 0) := blk_cell HR12.out 1; have z1 := blk_frozen HR12.out 1; have k2 : w12.cell? ⟨w.heap.size, 2, none⟩ = some (.int .u16 0) := blk_cell HR12.out 2; have z2 := blk_frozen HR12.out 2; have l0 : w12.cell? ⟨g, 0, none⟩ = some (.int .u8 1) := blk_cell HL12.out 0; have y0 := blk_frozen HL12.out 0; have l1 : w12.cell? ⟨g, 1, none⟩ = some (.int .u16 m) := blk_cell HL12.out 1; have y1 := blk_frozen HL12.out 1; have l2 : w12.cell? ⟨g, 2, none⟩ = some (.int .u16 m2) := blk_cell HL12.out 2; have y2 := blk_frozen HL12.out 2))
  have HS7' : tailOf 1 m m2 (firstBig s 8 s.size 0) = (r1, r2, r3, r4, r5) := by
   have h6 := HS6.out
   cases hf : firstBig s (mostOf 1) s.size 0 with
   | none => rw [hf] at h6; rw [show firstBig s 8 s.size 0 = none from hf]; exact h6
   | some x => rw [hf] at h6; rw [show firstBig s 8 s.size 0 = some x from hf]; exact h6
  obtain ⟨fb, hfb⟩ : ∃ fb, firstBig s 8 s.size 0 = fb := ⟨_, rfl⟩
  rw [hfb] at HS7'
  have HS7 := Aside0.mk HS7'
  clear HS7'
  have HFB := Aside0.mk hfb
  clear hfb HS6 hHeld
  go_loopg [11] s.size (fun k t11 wi => ∃ i : Nat, i ≤ s.size ∧ t11 = .int .i64 i ∧ Aside0 (firstBig s 8 k i = fb) ∧ Aside0 (s.size ≤ k + i) ∧ Aside0 (Below w.heap.size w wi) ∧ Aside0 (wi.heap[w.heap.size]? = some (.cells #[.int .u8 0, .int .u16 0, .int .u16 0] 40 (0, 0))) ∧ Aside0 (wi.heap[g]? = some (.cells #[.int .u8 1, .int .u16 m, .int .u16 m2] 40 (0, 0))))
  case atStart => exact ⟨0, by omega, rfl, HFB, ⟨by omega⟩, HB12, HR12, HL12⟩
  case round =>
   obtain ⟨i, hi, rfl, HF, HN, HB, HR, HL⟩ := hrel
   have i0 : (0 : Int) ≤ (i : Int) := by omega
   have i00 : (i : Int) < 1000000000 := by omega
   have k0 : wr.cell? ⟨w.heap.size, 0, none⟩ = some (.int .u8 0) := blk_cell HR.out 0
   have z0 := blk_frozen HR.out 0
   have k1 : wr.cell? ⟨w.heap.size, 1, none⟩ = some (.int .u16 0) := blk_cell HR.out 1
   have z1 := blk_frozen HR.out 1
   have k2 : wr.cell? ⟨w.heap.size, 2, none⟩ = some (.int .u16 0) := blk_cell HR.out 2
   have z2 := blk_frozen HR.out 2
   have l0 : wr.cell? ⟨g, 0, none⟩ = some (.int .u8 1) := blk_cell HL.out 0
   have y0 := blk_frozen HL.out 0
   have l1 : wr.cell? ⟨g, 1, none⟩ = some (.int .u16 m) := blk_cell HL.out 1
   have y1 := blk_frozen HL.out 1
   have l2 : wr.cell? ⟨g, 2, none⟩ = some (.int .u16 m2) := blk_cell HL.out 2
   have y2 := blk_frozen HL.out 2
   by_cases d1 : i < s.size
   ·have d1d : decide ((i : Int) < (s.size : Int)) = true := decide_eq_true (by omega)
    have d1' : (i : Int) < (s.size : Int) := by omega
    have hbt : ∀ hh : i < s.size, ((s[i]'hh).toNat : Int) = bt s (i : Int) := bt_at s (i : Int)
    have hbr := bt_range s (i : Int)
    obtain ⟨b, hb⟩ : ∃ b, bt s (i : Int) = b := ⟨_, rfl⟩
    rw [hb] at hbt hbr
    have HB' := Aside0.mk hb
    clear hb
    cases gk with
    | zero => exact absurd HN.out (by omega)
    | succ gk =>
    have hi1 : i + 1 ≤ s.size := d1
    have HW : Aside0 (wrap64 ((i : Int) + 1) = ((i + 1 : Nat) : Int)) := ⟨by unfold wrap64; omega⟩
    have hnn : Aside0 (s.size ≤ gk + (i + 1)) := ⟨by have := HN.out; omega⟩
    have hf := HF.out
    rw [firstBig_succ, if_pos d1, HB'.out] at hf
    by_cases d2 : 48 ≤ b
    ·have d2d : decide (48 ≤ b) = true := decide_eq_true d2
     by_cases d3 : b ≤ 57
     ·have d3d : decide (b ≤ 57) = true := decide_eq_true d3
      have HW8 : Aside0 (wrap64 (IntKind.u8.wrap (b - 48)) = b - 48) := ⟨by rw [show IntKind.u8.wrap (b - 48) = b - 48 from by rw [IntKind.wrap_u8]; omega]; unfold wrap64; omega⟩
      by_cases d4 : 8 < b - 48
      ·have d4d : decide (8 < wrap64 (IntKind.u8.wrap (b - 48))) = true := decide_eq_true (by rw [HW8.out]; exact d4)
       rw [if_pos ⟨d2, d3, d4⟩] at hf
       have HF2 := Aside0.mk hf
       clear hf d2 d3 d4
       go_wp2_with fail
       refine start_ (n := 21) (S := fun w' => w'.cell? ⟨g, 0, none⟩ = some (.int .u8 1)) (ds := []) #[false, false, false, false, false, false, false, false, false, false, false, false, false, false, false, false, false, false, false, false, false] (by kernel_rfl) rfl rfl ((blk_cell HL.out 0)) (fun hHeld => ?_)
       refine pure_ (i := 0) (N := some 91) (v := ?_) (a' := ?_) #[true, false, false, false, false, false, false, false, false, false, false, false, false, false, false, false, false, false, false, false, false] rfl rfl (by kernel_rfl) (fun _ _ _ h => h) (Or.inl ⟨by rfl, ?_⟩) ?_ ?_
       rotate_left
       ·intro w'
        go_simp
        with_reducible rfl
       rotate_left
       ·simp only [Act.put, List.setIfInBounds_toArray, List.set_cons_zero, List.set_cons_succ, i64_w, i32_w]
        rfl
       refine pure_ (i := 1) (N := some 92) (v := ?_) (a' := ?_) #[true, true, false, false, false, false, false, false, false, false, false, false, false, false, false, false, false, false, false, false, false] rfl rfl (by kernel_rfl) (fun _ _ _ h => h) (Or.inl ⟨by rfl, ?_⟩) ?_ ?_
       rotate_left
       ·intro w'
        go_simp
        with_reducible rfl
       rotate_left
       ·simp only [Act.put, List.setIfInBounds_toArray, List.set_cons_zero, List.set_cons_succ, i64_w, i32_w]
        rfl
       refine take_ (i := 2) (N := some 93) (v := ?_) (a' := ?_) #[true, true, true, false, false, false, false, false, false, false, false, false, false, false, false, false, false, false, false, false, false] rfl rfl (by kernel_rfl) (fun _ _ _ h => h) (Or.inl ⟨by rfl, ?_⟩) hHeld ?_ ?_
       rotate_left
       ·intro w' s0
        go_simp
        with_reducible rfl
       rotate_left
       ·simp only [Act.put, List.setIfInBounds_toArray, List.set_cons_zero, List.set_cons_succ, i64_w, i32_w]
        rfl
       refine pure_ (i := 3) (N := some 94) (v := ?_) (a' := ?_) #[true, true, true, true, false, false, false, false, false, false, false, false, false, false, false, false, false, false, false, false, false] rfl rfl (by kernel_rfl) (fun _ _ _ h => h) (Or.inl ⟨by rfl, ?_⟩) ?_ ?_
       rotate_left
       ·intro w'
        go_simp
        with_reducible rfl
       rotate_left
       ·simp only [Act.put, List.setIfInBounds_toArray, List.set_cons_zero, List.set_cons_succ, i64_w, i32_w]
        rfl
       refine pure_ (i := 4) (N := some 95) (v := ?_) (a' := ?_) #[true, true, true, true, true, false, false, false, false, false, false, false, false, false, false, false, false, false, false, false, false] rfl rfl (by kernel_rfl) (fun _ _ _ h => h) (Or.inl ⟨by rfl, ?_⟩) ?_ ?_
       rotate_left
       ·intro w'
        go_simp
        with_reducible rfl
       rotate_left
       ·simp only [Act.put, List.setIfInBounds_toArray, List.set_cons_zero, List.set_cons_succ, i64_w, i32_w]
        rfl
       refine pure_ (i := 5) (N := some 96) (v := ?_) (a' := ?_) #[true, true, true, true, true, true, false, false, false, false, false, false, false, false, false, false, false, false, false, false, false] rfl rfl (by kernel_rfl) (fun _ _ _ h => h) (Or.inl ⟨by rfl, ?_⟩) ?_ ?_
       rotate_left
       ·intro w'
        go_simp
        with_reducible rfl
       rotate_left
       ·simp only [Act.put, List.setIfInBounds_toArray, List.set_cons_zero, List.set_cons_succ, i64_w, i32_w]
        rfl
       refine pure_ (i := 6) (N := some 97) (v := ?_) (a' := ?_) #[true, true, true, true, true, true, true, false, false, false, false, false, false, false, false, false, false, false, false, false, false] rfl rfl (by kernel_rfl) (fun _ _ _ h => h) (Or.inl ⟨by rfl, ?_⟩) ?_ ?_
       rotate_left
       ·intro w'
        go_simp
        with_reducible rfl
       rotate_left
       ·simp only [Act.put, List.setIfInBounds_toArray, List.set_cons_zero, List.set_cons_succ, i64_w, i32_w]
        rfl
       refine take_ (i := 7) (N := some 98) (v := ?_) (a' := ?_) #[true, true, true, true, true, true, true, true, false, false, false, false, false, false, false, false, false, false, false, false, false] rfl rfl (by kernel_rfl) (fun _ _ _ h => h) (Or.inl ⟨by rfl, ?_⟩) hHeld ?_ ?_
       rotate_left
       ·intro w' s0
        go_simp
        with_reducible rfl
       rotate_left
       ·simp only [Act.put, List.setIfInBounds_toArray, List.set_cons_zero, List.set_cons_succ, i64_w, i32_w]
        rfl
       refine pure_ (i := 8) (N := some 99) (v := ?_) (a' := ?_) #[true, true, true, true, true, true, true, true, true, false, false, false, false, false, false, false, false, false, false, false, false] rfl rfl (by kernel_rfl) (fun _ _ _ h => h) (Or.inl ⟨by rfl, ?_⟩) ?_ ?_
       rotate_left
       ·intro w'
        go_simp
        with_reducible rfl
       rotate_left
       ·simp only [Act.put, List.setIfInBounds_toArray, List.set_cons_zero, List.set_cons_succ, i64_w, i32_w]
        rfl
       refine pure_ (i := 9) (N := some 100) (v := ?_) (a' := ?_) #[true, true, true, true, true, true, true, true, true, true, false, false, false, false, false, false, false, false, false, false, false] rfl rfl (by kernel_rfl) (fun _ _ _ h => h) (Or.inl ⟨by rfl, ?_⟩) ?_ ?_
       rotate_left
       ·intro w'
        go_simp
        with_reducible rfl
       rotate_left
       ·simp only [Act.put, List.setIfInBounds_toArray, List.set_cons_zero, List.set_cons_succ, i64_w, i32_w]
        rfl
       refine pure_ (i := 10) (N := some 101) (v := ?_) (a' := ?_) #[true, true, true, true, true, true, true, true, true, true, true, false, false, false, false, false, false, false, false, false, false] rfl rfl (by kernel_rfl) (fun _ _ _ h => h) (Or.inl ⟨by rfl, ?_⟩) ?_ ?_
       rotate_left
       ·intro w'
        go_simp
        with_reducible rfl
       rotate_left
       ·simp only [Act.put, List.setIfInBounds_toArray, List.set_cons_zero, List.set_cons_succ, i64_w, i32_w]
        rfl
       refine pure_ (i := 11) (N := some 102) (v := ?_) (a' := ?_) #[true, true, true, true, true, true, true, true, true, true, true, true, false, false, false, false, false, false, false, false, false] rfl rfl (by kernel_rfl) (fun _ _ _ h => h) (Or.inl ⟨by rfl, ?_⟩) ?_ ?_
       rotate_left
       ·intro w'
        go_simp
        with_reducible rfl
       rotate_left
       ·simp only [Act.put, List.setIfInBounds_toArray, List.set_cons_zero, List.set_cons_succ, i64_w, i32_w]
        rfl
       refine pure_ (i := 12) (N := some 103) (v := ?_) (a' := ?_) #[true, true, true, true, true, true, true, true, true, true, true, true, true, false, false, false, false, false, false, false, false] rfl rfl (by kernel_rfl) (fun _ _ _ h => h) (Or.inl ⟨by rfl, ?_⟩) ?_ ?_
       rotate_left
       ·intro w'
        go_simp
        with_reducible rfl
       rotate_left
       ·simp only [Act.put, List.setIfInBounds_toArray, List.set_cons_zero, List.set_cons_succ, i64_w, i32_w]
        rfl
       refine pure_ (i := 16) (N := some 107) (v := ?_) (a' := ?_) #[true, true, true, true, true, true, true, true, true, true, true, true, true, false, false, false, true, false, false, false, false] rfl rfl (by kernel_rfl) (fun _ _ _ h => h) (Or.inl ⟨by rfl, ?_⟩) ?_ ?_
       rotate_left
       ·intro w'
        go_simp
        with_reducible rfl
       rotate_left
       ·simp only [Act.put, List.setIfInBounds_toArray, List.set_cons_zero, List.set_cons_succ, i64_w, i32_w]
        rfl
       refine take_ (i := 13) (N := some 104) (v := ?_) (a' := ?_) #[true, true, true, true, true, true, true, true, true, true, true, true, true, true, false, false, true, false, false, false, false] rfl rfl (by kernel_rfl) (fun _ _ _ h => h) (Or.inl ⟨by rfl, ?_⟩) hHeld ?_ ?_
       rotate_left
       ·intro w' s0
        go_simp
        with_reducible rfl
       rotate_left
       ·simp only [Act.put, List.setIfInBounds_toArray, List.set_cons_zero, List.set_cons_succ, i64_w, i32_w]
        rfl
       refine pure_ (i := 14) (N := some 105) (v := ?_) (a' := ?_) #[true, true, true, true, true, true, true, true, true, true, true, true, true, true, true, false, true, false, false, false, false] rfl rfl (by kernel_rfl) (fun _ _ _ h => h) (Or.inl ⟨by rfl, ?_⟩) ?_ ?_
       rotate_left
       ·intro w'
        go_simp
        with_reducible rfl
       rotate_left
       ·simp only [Act.put, List.setIfInBounds_toArray, List.set_cons_zero, List.set_cons_succ, i64_w, i32_w]
        rfl
       refine pure_ (i := 15) (N := some 106) (v := ?_) (a' := ?_) #[true, true, true, true, true, true, true, true, true, true, true, true, true, true, true, true, true, false, false, false, false] rfl rfl (by kernel_rfl) (fun _ _ _ h => h) (Or.inl ⟨by rfl, ?_⟩) ?_ ?_
       rotate_left
       ·intro w'
        go_simp
        with_reducible rfl
       rotate_left
       ·simp only [Act.put, List.setIfInBounds_toArray, List.set_cons_zero, List.set_cons_succ, i64_w, i32_w]
        rfl
       refine take_ (i := 17) (N := some 108) (v := ?_) (a' := ?_) #[true, true, true, true, true, true, true, true, true, true, true, true, true, true, true, true, true, true, false, false, false] rfl rfl (by kernel_rfl) (fun _ _ _ h => h) (Or.inl ⟨by rfl, ?_⟩) hHeld ?_ ?_
       rotate_left
       ·intro w' s0
        go_simp
        with_reducible rfl
       rotate_left
       ·simp only [Act.put, List.setIfInBounds_toArray, List.set_cons_zero, List.set_cons_succ, i64_w, i32_w]
        rfl
       refine one_ (i := 18) (N := some 109) #[true, true, true, true, true, true, true, true, true, true, true, true, true, true, true, true, true, true, true, false, false] rfl rfl (by kernel_rfl) (by decide) (fun K hK => ?_)
       refine goes_ Tryd.func60 (by kernel_rfl) rfl #[.int .u8 1] (by rfl) rfl rfl (by simp only [List.map_toArray, List.map_cons, List.map_nil]; rfl) ?_
       with_reducible refine (vivariumref08_Greatest.calls 1 8 _ rfl).mono ?_
       rintro e w20 ⟨rfl, hd⟩
       have HR20 := Aside0.mk (blk_drawn (w := wr.drew) HR.out hd)
       have HL20 := Aside0.mk (blk_drawn (w := wr.drew) HL.out hd)
       have HB20 := Aside0.mk (below_step (below_drew1 HB.out) hd.below)
       clear hd
       refine ⟨_, rfl, ?_⟩
       refine hK.out _ _ (blk_cell HL20.out 0) (fun hHeld => ?_)
       clear hK K
       refine norm_ (a' := ?_) ?_ ?_
       rotate_left
       ·show Act.put _ (some 109) _ = _
        simp only [Act.put, List.setIfInBounds_toArray, List.set_cons_zero, List.set_cons_succ, i64_w, i32_w]
        rfl
       refine pure_ (i := 19) (N := some 110) (v := ?_) (a' := ?_) #[true, true, true, true, true, true, true, true, true, true, true, true, true, true, true, true, true, true, true, true, false] rfl rfl (by kernel_rfl) (fun _ _ _ h => h) (Or.inl ⟨by rfl, ?_⟩) ?_ ?_
       rotate_left
       ·intro w'
        go_simp
        with_reducible rfl
       rotate_left
       ·simp only [Act.put, List.setIfInBounds_toArray, List.set_cons_zero, List.set_cons_succ, i64_w, i32_w]
        rfl
       refine pure_ (i := 20) (N := some 111) (v := ?_) (a' := ?_) #[true, true, true, true, true, true, true, true, true, true, true, true, true, true, true, true, true, true, true, true, true] rfl rfl (by kernel_rfl) (fun _ _ _ h => h) (Or.inl ⟨by rfl, ?_⟩) ?_ ?_
       rotate_left
       ·intro w'
        go_simp
        with_reducible rfl
       rotate_left
       ·simp only [Act.put, List.setIfInBounds_toArray, List.set_cons_zero, List.set_cons_succ, i64_w, i32_w]
        rfl
       refine done_ (by kernel_rfl) ?_
       have hr := HS7.out
       rw [← HF2.out] at hr
       simp only [tailOf, Prod.mk.injEq] at hr
       obtain ⟨rfl, rfl, rfl, rfl, rfl⟩ := hr
       clear k0 k1 k2 z0 z1 z2 l0 l1 l2 y0 y1 y2
       have k0 : w20.cell? ⟨w.heap.size, 0, none⟩ = some (.int .u8 0) := blk_cell HR20.out 0
       have z0 := blk_frozen HR20.out 0
       have k1 : w20.cell? ⟨w.heap.size, 1, none⟩ = some (.int .u16 0) := blk_cell HR20.out 1
       have z1 := blk_frozen HR20.out 1
       have k2 : w20.cell? ⟨w.heap.size, 2, none⟩ = some (.int .u16 0) := blk_cell HR20.out 2
       have z2 := blk_frozen HR20.out 2
       go_wp2
       try rw [Exit.noGoto_ret]
       refine bodyPost_ret (v := .tuple #[.agg #[.int .u8 0, .int .u16 0, .int .u16 0], .int .i64 i, .int .i64 82]) (by simp [results, Tryd.results34, go_sem, *]) rfl ⟨rfl, ?_⟩
       repeat (first | exact HB20.out | apply below_alloc | apply pw_below_drewN | apply below_drew1 | refine below_set ?_ (Nat.le_refl _))
      ·have d4d : decide (8 < wrap64 (IntKind.u8.wrap (b - 48))) = false := decide_eq_false (by rw [HW8.out]; exact d4)
       rw [if_neg (fun e => d4 e.2.2)] at hf
       have HF2 := Aside0.mk hf
       clear hf d2 d3 d4
       go_wp2_with fail
       refine start_ (n := 21) (S := fun w' => w'.cell? ⟨g, 0, none⟩ = some (.int .u8 1)) (ds := []) #[false, false, false, false, false, false, false, false, false, false, false, false, false, false, false, false, false, false, false, false, false] (by kernel_rfl) rfl rfl ((blk_cell HL.out 0)) (fun hHeld => ?_)
       refine pure_ (i := 0) (N := some 91) (v := ?_) (a' := ?_) #[true, false, false, false, false, false, false, false, false, false, false, false, false, false, false, false, false, false, false, false, false] rfl rfl (by kernel_rfl) (fun _ _ _ h => h) (Or.inl ⟨by rfl, ?_⟩) ?_ ?_
       rotate_left
       ·intro w'
        go_simp
        with_reducible rfl
       rotate_left
       ·simp only [Act.put, List.setIfInBounds_toArray, List.set_cons_zero, List.set_cons_succ, i64_w, i32_w]
        rfl
       refine pure_ (i := 1) (N := some 92) (v := ?_) (a' := ?_) #[true, true, false, false, false, false, false, false, false, false, false, false, false, false, false, false, false, false, false, false, false] rfl rfl (by kernel_rfl) (fun _ _ _ h => h) (Or.inl ⟨by rfl, ?_⟩) ?_ ?_
       rotate_left
       ·intro w'
        go_simp
        with_reducible rfl
       rotate_left
       ·simp only [Act.put, List.setIfInBounds_toArray, List.set_cons_zero, List.set_cons_succ, i64_w, i32_w]
        rfl
       refine take_ (i := 2) (N := some 93) (v := ?_) (a' := ?_) #[true, true, true, false, false, false, false, false, false, false, false, false, false, false, false, false, false, false, false, false, false] rfl rfl (by kernel_rfl) (fun _ _ _ h => h) (Or.inl ⟨by rfl, ?_⟩) hHeld ?_ ?_
       rotate_left
       ·intro w' s0
        go_simp
        with_reducible rfl
       rotate_left
       ·simp only [Act.put, List.setIfInBounds_toArray, List.set_cons_zero, List.set_cons_succ, i64_w, i32_w]
        rfl
       refine pure_ (i := 3) (N := some 94) (v := ?_) (a' := ?_) #[true, true, true, true, false, false, false, false, false, false, false, false, false, false, false, false, false, false, false, false, false] rfl rfl (by kernel_rfl) (fun _ _ _ h => h) (Or.inl ⟨by rfl, ?_⟩) ?_ ?_
       rotate_left
       ·intro w'
        go_simp
        with_reducible rfl
       rotate_left
       ·simp only [Act.put, List.setIfInBounds_toArray, List.set_cons_zero, List.set_cons_succ, i64_w, i32_w]
        rfl
       refine pure_ (i := 4) (N := some 95) (v := ?_) (a' := ?_) #[true, true, true, true, true, false, false, false, false, false, false, false, false, false, false, false, false, false, false, false, false] rfl rfl (by kernel_rfl) (fun _ _ _ h => h) (Or.inl ⟨by rfl, ?_⟩) ?_ ?_
       rotate_left
       ·intro w'
        go_simp
        with_reducible rfl
       rotate_left
       ·simp only [Act.put, List.setIfInBounds_toArray, List.set_cons_zero, List.set_cons_succ, i64_w, i32_w]
        rfl
       refine pure_ (i := 5) (N := some 96) (v := ?_) (a' := ?_) #[true, true, true, true, true, true, false, false, false, false, false, false, false, false, false, false, false, false, false, false, false] rfl rfl (by kernel_rfl) (fun _ _ _ h => h) (Or.inl ⟨by rfl, ?_⟩) ?_ ?_
       rotate_left
       ·intro w'
        go_simp
        with_reducible rfl
       rotate_left
       ·simp only [Act.put, List.setIfInBounds_toArray, List.set_cons_zero, List.set_cons_succ, i64_w, i32_w]
        rfl
       refine pure_ (i := 6) (N := some 97) (v := ?_) (a' := ?_) #[true, true, true, true, true, true, true, false, false, false, false, false, false, false, false, false, false, false, false, false, false] rfl rfl (by kernel_rfl) (fun _ _ _ h => h) (Or.inl ⟨by rfl, ?_⟩) ?_ ?_
       rotate_left
       ·intro w'
        go_simp
        with_reducible rfl
       rotate_left
       ·simp only [Act.put, List.setIfInBounds_toArray, List.set_cons_zero, List.set_cons_succ, i64_w, i32_w]
        rfl
       refine take_ (i := 7) (N := some 98) (v := ?_) (a' := ?_) #[true, true, true, true, true, true, true, true, false, false, false, false, false, false, false, false, false, false, false, false, false] rfl rfl (by kernel_rfl) (fun _ _ _ h => h) (Or.inl ⟨by rfl, ?_⟩) hHeld ?_ ?_
       rotate_left
       ·intro w' s0
        go_simp
        with_reducible rfl
       rotate_left
       ·simp only [Act.put, List.setIfInBounds_toArray, List.set_cons_zero, List.set_cons_succ, i64_w, i32_w]
        rfl
       refine pure_ (i := 8) (N := some 99) (v := ?_) (a' := ?_) #[true, true, true, true, true, true, true, true, true, false, false, false, false, false, false, false, false, false, false, false, false] rfl rfl (by kernel_rfl) (fun _ _ _ h => h) (Or.inl ⟨by rfl, ?_⟩) ?_ ?_
       rotate_left
       ·intro w'
        go_simp
        with_reducible rfl
       rotate_left
       ·simp only [Act.put, List.setIfInBounds_toArray, List.set_cons_zero, List.set_cons_succ, i64_w, i32_w]
        rfl
       refine pure_ (i := 9) (N := some 100) (v := ?_) (a' := ?_) #[true, true, true, true, true, true, true, true, true, true, false, false, false, false, false, false, false, false, false, false, false] rfl rfl (by kernel_rfl) (fun _ _ _ h => h) (Or.inl ⟨by rfl, ?_⟩) ?_ ?_
       rotate_left
       ·intro w'
        go_simp
        with_reducible rfl
       rotate_left
       ·simp only [Act.put, List.setIfInBounds_toArray, List.set_cons_zero, List.set_cons_succ, i64_w, i32_w]
        rfl
       refine pure_ (i := 10) (N := some 101) (v := ?_) (a' := ?_) #[true, true, true, true, true, true, true, true, true, true, true, false, false, false, false, false, false, false, false, false, false] rfl rfl (by kernel_rfl) (fun _ _ _ h => h) (Or.inl ⟨by rfl, ?_⟩) ?_ ?_
       rotate_left
       ·intro w'
        go_simp
        with_reducible rfl
       rotate_left
       ·simp only [Act.put, List.setIfInBounds_toArray, List.set_cons_zero, List.set_cons_succ, i64_w, i32_w]
        rfl
       refine pure_ (i := 11) (N := some 102) (v := ?_) (a' := ?_) #[true, true, true, true, true, true, true, true, true, true, true, true, false, false, false, false, false, false, false, false, false] rfl rfl (by kernel_rfl) (fun _ _ _ h => h) (Or.inl ⟨by rfl, ?_⟩) ?_ ?_
       rotate_left
       ·intro w'
        go_simp
        with_reducible rfl
       rotate_left
       ·simp only [Act.put, List.setIfInBounds_toArray, List.set_cons_zero, List.set_cons_succ, i64_w, i32_w]
        rfl
       refine pure_ (i := 12) (N := some 103) (v := ?_) (a' := ?_) #[true, true, true, true, true, true, true, true, true, true, true, true, true, false, false, false, false, false, false, false, false] rfl rfl (by kernel_rfl) (fun _ _ _ h => h) (Or.inl ⟨by rfl, ?_⟩) ?_ ?_
       rotate_left
       ·intro w'
        go_simp
        with_reducible rfl
       rotate_left
       ·simp only [Act.put, List.setIfInBounds_toArray, List.set_cons_zero, List.set_cons_succ, i64_w, i32_w]
        rfl
       refine pure_ (i := 16) (N := some 107) (v := ?_) (a' := ?_) #[true, true, true, true, true, true, true, true, true, true, true, true, true, false, false, false, true, false, false, false, false] rfl rfl (by kernel_rfl) (fun _ _ _ h => h) (Or.inl ⟨by rfl, ?_⟩) ?_ ?_
       rotate_left
       ·intro w'
        go_simp
        with_reducible rfl
       rotate_left
       ·simp only [Act.put, List.setIfInBounds_toArray, List.set_cons_zero, List.set_cons_succ, i64_w, i32_w]
        rfl
       refine take_ (i := 13) (N := some 104) (v := ?_) (a' := ?_) #[true, true, true, true, true, true, true, true, true, true, true, true, true, true, false, false, true, false, false, false, false] rfl rfl (by kernel_rfl) (fun _ _ _ h => h) (Or.inl ⟨by rfl, ?_⟩) hHeld ?_ ?_
       rotate_left
       ·intro w' s0
        go_simp
        with_reducible rfl
       rotate_left
       ·simp only [Act.put, List.setIfInBounds_toArray, List.set_cons_zero, List.set_cons_succ, i64_w, i32_w]
        rfl
       refine pure_ (i := 14) (N := some 105) (v := ?_) (a' := ?_) #[true, true, true, true, true, true, true, true, true, true, true, true, true, true, true, false, true, false, false, false, false] rfl rfl (by kernel_rfl) (fun _ _ _ h => h) (Or.inl ⟨by rfl, ?_⟩) ?_ ?_
       rotate_left
       ·intro w'
        go_simp
        with_reducible rfl
       rotate_left
       ·simp only [Act.put, List.setIfInBounds_toArray, List.set_cons_zero, List.set_cons_succ, i64_w, i32_w]
        rfl
       refine pure_ (i := 15) (N := some 106) (v := ?_) (a' := ?_) #[true, true, true, true, true, true, true, true, true, true, true, true, true, true, true, true, true, false, false, false, false] rfl rfl (by kernel_rfl) (fun _ _ _ h => h) (Or.inl ⟨by rfl, ?_⟩) ?_ ?_
       rotate_left
       ·intro w'
        go_simp
        with_reducible rfl
       rotate_left
       ·simp only [Act.put, List.setIfInBounds_toArray, List.set_cons_zero, List.set_cons_succ, i64_w, i32_w]
        rfl
       refine take_ (i := 17) (N := some 108) (v := ?_) (a' := ?_) #[true, true, true, true, true, true, true, true, true, true, true, true, true, true, true, true, true, true, false, false, false] rfl rfl (by kernel_rfl) (fun _ _ _ h => h) (Or.inl ⟨by rfl, ?_⟩) hHeld ?_ ?_
       rotate_left
       ·intro w' s0
        go_simp
        with_reducible rfl
       rotate_left
       ·simp only [Act.put, List.setIfInBounds_toArray, List.set_cons_zero, List.set_cons_succ, i64_w, i32_w]
        rfl
       refine one_ (i := 18) (N := some 109) #[true, true, true, true, true, true, true, true, true, true, true, true, true, true, true, true, true, true, true, false, false] rfl rfl (by kernel_rfl) (by decide) (fun K hK => ?_)
       refine goes_ Tryd.func60 (by kernel_rfl) rfl #[.int .u8 1] (by rfl) rfl rfl (by simp only [List.map_toArray, List.map_cons, List.map_nil]; rfl) ?_
       with_reducible refine (vivariumref08_Greatest.calls 1 8 _ rfl).mono ?_
       rintro e w20 ⟨rfl, hd⟩
       have HR20 := Aside0.mk (blk_drawn (w := wr.drew) HR.out hd)
       have HL20 := Aside0.mk (blk_drawn (w := wr.drew) HL.out hd)
       have HB20 := Aside0.mk (below_step (below_drew1 HB.out) hd.below)
       clear hd
       refine ⟨_, rfl, ?_⟩
       refine hK.out _ _ (blk_cell HL20.out 0) (fun hHeld => ?_)
       clear hK K
       refine norm_ (a' := ?_) ?_ ?_
       rotate_left
       ·show Act.put _ (some 109) _ = _
        simp only [Act.put, List.setIfInBounds_toArray, List.set_cons_zero, List.set_cons_succ, i64_w, i32_w]
        rfl
       refine pure_ (i := 19) (N := some 110) (v := ?_) (a' := ?_) #[true, true, true, true, true, true, true, true, true, true, true, true, true, true, true, true, true, true, true, true, false] rfl rfl (by kernel_rfl) (fun _ _ _ h => h) (Or.inl ⟨by rfl, ?_⟩) ?_ ?_
       rotate_left
       ·intro w'
        go_simp
        with_reducible rfl
       rotate_left
       ·simp only [Act.put, List.setIfInBounds_toArray, List.set_cons_zero, List.set_cons_succ, i64_w, i32_w]
        rfl
       refine pure_ (i := 20) (N := some 111) (v := ?_) (a' := ?_) #[true, true, true, true, true, true, true, true, true, true, true, true, true, true, true, true, true, true, true, true, true] rfl rfl (by kernel_rfl) (fun _ _ _ h => h) (Or.inl ⟨by rfl, ?_⟩) ?_ ?_
       rotate_left
       ·intro w'
        go_simp
        with_reducible rfl
       rotate_left
       ·simp only [Act.put, List.setIfInBounds_toArray, List.set_cons_zero, List.set_cons_succ, i64_w, i32_w]
        rfl
       refine done_ (by kernel_rfl) ?_
       go_wp2_with ((go_roundg gk); (case measure => exact Nat.lt_succ_self _); go_must (case rel => exact ⟨i + 1, hi1, by first | rfl | (exact congrArg (Value.int .i64) HW.out), HF2, hnn, HB20, HR20, HL20⟩))
     ·skip
      rw [if_neg (fun e => d3 e.2.1)] at hf
      have HF2 := Aside0.mk hf
      clear hf
      have d3d : decide (b ≤ 57) = false := decide_eq_false d3
      clear d2 d3
      go_wp2_with fail
      refine start_ (n := 21) (S := fun w' => w'.cell? ⟨g, 0, none⟩ = some (.int .u8 1)) (ds := []) #[false, false, false, false, false, false, false, false, false, false, false, false, false, false, false, false, false, false, false, false, false] (by kernel_rfl) rfl rfl ((blk_cell HL.out 0)) (fun hHeld => ?_)
      refine pure_ (i := 0) (N := some 91) (v := ?_) (a' := ?_) #[true, false, false, false, false, false, false, false, false, false, false, false, false, false, false, false, false, false, false, false, false] rfl rfl (by kernel_rfl) (fun _ _ _ h => h) (Or.inl ⟨by rfl, ?_⟩) ?_ ?_
      rotate_left
      ·intro w'
       go_simp
       with_reducible rfl
      rotate_left
      ·simp only [Act.put, List.setIfInBounds_toArray, List.set_cons_zero, List.set_cons_succ, i64_w, i32_w]
       rfl
      refine pure_ (i := 1) (N := some 92) (v := ?_) (a' := ?_) #[true, true, false, false, false, false, false, false, false, false, false, false, false, false, false, false, false, false, false, false, false] rfl rfl (by kernel_rfl) (fun _ _ _ h => h) (Or.inl ⟨by rfl, ?_⟩) ?_ ?_
      rotate_left
      ·intro w'
       go_simp
       with_reducible rfl
      rotate_left
      ·simp only [Act.put, List.setIfInBounds_toArray, List.set_cons_zero, List.set_cons_succ, i64_w, i32_w]
       rfl
      refine take_ (i := 2) (N := some 93) (v := ?_) (a' := ?_) #[true, true, true, false, false, false, false, false, false, false, false, false, false, false, false, false, false, false, false, false, false] rfl rfl (by kernel_rfl) (fun _ _ _ h => h) (Or.inl ⟨by rfl, ?_⟩) hHeld ?_ ?_
      rotate_left
      ·intro w' s0
       go_simp
       with_reducible rfl
      rotate_left
      ·simp only [Act.put, List.setIfInBounds_toArray, List.set_cons_zero, List.set_cons_succ, i64_w, i32_w]
       rfl
      refine pure_ (i := 3) (N := some 94) (v := ?_) (a' := ?_) #[true, true, true, true, false, false, false, false, false, false, false, false, false, false, false, false, false, false, false, false, false] rfl rfl (by kernel_rfl) (fun _ _ _ h => h) (Or.inl ⟨by rfl, ?_⟩) ?_ ?_
      rotate_left
      ·intro w'
       go_simp
       with_reducible rfl
      rotate_left
      ·simp only [Act.put, List.setIfInBounds_toArray, List.set_cons_zero, List.set_cons_succ, i64_w, i32_w]
       rfl
      refine pure_ (i := 4) (N := some 95) (v := ?_) (a' := ?_) #[true, true, true, true, true, false, false, false, false, false, false, false, false, false, false, false, false, false, false, false, false] rfl rfl (by kernel_rfl) (fun _ _ _ h => h) (Or.inl ⟨by rfl, ?_⟩) ?_ ?_
      rotate_left
      ·intro w'
       go_simp
       with_reducible rfl
      rotate_left
      ·simp only [Act.put, List.setIfInBounds_toArray, List.set_cons_zero, List.set_cons_succ, i64_w, i32_w]
       rfl
      refine pure_ (i := 5) (N := some 96) (v := ?_) (a' := ?_) #[true, true, true, true, true, true, false, false, false, false, false, false, false, false, false, false, false, false, false, false, false] rfl rfl (by kernel_rfl) (fun _ _ _ h => h) (Or.inl ⟨by rfl, ?_⟩) ?_ ?_
      rotate_left
      ·intro w'
       go_simp
       with_reducible rfl
      rotate_left
      ·simp only [Act.put, List.setIfInBounds_toArray, List.set_cons_zero, List.set_cons_succ, i64_w, i32_w]
       rfl
      refine pure_ (i := 6) (N := some 97) (v := ?_) (a' := ?_) #[true, true, true, true, true, true, true, false, false, false, false, false, false, false, false, false, false, false, false, false, false] rfl rfl (by kernel_rfl) (fun _ _ _ h => h) (Or.inl ⟨by rfl, ?_⟩) ?_ ?_
      rotate_left
      ·intro w'
       go_simp
       with_reducible rfl
      rotate_left
      ·simp only [Act.put, List.setIfInBounds_toArray, List.set_cons_zero, List.set_cons_succ, i64_w, i32_w]
       rfl
      refine take_ (i := 7) (N := some 98) (v := ?_) (a' := ?_) #[true, true, true, true, true, true, true, true, false, false, false, false, false, false, false, false, false, false, false, false, false] rfl rfl (by kernel_rfl) (fun _ _ _ h => h) (Or.inl ⟨by rfl, ?_⟩) hHeld ?_ ?_
      rotate_left
      ·intro w' s0
       go_simp
       with_reducible rfl
      rotate_left
      ·simp only [Act.put, List.setIfInBounds_toArray, List.set_cons_zero, List.set_cons_succ, i64_w, i32_w]
       rfl
      refine pure_ (i := 8) (N := some 99) (v := ?_) (a' := ?_) #[true, true, true, true, true, true, true, true, true, false, false, false, false, false, false, false, false, false, false, false, false] rfl rfl (by kernel_rfl) (fun _ _ _ h => h) (Or.inl ⟨by rfl, ?_⟩) ?_ ?_
      rotate_left
      ·intro w'
       go_simp
       with_reducible rfl
      rotate_left
      ·simp only [Act.put, List.setIfInBounds_toArray, List.set_cons_zero, List.set_cons_succ, i64_w, i32_w]
       rfl
      refine pure_ (i := 9) (N := some 100) (v := ?_) (a' := ?_) #[true, true, true, true, true, true, true, true, true, true, false, false, false, false, false, false, false, false, false, false, false] rfl rfl (by kernel_rfl) (fun _ _ _ h => h) (Or.inl ⟨by rfl, ?_⟩) ?_ ?_
      rotate_left
      ·intro w'
       go_simp
       with_reducible rfl
      rotate_left
      ·simp only [Act.put, List.setIfInBounds_toArray, List.set_cons_zero, List.set_cons_succ, i64_w, i32_w]
       rfl
      refine pure_ (i := 10) (N := some 101) (v := ?_) (a' := ?_) #[true, true, true, true, true, true, true, true, true, true, true, false, false, false, false, false, false, false, false, false, false] rfl rfl (by kernel_rfl) (fun _ _ _ h => h) (Or.inl ⟨by rfl, ?_⟩) ?_ ?_
      rotate_left
      ·intro w'
       go_simp
       with_reducible rfl
      rotate_left
      ·simp only [Act.put, List.setIfInBounds_toArray, List.set_cons_zero, List.set_cons_succ, i64_w, i32_w]
       rfl
      refine pure_ (i := 11) (N := some 102) (v := undef) (a' := ?_) #[true, true, true, true, true, true, true, true, true, true, true, true, false, false, false, false, false, false, false, false, false] rfl rfl (by kernel_rfl) (fun _ _ _ h => h) (Or.inr ⟨by rfl, rfl⟩) ?_ ?_
      rotate_left
      ·simp only [Act.put, List.setIfInBounds_toArray, List.set_cons_zero, List.set_cons_succ, i64_w, i32_w]
       rfl
      refine pure_ (i := 12) (N := some 103) (v := undef) (a' := ?_) #[true, true, true, true, true, true, true, true, true, true, true, true, true, false, false, false, false, false, false, false, false] rfl rfl (by kernel_rfl) (fun _ _ _ h => h) (Or.inr ⟨by rfl, rfl⟩) ?_ ?_
      rotate_left
      ·simp only [Act.put, List.setIfInBounds_toArray, List.set_cons_zero, List.set_cons_succ, i64_w, i32_w]
       rfl
      refine pure_ (i := 13) (N := some 104) (v := undef) (a' := ?_) #[true, true, true, true, true, true, true, true, true, true, true, true, true, true, false, false, false, false, false, false, false] rfl rfl (by kernel_rfl) (fun _ _ _ h => h) (Or.inr ⟨by rfl, rfl⟩) ?_ ?_
      rotate_left
      ·simp only [Act.put, List.setIfInBounds_toArray, List.set_cons_zero, List.set_cons_succ, i64_w, i32_w]
       rfl
      refine pure_ (i := 14) (N := some 105) (v := undef) (a' := ?_) #[true, true, true, true, true, true, true, true, true, true, true, true, true, true, true, false, false, false, false, false, false] rfl rfl (by kernel_rfl) (fun _ _ _ h => h) (Or.inr ⟨by rfl, rfl⟩) ?_ ?_
      rotate_left
      ·simp only [Act.put, List.setIfInBounds_toArray, List.set_cons_zero, List.set_cons_succ, i64_w, i32_w]
       rfl
      refine pure_ (i := 15) (N := some 106) (v := undef) (a' := ?_) #[true, true, true, true, true, true, true, true, true, true, true, true, true, true, true, true, false, false, false, false, false] rfl rfl (by kernel_rfl) (fun _ _ _ h => h) (Or.inr ⟨by rfl, rfl⟩) ?_ ?_
      rotate_left
      ·simp only [Act.put, List.setIfInBounds_toArray, List.set_cons_zero, List.set_cons_succ, i64_w, i32_w]
       rfl
      refine pure_ (i := 16) (N := some 107) (v := undef) (a' := ?_) #[true, true, true, true, true, true, true, true, true, true, true, true, true, true, true, true, true, false, false, false, false] rfl rfl (by kernel_rfl) (fun _ _ _ h => h) (Or.inr ⟨by rfl, rfl⟩) ?_ ?_
      rotate_left
      ·simp only [Act.put, List.setIfInBounds_toArray, List.set_cons_zero, List.set_cons_succ, i64_w, i32_w]
       rfl
      refine pure_ (i := 17) (N := some 108) (v := undef) (a' := ?_) #[true, true, true, true, true, true, true, true, true, true, true, true, true, true, true, true, true, true, false, false, false] rfl rfl (by kernel_rfl) (fun _ _ _ h => h) (Or.inr ⟨by rfl, rfl⟩) ?_ ?_
      rotate_left
      ·simp only [Act.put, List.setIfInBounds_toArray, List.set_cons_zero, List.set_cons_succ, i64_w, i32_w]
       rfl
      refine pure_ (i := 18) (N := some 109) (v := undef) (a' := ?_) #[true, true, true, true, true, true, true, true, true, true, true, true, true, true, true, true, true, true, true, false, false] rfl rfl (by kernel_rfl) (fun _ _ _ h => h) (Or.inr ⟨by rfl, rfl⟩) ?_ ?_
      rotate_left
      ·simp only [Act.put, List.setIfInBounds_toArray, List.set_cons_zero, List.set_cons_succ, i64_w, i32_w]
       rfl
      refine pure_ (i := 19) (N := some 110) (v := undef) (a' := ?_) #[true, true, true, true, true, true, true, true, true, true, true, true, true, true, true, true, true, true, true, true, false] rfl rfl (by kernel_rfl) (fun _ _ _ h => h) (Or.inr ⟨by rfl, rfl⟩) ?_ ?_
      rotate_left
      ·simp only [Act.put, List.setIfInBounds_toArray, List.set_cons_zero, List.set_cons_succ, i64_w, i32_w]
       rfl
      refine pure_ (i := 20) (N := some 111) (v := ?_) (a' := ?_) #[true, true, true, true, true, true, true, true, true, true, true, true, true, true, true, true, true, true, true, true, true] rfl rfl (by kernel_rfl) (fun _ _ _ h => h) (Or.inl ⟨by rfl, ?_⟩) ?_ ?_
      rotate_left
      ·intro w'
       go_simp
       with_reducible rfl
      rotate_left
      ·simp only [Act.put, List.setIfInBounds_toArray, List.set_cons_zero, List.set_cons_succ, i64_w, i32_w]
       rfl
      refine done_ (by kernel_rfl) ?_
      go_wp2_with ((go_roundg gk); (case measure => exact Nat.lt_succ_self _); go_must (case rel => exact ⟨i + 1, hi1, by first | rfl | (exact congrArg (Value.int .i64) HW.out), HF2, hnn, ⟨below_drew1 HB.out⟩, ⟨HR.out⟩, ⟨HL.out⟩⟩))
    ·skip
     rw [if_neg (fun e => d2 e.1)] at hf
     have HF2 := Aside0.mk hf
     clear hf
     have d2d : decide (48 ≤ b) = false := decide_eq_false d2
     clear d2
     go_wp2_with fail
     refine start_ (n := 21) (S := fun w' => w'.cell? ⟨g, 0, none⟩ = some (.int .u8 1)) (ds := []) #[false, false, false, false, false, false, false, false, false, false, false, false, false, false, false, false, false, false, false, false, false] (by kernel_rfl) rfl rfl ((blk_cell HL.out 0)) (fun hHeld => ?_)
     refine pure_ (i := 0) (N := some 91) (v := ?_) (a' := ?_) #[true, false, false, false, false, false, false, false, false, false, false, false, false, false, false, false, false, false, false, false, false] rfl rfl (by kernel_rfl) (fun _ _ _ h => h) (Or.inl ⟨by rfl, ?_⟩) ?_ ?_
     rotate_left
     ·intro w'
      go_simp
      with_reducible rfl
     rotate_left
     ·simp only [Act.put, List.setIfInBounds_toArray, List.set_cons_zero, List.set_cons_succ, i64_w, i32_w]
      rfl
     refine pure_ (i := 1) (N := some 92) (v := ?_) (a' := ?_) #[true, true, false, false, false, false, false, false, false, false, false, false, false, false, false, false, false, false, false, false, false] rfl rfl (by kernel_rfl) (fun _ _ _ h => h) (Or.inl ⟨by rfl, ?_⟩) ?_ ?_
     rotate_left
     ·intro w'
      go_simp
      with_reducible rfl
     rotate_left
     ·simp only [Act.put, List.setIfInBounds_toArray, List.set_cons_zero, List.set_cons_succ, i64_w, i32_w]
      rfl
     refine take_ (i := 2) (N := some 93) (v := ?_) (a' := ?_) #[true, true, true, false, false, false, false, false, false, false, false, false, false, false, false, false, false, false, false, false, false] rfl rfl (by kernel_rfl) (fun _ _ _ h => h) (Or.inl ⟨by rfl, ?_⟩) hHeld ?_ ?_
     rotate_left
     ·intro w' s0
      go_simp
      with_reducible rfl
     rotate_left
     ·simp only [Act.put, List.setIfInBounds_toArray, List.set_cons_zero, List.set_cons_succ, i64_w, i32_w]
      rfl
     refine pure_ (i := 3) (N := some 94) (v := ?_) (a' := ?_) #[true, true, true, true, false, false, false, false, false, false, false, false, false, false, false, false, false, false, false, false, false] rfl rfl (by kernel_rfl) (fun _ _ _ h => h) (Or.inl ⟨by rfl, ?_⟩) ?_ ?_
     rotate_left
     ·intro w'
      go_simp
      with_reducible rfl
     rotate_left
     ·simp only [Act.put, List.setIfInBounds_toArray, List.set_cons_zero, List.set_cons_succ, i64_w, i32_w]
      rfl
     refine pure_ (i := 4) (N := some 95) (v := ?_) (a' := ?_) #[true, true, true, true, true, false, false, false, false, false, false, false, false, false, false, false, false, false, false, false, false] rfl rfl (by kernel_rfl) (fun _ _ _ h => h) (Or.inl ⟨by rfl, ?_⟩) ?_ ?_
     rotate_left
     ·intro w'
      go_simp
      with_reducible rfl
     rotate_left
     ·simp only [Act.put, List.setIfInBounds_toArray, List.set_cons_zero, List.set_cons_succ, i64_w, i32_w]
      rfl
     refine pure_ (i := 5) (N := some 96) (v := undef) (a' := ?_) #[true, true, true, true, true, true, false, false, false, false, false, false, false, false, false, false, false, false, false, false, false] rfl rfl (by kernel_rfl) (fun _ _ _ h => h) (Or.inr ⟨by rfl, rfl⟩) ?_ ?_
     rotate_left
     ·simp only [Act.put, List.setIfInBounds_toArray, List.set_cons_zero, List.set_cons_succ, i64_w, i32_w]
      rfl
     refine pure_ (i := 6) (N := some 97) (v := undef) (a' := ?_) #[true, true, true, true, true, true, true, false, false, false, false, false, false, false, false, false, false, false, false, false, false] rfl rfl (by kernel_rfl) (fun _ _ _ h => h) (Or.inr ⟨by rfl, rfl⟩) ?_ ?_
     rotate_left
     ·simp only [Act.put, List.setIfInBounds_toArray, List.set_cons_zero, List.set_cons_succ, i64_w, i32_w]
      rfl
     refine pure_ (i := 7) (N := some 98) (v := undef) (a' := ?_) #[true, true, true, true, true, true, true, true, false, false, false, false, false, false, false, false, false, false, false, false, false] rfl rfl (by kernel_rfl) (fun _ _ _ h => h) (Or.inr ⟨by rfl, rfl⟩) ?_ ?_
     rotate_left
     ·simp only [Act.put, List.setIfInBounds_toArray, List.set_cons_zero, List.set_cons_succ, i64_w, i32_w]
      rfl
     refine pure_ (i := 8) (N := some 99) (v := undef) (a' := ?_) #[true, true, true, true, true, true, true, true, true, false, false, false, false, false, false, false, false, false, false, false, false] rfl rfl (by kernel_rfl) (fun _ _ _ h => h) (Or.inr ⟨by rfl, rfl⟩) ?_ ?_
     rotate_left
     ·simp only [Act.put, List.setIfInBounds_toArray, List.set_cons_zero, List.set_cons_succ, i64_w, i32_w]
      rfl
     refine pure_ (i := 9) (N := some 100) (v := ?_) (a' := ?_) #[true, true, true, true, true, true, true, true, true, true, false, false, false, false, false, false, false, false, false, false, false] rfl rfl (by kernel_rfl) (fun _ _ _ h => h) (Or.inl ⟨by rfl, ?_⟩) ?_ ?_
     rotate_left
     ·intro w'
      go_simp
      with_reducible rfl
     rotate_left
     ·simp only [Act.put, List.setIfInBounds_toArray, List.set_cons_zero, List.set_cons_succ, i64_w, i32_w]
      rfl
     refine pure_ (i := 10) (N := some 101) (v := ?_) (a' := ?_) #[true, true, true, true, true, true, true, true, true, true, true, false, false, false, false, false, false, false, false, false, false] rfl rfl (by kernel_rfl) (fun _ _ _ h => h) (Or.inl ⟨by rfl, ?_⟩) ?_ ?_
     rotate_left
     ·intro w'
      go_simp
      with_reducible rfl
     rotate_left
     ·simp only [Act.put, List.setIfInBounds_toArray, List.set_cons_zero, List.set_cons_succ, i64_w, i32_w]
      rfl
     refine pure_ (i := 11) (N := some 102) (v := undef) (a' := ?_) #[true, true, true, true, true, true, true, true, true, true, true, true, false, false, false, false, false, false, false, false, false] rfl rfl (by kernel_rfl) (fun _ _ _ h => h) (Or.inr ⟨by rfl, rfl⟩) ?_ ?_
     rotate_left
     ·simp only [Act.put, List.setIfInBounds_toArray, List.set_cons_zero, List.set_cons_succ, i64_w, i32_w]
      rfl
     refine pure_ (i := 12) (N := some 103) (v := undef) (a' := ?_) #[true, true, true, true, true, true, true, true, true, true, true, true, true, false, false, false, false, false, false, false, false] rfl rfl (by kernel_rfl) (fun _ _ _ h => h) (Or.inr ⟨by rfl, rfl⟩) ?_ ?_
     rotate_left
     ·simp only [Act.put, List.setIfInBounds_toArray, List.set_cons_zero, List.set_cons_succ, i64_w, i32_w]
      rfl
     refine pure_ (i := 13) (N := some 104) (v := undef) (a' := ?_) #[true, true, true, true, true, true, true, true, true, true, true, true, true, true, false, false, false, false, false, false, false] rfl rfl (by kernel_rfl) (fun _ _ _ h => h) (Or.inr ⟨by rfl, rfl⟩) ?_ ?_
     rotate_left
     ·simp only [Act.put, List.setIfInBounds_toArray, List.set_cons_zero, List.set_cons_succ, i64_w, i32_w]
      rfl
     refine pure_ (i := 14) (N := some 105) (v := undef) (a' := ?_) #[true, true, true, true, true, true, true, true, true, true, true, true, true, true, true, false, false, false, false, false, false] rfl rfl (by kernel_rfl) (fun _ _ _ h => h) (Or.inr ⟨by rfl, rfl⟩) ?_ ?_
     rotate_left
     ·simp only [Act.put, List.setIfInBounds_toArray, List.set_cons_zero, List.set_cons_succ, i64_w, i32_w]
      rfl
     refine pure_ (i := 15) (N := some 106) (v := undef) (a' := ?_) #[true, true, true, true, true, true, true, true, true, true, true, true, true, true, true, true, false, false, false, false, false] rfl rfl (by kernel_rfl) (fun _ _ _ h => h) (Or.inr ⟨by rfl, rfl⟩) ?_ ?_
     rotate_left
     ·simp only [Act.put, List.setIfInBounds_toArray, List.set_cons_zero, List.set_cons_succ, i64_w, i32_w]
      rfl
     refine pure_ (i := 16) (N := some 107) (v := undef) (a' := ?_) #[true, true, true, true, true, true, true, true, true, true, true, true, true, true, true, true, true, false, false, false, false] rfl rfl (by kernel_rfl) (fun _ _ _ h => h) (Or.inr ⟨by rfl, rfl⟩) ?_ ?_
     rotate_left
     ·simp only [Act.put, List.setIfInBounds_toArray, List.set_cons_zero, List.set_cons_succ, i64_w, i32_w]
      rfl
     refine pure_ (i := 17) (N := some 108) (v := undef) (a' := ?_) #[true, true, true, true, true, true, true, true, true, true, true, true, true, true, true, true, true, true, false, false, false] rfl rfl (by kernel_rfl) (fun _ _ _ h => h) (Or.inr ⟨by rfl, rfl⟩) ?_ ?_
     rotate_left
     ·simp only [Act.put, List.setIfInBounds_toArray, List.set_cons_zero, List.set_cons_succ, i64_w, i32_w]
      rfl
     refine pure_ (i := 18) (N := some 109) (v := undef) (a' := ?_) #[true, true, true, true, true, true, true, true, true, true, true, true, true, true, true, true, true, true, true, false, false] rfl rfl (by kernel_rfl) (fun _ _ _ h => h) (Or.inr ⟨by rfl, rfl⟩) ?_ ?_
     rotate_left
     ·simp only [Act.put, List.setIfInBounds_toArray, List.set_cons_zero, List.set_cons_succ, i64_w, i32_w]
      rfl
     refine pure_ (i := 19) (N := some 110) (v := undef) (a' := ?_) #[true, true, true, true, true, true, true, true, true, true, true, true, true, true, true, true, true, true, true, true, false] rfl rfl (by kernel_rfl) (fun _ _ _ h => h) (Or.inr ⟨by rfl, rfl⟩) ?_ ?_
     rotate_left
     ·simp only [Act.put, List.setIfInBounds_toArray, List.set_cons_zero, List.set_cons_succ, i64_w, i32_w]
      rfl
     refine pure_ (i := 20) (N := some 111) (v := ?_) (a' := ?_) #[true, true, true, true, true, true, true, true, true, true, true, true, true, true, true, true, true, true, true, true, true] rfl rfl (by kernel_rfl) (fun _ _ _ h => h) (Or.inl ⟨by rfl, ?_⟩) ?_ ?_
     rotate_left
     ·intro w'
      go_simp
      with_reducible rfl
     rotate_left
     ·simp only [Act.put, List.setIfInBounds_toArray, List.set_cons_zero, List.set_cons_succ, i64_w, i32_w]
      rfl
     refine done_ (by kernel_rfl) ?_
     go_wp2_with ((go_roundg gk); (case measure => exact Nat.lt_succ_self _); go_must (case rel => exact ⟨i + 1, hi1, by first | rfl | (exact congrArg (Value.int .i64) HW.out), HF2, hnn, ⟨below_drew1 HB.out⟩, ⟨HR.out⟩, ⟨HL.out⟩⟩))
   ·have d1d : decide ((i : Int) < (s.size : Int)) = false := decide_eq_false (by omega)
    have hf : fb = none := by
     rw [← HF.out]
     cases gk with
     | zero => rfl
     | succ gk => rw [firstBig_succ, if_neg d1]
    have hr := HS7.out
    rw [hf] at hr
    simp only [tailOf, Prod.mk.injEq] at hr
    obtain ⟨rfl, rfl, rfl, rfl, rfl⟩ := hr
    clear hf d1 hi
    have d1p : ¬ ((i : Int) < (s.size : Int)) := of_decide_eq_false d1d
    go_wp2
    try rw [Exit.noGoto_ret]
    refine bodyPost_ret (v := .tuple #[.agg #[.int .u8 1, .int .u16 m, .int .u16 m2], .int .i64 0, .int .i64 0]) (by simp [results, Tryd.results34, go_sem, *]) rfl ⟨rfl, ?_⟩
    repeat (first | exact HB.out | apply below_alloc | apply pw_below_drewN | apply below_drew1 | refine below_set ?_ (Nat.le_refl _))
set_option maxHeartbeats 16000000 in
set_option maxRecDepth 100000 in
theorem vivariumref08_Parse.calls_small (s : ByteArray) (w : World) (hs : ¬ (1048576 < (s.size : Int))) (r1 r2 r3 r4 r5 : Int) (h : st0 s 0 0 0 = (r1, r2, r3, r4, r5)) :
  Calls Tryd.prog 34 #[.string s] w fun e w' => e = .returned (.tuple #[.agg #[.int .u8 r1, .int .u16 r2, .int .u16 r3], .int .i64 r4, .int .i64 r5]) ∧ Below w.heap.size w w' := by
 have HS0 := Aside0.mk h
 clear h
 have hs' : s.size ≤ 1048576 := by omega
 by_cases c1 : isL s 0 66
 ·have C1 := Aside0.mk (decide_eq_true c1)
  have C1' := Aside0.mk c1
  clear c1
  obtain ⟨tw, q, m, hD⟩ : ∃ tw q m, digs s s.size 1 0 = (tw, q, m) := ⟨_, _, _, rfl⟩
  have hm : m < 1024 := by have := digs_lt s s.size 1 0 (by omega); rw [hD] at this; exact this
  have hq : q ≤ s.size + 1 := by have := digs_le s s.size 1 0; rw [hD] at this; have h2 : q ≤ max 1 s.size := this; omega
  have HD := Aside0.mk hD
  clear hD
  have hh := HS0.out
  unfold st0 at hh
  rw [if_pos C1'.out, HD.out] at hh
  have q0 : (0 : Int) ≤ (q : Int) := by omega
  have q00 : (q : Int) < 1000000000 := by omega
  clear HS0 C1'
  cases tw with
  | true =>
   dsimp only at hh
   simp only [Prod.mk.injEq] at hh
   obtain ⟨rfl, rfl, rfl, rfl, rfl⟩ := hh
   go_enter Tryd.func34, Tryd.ntmps34
   go_wp2_with (first | (go_at_call_of 57 (Value.int .u8 66); go_must (refine (is_calls s (0) (0) rfl 66 (by omega) true C1.out _).mono ?_); rintro e w1 ⟨rfl, hd⟩; have HR1 := Aside0.mk (blk_drawn (blk_new w _) hd); have HB1 := Aside0.mk (below_step (below_alloc (Below.refl w.heap.size w) _) hd.below); clear hd) | (go_at_call_of 58 (Value.int .i64 1); go_must (refine (list_calls s hs' 1 1 rfl (by omega) true q m HD.out q rfl _).mono ?_); rintro e w2 ⟨rfl, hb⟩; have HR2 := Aside0.mk (blk_below HR1.out hb); have HB2 := Aside0.mk (below_step HB1.out hb); clear hb) | ((with_reducible refine gate_ (Op.store 97 (.tmp 5) (.tmp 23)) rfl ?_); go_must (refine wpList_store_rowTo rfl 97 (.tmp 5) (.tmp 23) rfl rfl w2.heap.size (boolsOf m) (by kernel_rfl) (by kernel_rfl) 97 #[.bool false, .bool false, .bool false, .bool false, .bool false, .bool false, .bool false, .bool false, .bool false, .bool false] (blk_new w2 _) (boolsOf_info _) (by rw [boolsOf_size _ 0, boolsOf_zero]) (boolsOf_one _) ?_); have HR3 := Aside0.mk (row_old HR2.out (Obj.cells #[.bool false, .bool false, .bool false, .bool false, .bool false, .bool false, .bool false, .bool false, .bool false, .bool false] 97) (boolsOf m)); have HT3 := Aside0.mk (row_new w2 #[.bool false, .bool false, .bool false, .bool false, .bool false, .bool false, .bool false, .bool false, .bool false, .bool false] (boolsOf m) 97); have HB3 := Aside0.mk (below_setRow (below_alloc HB2.out (Obj.cells #[.bool false, .bool false, .bool false, .bool false, .bool false, .bool false, .bool false, .bool false, .bool false, .bool false] 97)) HB2.out.size (boolsOf m)); generalize hw3 : (w2.alloc (Obj.cells #[.bool false, .bool false, .bool false, .bool false, .bool false, .bool false, .bool false, .bool false, .bool false, .bool false] 97)).setRow w2.heap.size (boolsOf m) = w3 at HR3 HT3 HB3 ⊢; clear hw3; have k0 : w3.cell? ⟨w.heap.size, 0, none⟩ = some (.int .u8 0) := blk_cell HR3.out 0; have z0 := blk_frozen HR3.out 0; have k1 : w3.cell? ⟨w.heap.size, 1, none⟩ = some (.int .u16 0) := blk_cell HR3.out 1; have z1 := blk_frozen HR3.out 1; have k2 : w3.cell? ⟨w.heap.size, 2, none⟩ = some (.int .u16 0) := blk_cell HR3.out 2; have z2 := blk_frozen HR3.out 2))
   try rw [Exit.noGoto_ret]
   refine bodyPost_ret (v := .tuple #[.agg #[.int .u8 0, .int .u16 0, .int .u16 0], .int .i64 q, .int .i64 81]) (by simp [results, Tryd.results34, go_sem, *]) rfl ⟨rfl, ?_⟩
   repeat (first | exact HB3.out | apply below_alloc | apply pw_below_drewN | apply below_drew1 | refine below_set ?_ (Nat.le_refl _))
  | false =>
   dsimp only at hh
   unfold st1 at hh
   by_cases c2 : q < s.size
   ·have c2' : (q : Int) < (s.size : Int) := by omega
    have c2n : ¬ s.size ≤ q := by omega
    have c2d : decide (s.size ≤ q) = false := decide_eq_false c2n
    have hbt : ∀ hh : q < s.size, ((s[q]'hh).toNat : Int) = bt s (q : Int) := bt_at s (q : Int)
    have hbr := bt_range s (q : Int)
    obtain ⟨b, hb⟩ : ∃ b, bt s (q : Int) = b := ⟨_, rfl⟩
    rw [hb] at hbt hbr hh
    clear hb
    by_cases c3 : b = 47
    ·rw [if_pos ⟨c2, c3⟩] at hh
     subst c3
     clear hbr
     unfold st2 at hh
     by_cases c4 : isL s (q + 1) 83
     ·have C4 := Aside0.mk (decide_eq_true c4)
      rw [if_pos c4] at hh
      obtain ⟨tw2, q2, m2, hD2⟩ : ∃ tw' q' m', digs s s.size (q + 1 + 1) 0 = (tw', q', m') := ⟨_, _, _, rfl⟩
      have hm2 : m2 < 1024 := by have := digs_lt s s.size (q + 1 + 1) 0 (by omega); rw [hD2] at this; exact this
      have hq2 : q2 ≤ s.size + 2 := by have := digs_le s s.size (q + 1 + 1) 0; rw [hD2] at this; have h2 : q2 ≤ max (q + 1 + 1) s.size := this; omega
      have HD2 := Aside0.mk hD2
      rw [hD2] at hh
      clear hD2 c4
      have p0 : (0 : Int) ≤ (q2 : Int) := by omega
      have p00 : (q2 : Int) < 1000000000 := by omega
      cases tw2 with
      | true =>
       dsimp only at hh
       simp only [Prod.mk.injEq] at hh
       obtain ⟨rfl, rfl, rfl, rfl, rfl⟩ := hh
       go_enter Tryd.func34, Tryd.ntmps34
       go_wp2_with (first | (go_at_call_of 57 (Value.int .u8 66); go_must (refine (is_calls s (0) (0) rfl 66 (by omega) true C1.out _).mono ?_); rintro e w1 ⟨rfl, hd⟩; have HR1 := Aside0.mk (blk_drawn (blk_new w _) hd); have HB1 := Aside0.mk (below_step (below_alloc (Below.refl w.heap.size w) _) hd.below); clear hd) | (go_at_call_of 58 (Value.int .i64 1); go_must (refine (list_calls s hs' 1 1 rfl (by omega) false q m HD.out (-1) rfl _).mono ?_); rintro e w2 ⟨rfl, hb⟩; have HR2 := Aside0.mk (blk_below HR1.out hb); have HB2 := Aside0.mk (below_step HB1.out hb); clear hb) | ((with_reducible refine gate_ (Op.store 97 (.tmp 5) (.tmp 23)) rfl ?_); go_must (refine wpList_store_rowTo rfl 97 (.tmp 5) (.tmp 23) rfl rfl w2.heap.size (boolsOf m) (by kernel_rfl) (by kernel_rfl) 97 #[.bool false, .bool false, .bool false, .bool false, .bool false, .bool false, .bool false, .bool false, .bool false, .bool false] (blk_new w2 _) (boolsOf_info _) (by rw [boolsOf_size _ 0, boolsOf_zero]) (boolsOf_one _) ?_); have HR3 := Aside0.mk (row_old HR2.out (Obj.cells #[.bool false, .bool false, .bool false, .bool false, .bool false, .bool false, .bool false, .bool false, .bool false, .bool false] 97) (boolsOf m)); have HT3 := Aside0.mk (row_new w2 #[.bool false, .bool false, .bool false, .bool false, .bool false, .bool false, .bool false, .bool false, .bool false, .bool false] (boolsOf m) 97); have HB3 := Aside0.mk (below_setRow (below_alloc HB2.out (Obj.cells #[.bool false, .bool false, .bool false, .bool false, .bool false, .bool false, .bool false, .bool false, .bool false, .bool false] 97)) HB2.out.size (boolsOf m)); generalize hw3 : (w2.alloc (Obj.cells #[.bool false, .bool false, .bool false, .bool false, .bool false, .bool false, .bool false, .bool false, .bool false, .bool false] 97)).setRow w2.heap.size (boolsOf m) = w3 at HR3 HT3 HB3 ⊢; clear hw3) | (go_at_call_of 57 (Value.int .u8 83); go_must (refine (is_calls s ((q : Int) + 1) (q + 1) rfl 83 (by omega) true C4.out _).mono ?_); rintro e w4 ⟨rfl, hd⟩; have HR4 := Aside0.mk (blk_drawn (HR3.out) hd); have HT4 := Aside0.mk (blk_drawn (HT3.out) hd); have HB4 := Aside0.mk (below_step (HB3.out) hd.below); clear hd) | (go_at_call 58; go_must (refine (list_calls s hs' ((q : Int) + 1 + 1) (q + 1 + 1) rfl (by omega) true q2 m2 HD2.out q2 rfl _).mono ?_); rintro e w5 ⟨rfl, hb⟩; have HR5 := Aside0.mk (blk_below HR4.out hb); have HT5 := Aside0.mk (blk_below HT4.out hb); have HB5 := Aside0.mk (below_step HB4.out hb); clear hb) | ((with_reducible refine gate_ (Op.store 97 (.tmp 8) (.tmp 55)) rfl ?_); go_must (refine wpList_store_rowTo rfl 97 (.tmp 8) (.tmp 55) rfl rfl w5.heap.size (boolsOf m2) (by kernel_rfl) (by kernel_rfl) 97 #[.bool false, .bool false, .bool false, .bool false, .bool false, .bool false, .bool false, .bool false, .bool false, .bool false] (blk_new w5 _) (boolsOf_info _) (by rw [boolsOf_size _ 0, boolsOf_zero]) (boolsOf_one _) ?_); have HR6 := Aside0.mk (row_old HR5.out (Obj.cells #[.bool false, .bool false, .bool false, .bool false, .bool false, .bool false, .bool false, .bool false, .bool false, .bool false] 97) (boolsOf m2)); have HT6 := Aside0.mk (row_old HT5.out (Obj.cells #[.bool false, .bool false, .bool false, .bool false, .bool false, .bool false, .bool false, .bool false, .bool false, .bool false] 97) (boolsOf m2)); have HU6 := Aside0.mk (row_new w5 #[.bool false, .bool false, .bool false, .bool false, .bool false, .bool false, .bool false, .bool false, .bool false, .bool false] (boolsOf m2) 97); have HB6 := Aside0.mk (below_setRow (below_alloc HB5.out (Obj.cells #[.bool false, .bool false, .bool false, .bool false, .bool false, .bool false, .bool false, .bool false, .bool false, .bool false] 97)) HB5.out.size (boolsOf m2)); generalize hw6 : (w5.alloc (Obj.cells #[.bool false, .bool false, .bool false, .bool false, .bool false, .bool false, .bool false, .bool false, .bool false, .bool false] 97)).setRow w5.heap.size (boolsOf m2) = w6 at HR6 HT6 HU6 HB6 ⊢; clear hw6; have k0 : w6.cell? ⟨w.heap.size, 0, none⟩ = some (.int .u8 0) := blk_cell HR6.out 0; have z0 := blk_frozen HR6.out 0; have k1 : w6.cell? ⟨w.heap.size, 1, none⟩ = some (.int .u16 0) := blk_cell HR6.out 1; have z1 := blk_frozen HR6.out 1; have k2 : w6.cell? ⟨w.heap.size, 2, none⟩ = some (.int .u16 0) := blk_cell HR6.out 2; have z2 := blk_frozen HR6.out 2))
       try rw [Exit.noGoto_ret]
       refine bodyPost_ret (v := .tuple #[.agg #[.int .u8 0, .int .u16 0, .int .u16 0], .int .i64 q2, .int .i64 81]) (by simp [results, Tryd.results34, go_sem, *]) rfl ⟨rfl, ?_⟩
       repeat (first | exact HB6.out | apply below_alloc | apply pw_below_drewN | apply below_drew1 | refine below_set ?_ (Nat.le_refl _))
      | false =>
       dsimp only at hh
       have HS5 := Aside0.mk hh
       by_cases v1 : isL s q2 86
       ·exact Parse_V s w hs hs' r1 r2 r3 r4 r5 q m q2 m2 C1 hm hq HD q0 q00 c2 c2' c2n c2d hbt C4 hm2 hq2 HD2 p0 p00 HS5 v1
       ·by_cases v2 : isL s q2 72
        ·exact Parse_H s w hs hs' r1 r2 r3 r4 r5 q m q2 m2 C1 hm hq HD q0 q00 c2 c2' c2n c2d hbt C4 hm2 hq2 HD2 p0 p00 HS5 v1 v2
        ·exact Parse_N s w hs hs' r1 r2 r3 r4 r5 q m q2 m2 C1 hm hq HD q0 q00 c2 c2' c2n c2d hbt C4 hm2 hq2 HD2 p0 p00 HS5 v1 v2
     ·have C4 := Aside0.mk (decide_eq_false c4)
      rw [if_neg c4] at hh
      clear c4
      simp only [Prod.mk.injEq] at hh
      obtain ⟨rfl, rfl, rfl, rfl, rfl⟩ := hh
      go_enter Tryd.func34, Tryd.ntmps34
      go_wp2_with (first | (go_at_call_of 57 (Value.int .u8 66); go_must (refine (is_calls s (0) (0) rfl 66 (by omega) true C1.out _).mono ?_); rintro e w1 ⟨rfl, hd⟩; have HR1 := Aside0.mk (blk_drawn (blk_new w _) hd); have HB1 := Aside0.mk (below_step (below_alloc (Below.refl w.heap.size w) _) hd.below); clear hd) | (go_at_call_of 58 (Value.int .i64 1); go_must (refine (list_calls s hs' 1 1 rfl (by omega) false q m HD.out (-1) rfl _).mono ?_); rintro e w2 ⟨rfl, hb⟩; have HR2 := Aside0.mk (blk_below HR1.out hb); have HB2 := Aside0.mk (below_step HB1.out hb); clear hb) | ((with_reducible refine gate_ (Op.store 97 (.tmp 5) (.tmp 23)) rfl ?_); go_must (refine wpList_store_rowTo rfl 97 (.tmp 5) (.tmp 23) rfl rfl w2.heap.size (boolsOf m) (by kernel_rfl) (by kernel_rfl) 97 #[.bool false, .bool false, .bool false, .bool false, .bool false, .bool false, .bool false, .bool false, .bool false, .bool false] (blk_new w2 _) (boolsOf_info _) (by rw [boolsOf_size _ 0, boolsOf_zero]) (boolsOf_one _) ?_); have HR3 := Aside0.mk (row_old HR2.out (Obj.cells #[.bool false, .bool false, .bool false, .bool false, .bool false, .bool false, .bool false, .bool false, .bool false, .bool false] 97) (boolsOf m)); have HT3 := Aside0.mk (row_new w2 #[.bool false, .bool false, .bool false, .bool false, .bool false, .bool false, .bool false, .bool false, .bool false, .bool false] (boolsOf m) 97); have HB3 := Aside0.mk (below_setRow (below_alloc HB2.out (Obj.cells #[.bool false, .bool false, .bool false, .bool false, .bool false, .bool false, .bool false, .bool false, .bool false, .bool false] 97)) HB2.out.size (boolsOf m)); generalize hw3 : (w2.alloc (Obj.cells #[.bool false, .bool false, .bool false, .bool false, .bool false, .bool false, .bool false, .bool false, .bool false, .bool false] 97)).setRow w2.heap.size (boolsOf m) = w3 at HR3 HT3 HB3 ⊢; clear hw3) | (go_at_call_of 57 (Value.int .u8 83); go_must (refine (is_calls s ((q : Int) + 1) (q + 1) rfl 83 (by omega) false C4.out _).mono ?_); rintro e w4 ⟨rfl, hd⟩; have HR4 := Aside0.mk (blk_drawn (HR3.out) hd); have HT4 := Aside0.mk (blk_drawn (HT3.out) hd); have HB4 := Aside0.mk (below_step (HB3.out) hd.below); clear hd; have k0 : w4.cell? ⟨w.heap.size, 0, none⟩ = some (.int .u8 0) := blk_cell HR4.out 0; have z0 := blk_frozen HR4.out 0; have k1 : w4.cell? ⟨w.heap.size, 1, none⟩ = some (.int .u16 0) := blk_cell HR4.out 1; have z1 := blk_frozen HR4.out 1; have k2 : w4.cell? ⟨w.heap.size, 2, none⟩ = some (.int .u16 0) := blk_cell HR4.out 2; have z2 := blk_frozen HR4.out 2))
      try rw [Exit.noGoto_ret]
      refine bodyPost_ret (v := .tuple #[.agg #[.int .u8 0, .int .u16 0, .int .u16 0], .int .i64 ((q + 1 : Nat) : Int), .int .i64 80]) (by simp [results, Tryd.results34, go_sem, *]) rfl ⟨rfl, ?_⟩
      repeat (first | exact HB4.out | apply below_alloc | apply pw_below_drewN | apply below_drew1 | refine below_set ?_ (Nat.le_refl _))
    ·rw [if_neg (fun e => c3 e.2)] at hh
     have c3a : (b == 47) = false := beq_eq_false_iff_ne.mpr c3
     have c3b : (b != 47) = true := bne_iff_ne.mpr c3
     clear c3 hbr c2n
     simp only [Prod.mk.injEq] at hh
     obtain ⟨rfl, rfl, rfl, rfl, rfl⟩ := hh
     go_enter Tryd.func34, Tryd.ntmps34
     go_wp2_with (first | (go_at_call_of 57 (Value.int .u8 66); go_must (refine (is_calls s (0) (0) rfl 66 (by omega) true C1.out _).mono ?_); rintro e w1 ⟨rfl, hd⟩; have HR1 := Aside0.mk (blk_drawn (blk_new w _) hd); have HB1 := Aside0.mk (below_step (below_alloc (Below.refl w.heap.size w) _) hd.below); clear hd) | (go_at_call_of 58 (Value.int .i64 1); go_must (refine (list_calls s hs' 1 1 rfl (by omega) false q m HD.out (-1) rfl _).mono ?_); rintro e w2 ⟨rfl, hb⟩; have HR2 := Aside0.mk (blk_below HR1.out hb); have HB2 := Aside0.mk (below_step HB1.out hb); clear hb) | ((with_reducible refine gate_ (Op.store 97 (.tmp 5) (.tmp 23)) rfl ?_); go_must (refine wpList_store_rowTo rfl 97 (.tmp 5) (.tmp 23) rfl rfl w2.heap.size (boolsOf m) (by kernel_rfl) (by kernel_rfl) 97 #[.bool false, .bool false, .bool false, .bool false, .bool false, .bool false, .bool false, .bool false, .bool false, .bool false] (blk_new w2 _) (boolsOf_info _) (by rw [boolsOf_size _ 0, boolsOf_zero]) (boolsOf_one _) ?_); have HR3 := Aside0.mk (row_old HR2.out (Obj.cells #[.bool false, .bool false, .bool false, .bool false, .bool false, .bool false, .bool false, .bool false, .bool false, .bool false] 97) (boolsOf m)); have HT3 := Aside0.mk (row_new w2 #[.bool false, .bool false, .bool false, .bool false, .bool false, .bool false, .bool false, .bool false, .bool false, .bool false] (boolsOf m) 97); have HB3 := Aside0.mk (below_setRow (below_alloc HB2.out (Obj.cells #[.bool false, .bool false, .bool false, .bool false, .bool false, .bool false, .bool false, .bool false, .bool false, .bool false] 97)) HB2.out.size (boolsOf m)); generalize hw3 : (w2.alloc (Obj.cells #[.bool false, .bool false, .bool false, .bool false, .bool false, .bool false, .bool false, .bool false, .bool false, .bool false] 97)).setRow w2.heap.size (boolsOf m) = w3 at HR3 HT3 HB3 ⊢; clear hw3; have k0 : w3.cell? ⟨w.heap.size, 0, none⟩ = some (.int .u8 0) := blk_cell HR3.out 0; have z0 := blk_frozen HR3.out 0; have k1 : w3.cell? ⟨w.heap.size, 1, none⟩ = some (.int .u16 0) := blk_cell HR3.out 1; have z1 := blk_frozen HR3.out 1; have k2 : w3.cell? ⟨w.heap.size, 2, none⟩ = some (.int .u16 0) := blk_cell HR3.out 2; have z2 := blk_frozen HR3.out 2))
     try rw [Exit.noGoto_ret]
     refine bodyPost_ret (v := .tuple #[.agg #[.int .u8 0, .int .u16 0, .int .u16 0], .int .i64 q, .int .i64 80]) (by simp [results, Tryd.results34, go_sem, *]) rfl ⟨rfl, ?_⟩
     repeat (first | exact HB3.out | apply below_alloc | apply pw_below_drewN | apply below_drew1 | refine below_set ?_ (Nat.le_refl _))
   ·rw [if_neg (fun e => c2 e.1)] at hh
    have c2' : ¬ (q : Int) < (s.size : Int) := by omega
    simp only [Prod.mk.injEq] at hh
    obtain ⟨rfl, rfl, rfl, rfl, rfl⟩ := hh
    go_enter Tryd.func34, Tryd.ntmps34
    go_wp2_with (first | (go_at_call_of 57 (Value.int .u8 66); go_must (refine (is_calls s (0) (0) rfl 66 (by omega) true C1.out _).mono ?_); rintro e w1 ⟨rfl, hd⟩; have HR1 := Aside0.mk (blk_drawn (blk_new w _) hd); have HB1 := Aside0.mk (below_step (below_alloc (Below.refl w.heap.size w) _) hd.below); clear hd) | (go_at_call_of 58 (Value.int .i64 1); go_must (refine (list_calls s hs' 1 1 rfl (by omega) false q m HD.out (-1) rfl _).mono ?_); rintro e w2 ⟨rfl, hb⟩; have HR2 := Aside0.mk (blk_below HR1.out hb); have HB2 := Aside0.mk (below_step HB1.out hb); clear hb) | ((with_reducible refine gate_ (Op.store 97 (.tmp 5) (.tmp 23)) rfl ?_); go_must (refine wpList_store_rowTo rfl 97 (.tmp 5) (.tmp 23) rfl rfl w2.heap.size (boolsOf m) (by kernel_rfl) (by kernel_rfl) 97 #[.bool false, .bool false, .bool false, .bool false, .bool false, .bool false, .bool false, .bool false, .bool false, .bool false] (blk_new w2 _) (boolsOf_info _) (by rw [boolsOf_size _ 0, boolsOf_zero]) (boolsOf_one _) ?_); have HR3 := Aside0.mk (row_old HR2.out (Obj.cells #[.bool false, .bool false, .bool false, .bool false, .bool false, .bool false, .bool false, .bool false, .bool false, .bool false] 97) (boolsOf m)); have HT3 := Aside0.mk (row_new w2 #[.bool false, .bool false, .bool false, .bool false, .bool false, .bool false, .bool false, .bool false, .bool false, .bool false] (boolsOf m) 97); have HB3 := Aside0.mk (below_setRow (below_alloc HB2.out (Obj.cells #[.bool false, .bool false, .bool false, .bool false, .bool false, .bool false, .bool false, .bool false, .bool false, .bool false] 97)) HB2.out.size (boolsOf m)); generalize hw3 : (w2.alloc (Obj.cells #[.bool false, .bool false, .bool false, .bool false, .bool false, .bool false, .bool false, .bool false, .bool false, .bool false] 97)).setRow w2.heap.size (boolsOf m) = w3 at HR3 HT3 HB3 ⊢; clear hw3; have k0 : w3.cell? ⟨w.heap.size, 0, none⟩ = some (.int .u8 0) := blk_cell HR3.out 0; have z0 := blk_frozen HR3.out 0; have k1 : w3.cell? ⟨w.heap.size, 1, none⟩ = some (.int .u16 0) := blk_cell HR3.out 1; have z1 := blk_frozen HR3.out 1; have k2 : w3.cell? ⟨w.heap.size, 2, none⟩ = some (.int .u16 0) := blk_cell HR3.out 2; have z2 := blk_frozen HR3.out 2))
    try rw [Exit.noGoto_ret]
    refine bodyPost_ret (v := .tuple #[.agg #[.int .u8 0, .int .u16 0, .int .u16 0], .int .i64 q, .int .i64 80]) (by simp [results, Tryd.results34, go_sem, *]) rfl ⟨rfl, ?_⟩
    repeat (first | exact HB3.out | apply below_alloc | apply pw_below_drewN | apply below_drew1 | refine below_set ?_ (Nat.le_refl _))
 ·have C1 := Aside0.mk (decide_eq_false c1)
  have hh := HS0.out
  unfold st0 at hh
  rw [if_neg c1] at hh
  clear c1 HS0
  simp only [Prod.mk.injEq] at hh
  obtain ⟨rfl, rfl, rfl, rfl, rfl⟩ := hh
  go_enter Tryd.func34, Tryd.ntmps34
  go_wp2_with (first | (go_at_call_of 57 (Value.int .u8 66); go_must (refine (is_calls s (0) (0) rfl 66 (by omega) false C1.out _).mono ?_); rintro e w1 ⟨rfl, hd⟩; have HR1 := Aside0.mk (blk_drawn (blk_new w _) hd); have HB1 := Aside0.mk (below_step (below_alloc (Below.refl w.heap.size w) _) hd.below); clear hd; have k0 : w1.cell? ⟨w.heap.size, 0, none⟩ = some (.int .u8 0) := blk_cell HR1.out 0; have z0 := blk_frozen HR1.out 0; have k1 : w1.cell? ⟨w.heap.size, 1, none⟩ = some (.int .u16 0) := blk_cell HR1.out 1; have z1 := blk_frozen HR1.out 1; have k2 : w1.cell? ⟨w.heap.size, 2, none⟩ = some (.int .u16 0) := blk_cell HR1.out 2; have z2 := blk_frozen HR1.out 2))
  try rw [Exit.noGoto_ret]
  refine bodyPost_ret (v := .tuple #[.agg #[.int .u8 0, .int .u16 0, .int .u16 0], .int .i64 ((0 : Nat) : Int), .int .i64 80]) (by simp [results, Tryd.results34, go_sem, *]) rfl ⟨rfl, ?_⟩
  repeat (first | exact HB1.out | apply below_alloc | apply pw_below_drewN | apply below_drew1 | refine below_set ?_ (Nat.le_refl _))
def vivariumref08_Parse.f (a0 : ByteArray) : Option (Int × Int × Int × Int × Int) := some (lifeParse a0)
set_option maxHeartbeats 8000000 in
set_option maxRecDepth 100000 in
theorem vivariumref08_Parse.calls_great (s : ByteArray) (w : World) (hs : 1048576 < (s.size : Int)) :
  Calls Tryd.prog 34 #[.string s] w fun e w' => e = .returned (.tuple #[.agg #[.int .u8 0, .int .u16 0, .int .u16 0], .int .i64 0, .int .i64 3]) ∧ Below w.heap.size w w' := by
 go_enter Tryd.func34, Tryd.ntmps34
 go_wp2
 try rw [Exit.noGoto_ret]
 refine bodyPost_ret (v := .tuple #[.agg #[.int .u8 0, .int .u16 0, .int .u16 0], .int .i64 0, .int .i64 3]) (by simp [results, Tryd.results34, go_sem]) rfl ⟨rfl, ?_⟩
 repeat (first | exact Below.refl _ _ | apply below_alloc)
theorem vivariumref08_Parse.calls (a0 : ByteArray) (r1 r2 r3 r4 r5 : Int) (w : World) (h : vivariumref08_Parse.f a0 = some (r1, r2, r3, r4, r5)) :
  Calls Tryd.prog 34 #[.string a0] w fun e w' => e = .returned (.tuple #[.agg #[.int .u8 r1, .int .u16 r2, .int .u16 r3], .int .i64 r4, .int .i64 r5]) ∧ Below w.heap.size w w' := by
 have h' := Option.some.inj h
 unfold lifeParse at h'
 by_cases hs : 1048576 < a0.size
 ·rw [if_pos hs] at h'
  simp only [Prod.mk.injEq] at h'
  obtain ⟨rfl, rfl, rfl, rfl, rfl⟩ := h'
  exact vivariumref08_Parse.calls_great a0 w (by omega)
 ·rw [if_neg hs] at h'
  exact vivariumref08_Parse.calls_small a0 w (by omega) r1 r2 r3 r4 r5 h'

end Go.Proofs.YtkahgdkpehlanaaDoor.P

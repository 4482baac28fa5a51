-- Written by a program of this session (wip/tools/mk.py) that runs the kit's printer; several functions' texts in one.
import Derived.Test.YtkahgdkpehlanaaDoorP0
import Derived.Test.YtkahgdkpehlanaaDoorPm0
import Derived.Test.YtkahgdkpehlanaaDoorPm1
import Derived.Test.YtkahgdkpehlanaaDoorExtLib
import Derived.Test.YtkahgdkpehlanaaDoorLifeDefs
namespace Go.Proofs.YtkahgdkpehlanaaDoor.P
open Go.RowKit Go.Proofs.YtkahgdkpehlanaaDoorW.PrintWords Go.Proofs.YtkahgdkpehlanaaDoorW.PrintLast Go.Proofs.YtkahgdkpehlanaaDoorW.PrintMore
attribute [local go_sem] max2_int min2_int max_two min_two   -- for this text's walks alone
set_option linter.unusedVariables false
set_option linter.unusedSimpArgs false

/-! ### life_Parse: function 39 -/
-- EXT Derived.Test.@NExtLib Derived.Test.@NLifeDefs Derived.Test.@NP@F{vivarium/life.counted} Derived.Test.@NP@F{vivarium/life.great}
open Go.Proofs.YtkahgdkpehlanaaDoor.L
def greatOf (b : Int) : Int := if 97 ≤ b ∧ b ≤ 122 then b - 32 else b
set_option maxHeartbeats 400000 in
theorem great_calls (b : Int) (h0 : 0 ≤ b) (h1 : b ≤ 255) (w : World) : Calls Tryd.prog 64 #[.int .u8 b] w fun e w' => e = .returned (.int .u8 (greatOf b)) ∧ w' = w := by
 by_cases c1 : 97 ≤ b
 ·by_cases c2 : b ≤ 122
  ·have hg : greatOf b = b - 32 := by unfold greatOf; rw [if_pos ⟨c1, c2⟩]
   rw [hg]
   clear hg
   go_enter Tryd.func64, Tryd.ntmps64
   go_wp2
   go_ret
   exact ⟨rfl, rfl⟩
  ·have hg : greatOf b = b := by unfold greatOf; rw [if_neg (by omega)]
   rw [hg]
   clear hg
   go_enter Tryd.func64, Tryd.ntmps64
   go_wp2
   go_ret
   exact ⟨rfl, rfl⟩
 ·have hg : greatOf b = b := by unfold greatOf; rw [if_neg (by omega)]
  rw [hg]
  clear hg
  go_enter Tryd.func64, Tryd.ntmps64
  go_wp2
  go_ret
  exact ⟨rfl, rfl⟩
theorem great_is (b c : Int) (hc : 65 ≤ c ∧ c ≤ 90) : (greatOf b == c) = decide (b = c ∨ b = c + 32) := by
 unfold greatOf
 rw [Bool.eq_iff_iff]
 simp only [beq_iff_eq, decide_eq_true_eq]
 split <;> omega
theorem great_not (b c : Int) (hc : c < 65) : (greatOf b == c) = decide (b = c) := by
 unfold greatOf
 rw [Bool.eq_iff_iff]
 simp only [beq_iff_eq, decide_eq_true_eq]
 split <;> omega
theorem counted_loop (s : ByteArray) (hs : s.size ≤ 1048576) (g a b c : Int) (d : Nat) : ∀ (k p : Nat), s.size - p = d → p ≤ s.size → d < k → ∀ n, d ≤ n → 
  life_counted.l0 k s g (s.size : Int) (p : Int) a b c = some (match firstBig s g n p with | some i => (0, 0, 0, (i : Int), 82) | none => (a, b, c, 0, 0)) := by
 induction d with
 | zero =>
  intro k p hd hp hk n _
  obtain ⟨k, rfl⟩ : ∃ m, k = m + 1 := ⟨k - 1, by omega⟩
  simp only [life_counted.l0]
  rw [if_neg (by omega)]
  cases n with
  | zero => rfl
  | succ n => simp only [firstBig]; rw [if_neg (by omega)]
 | succ d ih =>
  intro k p hd hp hk n hn
  obtain ⟨k, rfl⟩ : ∃ m, k = m + 1 := ⟨k - 1, by omega⟩
  obtain ⟨n, rfl⟩ : ∃ m, n = m + 1 := ⟨n - 1, by omega⟩
  have hnext := ih k (p + 1) (by omega) (by omega) (by omega) n (by omega)
  rw [show ((p + 1 : Nat) : Int) = (p : Int) + 1 from by omega] at hnext
  have hr := bt_range s (p : Int)
  simp only [life_counted.l0, firstBig]
  rw [if_pos (show (p : Int) < (s.size : Int) by omega), if_pos (show 0 ≤ (p : Int) by omega), if_pos (show p < s.size by omega), w64 (by omega) (by omega)]
  try rw [if_pos (show (p : Int) < (s.size : Int) by omega)]
  by_cases c1 : bt s (p : Int) ≥ 48
  ·rw [if_pos c1]
   by_cases c2 : bt s (p : Int) ≤ 57
   ·rw [if_pos c2, show (bt s (p : Int) - 48) % 256 = bt s (p : Int) - 48 from by omega]
    by_cases c3 : bt s (p : Int) - 48 > g
    ·rw [if_pos c3, if_pos ⟨c1, c2, c3⟩]
    ·rw [if_neg c3, if_neg (fun e => c3 e.2.2)]; exact hnext
   ·rw [if_neg c2, if_neg (fun e => c2 e.2.1)]; exact hnext
  ·rw [if_neg c1, if_neg (fun e => c1 e.1)]; exact hnext
theorem greatest_spec (h a b : Int) (hh : h = 1 ∨ h = 2 ∨ h = 3) : life_greatest.f h a b = some (mostOf h, 0) := by
 rcases hh with rfl | rfl | rfl <;> rfl
theorem counted_spec (s : ByteArray) (hs : s.size ≤ 1048576) (h a b : Int) (hh : h = 1 ∨ h = 2 ∨ h = 3) :
  life_counted.f (s.size + 1) h a b s = some (match firstBig s (mostOf h) s.size 0 with | some i => (0, 0, 0, (i : Int), 82) | none => (h, a, b, 0, 0)) := by
 unfold life_counted.f
 rw [greatest_spec h a b hh]
 simp only [Option.bind_some]
 rw [if_pos trivial]
 exact counted_loop s hs (mostOf h) h a b s.size (s.size + 1) 0 (by omega) (by omega) (by omega) s.size (Nat.le_refl _)

def lst (i : Nat) : Int := if i = 0 then -1 else if i = 3 then 1 else 0
def wantOf (i : Nat) : Int := if i = 0 then 66 else if i = 1 then 47 else 83
set_option maxHeartbeats 8000000 in
set_option maxRecDepth 100000 in
theorem life_Parse.calls_small (s : ByteArray) (w : World) (hs : ¬ (1048576 < (s.size : Int))) (r1 r2 r3 r4 r5 : Int) (h : lifeStage s 0 0 0 0 = (r1, r2, r3, r4, r5)) :
  Calls Tryd.prog 39 #[.string s] w fun e w' => e = .returned (.tuple #[.agg #[.int .u8 r1, .int .u16 r2, .int .u16 r3], .int .i64 r4, .int .i64 r5]) ∧ Below w.heap.size w w' := by
 have H := Aside0.mk h
 clear h
 go_enter Tryd.func39, Tryd.ntmps39
 go_wp2
 go_step3
 go_wp2
 go_step3
 go_wp2
 go_loopg [6, 8, 9] 4 (fun k t6 t8 t9 wr => ∃ (i p m0 m1 : Nat), Aside0 (k = 4 - i) ∧ i ≤ 3 ∧ p ≤ s.size + i ∧ t8 = .int .i64 i ∧ t6 = .int .i64 p ∧ t9 = .int .i64 (lst i) ∧ Aside0 (lifeStage s i p m0 m1 = (r1, r2, r3, r4, r5)) ∧ m0 < 1024 ∧ m1 < 1024 ∧ Aside0 (Below w.heap.size w wr) ∧ Aside0 (wr.heap[w.heap.size]? = some (.cells #[.int .u8 0, .int .u16 0, .int .u16 0] 40 (0, 0))) ∧ Aside0 (wr.heap[w.heap.size + 1]? = some (.cells #[.int .u16 m0, .int .u16 m1] 102 (0, 0))))
 case atStart => exact ⟨0, 0, 0, 0, ⟨rfl⟩, by omega, by omega, rfl, rfl, rfl, H, by omega, by omega, ⟨((Below.refl _ _).alloc (Nat.le_refl _) _).alloc (by simp) _⟩, ⟨blk_alloc (blk_new _ _) _⟩, ⟨blk_new' _ _ _ (by simp)⟩⟩
 case round =>
  obtain ⟨i, p, m0, m1, HK, hi, hp, rfl, rfl, rfl, HS, hm0, hm1, HB, HR, HL⟩ := hrel
  have hp0 : (0 : Int) ≤ (p : Int) := by omega
  have hi0 : (0 : Int) ≤ (i : Int) := by omega
  have k0 : wr.cell? ⟨w.heap.size, 0, none⟩ = some (.int .u8 0) := blk_cell HR.out 0
  have k1 : wr.cell? ⟨w.heap.size, 1, none⟩ = some (.int .u16 0) := blk_cell HR.out 1
  have k2 : wr.cell? ⟨w.heap.size, 2, none⟩ = some (.int .u16 0) := blk_cell HR.out 2
  have k3 : wr.cell? ⟨w.heap.size + 1, 0, none⟩ = some (.int .u16 m0) := blk_cell HL.out 0
  have k4 : wr.cell? ⟨w.heap.size + 1, 1, none⟩ = some (.int .u16 m1) := blk_cell HL.out 1
  have z0 := blk_frozen HR.out 0
  have z1 := blk_frozen HR.out 1
  have z2 := blk_frozen HR.out 2
  have z3 := blk_frozen HL.out 0
  have z4 := blk_frozen HL.out 1
  by_cases c1 : p < s.size
  ·by_cases h3 : i < 3
   ·have c1' : (p : Int) < (s.size : Int) := by omega
    have h3' : (i : Int) < 3 := by omega
    have hbt : ∀ hh : p < s.size, ((s[p]'hh).toNat : Int) = bt s (p : Int) := bt_at s (p : Int)
    have hbr := bt_range s (p : Int)
    have wc : ∀ hh : i < (⟨#[66, 47, 83]⟩ : ByteArray).size, (((⟨#[66, 47, 83]⟩ : ByteArray)[i]'hh).toNat : Int) = wantOf i := by
     intro hh
     obtain rfl | rfl | rfl : i = 0 ∨ i = 1 ∨ i = 2 := by omega
     all_goals rfl
    go_wp2_with fail
    refine start_ (n := 21) (S := fun w' => True) (ds := []) #[false, false, false, false, false, false, false, false, false, false, false, false, false, false, false, false, false, false, false, false, false] (by kernel_rfl) rfl rfl trivial (fun hHeld => ?_)
    refine pure_ (i := 0) (N := some 21) (v := ?_) (a' := ?_) #[true, false, false, false, false, false, false, false, false, false, false, false, false, false, false, false, false, false, false, false, false] rfl rfl (by kernel_rfl) (fun _ _ _ h => h) (Or.inl ⟨by rfl, ?_⟩) ?_ ?_
    rotate_left
    ·intro w'
     go_simp
     with_reducible rfl
    rotate_left
    ·simp only [Act.put, List.setIfInBounds_toArray, List.set_cons_zero, List.set_cons_succ, i64_w, i32_w]
     rfl
    refine pure_ (i := 1) (N := some 22) (v := ?_) (a' := ?_) #[true, true, false, false, false, false, false, false, false, false, false, false, false, false, false, false, false, false, false, false, false] rfl rfl (by kernel_rfl) (fun _ _ _ h => h) (Or.inl ⟨by rfl, ?_⟩) ?_ ?_
    rotate_left
    ·intro w'
     go_simp
     with_reducible rfl
    rotate_left
    ·simp only [Act.put, List.setIfInBounds_toArray, List.set_cons_zero, List.set_cons_succ, i64_w, i32_w]
     rfl
    refine pure_ (i := 2) (N := some 23) (v := ?_) (a' := ?_) #[true, true, true, false, false, false, false, false, false, false, false, false, false, false, false, false, false, false, false, false, false] rfl rfl (by kernel_rfl) (fun _ _ _ h => h) (Or.inl ⟨by rfl, ?_⟩) ?_ ?_
    rotate_left
    ·intro w'
     go_simp
     with_reducible rfl
    rotate_left
    ·simp only [Act.put, List.setIfInBounds_toArray, List.set_cons_zero, List.set_cons_succ, i64_w, i32_w]
     rfl
    refine pure_ (i := 3) (N := some 24) (v := ?_) (a' := ?_) #[true, true, true, true, false, false, false, false, false, false, false, false, false, false, false, false, false, false, false, false, false] rfl rfl (by kernel_rfl) (fun _ _ _ h => h) (Or.inl ⟨by rfl, ?_⟩) ?_ ?_
    rotate_left
    ·intro w'
     go_simp
     with_reducible rfl
    rotate_left
    ·simp only [Act.put, List.setIfInBounds_toArray, List.set_cons_zero, List.set_cons_succ, i64_w, i32_w]
     rfl
    refine pure_ (i := 4) (N := some 25) (v := ?_) (a' := ?_) #[true, true, true, true, true, false, false, false, false, false, false, false, false, false, false, false, false, false, false, false, false] rfl rfl (by kernel_rfl) (fun _ _ _ h => h) (Or.inl ⟨by rfl, ?_⟩) ?_ ?_
    rotate_left
    ·intro w'
     go_simp
     with_reducible rfl
    rotate_left
    ·simp only [Act.put, List.setIfInBounds_toArray, List.set_cons_zero, List.set_cons_succ, i64_w, i32_w]
     rfl
    refine pure_ (i := 5) (N := some 26) (v := ?_) (a' := ?_) #[true, true, true, true, true, true, false, false, false, false, false, false, false, false, false, false, false, false, false, false, false] rfl rfl (by kernel_rfl) (fun _ _ _ h => h) (Or.inl ⟨by rfl, ?_⟩) ?_ ?_
    rotate_left
    ·intro w'
     go_simp
     with_reducible rfl
    rotate_left
    ·simp only [Act.put, List.setIfInBounds_toArray, List.set_cons_zero, List.set_cons_succ, i64_w, i32_w]
     rfl
    refine pure_ (i := 6) (N := some 27) (v := ?_) (a' := ?_) #[true, true, true, true, true, true, true, false, false, false, false, false, false, false, false, false, false, false, false, false, false] rfl rfl (by kernel_rfl) (fun _ _ _ h => h) (Or.inl ⟨by rfl, ?_⟩) ?_ ?_
    rotate_left
    ·intro w'
     go_simp
     with_reducible rfl
    rotate_left
    ·simp only [Act.put, List.setIfInBounds_toArray, List.set_cons_zero, List.set_cons_succ, i64_w, i32_w]
     rfl
    refine pure_ (i := 7) (N := some 28) (v := ?_) (a' := ?_) #[true, true, true, true, true, true, true, true, false, false, false, false, false, false, false, false, false, false, false, false, false] rfl rfl (by kernel_rfl) (fun _ _ _ h => h) (Or.inl ⟨by rfl, ?_⟩) ?_ ?_
    rotate_left
    ·intro w'
     go_simp
     with_reducible rfl
    rotate_left
    ·simp only [Act.put, List.setIfInBounds_toArray, List.set_cons_zero, List.set_cons_succ, i64_w, i32_w]
     rfl
    refine pure_ (i := 8) (N := some 29) (v := ?_) (a' := ?_) #[true, true, true, true, true, true, true, true, true, false, false, false, false, false, false, false, false, false, false, false, false] rfl rfl (by kernel_rfl) (fun _ _ _ h => h) (Or.inl ⟨by rfl, ?_⟩) ?_ ?_
    rotate_left
    ·intro w'
     go_simp
     with_reducible rfl
    rotate_left
    ·simp only [Act.put, List.setIfInBounds_toArray, List.set_cons_zero, List.set_cons_succ, i64_w, i32_w]
     rfl
    refine pure_ (i := 9) (N := some 30) (v := ?_) (a' := ?_) #[true, true, true, true, true, true, true, true, true, true, false, false, false, false, false, false, false, false, false, false, false] rfl rfl (by kernel_rfl) (fun _ _ _ h => h) (Or.inl ⟨by rfl, ?_⟩) ?_ ?_
    rotate_left
    ·intro w'
     go_simp
     with_reducible rfl
    rotate_left
    ·simp only [Act.put, List.setIfInBounds_toArray, List.set_cons_zero, List.set_cons_succ, i64_w, i32_w]
     rfl
    refine pure_ (i := 10) (N := some 31) (v := ?_) (a' := ?_) #[true, true, true, true, true, true, true, true, true, true, true, false, false, false, false, false, false, false, false, false, false] rfl rfl (by kernel_rfl) (fun _ _ _ h => h) (Or.inl ⟨by rfl, ?_⟩) ?_ ?_
    rotate_left
    ·intro w'
     go_simp
     with_reducible rfl
    rotate_left
    ·simp only [Act.put, List.setIfInBounds_toArray, List.set_cons_zero, List.set_cons_succ, i64_w, i32_w]
     rfl
    refine pure_ (i := 11) (N := some 32) (v := ?_) (a' := ?_) #[true, true, true, true, true, true, true, true, true, true, true, true, false, false, false, false, false, false, false, false, false] rfl rfl (by kernel_rfl) (fun _ _ _ h => h) (Or.inl ⟨by rfl, ?_⟩) ?_ ?_
    rotate_left
    ·intro w'
     go_simp
     with_reducible rfl
    rotate_left
    ·simp only [Act.put, List.setIfInBounds_toArray, List.set_cons_zero, List.set_cons_succ, i64_w, i32_w]
     rfl
    refine pure_ (i := 12) (N := some 33) (v := ?_) (a' := ?_) #[true, true, true, true, true, true, true, true, true, true, true, true, true, false, false, false, false, false, false, false, false] rfl rfl (by kernel_rfl) (fun _ _ _ h => h) (Or.inl ⟨by rfl, ?_⟩) ?_ ?_
    rotate_left
    ·intro w'
     go_simp
     with_reducible rfl
    rotate_left
    ·simp only [Act.put, List.setIfInBounds_toArray, List.set_cons_zero, List.set_cons_succ, i64_w, i32_w]
     rfl
    refine pure_ (i := 15) (N := some 36) (v := ?_) (a' := ?_) #[true, true, true, true, true, true, true, true, true, true, true, true, true, false, false, true, false, false, false, false, false] rfl rfl (by kernel_rfl) (fun _ _ _ h => h) (Or.inl ⟨by rfl, ?_⟩) ?_ ?_
    rotate_left
    ·intro w'
     go_simp
     with_reducible rfl
    rotate_left
    ·simp only [Act.put, List.setIfInBounds_toArray, List.set_cons_zero, List.set_cons_succ, i64_w, i32_w]
     rfl
    refine pure_ (i := 16) (N := some 37) (v := ?_) (a' := ?_) #[true, true, true, true, true, true, true, true, true, true, true, true, true, false, false, true, true, false, false, false, false] rfl rfl (by kernel_rfl) (fun _ _ _ h => h) (Or.inl ⟨by rfl, ?_⟩) ?_ ?_
    rotate_left
    ·intro w'
     go_simp
     with_reducible rfl
    rotate_left
    ·simp only [Act.put, List.setIfInBounds_toArray, List.set_cons_zero, List.set_cons_succ, i64_w, i32_w]
     rfl
    refine take_ (i := 13) (N := some 34) (v := ?_) (a' := ?_) #[true, true, true, true, true, true, true, true, true, true, true, true, true, true, false, true, true, false, false, false, false] rfl rfl (by kernel_rfl) (fun _ _ _ h => h) (Or.inl ⟨by rfl, ?_⟩) hHeld ?_ ?_
    rotate_left
    ·intro w' _
     go_simp
     with_reducible rfl
    rotate_left
    ·simp only [Act.put, List.setIfInBounds_toArray, List.set_cons_zero, List.set_cons_succ, i64_w, i32_w]
     rfl
    refine take_ (i := 17) (N := some 38) (v := ?_) (a' := ?_) #[true, true, true, true, true, true, true, true, true, true, true, true, true, true, false, true, true, true, false, false, false] rfl rfl (by kernel_rfl) (fun _ _ _ h => h) (Or.inl ⟨by rfl, ?_⟩) hHeld ?_ ?_
    rotate_left
    ·intro w' _
     go_simp
     with_reducible rfl
    rotate_left
    ·simp only [Act.put, List.setIfInBounds_toArray, List.set_cons_zero, List.set_cons_succ, i64_w, i32_w]
     rfl
    refine one_ (i := 14) (N := some 35) #[true, true, true, true, true, true, true, true, true, true, true, true, true, true, true, true, true, true, false, false, false] rfl rfl (by kernel_rfl) (by decide) (fun K hK => ?_)
    refine goes_ Tryd.func64 (by kernel_rfl) rfl #[.int .u8 (bt s (p : Int))] (by rfl) rfl rfl (by simp only [List.map_toArray, List.map_cons, List.map_nil]; rfl) ?_
    with_reducible refine (great_calls _ hbr.1 hbr.2 _).mono ?_
    rintro e w3 ⟨rfl, rfl⟩
    refine ⟨_, rfl, ?_⟩
    refine hK.out _ _ trivial (fun hHeld => ?_)
    clear hK K
    refine norm_ (a' := ?_) ?_ ?_
    rotate_left
    ·show Act.put _ (some 35) _ = _
     simp only [Act.put, List.setIfInBounds_toArray, List.set_cons_zero, List.set_cons_succ, i64_w, i32_w]
     rfl
    refine pure_ (i := 18) (N := some 39) (v := ?_) (a' := ?_) #[true, true, true, true, true, true, true, true, true, true, true, true, true, true, true, true, true, true, true, false, false] rfl rfl (by kernel_rfl) (fun _ _ _ h => h) (Or.inl ⟨by rfl, ?_⟩) ?_ ?_
    rotate_left
    ·intro w'
     go_simp
     with_reducible rfl
    rotate_left
    ·simp only [Act.put, List.setIfInBounds_toArray, List.set_cons_zero, List.set_cons_succ, i64_w, i32_w]
     rfl
    refine pure_ (i := 19) (N := some 40) (v := ?_) (a' := ?_) #[true, true, true, true, true, true, true, true, true, true, true, true, true, true, true, true, true, true, true, true, false] rfl rfl (by kernel_rfl) (fun _ _ _ h => h) (Or.inl ⟨by rfl, ?_⟩) ?_ ?_
    rotate_left
    ·intro w'
     go_simp
     with_reducible rfl
    rotate_left
    ·simp only [Act.put, List.setIfInBounds_toArray, List.set_cons_zero, List.set_cons_succ, i64_w, i32_w]
     rfl
    refine pure_ (i := 20) (N := some 20) (v := ?_) (a' := ?_) #[true, true, true, true, true, true, true, true, true, true, true, true, true, true, true, true, true, true, true, true, true] rfl rfl (by kernel_rfl) (fun _ _ _ h => h) (Or.inl ⟨by rfl, ?_⟩) ?_ ?_
    rotate_left
    ·intro w'
     go_simp
     with_reducible rfl
    rotate_left
    ·simp only [Act.put, List.setIfInBounds_toArray, List.set_cons_zero, List.set_cons_succ, i64_w, i32_w]
     rfl
    refine done_ (by kernel_rfl) ?_
    clear wc
    have w0 : (((⟨#[66, 47, 83]⟩ : ByteArray)[0]'(by decide)).toNat : Int) = 66 := rfl
    have w1 : (((⟨#[66, 47, 83]⟩ : ByteArray)[1]'(by decide)).toNat : Int) = 47 := rfl
    have w2 : (((⟨#[66, 47, 83]⟩ : ByteArray)[2]'(by decide)).toNat : Int) = 83 := rfl
    have hh := HS.out
    obtain rfl | rfl | rfl : i = 0 ∨ i = 1 ∨ i = 2 := by omega
    ·have e1 : wantOf 0 = 66 := rfl
     have e2 : lst 0 = -1 := rfl
     by_cases hl : bt s (p : Int) = 66 ∨ bt s (p : Int) = 66 + 32
     ·have hg : (greatOf (bt s (p : Int)) == 66) = true := by rw [great_is _ _ (by omega)]; exact decide_eq_true hl
      unfold lifeStage st0 at hh
      rw [if_pos rfl, if_pos ⟨c1, hl⟩] at hh
      obtain ⟨tw, qq, mm, hD⟩ : ∃ tw qq mm, digs s s.size (p + 1) m0 = (tw, qq, mm) := ⟨_, _, _, rfl⟩
      rw [hD] at hh
      have HD := Aside0.mk hD
      have HS2 := Aside0.mk hh
      clear hh hD HS
      go_wp2
      go_loopg [6] s.size (fun k t6 wi => ∃ (q m : Nat), q ≤ s.size ∧ t6 = .int .i64 q ∧ Aside0 (digs s k (q + 1) m = (tw, qq, mm)) ∧ Aside0 (s.size ≤ k + q + 1) ∧ m < 1024 ∧ Aside0 (Below w.heap.size w wi) ∧ Aside0 (wi.heap[w.heap.size]? = some (.cells #[.int .u8 0, .int .u16 0, .int .u16 0] 40 (0, 0))) ∧ Aside0 (wi.heap[w.heap.size + 1]? = some (.cells #[.int .u16 m, .int .u16 m1] 102 (0, 0))))
      case atStart => exact ⟨p, m0, by omega, rfl, HD, ⟨by omega⟩, hm0, ⟨below_drew1 HB.out⟩, ⟨HR.out⟩, ⟨HL.out⟩⟩
      case round =>
       clear HB HR HL k0 k1 k2 k3 k4 z0 z1 z2 z3 z4 hbt hbr hg hl
       obtain ⟨wq, hwq⟩ : ∃ x, x = wr := ⟨_, rfl⟩
       obtain ⟨q, m, hq, rfl, HD, HN, hm, HB, HR, HL⟩ := hrel
       have q0 : (0 : Int) ≤ (q : Int) := by omega
       have k0 : wr.cell? ⟨w.heap.size, 0, none⟩ = some (.int .u8 0) := blk_cell HR.out 0
       have k1 : wr.cell? ⟨w.heap.size, 1, none⟩ = some (.int .u16 0) := blk_cell HR.out 1
       have k2 : wr.cell? ⟨w.heap.size, 2, none⟩ = some (.int .u16 0) := blk_cell HR.out 2
       have k3 : wr.cell? ⟨w.heap.size + 1, 0, none⟩ = some (.int .u16 m) := blk_cell HL.out 0
       have k4 : wr.cell? ⟨w.heap.size + 1, 1, none⟩ = some (.int .u16 m1) := blk_cell HL.out 1
       have z0 := blk_frozen HR.out 0
       have z1 := blk_frozen HR.out 1
       have z2 := blk_frozen HR.out 2
       have z3 := blk_frozen HL.out 0
       have z4 := blk_frozen HL.out 1
       by_cases d1 : q + 1 < s.size
       ·have hbt : ∀ hh : q + 1 < s.size, ((s[q + 1]'hh).toNat : Int) = bt s ((q + 1 : Nat) : Int) := bt_at s ((q + 1 : Nat) : Int)
        have hbr := bt_range s ((q + 1 : Nat) : Int)
        have d1' : (q : Int) + 1 < (s.size : Int) := by omega
        obtain ⟨b, hb⟩ : ∃ b, bt s ((q + 1 : Nat) : Int) = b := ⟨_, rfl⟩
        rw [hb] at hbr
        rw [hb] at hbt
        have HB' := Aside0.mk hb
        clear hb
        by_cases d2 : 48 ≤ b ∧ b ≤ 57
        ·obtain ⟨d2, d3⟩ := d2
         have hd9 : (b - 48).toNat ≤ 9 := by omega
         have ha := bit_and m (b - 48).toNat hm hd9
         have ho := bit_or m (b - 48).toNat hm hd9
         have hlt := or_lt m (b - 48).toNat hm hd9
         cases gk with
         | zero => exact absurd HN.out (by omega)
         | succ gk =>
         have hds := HD.out
         rw [digs_succ, HB'.out, if_pos ⟨d1, d2, d3⟩] at hds
         cases htb : m.testBit (b - 48).toNat with
         | true =>
          rw [htb] at ha
          rw [htb, if_pos rfl] at hds
          simp only [Prod.mk.injEq] at hds
          obtain ⟨rfl, rfl, rfl⟩ := hds
          have hh := HS2.out
          simp only [Prod.mk.injEq] at hh
          obtain ⟨rfl, rfl, rfl, rfl, rfl⟩ := hh
          clear htb ho hlt
          go_wp2
          try rw [Exit.noGoto_ret]
          refine bodyPost_ret (v := .tuple #[.agg #[.int .u8 0, .int .u16 0, .int .u16 0], .int .i64 ((q + 1 : Nat) : Int), .int .i64 81]) (by simp [results, Tryd.results39, go_sem, *]) rfl ⟨rfl, ?_⟩
          repeat (first | exact HB.out | apply below_alloc | apply pw_below_drewN | apply below_drew1 | refine below_set ?_ (Nat.le_refl _))
         | false =>
          rw [htb] at ha
          rw [htb, if_neg (by decide)] at hds
          have HD2 := Aside0.mk hds
          clear htb hds
          go_wp2
          go_roundg gk
          case measure => omega
          case rel => exact ⟨q + 1, m ||| 2 ^ (b - 48).toNat, by omega, by go_num, HD2, ⟨by have := HN.out; omega⟩, hlt, ⟨below_set HB.out (by omega)⟩, ⟨blk_far HR.out (by show w.heap.size ≠ w.heap.size + 1; omega) _⟩, ⟨blk_put HL.out 0 _ rfl⟩⟩
        ·have hds := HD.out
         have hdd : (tw, qq, mm) = (false, q + 1, m) := by
          rw [← hds]
          cases gk with
          | zero => rfl
          | succ gk => rw [digs_succ, HB'.out, if_neg (fun e => d2 e.2)]
         simp only [Prod.mk.injEq] at hdd
         obtain ⟨rfl, rfl, rfl⟩ := hdd
         clear hds
         by_cases d2a : 48 ≤ b
         ·have d2b : ¬ b ≤ 57 := fun e => d2 ⟨d2a, e⟩
          clear d2
          go_wp2
          go_roundg 3
          case measure => have := HK.out; omega
          case rel => exact ⟨1, q + 1, mm, m1, ⟨rfl⟩, by omega, by omega, by go_num, by go_num, rfl, ⟨HS2.out⟩, hm, hm1, HB, HR, HL⟩
         ·clear d2
          go_wp2
          go_roundg 3
          case measure => have := HK.out; omega
          case rel => exact ⟨1, q + 1, mm, m1, ⟨rfl⟩, by omega, by omega, by go_num, by go_num, rfl, ⟨HS2.out⟩, hm, hm1, HB, HR, HL⟩
       ·have hds := HD.out
        have hdd : (tw, qq, mm) = (false, q + 1, m) := by
         rw [← hds]
         cases gk with
         | zero => rfl
         | succ gk => rw [digs_succ, if_neg (fun e => d1 e.1)]
        simp only [Prod.mk.injEq] at hdd
        obtain ⟨rfl, rfl, rfl⟩ := hdd
        clear hds
        have d1' : ¬ (q : Int) + 1 < (s.size : Int) := by omega
        go_wp2
        go_roundg 3
        case measure => have := HK.out; omega
        case rel => exact ⟨1, q + 1, mm, m1, ⟨rfl⟩, by omega, by omega, by go_num, by go_num, rfl, ⟨HS2.out⟩, hm, hm1, HB, HR, HL⟩
     ·have hg : (greatOf (bt s (p : Int)) == 66) = false := by rw [great_is _ _ (by omega)]; exact decide_eq_false hl
      unfold lifeStage st0 at hh
      rw [if_pos rfl, if_neg (fun e => hl e.2)] at hh
      simp only [Prod.mk.injEq] at hh
      obtain ⟨rfl, rfl, rfl, rfl, rfl⟩ := hh
      go_wp2
      rw [Exit.noGoto_ret]
      refine bodyPost_ret (v := .tuple #[.agg #[.int .u8 0, .int .u16 0, .int .u16 0], .int .i64 p, .int .i64 80]) (by simp [results, Tryd.results39, go_sem, *]) rfl ⟨rfl, ?_⟩
      repeat (first | exact HB.out | apply below_alloc | apply pw_below_drewN | apply below_drew1 | refine below_set ?_ (Nat.le_refl _))
    ·have e1 : wantOf 1 = 47 := rfl
     have e2 : lst 1 = 0 := rfl
     unfold lifeStage st1 at hh
     rw [if_neg (by decide), if_pos rfl] at hh
     by_cases hl : bt s (p : Int) = 47
     ·have hg : (greatOf (bt s (p : Int)) == 47) = true := by rw [great_not _ _ (by omega)]; exact decide_eq_true hl
      rw [if_pos ⟨c1, hl⟩] at hh
      have HS2 := Aside0.mk hh
      clear hh HS hl
      go_wp2
      go_roundg 2
      case measure => have := HK.out; omega
      case rel => exact ⟨2, p + 1, m0, m1, ⟨rfl⟩, by omega, by omega, by go_num, by go_num, rfl, ⟨HS2.out⟩, hm0, hm1, ⟨below_drew1 HB.out⟩, ⟨HR.out⟩, ⟨HL.out⟩⟩
     ·have hg : (greatOf (bt s (p : Int)) == 47) = false := by rw [great_not _ _ (by omega)]; exact decide_eq_false hl
      rw [if_neg (fun e => hl e.2)] at hh
      simp only [Prod.mk.injEq] at hh
      obtain ⟨rfl, rfl, rfl, rfl, rfl⟩ := hh
      go_wp2
      try rw [Exit.noGoto_ret]
      refine bodyPost_ret (v := .tuple #[.agg #[.int .u8 0, .int .u16 0, .int .u16 0], .int .i64 p, .int .i64 80]) (by simp [results, Tryd.results39, go_sem, *]) rfl ⟨rfl, ?_⟩
      repeat (first | exact HB.out | apply below_alloc | apply pw_below_drewN | apply below_drew1 | refine below_set ?_ (Nat.le_refl _))
    ·have e1 : wantOf 2 = 83 := rfl
     have e2 : lst 2 = 0 := rfl
     by_cases hl : bt s (p : Int) = 83 ∨ bt s (p : Int) = 83 + 32
     ·have hg : (greatOf (bt s (p : Int)) == 83) = true := by rw [great_is _ _ (by omega)]; exact decide_eq_true hl
      unfold lifeStage st2 at hh
      rw [if_neg (by decide), if_neg (by decide), if_pos rfl, if_pos ⟨c1, hl⟩] at hh
      obtain ⟨tw, qq, mm, hD⟩ : ∃ tw qq mm, digs s s.size (p + 1) m1 = (tw, qq, mm) := ⟨_, _, _, rfl⟩
      rw [hD] at hh
      have HD := Aside0.mk hD
      have HS2 := Aside0.mk hh
      clear hh hD HS
      go_wp2
      go_loopg [6] s.size (fun k t6 wi => ∃ (q m : Nat), q ≤ s.size ∧ t6 = .int .i64 q ∧ Aside0 (digs s k (q + 1) m = (tw, qq, mm)) ∧ Aside0 (s.size ≤ k + q + 1) ∧ m < 1024 ∧ Aside0 (Below w.heap.size w wi) ∧ Aside0 (wi.heap[w.heap.size]? = some (.cells #[.int .u8 0, .int .u16 0, .int .u16 0] 40 (0, 0))) ∧ Aside0 (wi.heap[w.heap.size + 1]? = some (.cells #[.int .u16 m0, .int .u16 m] 102 (0, 0))))
      case atStart => exact ⟨p, m1, by omega, rfl, HD, ⟨by omega⟩, hm1, ⟨below_drew1 HB.out⟩, ⟨HR.out⟩, ⟨HL.out⟩⟩
      case round =>
       clear HB HR HL k0 k1 k2 k3 k4 z0 z1 z2 z3 z4 hbt hbr hg hl
       obtain ⟨wq, hwq⟩ : ∃ x, x = wr := ⟨_, rfl⟩
       obtain ⟨q, m, hq, rfl, HD, HN, hm, HB, HR, HL⟩ := hrel
       have q0 : (0 : Int) ≤ (q : Int) := by omega
       have k0 : wr.cell? ⟨w.heap.size, 0, none⟩ = some (.int .u8 0) := blk_cell HR.out 0
       have k1 : wr.cell? ⟨w.heap.size, 1, none⟩ = some (.int .u16 0) := blk_cell HR.out 1
       have k2 : wr.cell? ⟨w.heap.size, 2, none⟩ = some (.int .u16 0) := blk_cell HR.out 2
       have k3 : wr.cell? ⟨w.heap.size + 1, 0, none⟩ = some (.int .u16 m0) := blk_cell HL.out 0
       have k4 : wr.cell? ⟨w.heap.size + 1, 1, none⟩ = some (.int .u16 m) := blk_cell HL.out 1
       have z0 := blk_frozen HR.out 0
       have z1 := blk_frozen HR.out 1
       have z2 := blk_frozen HR.out 2
       have z3 := blk_frozen HL.out 0
       have z4 := blk_frozen HL.out 1
       by_cases d1 : q + 1 < s.size
       ·have hbt : ∀ hh : q + 1 < s.size, ((s[q + 1]'hh).toNat : Int) = bt s ((q + 1 : Nat) : Int) := bt_at s ((q + 1 : Nat) : Int)
        have hbr := bt_range s ((q + 1 : Nat) : Int)
        have d1' : (q : Int) + 1 < (s.size : Int) := by omega
        obtain ⟨b, hb⟩ : ∃ b, bt s ((q + 1 : Nat) : Int) = b := ⟨_, rfl⟩
        rw [hb] at hbr
        rw [hb] at hbt
        have HB' := Aside0.mk hb
        clear hb
        by_cases d2 : 48 ≤ b ∧ b ≤ 57
        ·obtain ⟨d2, d3⟩ := d2
         have hd9 : (b - 48).toNat ≤ 9 := by omega
         have ha := bit_and m (b - 48).toNat hm hd9
         have ho := bit_or m (b - 48).toNat hm hd9
         have hlt := or_lt m (b - 48).toNat hm hd9
         cases gk with
         | zero => exact absurd HN.out (by omega)
         | succ gk =>
         have hds := HD.out
         rw [digs_succ, HB'.out, if_pos ⟨d1, d2, d3⟩] at hds
         cases htb : m.testBit (b - 48).toNat with
         | true =>
          rw [htb] at ha
          rw [htb, if_pos rfl] at hds
          simp only [Prod.mk.injEq] at hds
          obtain ⟨rfl, rfl, rfl⟩ := hds
          have hh := HS2.out
          simp only [Prod.mk.injEq] at hh
          obtain ⟨rfl, rfl, rfl, rfl, rfl⟩ := hh
          clear htb ho hlt
          go_wp2
          try rw [Exit.noGoto_ret]
          refine bodyPost_ret (v := .tuple #[.agg #[.int .u8 0, .int .u16 0, .int .u16 0], .int .i64 ((q + 1 : Nat) : Int), .int .i64 81]) (by simp [results, Tryd.results39, go_sem, *]) rfl ⟨rfl, ?_⟩
          repeat (first | exact HB.out | apply below_alloc | apply pw_below_drewN | apply below_drew1 | refine below_set ?_ (Nat.le_refl _))
         | false =>
          rw [htb] at ha
          rw [htb, if_neg (by decide)] at hds
          have HD2 := Aside0.mk hds
          clear htb hds
          go_wp2
          go_roundg gk
          case measure => omega
          case rel => exact ⟨q + 1, m ||| 2 ^ (b - 48).toNat, by omega, by go_num, HD2, ⟨by have := HN.out; omega⟩, hlt, ⟨below_set HB.out (by omega)⟩, ⟨blk_far HR.out (by show w.heap.size ≠ w.heap.size + 1; omega) _⟩, ⟨blk_put HL.out 1 _ rfl⟩⟩
        ·have hds := HD.out
         have hdd : (tw, qq, mm) = (false, q + 1, m) := by
          rw [← hds]
          cases gk with
          | zero => rfl
          | succ gk => rw [digs_succ, HB'.out, if_neg (fun e => d2 e.2)]
         simp only [Prod.mk.injEq] at hdd
         obtain ⟨rfl, rfl, rfl⟩ := hdd
         clear hds
         by_cases d2a : 48 ≤ b
         ·have d2b : ¬ b ≤ 57 := fun e => d2 ⟨d2a, e⟩
          clear d2
          go_wp2
          go_roundg 1
          case measure => have := HK.out; omega
          case rel => exact ⟨3, q + 1, m0, mm, ⟨rfl⟩, by omega, by omega, by go_num, by go_num, rfl, ⟨HS2.out⟩, hm0, hm, HB, HR, HL⟩
         ·clear d2
          go_wp2
          go_roundg 1
          case measure => have := HK.out; omega
          case rel => exact ⟨3, q + 1, m0, mm, ⟨rfl⟩, by omega, by omega, by go_num, by go_num, rfl, ⟨HS2.out⟩, hm0, hm, HB, HR, HL⟩
       ·have hds := HD.out
        have hdd : (tw, qq, mm) = (false, q + 1, m) := by
         rw [← hds]
         cases gk with
         | zero => rfl
         | succ gk => rw [digs_succ, if_neg (fun e => d1 e.1)]
        simp only [Prod.mk.injEq] at hdd
        obtain ⟨rfl, rfl, rfl⟩ := hdd
        clear hds
        have d1' : ¬ (q : Int) + 1 < (s.size : Int) := by omega
        go_wp2
        go_roundg 1
        case measure => have := HK.out; omega
        case rel => exact ⟨3, q + 1, m0, mm, ⟨rfl⟩, by omega, by omega, by go_num, by go_num, rfl, ⟨HS2.out⟩, hm0, hm, HB, HR, HL⟩
     ·have hg : (greatOf (bt s (p : Int)) == 83) = false := by rw [great_is _ _ (by omega)]; exact decide_eq_false hl
      unfold lifeStage st2 at hh
      rw [if_neg (by decide), if_neg (by decide), if_pos rfl, if_neg (fun e => hl e.2)] at hh
      simp only [Prod.mk.injEq] at hh
      obtain ⟨rfl, rfl, rfl, rfl, rfl⟩ := hh
      go_wp2
      rw [Exit.noGoto_ret]
      refine bodyPost_ret (v := .tuple #[.agg #[.int .u8 0, .int .u16 0, .int .u16 0], .int .i64 p, .int .i64 80]) (by simp [results, Tryd.results39, go_sem, *]) rfl ⟨rfl, ?_⟩
      repeat (first | exact HB.out | apply below_alloc | apply pw_below_drewN | apply below_drew1 | refine below_set ?_ (Nat.le_refl _))
   ·obtain rfl : i = 3 := by omega
    have c1' : (p : Int) < (s.size : Int) := by omega
    go_wp2_with fail
    go_quiet (fail)
    generalize hw2 : wr.drewN nq = w2
    have HB2 : Aside0 (Below w.heap.size w w2) := ⟨by rw [← hw2]; exact pw_below_drewN HB.out _⟩
    have HR2 : Aside0 (w2.heap[w.heap.size]? = some (.cells #[.int .u8 0, .int .u16 0, .int .u16 0] 40 (0, 0))) := ⟨by rw [← hw2]; exact HR.out⟩
    have HL2 : Aside0 (w2.heap[w.heap.size + 1]? = some (.cells #[.int .u16 m0, .int .u16 m1] 102 (0, 0))) := ⟨by rw [← hw2]; exact HL.out⟩
    clear hw2 k0 k1 k2 k3 k4 z0 z1 z2 z3 z4 HB HR HL
    have k0 : w2.cell? ⟨w.heap.size, 0, none⟩ = some (.int .u8 0) := blk_cell HR2.out 0
    have k1 : w2.cell? ⟨w.heap.size, 1, none⟩ = some (.int .u16 0) := blk_cell HR2.out 1
    have k2 : w2.cell? ⟨w.heap.size, 2, none⟩ = some (.int .u16 0) := blk_cell HR2.out 2
    have k3 : w2.cell? ⟨w.heap.size + 1, 0, none⟩ = some (.int .u16 m0) := blk_cell HL2.out 0
    have k4 : w2.cell? ⟨w.heap.size + 1, 1, none⟩ = some (.int .u16 m1) := blk_cell HL2.out 1
    have z0 := blk_frozen HR2.out 0
    have z1 := blk_frozen HR2.out 1
    have z2 := blk_frozen HR2.out 2
    have hlt2 : w.heap.size < w2.heap.size := blk_lt HR2.out
    have hlt3 : w.heap.size + 1 < w2.heap.size := blk_lt HL2.out
    have hh := HS.out
    unfold lifeStage at hh
    rw [if_neg (by decide), if_neg (by decide), if_neg (by decide)] at hh
    clear HS
    have hbt : ∀ hh : p < s.size, ((s[p]'hh).toNat : Int) = bt s (p : Int) := bt_at s (p : Int)
    have hbr := bt_range s (p : Int)
    have g1 := great_is (bt s (p : Int)) 86 (by omega)
    have g2 := great_is (bt s (p : Int)) 72 (by omega)
    by_cases v1 : bt s (p : Int) = 86 ∨ bt s (p : Int) = 86 + 32
    ·have hho := hood_v s p c1 v1
     rw [decide_eq_true v1] at g1
     clear g2 v1
     rw [tail_v s p m0 m1 _ hho (by decide)] at hh
     by_cases q1 : p + 1 < s.size
     ·have q1' : (p : Int) + 1 < (s.size : Int) := by omega
      rw [if_pos q1] at hh
      simp only [Prod.mk.injEq] at hh
      obtain ⟨rfl, rfl, rfl, rfl, rfl⟩ := hh
      clear hho
      go_wp2_with (go_at_call 64; refine (great_calls _ hbr.1 hbr.2 _).mono ?_; rintro e w' ⟨rfl, rfl⟩)
      try rw [Exit.noGoto_ret]
      refine bodyPost_ret (v := .tuple #[.agg #[.int .u8 0, .int .u16 0, .int .u16 0], .int .i64 ((p + 1 : Nat) : Int), .int .i64 80]) (by simp [results, Tryd.results39, go_sem, *]) rfl ⟨rfl, ?_⟩
      repeat (first | exact HB2.out | apply below_alloc | apply pw_below_drewN | apply below_drew1 | refine below_set ?_ (Nat.le_refl _))
     ·have q1' : ¬ (p : Int) + 1 < (s.size : Int) := by omega
      rw [if_neg q1] at hh
      have HC : Aside0 (life_counted.f (s.size + 1) 2 m0 m1 s = some (r1, r2, r3, r4, r5)) := ⟨(counted_spec s (by omega) 2 m0 m1 (by omega)).trans (congrArg some hh)⟩
      clear hho hh
      go_wp2_with (first | (go_at_call 64; refine (great_calls _ hbr.1 hbr.2 _).mono ?_; rintro e w' ⟨rfl, rfl⟩) | (go_at_call 65; refine (life_counted.calls (s.size + 1) 2 m0 m1 s r1 r2 r3 r4 r5 _ HC.out).mono ?_; rintro e w5 ⟨rfl, hb⟩; have HR5 := blk_below (blk_alloc HR2.out _) hb; have n0 := blk_cell HR5 0; have n1 := blk_cell HR5 1; have n2 := blk_cell HR5 2; have y0 := blk_frozen HR5 0; have y1 := blk_frozen HR5 1; have y2 := blk_frozen HR5 2; have HB5 := Aside0.mk (below_step (below_alloc HB2.out _) hb); clear hb HR5))
      try rw [Exit.noGoto_ret]
      refine bodyPost_ret (v := .tuple #[.agg #[.int .u8 r1, .int .u16 r2, .int .u16 r3], .int .i64 r4, .int .i64 r5]) (by simp [results, Tryd.results39, go_sem, *]) rfl ⟨rfl, ?_⟩
      repeat (first | exact HB5.out | apply below_alloc | apply pw_below_drewN | apply below_drew1 | refine below_set ?_ (Nat.le_refl _))
    by_cases v2 : bt s (p : Int) = 72 ∨ bt s (p : Int) = 72 + 32
    ·have hho := hood_h s p c1 v1 v2
     rw [decide_eq_true v2] at g2
     rw [decide_eq_false v1] at g1
     clear v1 v2
     rw [tail_v s p m0 m1 _ hho (by decide)] at hh
     by_cases q1 : p + 1 < s.size
     ·have q1' : (p : Int) + 1 < (s.size : Int) := by omega
      rw [if_pos q1] at hh
      simp only [Prod.mk.injEq] at hh
      obtain ⟨rfl, rfl, rfl, rfl, rfl⟩ := hh
      clear hho
      go_wp2_with (go_at_call 64; refine (great_calls _ hbr.1 hbr.2 _).mono ?_; rintro e w' ⟨rfl, rfl⟩)
      try rw [Exit.noGoto_ret]
      refine bodyPost_ret (v := .tuple #[.agg #[.int .u8 0, .int .u16 0, .int .u16 0], .int .i64 ((p + 1 : Nat) : Int), .int .i64 80]) (by simp [results, Tryd.results39, go_sem, *]) rfl ⟨rfl, ?_⟩
      repeat (first | exact HB2.out | apply below_alloc | apply pw_below_drewN | apply below_drew1 | refine below_set ?_ (Nat.le_refl _))
     ·have q1' : ¬ (p : Int) + 1 < (s.size : Int) := by omega
      rw [if_neg q1] at hh
      have HC : Aside0 (life_counted.f (s.size + 1) 3 m0 m1 s = some (r1, r2, r3, r4, r5)) := ⟨(counted_spec s (by omega) 3 m0 m1 (by omega)).trans (congrArg some hh)⟩
      clear hho hh
      go_wp2_with (first | (go_at_call 64; refine (great_calls _ hbr.1 hbr.2 _).mono ?_; rintro e w' ⟨rfl, rfl⟩) | (go_at_call 65; refine (life_counted.calls (s.size + 1) 3 m0 m1 s r1 r2 r3 r4 r5 _ HC.out).mono ?_; rintro e w5 ⟨rfl, hb⟩; have HR5 := blk_below (blk_alloc HR2.out _) hb; have n0 := blk_cell HR5 0; have n1 := blk_cell HR5 1; have n2 := blk_cell HR5 2; have y0 := blk_frozen HR5 0; have y1 := blk_frozen HR5 1; have y2 := blk_frozen HR5 2; have HB5 := Aside0.mk (below_step (below_alloc HB2.out _) hb); clear hb HR5))
      try rw [Exit.noGoto_ret]
      refine bodyPost_ret (v := .tuple #[.agg #[.int .u8 r1, .int .u16 r2, .int .u16 r3], .int .i64 r4, .int .i64 r5]) (by simp [results, Tryd.results39, go_sem, *]) rfl ⟨rfl, ?_⟩
      repeat (first | exact HB5.out | apply below_alloc | apply pw_below_drewN | apply below_drew1 | refine below_set ?_ (Nat.le_refl _))
    ·have hho := hood_n s p (fun e => v1 e.2) (fun e => v2 e.2)
     rw [decide_eq_false v2] at g2
     rw [decide_eq_false v1] at g1
     rw [tail_n s p m0 m1 hho, if_pos c1] at hh
     simp only [Prod.mk.injEq] at hh
     obtain ⟨rfl, rfl, rfl, rfl, rfl⟩ := hh
     clear hho v1 v2
     go_wp2_with (go_at_call 64; refine (great_calls _ hbr.1 hbr.2 _).mono ?_; rintro e w' ⟨rfl, rfl⟩)
     try rw [Exit.noGoto_ret]
     refine bodyPost_ret (v := .tuple #[.agg #[.int .u8 0, .int .u16 0, .int .u16 0], .int .i64 p, .int .i64 80]) (by simp [results, Tryd.results39, go_sem, *]) rfl ⟨rfl, ?_⟩
     repeat (first | exact HB2.out | apply below_alloc | apply pw_below_drewN | apply below_drew1 | refine below_set ?_ (Nat.le_refl _))
  ·have c1' : ¬ (p : Int) < (s.size : Int) := by omega
   have c1b : decide ((p : Int) < (s.size : Int)) = false := decide_eq_false c1'
   by_cases h3 : i < 3
   ·have hh := HS.out
    have he : (0, 0, 0, (p : Int), 80) = (r1, r2, r3, r4, r5) := by
     rw [← hh]
     obtain rfl | rfl | rfl : i = 0 ∨ i = 1 ∨ i = 2 := by omega
     ·unfold lifeStage st0; rw [if_pos rfl, if_neg (fun e => c1 e.1)]
     ·unfold lifeStage st1; rw [if_neg (by decide), if_pos rfl, if_neg (fun e => c1 e.1)]
     ·unfold lifeStage st2; rw [if_neg (by decide), if_neg (by decide), if_pos rfl, if_neg (fun e => c1 e.1)]
    simp only [Prod.mk.injEq] at he
    obtain ⟨rfl, rfl, rfl, rfl, rfl⟩ := he
    clear hh
    have hi3 : ((i : Int) == 3) = false := beq_eq_false_iff_ne.2 (by omega)
    go_wp2_with fail
    go_quiet (fail)
    go_wp2
    try rw [Exit.noGoto_ret]
    refine bodyPost_ret (v := .tuple #[.agg #[.int .u8 0, .int .u16 0, .int .u16 0], .int .i64 p, .int .i64 80]) (by simp [results, Tryd.results39, go_sem, *]) rfl ⟨rfl, ?_⟩
    repeat (first | exact HB.out | apply below_alloc | apply pw_below_drewN | apply below_drew1 | refine below_set ?_ (Nat.le_refl _))
   ·obtain rfl : i = 3 := by omega
    go_wp2_with fail
    go_quiet (fail)
    generalize hw2 : wr.drewN nq = w2
    have HB2 : Aside0 (Below w.heap.size w w2) := ⟨by rw [← hw2]; exact pw_below_drewN HB.out _⟩
    have HR2 : Aside0 (w2.heap[w.heap.size]? = some (.cells #[.int .u8 0, .int .u16 0, .int .u16 0] 40 (0, 0))) := ⟨by rw [← hw2]; exact HR.out⟩
    have HL2 : Aside0 (w2.heap[w.heap.size + 1]? = some (.cells #[.int .u16 m0, .int .u16 m1] 102 (0, 0))) := ⟨by rw [← hw2]; exact HL.out⟩
    clear hw2 k0 k1 k2 k3 k4 z0 z1 z2 z3 z4 HB HR HL
    have k0 : w2.cell? ⟨w.heap.size, 0, none⟩ = some (.int .u8 0) := blk_cell HR2.out 0
    have k1 : w2.cell? ⟨w.heap.size, 1, none⟩ = some (.int .u16 0) := blk_cell HR2.out 1
    have k2 : w2.cell? ⟨w.heap.size, 2, none⟩ = some (.int .u16 0) := blk_cell HR2.out 2
    have k3 : w2.cell? ⟨w.heap.size + 1, 0, none⟩ = some (.int .u16 m0) := blk_cell HL2.out 0
    have k4 : w2.cell? ⟨w.heap.size + 1, 1, none⟩ = some (.int .u16 m1) := blk_cell HL2.out 1
    have z0 := blk_frozen HR2.out 0
    have z1 := blk_frozen HR2.out 1
    have z2 := blk_frozen HR2.out 2
    have hlt2 : w.heap.size < w2.heap.size := blk_lt HR2.out
    have hlt3 : w.heap.size + 1 < w2.heap.size := blk_lt HL2.out
    have hh := HS.out
    unfold lifeStage at hh
    rw [if_neg (by decide), if_neg (by decide), if_neg (by decide)] at hh
    clear HS
    have hho := hood_n s p (fun e => c1 e.1) (fun e => c1 e.1)
    rw [tail_n s p m0 m1 hho, if_neg c1] at hh
    have HC : Aside0 (life_counted.f (s.size + 1) 1 m0 m1 s = some (r1, r2, r3, r4, r5)) := ⟨(counted_spec s (by omega) 1 m0 m1 (by omega)).trans (congrArg some hh)⟩
    clear hho hh
    go_wp2_with (go_at_call 65; refine (life_counted.calls (s.size + 1) 1 m0 m1 s r1 r2 r3 r4 r5 _ HC.out).mono ?_; rintro e w5 ⟨rfl, hb⟩; have HR5 := blk_below (blk_alloc HR2.out _) hb; have n0 := blk_cell HR5 0; have n1 := blk_cell HR5 1; have n2 := blk_cell HR5 2; have y0 := blk_frozen HR5 0; have y1 := blk_frozen HR5 1; have y2 := blk_frozen HR5 2; have HB5 := Aside0.mk (below_step (below_alloc HB2.out _) hb); clear hb HR5)
    try rw [Exit.noGoto_ret]
    refine bodyPost_ret (v := .tuple #[.agg #[.int .u8 r1, .int .u16 r2, .int .u16 r3], .int .i64 r4, .int .i64 r5]) (by simp [results, Tryd.results39, go_sem, *]) rfl ⟨rfl, ?_⟩
    repeat (first | exact HB5.out | apply below_alloc | apply pw_below_drewN | apply below_drew1 | refine below_set ?_ (Nat.le_refl _))

def life_Parse.f (a0 : ByteArray) : Option (Int × Int × Int × Int × Int) := some (lifeParse a0)
set_option maxHeartbeats 8000000 in
set_option maxRecDepth 100000 in
theorem life_Parse.calls_great (s : ByteArray) (w : World) (hs : 1048576 < (s.size : Int)) :
  Calls Tryd.prog 39 #[.string s] w fun e w' => e = .returned (.tuple #[.agg #[.int .u8 0, .int .u16 0, .int .u16 0], .int .i64 0, .int .i64 3]) ∧ Below w.heap.size w w' := by
 go_enter Tryd.func39, Tryd.ntmps39
 go_wp2
 go_step3
 go_wp2
 try rw [Exit.noGoto_ret]
 refine bodyPost_ret (v := .tuple #[.agg #[.int .u8 0, .int .u16 0, .int .u16 0], .int .i64 0, .int .i64 3]) (by simp [results, Tryd.results39, go_sem]) rfl ⟨rfl, ?_⟩
 repeat (first | exact Below.refl _ _ | apply below_alloc)
theorem life_Parse.calls (a0 : ByteArray) (r1 r2 r3 r4 r5 : Int) (w : World) (h : life_Parse.f a0 = some (r1, r2, r3, r4, r5)) :
  Calls Tryd.prog 39 #[.string a0] w fun e w' => e = .returned (.tuple #[.agg #[.int .u8 r1, .int .u16 r2, .int .u16 r3], .int .i64 r4, .int .i64 r5]) ∧ Below w.heap.size w w' := by
 have h' := Option.some.inj h
 unfold lifeParse at h'
 by_cases hs : 1048576 < a0.size
 ·rw [if_pos hs] at h'
  simp only [Prod.mk.injEq] at h'
  obtain ⟨rfl, rfl, rfl, rfl, rfl⟩ := h'
  exact life_Parse.calls_great a0 w (by omega)
 ·rw [if_neg hs] at h'
  exact life_Parse.calls_small a0 w (by omega) r1 r2 r3 r4 r5 h'

end Go.Proofs.YtkahgdkpehlanaaDoor.P

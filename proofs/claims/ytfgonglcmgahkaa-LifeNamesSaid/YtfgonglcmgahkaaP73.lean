-- Written by a program of this session (wip/tools/mk.py) that runs the kit's printer.
import Derived.Test.YtfgonglcmgahkaaP0
import Derived.Test.YtfgonglcmgahkaaExtLib
import Derived.Test.YtfgonglcmgahkaaHoodParts
import Derived.Deep.DeepMust
namespace Go.Proofs.Ytfgonglcmgahkaa.P
open Go.RowKit Go.Proofs.YtfgonglcmgahkaaW.PrintWords Go.Proofs.YtfgonglcmgahkaaW.PrintLast Go.Proofs.YtfgonglcmgahkaaW.PrintMore
attribute [local go_sem] max2_int min2_int max_two min_two max_three min_three max_four min_four   -- for this text's walks alone
set_option linter.unusedVariables false
set_option linter.unusedSimpArgs false

/-! ### hood_Offsets: function 73 -/
-- EXT Derived.Test.@NExtLib Derived.Test.@NHoodParts Derived.Deep.DeepMust
open Go.Proofs.Ytfgonglcmgahkaa.L
def hoodPts : List S121 := [⟨0, (-1)⟩, ⟨1, (-1)⟩, ⟨1, 0⟩, ⟨1, 1⟩, ⟨0, 1⟩, ⟨(-1), 1⟩, ⟨(-1), 0⟩, ⟨(-1), (-1)⟩]
def picked : List Bool → List S121 → List S121
  | true :: bs, p :: ps => p :: picked bs ps
  | false :: bs, _ :: ps => picked bs ps
  | _, _ => []
theorem picked_le : ∀ (bs : List Bool) (ps : List S121), bs.length ≤ 8 → (picked bs ps).length ≤ bs.length
  | [], ps, _ => by simp [picked]
  | b :: bs, [], _ => by cases b <;> simp [picked]
  | true :: bs, q :: ps, h => by
    have := picked_le bs ps (by simp at h; omega)
    simp only [picked, List.length_cons]; omega
  | false :: bs, q :: ps, h => by
    have := picked_le bs ps (by simp at h; omega)
    simp only [picked, List.length_cons]; omega
theorem picked_snoc (b : Bool) (p : S121) : ∀ (bs : List Bool) (ps : List S121), bs.length = ps.length → picked (bs ++ [b]) (ps ++ [p]) = picked bs ps ++ (if b = true then [p] else [])
  | [], [], _ => by cases b <;> rfl
  | true :: bs, q :: ps, h => by simp only [List.cons_append, picked]; rw [picked_snoc b p bs ps (by simpa using h)]
  | false :: bs, q :: ps, h => by simp only [List.cons_append, picked]; rw [picked_snoc b p bs ps (by simpa using h)]
set_option maxHeartbeats 8000000 in
set_option maxRecDepth 100000 in
theorem hood_Offsets.calls_of (a0 : Int) (b0 b1 b2 b3 b4 b5 b6 b7 : Bool) (hin : ∀ w : World, Calls Try.prog 82 #[.int .u8 a0] w fun e w' => e = .returned (.tuple #[.agg #[.bool b0, .bool b1, .bool b2, .bool b3, .bool b4, .bool b5, .bool b6, .bool b7], .int .i64 0]) ∧ w' = (w.alloc (.cells #[.bool b0, .bool b1, .bool b2, .bool b3, .bool b4, .bool b5, .bool b6, .bool b7] 115))) (w : World) :
    Calls Try.prog 73 #[.int .u8 a0] w fun e w' => ∃ v0_ : Value, e = .returned (.tuple #[v0_, .int .i64 0]) ∧ Kd.R k121 121 w' w.heap.size (fun _ => True) v0_ (picked [b0, b1, b2, b3, b4, b5, b6, b7] hoodPts) ∧ Below w.heap.size w w' := by
  have HIN := Aside0.mk hin
  clear hin
  go_enter Try.func73, Try.ntmps73
  go_wp2_with (first | (go_at_call 82; refine (HIN.out _).mono ?_; rintro e w' ⟨rfl, rfl⟩) | (go_at_call 83; refine (hood_all0 _).mono ?_; rintro e w' ⟨rfl, rfl⟩))
  obtain ⟨W1, hW1⟩ : ∃ W1, (((w.alloc (Obj.cells #[.bool b0, .bool b1, .bool b2, .bool b3, .bool b4, .bool b5, .bool b6, .bool b7] 115)).alloc (Obj.cells #[.bool b0, .bool b1, .bool b2, .bool b3, .bool b4, .bool b5, .bool b6, .bool b7] 115)).alloc (Obj.cells #[.int .i64 0, .int .i64 (-1), .int .i64 1, .int .i64 (-1), .int .i64 1, .int .i64 0, .int .i64 1, .int .i64 1, .int .i64 0, .int .i64 1, .int .i64 (-1), .int .i64 1, .int .i64 (-1), .int .i64 0, .int .i64 (-1), .int .i64 (-1)] 128)).alloc (Obj.cells #[.int .i64 0, .int .i64 (-1), .int .i64 1, .int .i64 (-1), .int .i64 1, .int .i64 0, .int .i64 1, .int .i64 1, .int .i64 0, .int .i64 1, .int .i64 (-1), .int .i64 1, .int .i64 (-1), .int .i64 0, .int .i64 (-1), .int .i64 (-1)] 128) = W1 := ⟨_, rfl⟩
  have hz : W1.heap.size = w.heap.size + 4 := by rw [← hW1]; simp
  have hin : W1.heap[w.heap.size + 1]? = some (.cells #[.bool b0, .bool b1, .bool b2, .bool b3, .bool b4, .bool b5, .bool b6, .bool b7] 115 (0, 0)) := by rw [← hW1]; exact blk_alloc (blk_alloc (blk_new' _ _ _ (by simp)) _) _
  have hof : W1.heap[w.heap.size + 1 + 1 + 1]? = some (.cells #[.int .i64 0, .int .i64 (-1), .int .i64 1, .int .i64 (-1), .int .i64 1, .int .i64 0, .int .i64 1, .int .i64 1, .int .i64 0, .int .i64 1, .int .i64 (-1), .int .i64 1, .int .i64 (-1), .int .i64 0, .int .i64 (-1), .int .i64 (-1)] 128 (0, 0)) := by rw [← hW1]; exact blk_new' _ _ _ (by simp)
  have hb1 : Below w.heap.size w W1 := by rw [← hW1]; exact (((((Below.refl _ _).alloc (Nat.le_refl _) _).alloc (by simp) _).alloc (by simp; omega) _).alloc (by simp; omega) _)
  rw [hW1]
  clear hW1
  have HB1 := Aside0.mk hb1
  have HZ := Aside0.mk hz
  have HIN2 := Aside0.mk hin
  have HOF := Aside0.mk hof
  clear hb1 hz hin hof
  go_loopw [7, 20] (fun v i wr => ∃ k : Nat, k ≤ 8 ∧ i = .int .i64 k ∧ Aside0 (Kd.R k121 121 wr W1.heap.size (fun _ => True) v (picked ([b0, b1, b2, b3, b4, b5, b6, b7].take k) (hoodPts.take k))) ∧ Aside0 (Below W1.heap.size W1 wr)) (fun _ i _ => 8 - (intOf i).toNat)
  case atStart => exact ⟨0, by omega, rfl, ⟨Kd.R_nil _ _ _ _ _⟩, ⟨Below.refl _ _⟩⟩
  case round =>
    obtain ⟨k, hk, rfl, HO, HB⟩ := hrel
    by_cases h8 : k < 8
    · have p0 : (0 : Int) ≤ (k : Int) := by omega
      have p1 : (k : Int) < 8 := by omega
      have g0 : wr.cell? ⟨w.heap.size + 1 + 1 + 1, k * 2, none⟩ = some (.int .i64 (hoodPts.getD k ⟨0, 0⟩).f0) := by
        rw [cell_in HOF.out HB.out (by have := HZ.out; omega)]
        obtain rfl | rfl | rfl | rfl | rfl | rfl | rfl | rfl : k = 0 ∨ k = 1 ∨ k = 2 ∨ k = 3 ∨ k = 4 ∨ k = 5 ∨ k = 6 ∨ k = 7 := by omega
        all_goals rfl
      have g1 : wr.cell? ⟨w.heap.size + 1 + 1 + 1, k * 2 + 1, none⟩ = some (.int .i64 (hoodPts.getD k ⟨0, 0⟩).f1) := by
        rw [cell_in HOF.out HB.out (by have := HZ.out; omega)]
        obtain rfl | rfl | rfl | rfl | rfl | rfl | rfl | rfl : k = 0 ∨ k = 1 ∨ k = 2 ∨ k = 3 ∨ k = 4 ∨ k = 5 ∨ k = 6 ∨ k = 7 := by omega
        all_goals rfl
      have g2 : wr.cell? ⟨w.heap.size + 1, k, none⟩ = some (.bool ([b0, b1, b2, b3, b4, b5, b6, b7].getD k false)) := by
        rw [cell_in HIN2.out HB.out (by have := HZ.out; omega)]
        obtain rfl | rfl | rfl | rfl | rfl | rfl | rfl | rfl : k = 0 ∨ k = 1 ∨ k = 2 ∨ k = 3 ∨ k = 4 ∨ k = 5 ∨ k = 6 ∨ k = 7 := by omega
        all_goals rfl
      have hstep : picked ([b0, b1, b2, b3, b4, b5, b6, b7].take (k + 1)) (hoodPts.take (k + 1)) = picked ([b0, b1, b2, b3, b4, b5, b6, b7].take k) (hoodPts.take k) ++ (if [b0, b1, b2, b3, b4, b5, b6, b7].getD k false = true then [hoodPts.getD k ⟨0, 0⟩] else []) := by
        rw [List.take_succ_eq_append_getElem (by exact h8), List.take_succ_eq_append_getElem (by exact h8), picked_snoc _ _ _ _ (by simp [hoodPts])]
        simp only [List.getD_eq_getElem?_getD]
        rw [List.getElem?_eq_getElem (by exact h8), List.getElem?_eq_getElem (by exact h8)]
        rfl
      generalize hoodPts.getD k ⟨0, 0⟩ = p at g0 g1 hstep
      generalize [b0, b1, b2, b3, b4, b5, b6, b7].getD k false = bk at g2 hstep
      have HS := Aside0.mk hstep
      clear hstep
      go_wp2
      refine start_ (n := 7) (S := fun w' => w'.cell? ⟨w.heap.size + 1 + 1 + 1, k * 2, none⟩ = some (.int .i64 p.f0) ∧ w'.cell? ⟨w.heap.size + 1 + 1 + 1, k * 2 + 1, none⟩ = some (.int .i64 p.f1)) (ds := [6]) #[false, false, false, false, false, false, false] (by kernel_rfl) rfl rfl ⟨g0, g1⟩ (fun hHeld => ?_)
      refine pure_ (i := 0) (N := some 22) (v := ?_) (a' := ?_) #[true, false, false, false, false, false, false] rfl rfl (by kernel_rfl) (fun _ _ _ h => h) (Or.inl ⟨by rfl, ?_⟩) ?_ ?_
      rotate_left
      · intro w'
        go_simp
        with_reducible rfl
      rotate_left
      · simp only [Act.put, List.setIfInBounds_toArray, List.set_cons_zero, List.set_cons_succ, i64_w, i32_w]
        rfl
      refine pure_ (i := 1) (N := some 23) (v := ?_) (a' := ?_) #[true, true, false, false, false, false, false] rfl rfl (by kernel_rfl) (fun _ _ _ h => h) (Or.inl ⟨by rfl, ?_⟩) ?_ ?_
      rotate_left
      · intro w'
        go_simp
        with_reducible rfl
      rotate_left
      · simp only [Act.put, List.setIfInBounds_toArray, List.set_cons_zero, List.set_cons_succ, i64_w, i32_w]
        rfl
      refine pure_ (i := 2) (N := some 24) (v := ?_) (a' := ?_) #[true, true, true, false, false, false, false] rfl rfl (by kernel_rfl) (fun _ _ _ h => h) (Or.inl ⟨by rfl, ?_⟩) ?_ ?_
      rotate_left
      · intro w'
        go_simp
        with_reducible rfl
      rotate_left
      · simp only [Act.put, List.setIfInBounds_toArray, List.set_cons_zero, List.set_cons_succ, i64_w, i32_w]
        rfl
      refine take_ (i := 3) (N := some 25) (v := ?_) (a' := ?_) #[true, true, true, true, false, false, false] rfl rfl (by kernel_rfl) (fun _ _ _ h => h) (Or.inl ⟨by rfl, ?_⟩) hHeld ?_ ?_
      rotate_left
      · rintro w' ⟨s0, s1⟩
        go_simp
        with_reducible rfl
      rotate_left
      · simp only [Act.put, List.setIfInBounds_toArray, List.set_cons_zero, List.set_cons_succ, i64_w, i32_w]
        rfl
      refine one_ (i := 4) (N := some 9) #[true, true, true, true, true, false, false] rfl rfl (by kernel_rfl) (by decide) (fun K hK => ?_)
      refine value_ (w1 := ?_) (v := ?_) (by rfl) rfl ?_ ?_
      rotate_left 2
      · go_simp
        constructor
        · rfl
        · rfl
      refine hK.out _ _ ⟨(World.cell?_alloc_lt _ _ _ (World.block_lt_of_cell? _ _ hHeld.1)).trans hHeld.1, (World.cell?_alloc_lt _ _ _ (World.block_lt_of_cell? _ _ hHeld.2)).trans hHeld.2⟩ (fun hHeld => ?_)
      clear hK K
      refine norm_ (a' := ?_) ?_ ?_
      rotate_left
      · show Act.put _ (some 9) _ = _
        simp only [Act.put, List.setIfInBounds_toArray, List.set_cons_zero, List.set_cons_succ, i64_w, i32_w]
        rfl
      refine pure_ (i := 5) (N := some 8) (v := ?_) (a' := ?_) #[true, true, true, true, true, true, false] rfl rfl (by kernel_rfl) (fun _ _ _ h => h) (Or.inl ⟨by rfl, ?_⟩) ?_ ?_
      rotate_left
      · intro w'
        go_simp
        with_reducible rfl
      rotate_left
      · simp only [Act.put, List.setIfInBounds_toArray, List.set_cons_zero, List.set_cons_succ, i64_w, i32_w]
        rfl
      refine last_ (i := 6) (N := none) #[true, true, true, true, true, true, true] rfl rfl (by kernel_rfl) (by decide) (fun K hK => ?_)
      refine skip_ (w1 := ?_) (by rfl) rfl ?_ ?_
      rotate_left
      · go_simp
        rfl
      refine hK.out _ _ ?_
      clear hK K
      refine done_ (by kernel_rfl) ?_
      obtain ⟨W2, hW2⟩ : ∃ W2, (wr.alloc (Obj.cells #[.int .i64 p.f0, .int .i64 p.f1] 121)).drew = W2 := ⟨_, rfl⟩
      have HO2 : Aside0 (Kd.R k121 121 W2 W1.heap.size (fun _ => True) u7 (picked ([b0, b1, b2, b3, b4, b5, b6, b7].take k) (hoodPts.take k))) := ⟨by rw [← hW2]; exact Kd.R_alloc HO.out _⟩
      have HB2 : Aside0 (Below W1.heap.size W1 W2) := ⟨by rw [← hW2]; exact (HB.out.alloc HB.out.size _).drew⟩
      have c1 : W2.cell? ⟨w.heap.size + 1, k, none⟩ = some (.bool bk) := by rw [← hW2]; exact (World.cell?_alloc_lt _ _ _ (World.block_lt_of_cell? _ _ g2)).trans g2
      have c2 : W2.cell? ⟨wr.heap.size, 0, none⟩ = some (.int .i64 p.f0) := by rw [← hW2]; exact blk_cell (blk_new _ _) 0
      have c3 : W2.cell? ⟨wr.heap.size, 1, none⟩ = some (.int .i64 p.f1) := by rw [← hW2]; exact blk_cell (blk_new _ _) 1
      rw [hW2]
      clear g0 g1 g2 hW2 HO HB
      cases bk with
      | false =>
        have hs := HS.out
        rw [if_neg (by decide), List.append_nil] at hs
        rw [← hs] at HO2
        clear hs HS
        go_wp2
        go_roundw
        case rel => exact ⟨k + 1, by omega, by go_num, HO2, HB2⟩
        case measure => simp [intOf]; omega
      | true =>
        have hs := HS.out
        rw [if_pos rfl] at hs
        have HS2 := Aside0.mk hs
        have HL : Aside0 ((picked ([b0, b1, b2, b3, b4, b5, b6, b7].take k) (hoodPts.take k)).length ≤ 8) := ⟨Nat.le_trans (picked_le _ _ (by simp; omega)) (by simp; omega)⟩
        clear hs HS
        go_wp2_with (((with_reducible refine gate_builtin (b := .append) (xs := #[.tmp 29, .tmp 31]) rfl ?_); at_builtin; go_must (refine Kd.R_append k121 (w0 := W1) W1.heap.size rfl (.tmp 29) (.tmp 31) 112 121 (.agg #[.int .i64 0, .int .i64 0]) 16 rfl Try.underlying112 info121 rfl (by decide) (by omega) u7 (picked ([b0, b1, b2, b3, b4, b5, b6, b7].take k) (hoodPts.take k)) p [.int .i64 p.f0, .int .i64 p.f1] (fun _ => True) (fun _ => False) rfl rfl ?aP (fun _ hk => hk.elim) (fun _ _ => trivial) ?aO ?aB ?aS ?aL ?_); (case aP => exact k121_mkM _ _ _ _); (case aO => exact HO2.out); (case aB => exact HB2.out); (case aS => exact HB2.out.size); (case aL => have := HL.out; omega); intro v1 w1 ho hb hg hat; rw [← HS2.out] at ho; have n0 := Aside0.mk ho; have n1 := Aside0.mk hb; clear HB2 HO2; clear ho hb hg hat))
        go_roundw
        case rel => exact ⟨k + 1, by omega, by go_num, n0, n1⟩
        case measure => simp [intOf]; omega
    · obtain rfl : k = 8 := by omega
      go_wp2
      go_ret2
      exact ⟨_, rfl, Kd.R_lower HO.out (by have := HZ.out; omega), HB1.out.trans (HB.out.mono (by have := HZ.out; omega))⟩

def hood_Offsets.f (a0 : Int) : Option ((List (S121)) × Int) := if a0 = 1 then some (hoodPts, 0) else if a0 = 2 then some ([⟨0, (-1)⟩, ⟨1, 0⟩, ⟨0, 1⟩, ⟨(-1), 0⟩], 0) else if a0 = 3 then some ([⟨0, (-1)⟩, ⟨1, 0⟩, ⟨1, 1⟩, ⟨0, 1⟩, ⟨(-1), 0⟩, ⟨(-1), (-1)⟩], 0) else some ([], 70)
set_option maxHeartbeats 8000000 in
set_option maxRecDepth 100000 in
theorem hood_Offsets.calls0 (a0 : Int) (h1 : (a0 == 1) = false) (h2 : (a0 == 2) = false) (h3 : (a0 == 3) = false) (w : World) :
    Calls Try.prog 73 #[.int .u8 a0] w fun e w' => e = .returned (.tuple #[.slice none 0 0, .int .i64 70]) ∧ Below w.heap.size w w' := by
  have HIN := Aside0.mk (hood_within0 a0 h1 h2 h3)
  clear h1 h2 h3
  go_enter Try.func73, Try.ntmps73
  go_wp2_with (go_at_call 82; refine (HIN.out _).mono ?_; rintro e w' ⟨rfl, rfl⟩)
  go_ret2
  exact ⟨rfl, ((Below.refl _ _).alloc (Nat.le_refl _) _).alloc (by simp) _⟩
theorem hood_Offsets.calls (a0 : Int) (r1 : List (S121)) (r2 : Int) (w : World) (h : hood_Offsets.f a0 = some (r1, r2)) :
    Calls Try.prog 73 #[.int .u8 a0] w fun e w' => ∃ v0_ : Value, e = .returned (.tuple #[v0_, .int .i64 r2]) ∧ Kd.R k121 121 w' w.heap.size (fun _ => True) v0_ r1 ∧ Below w.heap.size w w' := by
  unfold hood_Offsets.f at h
  by_cases c1 : a0 = 1
  · rw [if_pos c1] at h
    obtain ⟨rfl, rfl⟩ := Prod.mk.inj (Option.some.inj h)
    subst c1
    exact hood_Offsets.calls_of 1 true true true true true true true true hood_within1 w
  rw [if_neg c1] at h
  by_cases c2 : a0 = 2
  · rw [if_pos c2] at h
    obtain ⟨rfl, rfl⟩ := Prod.mk.inj (Option.some.inj h)
    subst c2
    exact hood_Offsets.calls_of 2 true false true false true false true false hood_within2 w
  rw [if_neg c2] at h
  by_cases c3 : a0 = 3
  · rw [if_pos c3] at h
    obtain ⟨rfl, rfl⟩ := Prod.mk.inj (Option.some.inj h)
    subst c3
    exact hood_Offsets.calls_of 3 true false true true true false true true hood_within3 w
  rw [if_neg c3] at h
  obtain ⟨rfl, rfl⟩ := Prod.mk.inj (Option.some.inj h)
  refine (hood_Offsets.calls0 a0 (beq_eq_false_iff_ne.2 c1) (beq_eq_false_iff_ne.2 c2) (beq_eq_false_iff_ne.2 c3) w).mono ?_
  rintro e w' ⟨rfl, hb⟩
  exact ⟨_, rfl, Kd.R_nil _ _ _ _ _, hb⟩

end Go.Proofs.Ytfgonglcmgahkaa.P

/- A call of two cutters that answer alike, whatever they are. -/
import Derived.Test.YtkahgdkpehlanaaCutLib
import Derived.Deep.DeepMust
import Derived.Deep.QuietTactic
import Derived.BigQuiet
import Derived.Test.YtkahgdkpehlanaaPm4
import Derived.Test.YtkahgdkpehlanaaPm8
set_option linter.unusedVariables false
namespace Go.Proofs.Ytkahgdkpehlanaa.L
open Go.RowKit Go.Proofs.Ytkahgdkpehlanaa.P Go.Proofs.YtkahgdkpehlanaaW.PrintWords Go.Proofs.YtkahgdkpehlanaaW.PrintLast Go.Proofs.YtkahgdkpehlanaaW.PrintMore
/-- Blocks that are not of S stay. -/
def StaysB (S : Nat → Prop) (w w' : World) : Prop := w.heap.size ≤ w'.heap.size ∧ ∀ k, k < w.heap.size → ¬ S k → w'.heap[k]? = w.heap[k]?
theorem StaysB.refl (S : Nat → Prop) (w : World) : StaysB S w w := ⟨Nat.le_refl _, fun _ _ _ => rfl⟩
theorem StaysB.trans {S : Nat → Prop} {w w1 w2 : World} (h1 : StaysB S w w1) (h2 : StaysB S w1 w2) : StaysB S w w2 := ⟨Nat.le_trans h1.1 h2.1, fun k hk hs => (h2.2 k (Nat.lt_of_lt_of_le hk h1.1) hs).trans (h1.2 k hk hs)⟩
theorem StaysB.alloc {S : Nat → Prop} {w w1 : World} (h : StaysB S w w1) (o : Obj) : StaysB S w (w1.alloc o) := ⟨by rw [World.size_alloc]; have := h.1; omega, fun k hk hs => (Below.heap_alloc w1 o k (Nat.lt_of_lt_of_le hk h.1)).trans (h.2 k hk hs)⟩
theorem StaysB.keep {S : Nat → Prop} {w w' : World} {g : Nat} (h : KeepBut w w' g none) (hg : S g) : StaysB S w w' := ⟨h.1, fun k hk hs => h.2 k hk (fun e => hs (by rw [e]; exact hg)) (by simp)⟩
/-- One after the other they answer alike. -/
def PairC (I : World → Prop) (S : Nat → Prop) (f g : Nat) (ca ra : Array Value) (T : Value → Prop) : Prop := ∀ w, I w → ∃ (r : Value) (M : World → Prop), T r ∧ Calls Try.prog f ca w (fun e w' => e = .returned r ∧ M w' ∧ StaysB S w w') ∧ ∀ w', M w' → Calls Try.prog g ra w' (fun e w'' => e = .returned r ∧ I w'' ∧ StaysB S w' w'')
def isI (v : Value) : Prop := ∃ r, v = .int .i64 r
def isB (v : Value) : Prop := ∃ b, v = .bool b
def isUB (v : Value) : Prop := ∃ r b, v = .tuple #[.int .u8 r, .bool b]
def isII (v : Value) : Prop := ∃ r f, v = .tuple #[.int .i64 r, .int .i64 f]
def isSI (v : Value) : Prop := ∃ r f, v = .tuple #[.string r, .int .i64 f]
structure Twins (I : World → Prop) (S : Nat → Prop) (c r : Value) : Prop where
  box : ∀ w o, I w → I (w.alloc o)
  old : ∀ w k, I w → S k → k < w.heap.size
  at_ : PairC I S 20 21 #[c] #[r] isI
  done : PairC I S 40 41 #[c] #[r] isB
  peek : PairC I S 42 43 #[c] #[r] isUB
  take : ∀ b, PairC I S 44 45 #[c, .int .u8 b] #[r, .int .u8 b] isB
  blanks : PairC I S 30 46 #[c] #[r] isI
  number : PairC I S 28 47 #[c] #[r] isII
  name : PairC I S 29 48 #[c] #[r] isSI
set_option maxHeartbeats 4000000 in
set_option maxRecDepth 100000 in
theorem one_at {I : World → Prop} {S : Nat → Prop} {c r : Value} (h : Twins I S c r) (K Wh b : Int) (hK : K = 1) (w : World) (hI : I w) :
    Calls Try.prog 19 #[c, r, .agg #[.int .i64 K, .int .i64 Wh, .int .u8 b]] w fun e w' => e = .returned (.bool true) ∧ I w' ∧ StaysB S w w' := by
  subst hK
  obtain ⟨v, M, ⟨rv, rfl⟩, h1, h2⟩ := h.at_ _ (h.box w (.cells #[.int .i64 1, .int .i64 Wh, .int .u8 b] 45) hI)
  have H1 := Aside0.mk h1
  have H2 := Aside0.mk h2
  clear h1 h2 h
  go_enter Try.func19, Try.ntmps19
  go_wp2_with (first | (go_at_call 20; refine H1.out.mono ?_; rintro e w1 ⟨rfl, hm, hs⟩; have HM := Aside0.mk hm; have HS := Aside0.mk hs; clear hm hs) | (go_at_call 21; refine (H2.out _ HM.out).mono ?_; rintro e w2 ⟨rfl, hm, hs⟩; have HN := Aside0.mk hm; have HT := Aside0.mk hs; clear hm hs))
  go_ret
  exact ⟨rfl, HN.out, ((StaysB.refl _ w).alloc _).trans (HS.out.trans HT.out)⟩
set_option maxHeartbeats 4000000 in
set_option maxRecDepth 100000 in
theorem one_done {I : World → Prop} {S : Nat → Prop} {c r : Value} (h : Twins I S c r) (K Wh b : Int) (hK : K = 2) (w : World) (hI : I w) :
    Calls Try.prog 19 #[c, r, .agg #[.int .i64 K, .int .i64 Wh, .int .u8 b]] w fun e w' => e = .returned (.bool true) ∧ I w' ∧ StaysB S w w' := by
  subst hK
  obtain ⟨v, M, ⟨rb, rfl⟩, h1, h2⟩ := h.done _ (h.box w (.cells #[.int .i64 2, .int .i64 Wh, .int .u8 b] 45) hI)
  have H1 := Aside0.mk h1
  have H2 := Aside0.mk h2
  clear h1 h2 h
  go_enter Try.func19, Try.ntmps19
  go_wp2_with (first | (go_at_call 40; refine H1.out.mono ?_; rintro e w1 ⟨rfl, hm, hs⟩; have HM := Aside0.mk hm; have HS := Aside0.mk hs; clear hm hs) | (go_at_call 41; refine (H2.out _ HM.out).mono ?_; rintro e w2 ⟨rfl, hm, hs⟩; have HN := Aside0.mk hm; have HT := Aside0.mk hs; clear hm hs))
  go_ret
  exact ⟨rfl, HN.out, ((StaysB.refl _ w).alloc _).trans (HS.out.trans HT.out)⟩
set_option maxHeartbeats 4000000 in
set_option maxRecDepth 100000 in
theorem one_peek {I : World → Prop} {S : Nat → Prop} {c r : Value} (h : Twins I S c r) (K Wh b : Int) (hK : K = 3) (w : World) (hI : I w) :
    Calls Try.prog 19 #[c, r, .agg #[.int .i64 K, .int .i64 Wh, .int .u8 b]] w fun e w' => e = .returned (.bool true) ∧ I w' ∧ StaysB S w w' := by
  subst hK
  obtain ⟨v, M, ⟨rv, rb, rfl⟩, h1, h2⟩ := h.peek _ (h.box w (.cells #[.int .i64 3, .int .i64 Wh, .int .u8 b] 45) hI)
  have H1 := Aside0.mk h1
  have H2 := Aside0.mk h2
  clear h1 h2 h
  go_enter Try.func19, Try.ntmps19
  go_wp2_with (first | (go_at_call 42; refine H1.out.mono ?_; rintro e w1 ⟨rfl, hm, hs⟩; have HM := Aside0.mk hm; have HS := Aside0.mk hs; clear hm hs) | (go_at_call 43; refine (H2.out _ HM.out).mono ?_; rintro e w2 ⟨rfl, hm, hs⟩; have HN := Aside0.mk hm; have HT := Aside0.mk hs; clear hm hs))
  go_ret
  exact ⟨rfl, HN.out, ((StaysB.refl _ w).alloc _).trans (HS.out.trans HT.out)⟩
set_option maxHeartbeats 4000000 in
set_option maxRecDepth 100000 in
theorem one_take {I : World → Prop} {S : Nat → Prop} {c r : Value} (h : Twins I S c r) (K Wh b : Int) (hK : K = 4) (w : World) (hI : I w) :
    Calls Try.prog 19 #[c, r, .agg #[.int .i64 K, .int .i64 Wh, .int .u8 b]] w fun e w' => e = .returned (.bool true) ∧ I w' ∧ StaysB S w w' := by
  subst hK
  obtain ⟨v, M, ⟨rb, rfl⟩, h1, h2⟩ := h.take b _ (h.box w (.cells #[.int .i64 4, .int .i64 Wh, .int .u8 b] 45) hI)
  have H1 := Aside0.mk h1
  have H2 := Aside0.mk h2
  have HNS : Aside0 (¬ S w.heap.size) := ⟨fun e => absurd (h.old w _ hI e) (Nat.lt_irrefl _)⟩
  clear h1 h2 h
  go_enter Try.func19, Try.ntmps19
  go_wp2_with (first | (go_at_call 44; refine H1.out.mono ?_; rintro e w1 ⟨rfl, hm, hs⟩; have HM := Aside0.mk hm; have HS := Aside0.mk hs; clear hm hs; have hb1 := blk_cell ((HS.out.2 w.heap.size (by simp) HNS.out).trans (blk_new w _)) 2) | (go_at_call 45; refine (H2.out _ HM.out).mono ?_; rintro e w2 ⟨rfl, hm, hs⟩; have HN := Aside0.mk hm; have HT := Aside0.mk hs; clear hm hs))
  go_ret
  exact ⟨rfl, HN.out, ((StaysB.refl _ w).alloc _).trans (HS.out.trans HT.out)⟩
set_option maxHeartbeats 4000000 in
set_option maxRecDepth 100000 in
theorem one_blanks {I : World → Prop} {S : Nat → Prop} {c r : Value} (h : Twins I S c r) (K Wh b : Int) (hK : K = 5) (w : World) (hI : I w) :
    Calls Try.prog 19 #[c, r, .agg #[.int .i64 K, .int .i64 Wh, .int .u8 b]] w fun e w' => e = .returned (.bool true) ∧ I w' ∧ StaysB S w w' := by
  subst hK
  obtain ⟨v, M, ⟨rv, rfl⟩, h1, h2⟩ := h.blanks _ (h.box w (.cells #[.int .i64 5, .int .i64 Wh, .int .u8 b] 45) hI)
  have H1 := Aside0.mk h1
  have H2 := Aside0.mk h2
  clear h1 h2 h
  go_enter Try.func19, Try.ntmps19
  go_wp2_with (first | (go_at_call 30; refine H1.out.mono ?_; rintro e w1 ⟨rfl, hm, hs⟩; have HM := Aside0.mk hm; have HS := Aside0.mk hs; clear hm hs) | (go_at_call 46; refine (H2.out _ HM.out).mono ?_; rintro e w2 ⟨rfl, hm, hs⟩; have HN := Aside0.mk hm; have HT := Aside0.mk hs; clear hm hs))
  go_ret
  exact ⟨rfl, HN.out, ((StaysB.refl _ w).alloc _).trans (HS.out.trans HT.out)⟩
set_option maxHeartbeats 4000000 in
set_option maxRecDepth 100000 in
theorem one_number {I : World → Prop} {S : Nat → Prop} {c r : Value} (h : Twins I S c r) (K Wh b : Int) (hK : K = 6) (w : World) (hI : I w) :
    Calls Try.prog 19 #[c, r, .agg #[.int .i64 K, .int .i64 Wh, .int .u8 b]] w fun e w' => e = .returned (.bool true) ∧ I w' ∧ StaysB S w w' := by
  subst hK
  obtain ⟨v, M, ⟨rv, rf, rfl⟩, h1, h2⟩ := h.number _ (h.box w (.cells #[.int .i64 6, .int .i64 Wh, .int .u8 b] 45) hI)
  have H1 := Aside0.mk h1
  have H2 := Aside0.mk h2
  clear h1 h2 h
  go_enter Try.func19, Try.ntmps19
  go_wp2_with (first | (go_at_call 28; refine H1.out.mono ?_; rintro e w1 ⟨rfl, hm, hs⟩; have HM := Aside0.mk hm; have HS := Aside0.mk hs; clear hm hs) | (go_at_call 47; refine (H2.out _ HM.out).mono ?_; rintro e w2 ⟨rfl, hm, hs⟩; have HN := Aside0.mk hm; have HT := Aside0.mk hs; clear hm hs))
  go_ret
  exact ⟨rfl, HN.out, ((StaysB.refl _ w).alloc _).trans (HS.out.trans HT.out)⟩
set_option maxHeartbeats 4000000 in
set_option maxRecDepth 100000 in
theorem one_name {I : World → Prop} {S : Nat → Prop} {c r : Value} (h : Twins I S c r) (K Wh b : Int) (hK : K = 7) (w : World) (hI : I w) :
    Calls Try.prog 19 #[c, r, .agg #[.int .i64 K, .int .i64 Wh, .int .u8 b]] w fun e w' => e = .returned (.bool true) ∧ I w' ∧ StaysB S w w' := by
  subst hK
  obtain ⟨v, M, ⟨rs, rf, rfl⟩, h1, h2⟩ := h.name _ (h.box w (.cells #[.int .i64 7, .int .i64 Wh, .int .u8 b] 45) hI)
  have H1 := Aside0.mk h1
  have H2 := Aside0.mk h2
  clear h1 h2 h
  go_enter Try.func19, Try.ntmps19
  go_wp2_with (first | (go_at_call 29; refine H1.out.mono ?_; rintro e w1 ⟨rfl, hm, hs⟩; have HM := Aside0.mk hm; have HS := Aside0.mk hs; clear hm hs) | (go_at_call 48; refine (H2.out _ HM.out).mono ?_; rintro e w2 ⟨rfl, hm, hs⟩; have HN := Aside0.mk hm; have HT := Aside0.mk hs; clear hm hs))
  go_ret
  exact ⟨rfl, HN.out, ((StaysB.refl _ w).alloc _).trans (HS.out.trans HT.out)⟩
set_option maxHeartbeats 4000000 in
set_option maxRecDepth 100000 in
theorem one_other {I : World → Prop} {S : Nat → Prop} {c r : Value} (h : Twins I S c r) (K Wh b : Int) (h1 : K ≠ 1) (h2 : K ≠ 2) (h3 : K ≠ 3) (h4 : K ≠ 4) (h5 : K ≠ 5) (h6 : K ≠ 6) (h7 : K ≠ 7) (w : World) (hI : I w) :
    Calls Try.prog 19 #[c, r, .agg #[.int .i64 K, .int .i64 Wh, .int .u8 b]] w fun e w' => e = .returned (.bool true) ∧ I w' ∧ StaysB S w w' := by
  have HI := Aside0.mk (h.box w (.cells #[.int .i64 K, .int .i64 Wh, .int .u8 b] 45) hI)
  have b1 : (K == 1) = false := beq_eq_false_iff_ne.mpr h1
  have b2 : (K == 2) = false := beq_eq_false_iff_ne.mpr h2
  have b3 : (K == 3) = false := beq_eq_false_iff_ne.mpr h3
  have b4 : (K == 4) = false := beq_eq_false_iff_ne.mpr h4
  have b5 : (K == 5) = false := beq_eq_false_iff_ne.mpr h5
  have b6 : (K == 6) = false := beq_eq_false_iff_ne.mpr h6
  have b7 : (K == 7) = false := beq_eq_false_iff_ne.mpr h7
  clear h1 h2 h3 h4 h5 h6 h7 h
  go_enter Try.func19, Try.ntmps19
  go_wp2
  go_ret
  exact ⟨rfl, HI.out, (StaysB.refl _ w).alloc _⟩
/-- A call, whatever is called. -/
theorem one_any {I : World → Prop} {S : Nat → Prop} {c r : Value} (h : Twins I S c r) (K Wh b : Int) (w : World) (hI : I w) :
    Calls Try.prog 19 #[c, r, .agg #[.int .i64 K, .int .i64 Wh, .int .u8 b]] w fun e w' => e = .returned (.bool true) ∧ I w' ∧ StaysB S w w' := by
  by_cases h1 : K = 1
  · exact one_at h K Wh b h1 w hI
  by_cases h2 : K = 2
  · exact one_done h K Wh b h2 w hI
  by_cases h3 : K = 3
  · exact one_peek h K Wh b h3 w hI
  by_cases h4 : K = 4
  · exact one_take h K Wh b h4 w hI
  by_cases h5 : K = 5
  · exact one_blanks h K Wh b h5 w hI
  by_cases h6 : K = 6
  · exact one_number h K Wh b h6 w hI
  by_cases h7 : K = 7
  · exact one_name h K Wh b h7 w hI
  exact one_other h K Wh b h1 h2 h3 h4 h5 h6 h7 w hI
/-- Two cutters of one text, at one place. -/
def Both2 (w0 : World) (gc gr : Nat) (t : ByteArray) (w : World) : Prop := ∃ a : Nat, a ≤ t.size ∧ IsS43 w0 w gc t (a : Int) true ∧ IsS74 w0 w gr t (a : Int) ∧ Below w0.heap.size w0 w
theorem is43_keep {w0 w w' : World} {g g' : Nat} {f0 : ByteArray} {f1 : Int} {f2 : Bool} (h : IsS43 w0 w g f0 f1 f2) (hk : KeepBut w w' g' none) (hne : g ≠ g') : IsS43 w0 w' g f0 f1 f2 := ⟨(hk.2 g (Array.getElem?_eq_some_iff.1 h.1).1 hne (by simp)).trans h.1, h.2⟩
theorem is74_keep {w0 w w' : World} {g g' : Nat} {f0 : ByteArray} {f1 : Int} (h : IsS74 w0 w g f0 f1) (hk : KeepBut w w' g' none) (hne : g ≠ g') : IsS74 w0 w' g f0 f1 := ⟨(hk.2 g (Array.getElem?_eq_some_iff.1 h.1).1 hne (by simp)).trans h.1, h.2⟩
theorem both_ne {w0 w : World} {gc gr : Nat} {t : ByteArray} {a b : Int} {c : Bool} (h1 : IsS43 w0 w gc t a c) (h2 : IsS74 w0 w gr t b) : gc ≠ gr := fun e => by
  have e1 := h1.1
  have e2 := h2.1
  rw [e] at e1
  rw [e1] at e2
  injection e2 with e2
  injection e2 with e3 e4
  exact absurd e4 (by decide)
theorem twins_both (w0 : World) (gc gr : Nat) (t : ByteArray) (ht : t.size ≤ 140737488351232) : Twins (Both2 w0 gc gr t) (fun k => k = gc ∨ k = gr) (.pointer (some ⟨gc, 0, none⟩)) (.pointer (some ⟨gr, 0, none⟩)) where
  box := fun w o ⟨a, ha, h1, h2, h3⟩ => ⟨a, ha, h1.alloc o, h2.alloc o, below_alloc h3 o⟩
  old := fun w k ⟨a, ha, h1, h2, h3⟩ hk => by
    rcases hk with rfl | rfl
    · exact (Array.getElem?_eq_some_iff.1 h1.1).1
    · exact (Array.getElem?_eq_some_iff.1 h2.1).1
  at_ := fun w ⟨a, ha, h1, h2, h3⟩ => by
    obtain ⟨q1, q2⟩ := at_both t a
    refine ⟨_, fun w' => IsS43 w0 w' gc t (a : Int) true ∧ IsS74 w0 w' gr t (a : Int) ∧ Below w0.heap.size w0 w', ⟨(a : Int), rfl⟩, (scan_Cutter_At.calls gc t (a : Int) true _ _ _ _ w0 w h1 h3 q1).mono ?_, fun w' ⟨i1, i2, i3⟩ => (vivariumref03_Cutter_At.calls gr t (a : Int) _ _ _ w0 w' i2 i3 q2).mono ?_⟩
    · rintro e w' ⟨rfl, j1, j2, j3⟩
      exact ⟨rfl, ⟨j1, is74_keep h2 j3 (both_ne h1 h2).symm, j2⟩, StaysB.keep j3 (.inl rfl)⟩
    · rintro e w'' ⟨rfl, j1, j2, j3⟩
      exact ⟨rfl, ⟨a, ha, is43_keep i1 j3 (both_ne i1 i2), j1, j2⟩, StaysB.keep j3 (.inr rfl)⟩
  done := fun w ⟨a, ha, h1, h2, h3⟩ => by
    obtain ⟨q1, q2⟩ := done_both t a
    refine ⟨_, fun w' => IsS43 w0 w' gc t (a : Int) true ∧ IsS74 w0 w' gr t (a : Int) ∧ Below w0.heap.size w0 w', ⟨((a : Int) == (t.size : Int)), rfl⟩, (scan_Cutter_Done.calls gc t (a : Int) true _ _ _ _ w0 w h1 h3 q1).mono ?_, fun w' ⟨i1, i2, i3⟩ => (vivariumref03_Cutter_Done.calls gr t (a : Int) _ _ _ w0 w' i2 i3 q2).mono ?_⟩
    · rintro e w' ⟨rfl, j1, j2, j3⟩
      exact ⟨rfl, ⟨j1, is74_keep h2 j3 (both_ne h1 h2).symm, j2⟩, StaysB.keep j3 (.inl rfl)⟩
    · rintro e w'' ⟨rfl, j1, j2, j3⟩
      exact ⟨rfl, ⟨a, ha, is43_keep i1 j3 (both_ne i1 i2), j1, j2⟩, StaysB.keep j3 (.inr rfl)⟩
  peek := fun w ⟨a, ha, h1, h2, h3⟩ => by
    obtain ⟨r, b, q1, q2, _, _⟩ := peek_both t a ha
    refine ⟨_, fun w' => IsS43 w0 w' gc t (a : Int) true ∧ IsS74 w0 w' gr t (a : Int) ∧ Below w0.heap.size w0 w', ⟨r, b, rfl⟩, (scan_Cutter_Peek.calls gc t (a : Int) true r b _ _ _ w0 w h1 h3 q1).mono ?_, fun w' ⟨i1, i2, i3⟩ => (vivariumref03_Cutter_Peek.calls gr t (a : Int) r b _ _ w0 w' i2 i3 q2).mono ?_⟩
    · rintro e w' ⟨rfl, j1, j2, j3⟩
      exact ⟨rfl, ⟨j1, is74_keep h2 j3 (both_ne h1 h2).symm, j2⟩, StaysB.keep j3 (.inl rfl)⟩
    · rintro e w'' ⟨rfl, j1, j2, j3⟩
      exact ⟨rfl, ⟨a, ha, is43_keep i1 j3 (both_ne i1 i2), j1, j2⟩, StaysB.keep j3 (.inr rfl)⟩
  take := fun c w ⟨a, ha, h1, h2, h3⟩ => by
    obtain ⟨b, a', ha', q1, q2⟩ := take_both t ht a ha c
    refine ⟨_, fun w' => IsS43 w0 w' gc t (a' : Int) true ∧ IsS74 w0 w' gr t (a : Int) ∧ Below w0.heap.size w0 w', ⟨b, rfl⟩, (scan_Cutter_Take.calls gc t (a : Int) true c b _ _ _ w0 w h1 h3 q1).mono ?_, fun w' ⟨i1, i2, i3⟩ => (vivariumref03_Cutter_Take.calls gr t (a : Int) c b _ _ w0 w' i2 i3 q2).mono ?_⟩
    · rintro e w' ⟨rfl, j1, j2, j3⟩
      exact ⟨rfl, ⟨j1, is74_keep h2 j3 (both_ne h1 h2).symm, j2⟩, StaysB.keep j3 (.inl rfl)⟩
    · rintro e w'' ⟨rfl, j1, j2, j3⟩
      exact ⟨rfl, ⟨a', ha', is43_keep i1 j3 (both_ne i1 i2), j1, j2⟩, StaysB.keep j3 (.inr rfl)⟩
  blanks := fun w ⟨a, ha, h1, h2, h3⟩ => by
    obtain ⟨r, a', ha', q1, q2⟩ := blanks_both t ht a ha
    obtain ⟨k, q2⟩ := q2.get
    refine ⟨_, fun w' => IsS43 w0 w' gc t (a' : Int) true ∧ IsS74 w0 w' gr t (a : Int) ∧ Below w0.heap.size w0 w', ⟨r, rfl⟩, (scan_Cutter_Blanks.calls gc t (a : Int) true r _ _ _ w0 w h1 h3 q1).mono ?_, fun w' ⟨i1, i2, i3⟩ => (vivariumref03_Cutter_Blanks.calls k gr t (a : Int) r _ _ w0 w' i2 i3 q2).mono ?_⟩
    · rintro e w' ⟨rfl, j1, j2, j3⟩
      exact ⟨rfl, ⟨j1, is74_keep h2 j3 (both_ne h1 h2).symm, j2⟩, StaysB.keep j3 (.inl rfl)⟩
    · rintro e w'' ⟨rfl, j1, j2, j3⟩
      exact ⟨rfl, ⟨a', ha', is43_keep i1 j3 (both_ne i1 i2), j1, j2⟩, StaysB.keep j3 (.inr rfl)⟩
  number := fun w ⟨a, ha, h1, h2, h3⟩ => by
    obtain ⟨r, f, a', ha', q1, q2⟩ := number_both t ht a ha
    obtain ⟨k1, q1⟩ := q1.get
    obtain ⟨k, q2⟩ := q2.get
    refine ⟨_, fun w' => IsS43 w0 w' gc t (a' : Int) true ∧ IsS74 w0 w' gr t (a : Int) ∧ Below w0.heap.size w0 w', ⟨r, f, rfl⟩, (scan_Cutter_Number.calls k1 gc t (a : Int) true r f _ _ _ w0 w h1 h3 q1).mono ?_, fun w' ⟨i1, i2, i3⟩ => (vivariumref03_Cutter_Number.calls k gr t (a : Int) r f _ _ w0 w' i2 i3 q2).mono ?_⟩
    · rintro e w' ⟨rfl, j1, j2, j3⟩
      exact ⟨rfl, ⟨j1, is74_keep h2 j3 (both_ne h1 h2).symm, j2⟩, StaysB.keep j3 (.inl rfl)⟩
    · rintro e w'' ⟨rfl, j1, j2, j3⟩
      exact ⟨rfl, ⟨a', ha', is43_keep i1 j3 (both_ne i1 i2), j1, j2⟩, StaysB.keep j3 (.inr rfl)⟩
  name := fun w ⟨a, ha, h1, h2, h3⟩ => by
    obtain ⟨r, f, a', ha', q1, q2⟩ := name_both t ht a ha
    obtain ⟨k1, q1⟩ := q1.get
    obtain ⟨k, q2⟩ := q2.get
    refine ⟨_, fun w' => IsS43 w0 w' gc t (a' : Int) true ∧ IsS74 w0 w' gr t (a : Int) ∧ Below w0.heap.size w0 w', ⟨r, f, rfl⟩, (scan_Cutter_Name.calls k1 gc t (a : Int) true r f _ _ _ w0 w h1 h3 q1).mono ?_, fun w' ⟨i1, i2, i3⟩ => (vivariumref03_Cutter_Name.calls k gr t (a : Int) r f _ _ w0 w' i2 i3 q2).mono ?_⟩
    · rintro e w' ⟨rfl, j1, j2, j3⟩
      exact ⟨rfl, ⟨j1, is74_keep h2 j3 (both_ne h1 h2).symm, j2⟩, StaysB.keep j3 (.inl rfl)⟩
    · rintro e w'' ⟨rfl, j1, j2, j3⟩
      exact ⟨rfl, ⟨a', ha', is43_keep i1 j3 (both_ne i1 i2), j1, j2⟩, StaysB.keep j3 (.inr rfl)⟩
end Go.Proofs.Ytkahgdkpehlanaa.L

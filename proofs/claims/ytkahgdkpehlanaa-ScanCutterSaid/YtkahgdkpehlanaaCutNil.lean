/- Cutters that are nil, and a zero one. -/
import Derived.Test.YtkahgdkpehlanaaCutWalk
import Derived.Test.YtkahgdkpehlanaaPm4
set_option linter.unusedVariables false
namespace Go.Proofs.Ytkahgdkpehlanaa.L
open Go.RowKit Go.Proofs.Ytkahgdkpehlanaa.P Go.Proofs.YtkahgdkpehlanaaW.PrintWords Go.Proofs.YtkahgdkpehlanaaW.PrintLast Go.Proofs.YtkahgdkpehlanaaW.PrintMore
set_option maxHeartbeats 4000000
set_option maxRecDepth 100000
theorem nil_there (w : World) : Calls Try.prog 49 #[.pointer none] w fun e w' => e = .returned (.bool false) ∧ Drawn0 w w' := by
  go_enter Try.func49, Try.ntmps49
  go_wp2
  go_ret
  exact ⟨rfl, Drawn0.refl _⟩
theorem nil_rest (w : World) : Calls Try.prog 54 #[.pointer none] w fun e w' => e = .returned (.string ⟨#[]⟩) ∧ Drawn0 w w' := by
  go_enter Try.func54, Try.ntmps54
  go_wp2_with (go_at_call 49; refine (nil_there _).mono ?_; rintro e w' ⟨rfl, ⟨nd, rfl⟩⟩)
  go_ret
  exact ⟨rfl, nd, rfl⟩
theorem nil_at (w : World) : Calls Try.prog 20 #[.pointer none] w fun e w' => e = .returned (.int .i64 0) ∧ Drawn0 w w' := by
  go_enter Try.func20, Try.ntmps20
  go_wp2_with (go_at_call 49; refine (nil_there _).mono ?_; rintro e w' ⟨rfl, ⟨nd, rfl⟩⟩)
  go_ret
  exact ⟨rfl, nd, rfl⟩
theorem nil_done (w : World) : Calls Try.prog 40 #[.pointer none] w fun e w' => e = .returned (.bool false) ∧ Drawn0 w w' := by
  go_enter Try.func40, Try.ntmps40
  go_wp2
  go_quiet (first | (go_at_call 49; (with_reducible refine (nil_there _).mono ?_); rintro e w' ⟨rfl, ⟨nd, rfl⟩⟩; (try first | exact ⟨rfl, _, World.drewN_drewN _ _ _⟩ | exact ⟨rfl, _, Eq.trans (World.drewN_drewN _ _ _) (congrArg (World.drewN _) (Nat.add_assoc _ _ _))⟩)))
  go_wp2
  go_ret
  exact ⟨rfl, by repeat (first | exact Drawn0.refl _ | apply Drawn0.step)⟩
theorem nil_peek (w : World) : Calls Try.prog 42 #[.pointer none] w fun e w' => e = .returned (.tuple #[.int .u8 0, .bool false]) ∧ Drawn0 w w' := by
  go_enter Try.func42, Try.ntmps42
  go_wp2_with (go_at_call 54; refine (nil_rest _).mono ?_; rintro e w' ⟨rfl, ⟨nd, rfl⟩⟩)
  go_ret2
  exact ⟨rfl, nd, rfl⟩
theorem nil_take (b : Int) (w : World) : Calls Try.prog 44 #[.pointer none, .int .u8 b] w fun e w' => e = .returned (.bool false) ∧ Drawn0 w w' := by
  go_enter Try.func44, Try.ntmps44
  go_wp2_with (go_at_call 42; refine (nil_peek _).mono ?_; rintro e w' ⟨rfl, ⟨nd, rfl⟩⟩)
  go_ret
  exact ⟨rfl, nd, rfl⟩
theorem span_nil : scan_span.f ⟨#[]⟩ 57 = some 0 := by decide +kernel
theorem nil_blanks (w : World) : Calls Try.prog 30 #[.pointer none] w fun e w' => e = .returned (.int .i64 0) ∧ Drawn0 w w' := by
  go_enter Try.func30, Try.ntmps30
  go_wp2_with (first | (go_at_call 54; refine (nil_rest _).mono ?_; rintro e w' ⟨rfl, ⟨nd, rfl⟩⟩) | (go_at_call 37; refine (scan_span.calls _ _ 0 _ span_nil).mono ?_; rintro e w' ⟨rfl, ⟨nd2, rfl⟩⟩))
  go_ret
  exact ⟨rfl, _, rfl⟩
theorem nil_number (w : World) : Calls Try.prog 28 #[.pointer none] w fun e w' => e = .returned (.tuple #[.int .i64 0, .int .i64 1]) ∧ Drawn0 w w' := by
  go_enter Try.func28, Try.ntmps28
  go_wp2_with (go_at_call 49; refine (nil_there _).mono ?_; rintro e w' ⟨rfl, ⟨nd, rfl⟩⟩)
  go_ret2
  exact ⟨rfl, nd, rfl⟩
theorem nil_name (w : World) : Calls Try.prog 29 #[.pointer none] w fun e w' => e = .returned (.tuple #[.string ⟨#[]⟩, .int .i64 1]) ∧ Drawn0 w w' := by
  go_enter Try.func29, Try.ntmps29
  go_wp2_with (go_at_call 49; refine (nil_there _).mono ?_; rintro e w' ⟨rfl, ⟨nd, rfl⟩⟩)
  go_ret2
  exact ⟨rfl, nd, rfl⟩
theorem rnil_at (w : World) : Calls Try.prog 21 #[.pointer none] w fun e w' => e = .returned (.int .i64 0) ∧ Drawn0 w w' := by
  go_enter Try.func21, Try.ntmps21
  go_wp2
  go_ret
  exact ⟨rfl, Drawn0.refl _⟩
theorem rnil_done (w : World) : Calls Try.prog 41 #[.pointer none] w fun e w' => e = .returned (.bool false) ∧ Drawn0 w w' := by
  go_enter Try.func41, Try.ntmps41
  go_wp2
  go_quiet (fail)
  go_wp2
  go_ret
  exact ⟨rfl, by repeat (first | exact Drawn0.refl _ | apply Drawn0.step)⟩
theorem rnil_peek (w : World) : Calls Try.prog 43 #[.pointer none] w fun e w' => e = .returned (.tuple #[.int .u8 0, .bool false]) ∧ Drawn0 w w' := by
  go_enter Try.func43, Try.ntmps43
  go_wp2
  go_quiet (fail)
  go_wp2
  go_ret2
  exact ⟨rfl, by repeat (first | exact Drawn0.refl _ | apply Drawn0.step)⟩
theorem rnil_take (b : Int) (w : World) : Calls Try.prog 45 #[.pointer none, .int .u8 b] w fun e w' => e = .returned (.bool false) ∧ Drawn0 w w' := by
  go_enter Try.func45, Try.ntmps45
  go_wp2
  go_quiet (fail)
  go_wp2
  go_ret
  exact ⟨rfl, by repeat (first | exact Drawn0.refl _ | apply Drawn0.step)⟩
theorem rnil_blanks (w : World) : Calls Try.prog 46 #[.pointer none] w fun e w' => e = .returned (.int .i64 0) ∧ Drawn0 w w' := by
  go_enter Try.func46, Try.ntmps46
  go_wp2
  refine wp_loop_rounds 1 ?_
  rw [rounds_succ]
  go_wp2
  go_quiet (fail)
  go_wp2
  go_ret
  exact ⟨rfl, by repeat (first | exact Drawn0.refl _ | apply Drawn0.step)⟩
theorem rnil_number (w : World) : Calls Try.prog 47 #[.pointer none] w fun e w' => e = .returned (.tuple #[.int .i64 0, .int .i64 1]) ∧ Drawn0 w w' := by
  go_enter Try.func47, Try.ntmps47
  go_wp2
  go_ret2
  exact ⟨rfl, Drawn0.refl _⟩
theorem rnil_name (w : World) : Calls Try.prog 48 #[.pointer none] w fun e w' => e = .returned (.tuple #[.string ⟨#[]⟩, .int .i64 1]) ∧ Drawn0 w w' := by
  go_enter Try.func48, Try.ntmps48
  go_wp2
  go_ret2
  exact ⟨rfl, Drawn0.refl _⟩
/-- None and none. -/
def NilI (w0 : World) (w : World) : Prop := Below w0.heap.size w0 w
theorem nilI_drawn {w0 w w' : World} (h : NilI w0 w) (hd : Drawn0 w w') : NilI w0 w' := by obtain ⟨n, rfl⟩ := hd; exact pw_below_drewN h n
theorem stays_drawn {S : Nat → Prop} {w w' : World} (hd : Drawn0 w w') : StaysB S w w' := by obtain ⟨n, rfl⟩ := hd; exact ⟨Nat.le_refl _, fun _ _ _ => rfl⟩
theorem pair_nil (w0 : World) (f g : Nat) (ca ra : Array Value) (v : Value) (T : Value → Prop) (hT : T v) (hf : ∀ w, Calls Try.prog f ca w fun e w' => e = .returned v ∧ Drawn0 w w') (hg : ∀ w, Calls Try.prog g ra w fun e w' => e = .returned v ∧ Drawn0 w w') : PairC (NilI w0) (fun _ => False) f g ca ra T := fun w hI =>
  ⟨v, NilI w0, hT, (hf w).mono (fun e w' ⟨h1, h2⟩ => ⟨h1, nilI_drawn hI h2, stays_drawn h2⟩), fun w' hM => (hg w').mono (fun e w'' ⟨h1, h2⟩ => ⟨h1, nilI_drawn hM h2, stays_drawn h2⟩)⟩
theorem twins_nil (w0 : World) : Twins (NilI w0) (fun _ => False) (.pointer none) (.pointer none) where
  box := fun w o h => below_alloc h o
  old := fun w k h hk => hk.elim
  at_ := pair_nil w0 _ _ _ _ _ _ ⟨_, rfl⟩ nil_at rnil_at
  done := pair_nil w0 _ _ _ _ _ _ ⟨_, rfl⟩ nil_done rnil_done
  peek := pair_nil w0 _ _ _ _ _ _ ⟨_, _, rfl⟩ nil_peek rnil_peek
  take := fun b => pair_nil w0 _ _ _ _ _ _ ⟨_, rfl⟩ (nil_take b) (rnil_take b)
  blanks := pair_nil w0 _ _ _ _ _ _ ⟨_, rfl⟩ nil_blanks rnil_blanks
  number := pair_nil w0 _ _ _ _ _ _ ⟨_, _, rfl⟩ nil_number rnil_number
  name := pair_nil w0 _ _ _ _ _ _ ⟨_, _, rfl⟩ nil_name rnil_name
/-- A zero one and none. -/
def ZeroI (w0 : World) (gz : Nat) (w : World) : Prop := IsS43 w0 w gz ⟨#[]⟩ 0 false ∧ Below w0.heap.size w0 w
theorem pair_zero (w0 : World) (gz : Nat) (f g : Nat) (ca ra : Array Value) (v : Value) (T : Value → Prop) (hT : T v) (hf : ∀ w, ZeroI w0 gz w → Calls Try.prog f ca w fun e w' => e = .returned v ∧ IsS43 w0 w' gz ⟨#[]⟩ 0 false ∧ Below w0.heap.size w0 w' ∧ KeepBut w w' gz none) (hg : ∀ w, Calls Try.prog g ra w fun e w' => e = .returned v ∧ Drawn0 w w') : PairC (ZeroI w0 gz) (fun k => k = gz) f g ca ra T := fun w hI =>
  ⟨v, ZeroI w0 gz, hT, (hf w hI).mono (fun e w' ⟨h1, h2, h3, h4⟩ => ⟨h1, ⟨h2, h3⟩, StaysB.keep h4 rfl⟩), fun w' hM => (hg w').mono (fun e w'' ⟨h1, h2⟩ => by obtain ⟨n, rfl⟩ := h2; exact ⟨h1, ⟨hM.1.drewN n, pw_below_drewN hM.2 n⟩, ⟨Nat.le_refl _, fun _ _ _ => rfl⟩⟩)⟩
theorem zero_peek : scan_Cutter_Peek.f ⟨#[]⟩ 0 false = some (0, false, ⟨#[]⟩, 0, false) := by decide +kernel
theorem zero_take (b : Int) : scan_Cutter_Take.f ⟨#[]⟩ 0 false b = some (false, ⟨#[]⟩, 0, false) := by
  unfold scan_Cutter_Take.f
  rw [zero_peek]
  rfl
theorem twins_zero (w0 : World) (gz : Nat) : Twins (ZeroI w0 gz) (fun k => k = gz) (.pointer (some ⟨gz, 0, none⟩)) (.pointer none) where
  box := fun w o h => ⟨h.1.alloc o, below_alloc h.2 o⟩
  old := fun w k h hk => by rw [hk]; exact (Array.getElem?_eq_some_iff.1 h.1.1).1
  at_ := pair_zero w0 gz _ _ _ _ _ _ ⟨_, rfl⟩ (fun w h => scan_Cutter_At.calls gz ⟨#[]⟩ 0 false 0 _ _ _ w0 w h.1 h.2 rfl) rnil_at
  done := pair_zero w0 gz _ _ _ _ _ _ ⟨_, rfl⟩ (fun w h => scan_Cutter_Done.calls gz ⟨#[]⟩ 0 false false _ _ _ w0 w h.1 h.2 rfl) rnil_done
  peek := pair_zero w0 gz _ _ _ _ _ _ ⟨_, _, rfl⟩ (fun w h => scan_Cutter_Peek.calls gz ⟨#[]⟩ 0 false 0 false _ _ _ w0 w h.1 h.2 (by decide +kernel)) rnil_peek
  take := fun b => pair_zero w0 gz _ _ _ _ _ _ ⟨_, rfl⟩ (fun w h => scan_Cutter_Take.calls gz ⟨#[]⟩ 0 false b false _ _ _ w0 w h.1 h.2 (zero_take b)) (rnil_take b)
  blanks := pair_zero w0 gz _ _ _ _ _ _ ⟨_, rfl⟩ (fun w h => scan_Cutter_Blanks.calls gz ⟨#[]⟩ 0 false 0 _ _ _ w0 w h.1 h.2 (by decide +kernel)) rnil_blanks
  number := pair_zero w0 gz _ _ _ _ _ _ ⟨_, _, rfl⟩ (fun w h => scan_Cutter_Number.calls 5 gz ⟨#[]⟩ 0 false 0 1 _ _ _ w0 w h.1 h.2 rfl) rnil_number
  name := pair_zero w0 gz _ _ _ _ _ _ ⟨_, _, rfl⟩ (fun w h => scan_Cutter_Name.calls 5 gz ⟨#[]⟩ 0 false ⟨#[]⟩ 1 _ _ _ w0 w h.1 h.2 rfl) rnil_name
end Go.Proofs.Ytkahgdkpehlanaa.L

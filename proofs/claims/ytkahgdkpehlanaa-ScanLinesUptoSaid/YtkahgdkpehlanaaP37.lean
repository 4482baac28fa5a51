-- Written by a program of this session (wip/tools/mk.py) that runs the kit's printer.
import Derived.Test.YtkahgdkpehlanaaP0
import Derived.Test.YtkahgdkpehlanaaPm0
import Derived.Deep.DeepMust
import Derived.Test.YtkahgdkpehlanaaPureLib
namespace Go.Proofs.Ytkahgdkpehlanaa.P
open Go.RowKit Go.Proofs.YtkahgdkpehlanaaW.PrintWords Go.Proofs.YtkahgdkpehlanaaW.PrintLast Go.Proofs.YtkahgdkpehlanaaW.PrintMore
attribute [local go_sem] max2_int min2_int max_two min_two max_three min_three max_four min_four   -- for this text's walks alone
set_option linter.unusedVariables false
set_option linter.unusedSimpArgs false

/-! ### scan_span: function 37 -/
-- EXT Derived.Deep.DeepMust Derived.Test.@NPureLib Derived.Test.@NP@F{vivarium/scan.isDigit} Derived.Test.@NP@F{vivarium/scan.isBlank} Derived.Test.@NP@F{vivarium/scan.inName}
open Go.Proofs.Ytkahgdkpehlanaa.L
/-- How many bytes from a place on are such. -/
def spnO (p : Int → Option Bool) (s : ByteArray) : Nat → Nat → Option Nat
  | 0, _ => none
  | n + 1, i => if i < s.size then (p (bt s (i : Int))).bind fun t => if t = true then spnO p s n (i + 1) else some i else some i
theorem spnO_succ (p : Int → Option Bool) (s : ByteArray) (n i : Nat) : spnO p s (n + 1) i = if i < s.size then (p (bt s (i : Int))).bind fun t => if t = true then spnO p s n (i + 1) else some i else some i := rfl
theorem drawn_then {w w1 w2 : World} (h : Drawn0 w w1) (k : Drawn0 w1 w2) : Drawn0 w w2 := by
  obtain ⟨⟨m, rfl⟩⟩ := k
  exact h.step m
set_option maxHeartbeats 8000000 in
set_option maxRecDepth 100000 in
theorem span_isDigit (s : ByteArray) (hs : s.size ≤ 9223372036854775806) (r : Nat) (w : World) (h : spnO scan_isDigit.f s (s.size + 1) 0 = some r) :
    Calls Try.prog 37 #[.string s, .func (.func 38) #[] #[]] w fun e w' => e = .returned (.int .i64 r) ∧ Drawn0 w w' := by
  have H := Aside0.mk h
  clear h
  go_enter Try.func37, Try.ntmps37
  go_wp2
  go_loopg [5] (s.size + 1) (fun k t5 wi => ∃ i : Nat, i ≤ s.size ∧ t5 = .int .i64 i ∧ Aside0 (spnO scan_isDigit.f s k i = some r) ∧ Aside0 (Drawn0 w wi))
  case atStart => exact ⟨0, by omega, rfl, H, ⟨Drawn0.refl _⟩⟩
  case round =>
    clear H
    obtain ⟨i, hi, rfl, HA, HD⟩ := hrel
    have i0 : (0 : Int) ≤ (i : Int) := by omega
    cases gk with
    | zero => exact absurd HA.out (by simp [spnO])
    | succ gk =>
      have h := HA.out
      rw [spnO_succ] at h
      by_cases d1 : i < s.size
      · rw [if_pos d1] at h
        have d1' : (i : Int) < (s.size : Int) := by omega
        have hbt : ∀ hh : i < s.size, ((s[i]'hh).toNat : Int) = bt s (i : Int) := bt_at s (i : Int)
        have hbr := bt_range s (i : Int)
        obtain ⟨b, hb⟩ : ∃ b, bt s (i : Int) = b := ⟨_, rfl⟩
        rw [hb] at hbt hbr h
        clear hb
        obtain ⟨t, ht, h⟩ := Option.bind_eq_some_iff.mp h
        have HT := Aside0.mk ht
        clear ht
        cases t with
        | true =>
          rw [if_pos rfl] at h
          have HN := Aside0.mk h
          clear h HA
          go_wp2_with (go_at_call 38; go_must (refine (scan_isDigit.calls b true _ HT.out).mono ?_); rintro e w2 ⟨rfl, hd⟩; have HD2 := Aside0.mk (drawn_then HD.out hd); clear hd)
          go_roundg gk
          case measure => exact Nat.lt_succ_self _
          case rel => exact ⟨i + 1, by omega, by go_num, HN, HD2⟩
        | false =>
          rw [if_neg (by decide)] at h
          obtain rfl := Option.some.inj h
          clear HA
          go_wp2_with (go_at_call 38; go_must (refine (scan_isDigit.calls b false _ HT.out).mono ?_); rintro e w2 ⟨rfl, hd⟩; have HD2 := Aside0.mk (drawn_then HD.out hd); clear hd)
          go_ret
          exact ⟨rfl, HD2.out⟩
      · rw [if_neg d1] at h
        obtain rfl := Option.some.inj h
        have d1' : ¬ (i : Int) < (s.size : Int) := by omega
        clear HA
        go_wp2
        go_ret
        exact ⟨rfl, HD.out⟩
set_option maxHeartbeats 8000000 in
set_option maxRecDepth 100000 in
theorem span_isBlank (s : ByteArray) (hs : s.size ≤ 9223372036854775806) (r : Nat) (w : World) (h : spnO scan_isBlank.f s (s.size + 1) 0 = some r) :
    Calls Try.prog 37 #[.string s, .func (.func 57) #[] #[]] w fun e w' => e = .returned (.int .i64 r) ∧ Drawn0 w w' := by
  have H := Aside0.mk h
  clear h
  go_enter Try.func37, Try.ntmps37
  go_wp2
  go_loopg [5] (s.size + 1) (fun k t5 wi => ∃ i : Nat, i ≤ s.size ∧ t5 = .int .i64 i ∧ Aside0 (spnO scan_isBlank.f s k i = some r) ∧ Aside0 (Drawn0 w wi))
  case atStart => exact ⟨0, by omega, rfl, H, ⟨Drawn0.refl _⟩⟩
  case round =>
    clear H
    obtain ⟨i, hi, rfl, HA, HD⟩ := hrel
    have i0 : (0 : Int) ≤ (i : Int) := by omega
    cases gk with
    | zero => exact absurd HA.out (by simp [spnO])
    | succ gk =>
      have h := HA.out
      rw [spnO_succ] at h
      by_cases d1 : i < s.size
      · rw [if_pos d1] at h
        have d1' : (i : Int) < (s.size : Int) := by omega
        have hbt : ∀ hh : i < s.size, ((s[i]'hh).toNat : Int) = bt s (i : Int) := bt_at s (i : Int)
        have hbr := bt_range s (i : Int)
        obtain ⟨b, hb⟩ : ∃ b, bt s (i : Int) = b := ⟨_, rfl⟩
        rw [hb] at hbt hbr h
        clear hb
        obtain ⟨t, ht, h⟩ := Option.bind_eq_some_iff.mp h
        have HT := Aside0.mk ht
        clear ht
        cases t with
        | true =>
          rw [if_pos rfl] at h
          have HN := Aside0.mk h
          clear h HA
          go_wp2_with (go_at_call 57; go_must (refine (scan_isBlank.calls b true _ HT.out).mono ?_); rintro e w2 ⟨rfl, hd⟩; have HD2 := Aside0.mk (drawn_then HD.out hd); clear hd)
          go_roundg gk
          case measure => exact Nat.lt_succ_self _
          case rel => exact ⟨i + 1, by omega, by go_num, HN, HD2⟩
        | false =>
          rw [if_neg (by decide)] at h
          obtain rfl := Option.some.inj h
          clear HA
          go_wp2_with (go_at_call 57; go_must (refine (scan_isBlank.calls b false _ HT.out).mono ?_); rintro e w2 ⟨rfl, hd⟩; have HD2 := Aside0.mk (drawn_then HD.out hd); clear hd)
          go_ret
          exact ⟨rfl, HD2.out⟩
      · rw [if_neg d1] at h
        obtain rfl := Option.some.inj h
        have d1' : ¬ (i : Int) < (s.size : Int) := by omega
        clear HA
        go_wp2
        go_ret
        exact ⟨rfl, HD.out⟩
set_option maxHeartbeats 8000000 in
set_option maxRecDepth 100000 in
theorem span_inName (s : ByteArray) (hs : s.size ≤ 9223372036854775806) (r : Nat) (w : World) (h : spnO scan_inName.f s (s.size + 1) 0 = some r) :
    Calls Try.prog 37 #[.string s, .func (.func 56) #[] #[]] w fun e w' => e = .returned (.int .i64 r) ∧ Drawn0 w w' := by
  have H := Aside0.mk h
  clear h
  go_enter Try.func37, Try.ntmps37
  go_wp2
  go_loopg [5] (s.size + 1) (fun k t5 wi => ∃ i : Nat, i ≤ s.size ∧ t5 = .int .i64 i ∧ Aside0 (spnO scan_inName.f s k i = some r) ∧ Aside0 (Drawn0 w wi))
  case atStart => exact ⟨0, by omega, rfl, H, ⟨Drawn0.refl _⟩⟩
  case round =>
    clear H
    obtain ⟨i, hi, rfl, HA, HD⟩ := hrel
    have i0 : (0 : Int) ≤ (i : Int) := by omega
    cases gk with
    | zero => exact absurd HA.out (by simp [spnO])
    | succ gk =>
      have h := HA.out
      rw [spnO_succ] at h
      by_cases d1 : i < s.size
      · rw [if_pos d1] at h
        have d1' : (i : Int) < (s.size : Int) := by omega
        have hbt : ∀ hh : i < s.size, ((s[i]'hh).toNat : Int) = bt s (i : Int) := bt_at s (i : Int)
        have hbr := bt_range s (i : Int)
        obtain ⟨b, hb⟩ : ∃ b, bt s (i : Int) = b := ⟨_, rfl⟩
        rw [hb] at hbt hbr h
        clear hb
        obtain ⟨t, ht, h⟩ := Option.bind_eq_some_iff.mp h
        have HT := Aside0.mk ht
        clear ht
        cases t with
        | true =>
          rw [if_pos rfl] at h
          have HN := Aside0.mk h
          clear h HA
          go_wp2_with (go_at_call 56; go_must (refine (scan_inName.calls b true _ HT.out).mono ?_); rintro e w2 ⟨rfl, hd⟩; have HD2 := Aside0.mk (drawn_then HD.out hd); clear hd)
          go_roundg gk
          case measure => exact Nat.lt_succ_self _
          case rel => exact ⟨i + 1, by omega, by go_num, HN, HD2⟩
        | false =>
          rw [if_neg (by decide)] at h
          obtain rfl := Option.some.inj h
          clear HA
          go_wp2_with (go_at_call 56; go_must (refine (scan_inName.calls b false _ HT.out).mono ?_); rintro e w2 ⟨rfl, hd⟩; have HD2 := Aside0.mk (drawn_then HD.out hd); clear hd)
          go_ret
          exact ⟨rfl, HD2.out⟩
      · rw [if_neg d1] at h
        obtain rfl := Option.some.inj h
        have d1' : ¬ (i : Int) < (s.size : Int) := by omega
        clear HA
        go_wp2
        go_ret
        exact ⟨rfl, HD.out⟩
def scan_span.f (s : ByteArray) (F : Nat) : Option Int := if s.size ≤ 9223372036854775806 then (if F = 38 then (spnO scan_isDigit.f s (s.size + 1) 0).map (fun n : Nat => (n : Int)) else if F = 57 then (spnO scan_isBlank.f s (s.size + 1) 0).map (fun n : Nat => (n : Int)) else if F = 56 then (spnO scan_inName.f s (s.size + 1) 0).map (fun n : Nat => (n : Int)) else none) else none
theorem scan_span.calls (s : ByteArray) (F : Nat) (r : Int) (w : World) (h : scan_span.f s F = some r) :
    Calls Try.prog 37 #[.string s, .func (.func F) #[] #[]] w fun e w' => e = .returned (.int .i64 r) ∧ Drawn0 w w' := by
  unfold scan_span.f at h
  by_cases c0 : s.size ≤ 9223372036854775806
  · rw [if_pos c0] at h
    by_cases c1 : F = 38
    · rw [if_pos c1] at h
      obtain ⟨n, hn, rfl⟩ := Option.map_eq_some_iff.1 h
      subst c1
      exact span_isDigit s c0 n w hn
    · rw [if_neg c1] at h
      by_cases c2 : F = 57
      · rw [if_pos c2] at h
        obtain ⟨n, hn, rfl⟩ := Option.map_eq_some_iff.1 h
        subst c2
        exact span_isBlank s c0 n w hn
      · rw [if_neg c2] at h
        by_cases c3 : F = 56
        · rw [if_pos c3] at h
          obtain ⟨n, hn, rfl⟩ := Option.map_eq_some_iff.1 h
          subst c3
          exact span_inName s c0 n w hn
        · rw [if_neg c3] at h; cases h
  · rw [if_neg c0] at h; cases h

end Go.Proofs.Ytkahgdkpehlanaa.P

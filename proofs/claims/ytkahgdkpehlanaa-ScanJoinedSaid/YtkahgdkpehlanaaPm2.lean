-- Written by a program of this session (wip/tools/mk.py) that runs the kit's printer; several functions' texts in one.
import Derived.Test.YtkahgdkpehlanaaP0
import Derived.Test.YtkahgdkpehlanaaPm0
import Derived.Test.YtkahgdkpehlanaaPm1
import Derived.Deep.DeepMust
import Derived.Test.YtkahgdkpehlanaaPureLib
namespace Go.Proofs.Ytkahgdkpehlanaa.P
open Go.RowKit Go.Proofs.YtkahgdkpehlanaaW.PrintWords Go.Proofs.YtkahgdkpehlanaaW.PrintLast Go.Proofs.YtkahgdkpehlanaaW.PrintMore
attribute [local go_sem] max2_int min2_int max_two min_two   -- for this text's walks alone
set_option linter.unusedVariables false
set_option linter.unusedSimpArgs false

/-! ### scan_span: function 37 -/
-- EXT Derived.Deep.DeepMust Derived.Test.@NPureLib Derived.Test.@NP@F{vivarium/scan.isDigit} Derived.Test.@NP@F{vivarium/scan.isBlank} Derived.Test.@NP@F{vivarium/scan.inName}
open Go.Proofs.Ytkahgdkpehlanaa.L
/-- How many bytes from a place on are such. -/
def spnO (p : Int → Option Bool) (s : ByteArray) : Nat → Nat → Option Nat
 | 0, _ => none
 | n + 1, i => if i < s.size then (p (bt s (i : Int))).bind fun t => if t = true then spnO p s n (i + 1) else some i else some i
theorem spnO_succ (p : Int → Option Bool) (s : ByteArray) (n i : Nat) : spnO p s (n + 1) i = if i < s.size then (p (bt s (i : Int))).bind fun t => if t = true then spnO p s n (i + 1) else some i else some i := rfl
theorem drawn_then {w w1 w2 : World} (h : Drawn0 w w1) (k : Drawn0 w1 w2) : Drawn0 w w2 := by
 obtain ⟨⟨m, rfl⟩⟩ := k
 exact h.step m
set_option maxHeartbeats 8000000 in
set_option maxRecDepth 100000 in
theorem span_isDigit (s : ByteArray) (hs : s.size ≤ 9223372036854775806) (r : Nat) (w : World) (h : spnO scan_isDigit.f s (s.size + 1) 0 = some r) :
  Calls Try.prog 37 #[.string s, .func (.func 38) #[] #[]] w fun e w' => e = .returned (.int .i64 r) ∧ Drawn0 w w' := by
 have H := Aside0.mk h
 clear h
 go_enter Try.func37, Try.ntmps37
 go_wp2
 go_loopg [5] (s.size + 1) (fun k t5 wi => ∃ i : Nat, i ≤ s.size ∧ t5 = .int .i64 i ∧ Aside0 (spnO scan_isDigit.f s k i = some r) ∧ Aside0 (Drawn0 w wi))
 case atStart => exact ⟨0, by omega, rfl, H, ⟨Drawn0.refl _⟩⟩
 case round =>
  clear H
  obtain ⟨i, hi, rfl, HA, HD⟩ := hrel
  have i0 : (0 : Int) ≤ (i : Int) := by omega
  cases gk with
  | zero => exact absurd HA.out (by simp [spnO])
  | succ gk =>
   have h := HA.out
   rw [spnO_succ] at h
   by_cases d1 : i < s.size
   ·rw [if_pos d1] at h
    have d1' : (i : Int) < (s.size : Int) := by omega
    have hbt : ∀ hh : i < s.size, ((s[i]'hh).toNat : Int) = bt s (i : Int) := bt_at s (i : Int)
    have hbr := bt_range s (i : Int)
    obtain ⟨b, hb⟩ : ∃ b, bt s (i : Int) = b := ⟨_, rfl⟩
    rw [hb] at hbt hbr h
    clear hb
    obtain ⟨t, ht, h⟩ := Option.bind_eq_some_iff.mp h
    have HT := Aside0.mk ht
    clear ht
    cases t with
    | true =>
     rw [if_pos rfl] at h
     have HN := Aside0.mk h
     clear h HA
     go_wp2_with (go_at_call 38; go_must (refine (scan_isDigit.calls b true _ HT.out).mono ?_); rintro e w2 ⟨rfl, hd⟩; have HD2 := Aside0.mk (drawn_then HD.out hd); clear hd)
     go_roundg gk
     case measure => exact Nat.lt_succ_self _
     case rel => exact ⟨i + 1, by omega, by go_num, HN, HD2⟩
    | false =>
     rw [if_neg (by decide)] at h
     obtain rfl := Option.some.inj h
     clear HA
     go_wp2_with (go_at_call 38; go_must (refine (scan_isDigit.calls b false _ HT.out).mono ?_); rintro e w2 ⟨rfl, hd⟩; have HD2 := Aside0.mk (drawn_then HD.out hd); clear hd)
     go_ret
     exact ⟨rfl, HD2.out⟩
   ·rw [if_neg d1] at h
    obtain rfl := Option.some.inj h
    have d1' : ¬ (i : Int) < (s.size : Int) := by omega
    clear HA
    go_wp2
    go_ret
    exact ⟨rfl, HD.out⟩
set_option maxHeartbeats 8000000 in
set_option maxRecDepth 100000 in
theorem span_isBlank (s : ByteArray) (hs : s.size ≤ 9223372036854775806) (r : Nat) (w : World) (h : spnO scan_isBlank.f s (s.size + 1) 0 = some r) :
  Calls Try.prog 37 #[.string s, .func (.func 57) #[] #[]] w fun e w' => e = .returned (.int .i64 r) ∧ Drawn0 w w' := by
 have H := Aside0.mk h
 clear h
 go_enter Try.func37, Try.ntmps37
 go_wp2
 go_loopg [5] (s.size + 1) (fun k t5 wi => ∃ i : Nat, i ≤ s.size ∧ t5 = .int .i64 i ∧ Aside0 (spnO scan_isBlank.f s k i = some r) ∧ Aside0 (Drawn0 w wi))
 case atStart => exact ⟨0, by omega, rfl, H, ⟨Drawn0.refl _⟩⟩
 case round =>
  clear H
  obtain ⟨i, hi, rfl, HA, HD⟩ := hrel
  have i0 : (0 : Int) ≤ (i : Int) := by omega
  cases gk with
  | zero => exact absurd HA.out (by simp [spnO])
  | succ gk =>
   have h := HA.out
   rw [spnO_succ] at h
   by_cases d1 : i < s.size
   ·rw [if_pos d1] at h
    have d1' : (i : Int) < (s.size : Int) := by omega
    have hbt : ∀ hh : i < s.size, ((s[i]'hh).toNat : Int) = bt s (i : Int) := bt_at s (i : Int)
    have hbr := bt_range s (i : Int)
    obtain ⟨b, hb⟩ : ∃ b, bt s (i : Int) = b := ⟨_, rfl⟩
    rw [hb] at hbt hbr h
    clear hb
    obtain ⟨t, ht, h⟩ := Option.bind_eq_some_iff.mp h
    have HT := Aside0.mk ht
    clear ht
    cases t with
    | true =>
     rw [if_pos rfl] at h
     have HN := Aside0.mk h
     clear h HA
     go_wp2_with (go_at_call 57; go_must (refine (scan_isBlank.calls b true _ HT.out).mono ?_); rintro e w2 ⟨rfl, hd⟩; have HD2 := Aside0.mk (drawn_then HD.out hd); clear hd)
     go_roundg gk
     case measure => exact Nat.lt_succ_self _
     case rel => exact ⟨i + 1, by omega, by go_num, HN, HD2⟩
    | false =>
     rw [if_neg (by decide)] at h
     obtain rfl := Option.some.inj h
     clear HA
     go_wp2_with (go_at_call 57; go_must (refine (scan_isBlank.calls b false _ HT.out).mono ?_); rintro e w2 ⟨rfl, hd⟩; have HD2 := Aside0.mk (drawn_then HD.out hd); clear hd)
     go_ret
     exact ⟨rfl, HD2.out⟩
   ·rw [if_neg d1] at h
    obtain rfl := Option.some.inj h
    have d1' : ¬ (i : Int) < (s.size : Int) := by omega
    clear HA
    go_wp2
    go_ret
    exact ⟨rfl, HD.out⟩
set_option maxHeartbeats 8000000 in
set_option maxRecDepth 100000 in
theorem span_inName (s : ByteArray) (hs : s.size ≤ 9223372036854775806) (r : Nat) (w : World) (h : spnO scan_inName.f s (s.size + 1) 0 = some r) :
  Calls Try.prog 37 #[.string s, .func (.func 56) #[] #[]] w fun e w' => e = .returned (.int .i64 r) ∧ Drawn0 w w' := by
 have H := Aside0.mk h
 clear h
 go_enter Try.func37, Try.ntmps37
 go_wp2
 go_loopg [5] (s.size + 1) (fun k t5 wi => ∃ i : Nat, i ≤ s.size ∧ t5 = .int .i64 i ∧ Aside0 (spnO scan_inName.f s k i = some r) ∧ Aside0 (Drawn0 w wi))
 case atStart => exact ⟨0, by omega, rfl, H, ⟨Drawn0.refl _⟩⟩
 case round =>
  clear H
  obtain ⟨i, hi, rfl, HA, HD⟩ := hrel
  have i0 : (0 : Int) ≤ (i : Int) := by omega
  cases gk with
  | zero => exact absurd HA.out (by simp [spnO])
  | succ gk =>
   have h := HA.out
   rw [spnO_succ] at h
   by_cases d1 : i < s.size
   ·rw [if_pos d1] at h
    have d1' : (i : Int) < (s.size : Int) := by omega
    have hbt : ∀ hh : i < s.size, ((s[i]'hh).toNat : Int) = bt s (i : Int) := bt_at s (i : Int)
    have hbr := bt_range s (i : Int)
    obtain ⟨b, hb⟩ : ∃ b, bt s (i : Int) = b := ⟨_, rfl⟩
    rw [hb] at hbt hbr h
    clear hb
    obtain ⟨t, ht, h⟩ := Option.bind_eq_some_iff.mp h
    have HT := Aside0.mk ht
    clear ht
    cases t with
    | true =>
     rw [if_pos rfl] at h
     have HN := Aside0.mk h
     clear h HA
     go_wp2_with (go_at_call 56; go_must (refine (scan_inName.calls b true _ HT.out).mono ?_); rintro e w2 ⟨rfl, hd⟩; have HD2 := Aside0.mk (drawn_then HD.out hd); clear hd)
     go_roundg gk
     case measure => exact Nat.lt_succ_self _
     case rel => exact ⟨i + 1, by omega, by go_num, HN, HD2⟩
    | false =>
     rw [if_neg (by decide)] at h
     obtain rfl := Option.some.inj h
     clear HA
     go_wp2_with (go_at_call 56; go_must (refine (scan_inName.calls b false _ HT.out).mono ?_); rintro e w2 ⟨rfl, hd⟩; have HD2 := Aside0.mk (drawn_then HD.out hd); clear hd)
     go_ret
     exact ⟨rfl, HD2.out⟩
   ·rw [if_neg d1] at h
    obtain rfl := Option.some.inj h
    have d1' : ¬ (i : Int) < (s.size : Int) := by omega
    clear HA
    go_wp2
    go_ret
    exact ⟨rfl, HD.out⟩
def scan_span.f (s : ByteArray) (F : Nat) : Option Int := if s.size ≤ 9223372036854775806 then (
 if F = 38 then (spnO scan_isDigit.f s (s.size + 1) 0).map (fun n : Nat => (n : Int)) else
 if F = 57 then (spnO scan_isBlank.f s (s.size + 1) 0).map (fun n : Nat => (n : Int)) else
 if F = 56 then (spnO scan_inName.f s (s.size + 1) 0).map (fun n : Nat => (n : Int)) else
 none) else none
theorem scan_span.calls (s : ByteArray) (F : Nat) (r : Int) (w : World) (h : scan_span.f s F = some r) :
  Calls Try.prog 37 #[.string s, .func (.func F) #[] #[]] w fun e w' => e = .returned (.int .i64 r) ∧ Drawn0 w w' := by
 unfold scan_span.f at h
 by_cases c0 : s.size ≤ 9223372036854775806
 ·rw [if_pos c0] at h
  by_cases c1 : F = 38
  ·rw [if_pos c1] at h
   obtain ⟨n, hn, rfl⟩ := Option.map_eq_some_iff.1 h
   subst c1
   exact span_isDigit s c0 n w hn
  rw [if_neg c1] at h
  by_cases c2 : F = 57
  ·rw [if_pos c2] at h
   obtain ⟨n, hn, rfl⟩ := Option.map_eq_some_iff.1 h
   subst c2
   exact span_isBlank s c0 n w hn
  rw [if_neg c2] at h
  by_cases c3 : F = 56
  ·rw [if_pos c3] at h
   obtain ⟨n, hn, rfl⟩ := Option.map_eq_some_iff.1 h
   subst c3
   exact span_inName s c0 n w hn
  rw [if_neg c3] at h
  cases h
 ·rw [if_neg c0] at h; cases h

end Go.Proofs.Ytkahgdkpehlanaa.P

namespace Go.Proofs.Ytkahgdkpehlanaa.P
open Go.RowKit Go.Proofs.YtkahgdkpehlanaaW.PrintWords Go.Proofs.YtkahgdkpehlanaaW.PrintLast Go.Proofs.YtkahgdkpehlanaaW.PrintMore
attribute [local go_sem] max2_int min2_int max_two min_two   -- for this text's walks alone
set_option linter.unusedVariables false
set_option linter.unusedSimpArgs false

/-! ### whole_Mul_int: function 60 -/
def whole_Mul_int.j0 : Nat → Int → Int → Bool → Option (Int × Bool)
 | 0, _, _, _ => none
 | k + 1, x0, x1, x12 => if x12 = true then (some (0, true)) else (if x1 = 0 then (none) else (if (wrap64 (Int.tdiv (wrap64 (x0 * x1)) x1)) = x0 then (if x0 = 0 then (none) else (if (wrap64 (Int.tdiv (wrap64 (x0 * x1)) x0)) = x1 then (some (wrap64 (x0 * x1), true)) else (some (0, false)))) else (some (0, false))))
def whole_Mul_int.f (k : Nat) (a0 : Int) (a1 : Int) : Option (Int × Bool) := if a0 = 0 then (whole_Mul_int.j0 k a0 a1 true) else (whole_Mul_int.j0 k a0 a1 (a1 == 0))
theorem whole_Mul_int.mono_l : ∀ k, (∀ y0 y1 y2, LeO (whole_Mul_int.j0 k y0 y1 y2) (whole_Mul_int.j0 (k + 1) y0 y1 y2))
 | 0 => fun _ _ _ r h => by simp [whole_Mul_int.j0] at h
 | k + 1 => by
  have ih0 := whole_Mul_int.mono_l k
  ·intro y0 y1 y2
   unfold whole_Mul_int.j0
   repeat' first
   | (with_reducible exact ih0 _ _ _)
   | (with_reducible exact LeO.refl _)
   | (with_reducible exact LeO.none _)
   | (with_reducible refine LeO.ite ?_ ?_)
   | (with_reducible refine LeO.bind ?_ (fun _ => ?_))
   | exact ih0 _ _ _
   | exact LeO.none _
   | refine LeO.ite ?_ ?_
   | refine LeO.bind ?_ (fun _ => ?_)
theorem whole_Mul_int.mono : ∀ a0 a1 k, LeO (whole_Mul_int.f k a0 a1) (whole_Mul_int.f (k + 1) a0 a1) := by
 intro a0 a1 k
 have ih0 := whole_Mul_int.mono_l k
 unfold whole_Mul_int.f
 repeat' first
   | (with_reducible exact ih0 _ _ _)
   | (with_reducible exact LeO.refl _)
   | (with_reducible exact LeO.none _)
   | (with_reducible refine LeO.ite ?_ ?_)
   | (with_reducible refine LeO.bind ?_ (fun _ => ?_))
   | exact ih0 _ _ _
   | exact LeO.none _
   | refine LeO.ite ?_ ?_
   | refine LeO.bind ?_ (fun _ => ?_)
set_option maxHeartbeats 8000000 in
set_option maxRecDepth 100000 in
theorem whole_Mul_int.calls (k : Nat) (a0 : Int) (a1 : Int) (r1 : Int) (r2 : Bool) (w : World) (h : whole_Mul_int.f k a0 a1 = some (r1, r2)) :
  Calls Try.prog 60 #[.int .i64 a0, .int .i64 a1] w fun e w' => e = .returned (.tuple #[.int .i64 r1, .bool r2]) ∧ Drawn0 w w' := by
 have H : (if a0 = 0 then (whole_Mul_int.j0 k a0 a1 true) else (whole_Mul_int.j0 k a0 a1 (a1 == 0))) = some (r1, r2) := h
 clear h
 have HC3 := Aside0.mk H
 clear H
 go_enter Try.func60, Try.ntmps60
 go_upto_region 1 with (fail)
 go_cut [12] (fun v12 wc => ∃ (kq : Nat) (x12_2 : Bool), v12 = .bool x12_2 ∧ Aside0 (whole_Mul_int.j0 kq a0 a1 x12_2 = some (r1, r2)) ∧ Aside0 (kq ≤ k) ∧ Drawn0 w wc)
 case first =>
  have H := HC3.out
  clear HC3
  by_cases c4 : a0 = 0
  ·rw [if_pos c4] at H
   have c4b0 : (a0 == 0) = true := beq_iff_eq.mpr c4
   have c4b1 : (a0 != 0) = false := bne_eq_false_iff_eq.mpr c4
   clear c4
   (first | rw [c4b0] | (simp only [i64_w, i32_w]; rw [c4b0]) | skip)
   have H' := Aside0.mk H
   clear H
   go_wp2
   go_meet
   case rel => exact ⟨_, (true), (by first | rfl | (simp; done) | (simp [*]; done)), H', ⟨by first | omega | exact Nat.le_refl _⟩, by repeat (first | exact Drawn0.refl _ | apply Drawn0.step)⟩
  ·rw [if_neg c4] at H
   have c4b0 : (a0 == 0) = false := beq_eq_false_iff_ne.mpr c4
   have c4b1 : (a0 != 0) = true := bne_iff_ne.mpr c4
   (first | rw [c4b0] | (simp only [i64_w, i32_w]; rw [c4b0]) | skip)
   have H' := Aside0.mk H
   clear H
   go_wp2
   go_meet
   case rel => exact ⟨_, ((a1 == 0)), (by first | rfl | (simp; done) | (simp [*]; done)), H', ⟨by first | omega | exact Nat.le_refl _⟩, by repeat (first | exact Drawn0.refl _ | apply Drawn0.step)⟩
 case rest =>
  clear HC3
  try clear p2
  try clear c4
  try clear c4b0
  try clear c4b1
  obtain ⟨kq, x12_2, rfl, HA, HJ2, ⟨mc2, rfl⟩⟩ := hcut
  cases kq with
  | zero => exact absurd HA.out (by simp [whole_Mul_int.j0])
  | succ kj2 =>
   have H := HA.out
   clear HA
   simp only [whole_Mul_int.j0] at H
   by_cases c5 : x12_2 = true
   ·subst c5
    have H1 : (some (0, true)) = some (r1, r2) := by rw [if_pos rfl] at H; exact H
    clear H
    have H := H1
    clear H1
    simp only [Option.some.injEq, Prod.mk.injEq] at H
    obtain ⟨rfl, rfl⟩ := H
    go_wp2
    go_ret2
    exact ⟨by first | rfl | (simp; done) | (simp [*]; done), by repeat (first | exact Drawn0.refl _ | apply Drawn0.step)⟩
   ·replace c5 := Bool.eq_false_iff.mpr c5
    subst c5
    have H1 : (if a1 = 0 then (none) else (if (wrap64 (Int.tdiv (wrap64 (a0 * a1)) a1)) = a0 then (if a0 = 0 then (none) else (if (wrap64 (Int.tdiv (wrap64 (a0 * a1)) a0)) = a1 then (some (wrap64 (a0 * a1), true)) else (some (0, false)))) else (some (0, false)))) = some (r1, r2) := by rw [if_neg (show ¬ (false = true) by decide)] at H; exact H
    clear H
    have H := H1
    clear H1
    by_cases c6 : a1 = 0
    ·rw [if_pos c6] at H
     exact absurd H (by simp)
    ·rw [if_neg c6] at H
     have c6b0 : (a1 == 0) = false := beq_eq_false_iff_ne.mpr c6
     have c6b1 : (a1 != 0) = true := bne_iff_ne.mpr c6
     by_cases c7 : (wrap64 (Int.tdiv (wrap64 (a0 * a1)) a1)) = a0
     ·rw [if_pos c7] at H
      have c7b0 : ((wrap64 (Int.tdiv (wrap64 (a0 * a1)) a1)) == a0) = true := beq_iff_eq.mpr c7
      have c7b1 : ((wrap64 (Int.tdiv (wrap64 (a0 * a1)) a1)) != a0) = false := bne_eq_false_iff_eq.mpr c7
      clear c7
      by_cases c8 : a0 = 0
      ·rw [if_pos c8] at H
       exact absurd H (by simp)
      ·rw [if_neg c8] at H
       have c8b0 : (a0 == 0) = false := beq_eq_false_iff_ne.mpr c8
       have c8b1 : (a0 != 0) = true := bne_iff_ne.mpr c8
       by_cases c9 : (wrap64 (Int.tdiv (wrap64 (a0 * a1)) a0)) = a1
       ·rw [if_pos c9] at H
        have c9b0 : ((wrap64 (Int.tdiv (wrap64 (a0 * a1)) a0)) == a1) = true := beq_iff_eq.mpr c9
        have c9b1 : ((wrap64 (Int.tdiv (wrap64 (a0 * a1)) a0)) != a1) = false := bne_eq_false_iff_eq.mpr c9
        clear c9
        simp only [Option.some.injEq, Prod.mk.injEq] at H
        obtain ⟨rfl, rfl⟩ := H
        go_wp2
        go_ret2
        exact ⟨by first | rfl | (simp; done) | (simp [*]; done), by repeat (first | exact Drawn0.refl _ | apply Drawn0.step)⟩
       ·rw [if_neg c9] at H
        have c9b0 : ((wrap64 (Int.tdiv (wrap64 (a0 * a1)) a0)) == a1) = false := beq_eq_false_iff_ne.mpr c9
        have c9b1 : ((wrap64 (Int.tdiv (wrap64 (a0 * a1)) a0)) != a1) = true := bne_iff_ne.mpr c9
        simp only [Option.some.injEq, Prod.mk.injEq] at H
        obtain ⟨rfl, rfl⟩ := H
        go_wp2
        go_ret2
        exact ⟨by first | rfl | (simp; done) | (simp [*]; done), by repeat (first | exact Drawn0.refl _ | apply Drawn0.step)⟩
     ·rw [if_neg c7] at H
      have c7b0 : ((wrap64 (Int.tdiv (wrap64 (a0 * a1)) a1)) == a0) = false := beq_eq_false_iff_ne.mpr c7
      have c7b1 : ((wrap64 (Int.tdiv (wrap64 (a0 * a1)) a1)) != a0) = true := bne_iff_ne.mpr c7
      simp only [Option.some.injEq, Prod.mk.injEq] at H
      obtain ⟨rfl, rfl⟩ := H
      go_wp2
      go_ret2
      exact ⟨by first | rfl | (simp; done) | (simp [*]; done), by repeat (first | exact Drawn0.refl _ | apply Drawn0.step)⟩

end Go.Proofs.Ytkahgdkpehlanaa.P

namespace Go.Proofs.Ytkahgdkpehlanaa.P
open Go.RowKit Go.Proofs.YtkahgdkpehlanaaW.PrintWords Go.Proofs.YtkahgdkpehlanaaW.PrintLast Go.Proofs.YtkahgdkpehlanaaW.PrintMore
attribute [local go_sem] max2_int min2_int max_two min_two   -- for this text's walks alone
set_option linter.unusedVariables false
set_option linter.unusedSimpArgs false

/-! ### whole_Add_int: function 61 -/
def whole_Add_int.f (a0 : Int) (a1 : Int) : Option (Int × Bool) := if a1 ≥ 0 then (if (wrap64 (a0 + a1)) < a0 then (some (0, false)) else (if a1 < 0 then (if (wrap64 (a0 + a1)) > a0 then (some (0, false)) else (some (wrap64 (a0 + a1), true))) else (some (wrap64 (a0 + a1), true)))) else (if a1 < 0 then (if (wrap64 (a0 + a1)) > a0 then (some (0, false)) else (some (wrap64 (a0 + a1), true))) else (some (wrap64 (a0 + a1), true)))
set_option maxHeartbeats 8000000 in
set_option maxRecDepth 100000 in
theorem whole_Add_int.calls (a0 : Int) (a1 : Int) (r1 : Int) (r2 : Bool) (w : World) (h : whole_Add_int.f a0 a1 = some (r1, r2)) :
  Calls Try.prog 61 #[.int .i64 a0, .int .i64 a1] w fun e w' => e = .returned (.tuple #[.int .i64 r1, .bool r2]) ∧ Drawn0 w w' := by
 have H : (if a1 ≥ 0 then (if (wrap64 (a0 + a1)) < a0 then (some (0, false)) else (if a1 < 0 then (if (wrap64 (a0 + a1)) > a0 then (some (0, false)) else (some (wrap64 (a0 + a1), true))) else (some (wrap64 (a0 + a1), true)))) else (if a1 < 0 then (if (wrap64 (a0 + a1)) > a0 then (some (0, false)) else (some (wrap64 (a0 + a1), true))) else (some (wrap64 (a0 + a1), true)))) = some (r1, r2) := h
 clear h
 by_cases c3 : a1 ≥ 0
 ·rw [if_pos c3] at H
  have c3b0 : decide (0 ≤ a1) = true := decide_eq_true c3
  clear c3
  by_cases c4 : (wrap64 (a0 + a1)) < a0
  ·rw [if_pos c4] at H
   have c4b0 : decide ((wrap64 (a0 + a1)) < a0) = true := decide_eq_true c4
   clear c4
   simp only [Option.some.injEq, Prod.mk.injEq] at H
   obtain ⟨rfl, rfl⟩ := H
   go_enter Try.func61, Try.ntmps61
   go_wp2
   go_ret2
   exact ⟨by first | rfl | (simp; done) | (simp [*]; done), by repeat (first | exact Drawn0.refl _ | apply Drawn0.step)⟩
  ·rw [if_neg c4] at H
   have c4b0 : decide ((wrap64 (a0 + a1)) < a0) = false := decide_eq_false c4
   clear c4
   by_cases c5 : a1 < 0
   ·rw [if_pos c5] at H
    have c5b0 : decide (a1 < 0) = true := decide_eq_true c5
    clear c5
    by_cases c6 : (wrap64 (a0 + a1)) > a0
    ·rw [if_pos c6] at H
     have c6b0 : decide (a0 < (wrap64 (a0 + a1))) = true := decide_eq_true c6
     clear c6
     simp only [Option.some.injEq, Prod.mk.injEq] at H
     obtain ⟨rfl, rfl⟩ := H
     go_enter Try.func61, Try.ntmps61
     go_wp2
     go_ret2
     exact ⟨by first | rfl | (simp; done) | (simp [*]; done), by repeat (first | exact Drawn0.refl _ | apply Drawn0.step)⟩
    ·rw [if_neg c6] at H
     have c6b0 : decide (a0 < (wrap64 (a0 + a1))) = false := decide_eq_false c6
     clear c6
     simp only [Option.some.injEq, Prod.mk.injEq] at H
     obtain ⟨rfl, rfl⟩ := H
     go_enter Try.func61, Try.ntmps61
     go_wp2
     go_ret2
     exact ⟨by first | rfl | (simp; done) | (simp [*]; done), by repeat (first | exact Drawn0.refl _ | apply Drawn0.step)⟩
   ·rw [if_neg c5] at H
    have c5b0 : decide (a1 < 0) = false := decide_eq_false c5
    clear c5
    simp only [Option.some.injEq, Prod.mk.injEq] at H
    obtain ⟨rfl, rfl⟩ := H
    go_enter Try.func61, Try.ntmps61
    go_wp2
    go_ret2
    exact ⟨by first | rfl | (simp; done) | (simp [*]; done), by repeat (first | exact Drawn0.refl _ | apply Drawn0.step)⟩
 ·rw [if_neg c3] at H
  have c3b0 : decide (0 ≤ a1) = false := decide_eq_false c3
  clear c3
  by_cases c7 : a1 < 0
  ·rw [if_pos c7] at H
   have c7b0 : decide (a1 < 0) = true := decide_eq_true c7
   clear c7
   by_cases c8 : (wrap64 (a0 + a1)) > a0
   ·rw [if_pos c8] at H
    have c8b0 : decide (a0 < (wrap64 (a0 + a1))) = true := decide_eq_true c8
    clear c8
    simp only [Option.some.injEq, Prod.mk.injEq] at H
    obtain ⟨rfl, rfl⟩ := H
    go_enter Try.func61, Try.ntmps61
    go_wp2
    go_ret2
    exact ⟨by first | rfl | (simp; done) | (simp [*]; done), by repeat (first | exact Drawn0.refl _ | apply Drawn0.step)⟩
   ·rw [if_neg c8] at H
    have c8b0 : decide (a0 < (wrap64 (a0 + a1))) = false := decide_eq_false c8
    clear c8
    simp only [Option.some.injEq, Prod.mk.injEq] at H
    obtain ⟨rfl, rfl⟩ := H
    go_enter Try.func61, Try.ntmps61
    go_wp2
    go_ret2
    exact ⟨by first | rfl | (simp; done) | (simp [*]; done), by repeat (first | exact Drawn0.refl _ | apply Drawn0.step)⟩
  ·rw [if_neg c7] at H
   have c7b0 : decide (a1 < 0) = false := decide_eq_false c7
   clear c7
   simp only [Option.some.injEq, Prod.mk.injEq] at H
   obtain ⟨rfl, rfl⟩ := H
   go_enter Try.func61, Try.ntmps61
   go_wp2
   go_ret2
   exact ⟨by first | rfl | (simp; done) | (simp [*]; done), by repeat (first | exact Drawn0.refl _ | apply Drawn0.step)⟩

end Go.Proofs.Ytkahgdkpehlanaa.P

namespace Go.Proofs.Ytkahgdkpehlanaa.P
open Go.RowKit Go.Proofs.YtkahgdkpehlanaaW.PrintWords Go.Proofs.YtkahgdkpehlanaaW.PrintLast Go.Proofs.YtkahgdkpehlanaaW.PrintMore
attribute [local go_sem] max2_int min2_int max_two min_two   -- for this text's walks alone
set_option linter.unusedVariables false
set_option linter.unusedSimpArgs false

/-! ### scan_value: function 39 -/
def scan_value.l0 : Nat → ByteArray → Int → Int → Option (Int × Bool)
 | 0, _, _, _ => none
 | k + 1, x0, x4, x5 => if x5 < (x0.size : Int) then ((whole_Mul_int.f k x4 10).bind fun bt103 => (if bt103.2 = true then (if 0 ≤ x5 then ((whole_Add_int.f bt103.1 (((bt x0 x5) - 48) % 256)).bind fun bt105 => (if bt105.2 = true then (scan_value.l0 k x0 bt105.1 (wrap64 (x5 + 1))) else (some (0, false)))) else (none)) else (some (0, false)))) else (some (x4, true))
def scan_value.f (k : Nat) (a0 : ByteArray) : Option (Int × Bool) := scan_value.l0 k a0 0 0
theorem scan_value.mono_l : ∀ k, (∀ y0 y1 y2, LeO (scan_value.l0 k y0 y1 y2) (scan_value.l0 (k + 1) y0 y1 y2))
 | 0 => fun _ _ _ r h => by simp [scan_value.l0] at h
 | k + 1 => by
  have ih0 := scan_value.mono_l k
  ·intro y0 y1 y2
   unfold scan_value.l0
   repeat' first
   | (with_reducible exact ih0 _ _ _)
   | (with_reducible exact whole_Mul_int.mono _ _ _)
   | (with_reducible exact LeO.refl _)
   | (with_reducible exact LeO.none _)
   | (with_reducible refine LeO.ite ?_ ?_)
   | (with_reducible refine LeO.bind ?_ (fun _ => ?_))
   | exact ih0 _ _ _
   | exact whole_Mul_int.mono _ _ _
   | exact LeO.none _
   | refine LeO.ite ?_ ?_
   | refine LeO.bind ?_ (fun _ => ?_)
theorem scan_value.mono : ∀ a0 k, LeO (scan_value.f k a0) (scan_value.f (k + 1) a0) := by
 intro a0 k
 have ih0 := scan_value.mono_l k
 unfold scan_value.f
 repeat' first
   | (with_reducible exact ih0 _ _ _)
   | (with_reducible exact whole_Mul_int.mono _ _ _)
   | (with_reducible exact LeO.refl _)
   | (with_reducible exact LeO.none _)
   | (with_reducible refine LeO.ite ?_ ?_)
   | (with_reducible refine LeO.bind ?_ (fun _ => ?_))
   | exact ih0 _ _ _
   | exact whole_Mul_int.mono _ _ _
   | exact LeO.none _
   | refine LeO.ite ?_ ?_
   | refine LeO.bind ?_ (fun _ => ?_)
set_option maxHeartbeats 8000000 in
set_option maxRecDepth 100000 in
theorem scan_value.calls (k : Nat) (a0 : ByteArray) (r1 : Int) (r2 : Bool) (w : World) (h : scan_value.f k a0 = some (r1, r2)) :
  Calls Try.prog 39 #[.string a0] w fun e w' => e = .returned (.tuple #[.int .i64 r1, .bool r2]) ∧ Drawn0 w w' := by
 have H : (scan_value.l0 k a0 0 0) = some (r1, r2) := h
 clear h
 have H' := Aside0.mk H
 clear H
 go_enter Try.func39, Try.ntmps39
 go_wp2
 go_loopg [4, 5] k (fun kq v4 v5 w' => ∃ (x4_1 : Int) (x5_1 : Int), v4 = .int .i64 x4_1 ∧ v5 = .int .i64 x5_1 ∧ Aside0 (scan_value.l0 kq a0 x4_1 x5_1 = some (r1, r2)) ∧ Aside0 (kq ≤ k) ∧ Drawn0 w w')
 case atStart => exact ⟨(0), (0), (by first | rfl | (simp; done) | (simp [*]; done)), (by first | rfl | (simp; done) | (simp [*]; done)), H', ⟨Nat.le_refl _⟩, by repeat (first | exact Drawn0.refl _ | apply Drawn0.step)⟩
 case round =>
  clear H'
  obtain ⟨x4_1, x5_1, rfl, rfl, HA, HK1, ⟨m1, rfl⟩⟩ := hrel
  cases gk with
  | zero => exact absurd HA.out (by simp [scan_value.l0])
  | succ k1 =>
   have H := HA.out
   clear HA
   simp only [scan_value.l0] at H
   by_cases c2 : x5_1 < (a0.size : Int)
   ·rw [if_pos c2] at H
    have c2b0 : decide (x5_1 < (a0.size : Int)) = true := decide_eq_true c2
    clear c2
    replace H := Option.bind_eq_some_iff.mp H
    obtain ⟨⟨t103, t104⟩, A30, H⟩ := H
    replace H : (if t104 = true then (if 0 ≤ x5_1 then ((whole_Add_int.f t103 (((bt a0 x5_1) - 48) % 256)).bind fun bt105 => (if bt105.2 = true then (scan_value.l0 k1 a0 bt105.1 (wrap64 (x5_1 + 1))) else (some (0, false)))) else (none)) else (some (0, false))) = some (r1, r2) := H
    have A3 := Aside0.mk A30
    clear A30
    by_cases c4 : t104 = true
    ·subst c4
     have H1 : (if 0 ≤ x5_1 then ((whole_Add_int.f t103 (((bt a0 x5_1) - 48) % 256)).bind fun bt105 => (if bt105.2 = true then (scan_value.l0 k1 a0 bt105.1 (wrap64 (x5_1 + 1))) else (some (0, false)))) else (none)) = some (r1, r2) := by rw [if_pos rfl] at H; exact H
     clear H
     have H := H1
     clear H1
     by_cases c5 : 0 ≤ x5_1
     ·rw [if_pos c5] at H
      have c5b0 : decide (0 ≤ x5_1) = true := decide_eq_true c5
      clear c5
      replace H := Option.bind_eq_some_iff.mp H
      obtain ⟨⟨t105, t106⟩, A70, H⟩ := H
      replace H : (if t106 = true then (scan_value.l0 k1 a0 t105 (wrap64 (x5_1 + 1))) else (some (0, false))) = some (r1, r2) := H
      have A7 := Aside0.mk A70
      clear A70
      by_cases c8 : t106 = true
      ·subst c8
       have H1 : (scan_value.l0 k1 a0 t105 (wrap64 (x5_1 + 1))) = some (r1, r2) := by rw [if_pos rfl] at H; exact H
       clear H
       have H := H1
       clear H1
       have H' := Aside0.mk H
       clear H
       go_wp2_with (first | ((with_reducible refine gate_callee (f := 60) rfl ?_); refine goesL_ (some 16) rfl rfl Try.func60 (by kernel_rfl) rfl #[.int .i64 x4_1, .int .i64 10] rfl (by (try simp only [List.map_toArray, List.map_cons, List.map_nil]); first | done | rfl | (simp only [List.length_drop, List.length_take]; rfl)) ?_; (with_reducible refine (whole_Mul_int.calls k1 x4_1 10 t103 true _ A3.out).mono ?_); rintro e w' ⟨rfl, ⟨nd, rfl⟩⟩; refine ⟨_, rfl, ?_⟩; have p6 : 0 ≤ (x5_1 : Int) := of_decide_eq_true (by first | (with_reducible assumption) | assumption); have q6 : x5_1 < (a0.size : Int) := of_decide_eq_true (by first | (with_reducible assumption) | assumption); have hx6 := bt_at a0 x5_1; replace p6 := eq_true p6; replace q6 := eq_true q6) | ((with_reducible refine gate_callee (f := 61) rfl ?_); refine goesL_ (some 28) rfl rfl Try.func61 (by kernel_rfl) rfl #[.int .i64 t103, .int .i64 (((bt a0 x5_1) - 48) % 256)] rfl (by (try simp only [List.map_toArray, List.map_cons, List.map_nil]); first | done | rfl | (simp only [List.length_drop, List.length_take]; rfl)) ?_; (with_reducible refine (whole_Add_int.calls t103 (((bt a0 x5_1) - 48) % 256) t105 true _ A7.out).mono ?_); rintro e w' ⟨rfl, ⟨nd, rfl⟩⟩; refine ⟨_, rfl, ?_⟩))
       go_roundg k1
       case measure => have := HK1.out; omega
       case rel => exact ⟨(t105), (wrap64 (x5_1 + 1)), (by first | rfl | (simp; done) | (simp [*]; done)), (by first | rfl | (simp; done) | (simp [*]; done)), H', ⟨by have := HK1.out; omega⟩, by repeat (first | exact Drawn0.refl _ | apply Drawn0.step)⟩
      ·replace c8 := Bool.eq_false_iff.mpr c8
       subst c8
       have H1 : (some (0, false)) = some (r1, r2) := by rw [if_neg (show ¬ (false = true) by decide)] at H; exact H
       clear H
       have H := H1
       clear H1
       simp only [Option.some.injEq, Prod.mk.injEq] at H
       obtain ⟨rfl, rfl⟩ := H
       go_wp2_with (first | ((with_reducible refine gate_callee (f := 60) rfl ?_); refine goesL_ (some 16) rfl rfl Try.func60 (by kernel_rfl) rfl #[.int .i64 x4_1, .int .i64 10] rfl (by (try simp only [List.map_toArray, List.map_cons, List.map_nil]); first | done | rfl | (simp only [List.length_drop, List.length_take]; rfl)) ?_; (with_reducible refine (whole_Mul_int.calls k1 x4_1 10 t103 true _ A3.out).mono ?_); rintro e w' ⟨rfl, ⟨nd, rfl⟩⟩; refine ⟨_, rfl, ?_⟩; have p6 : 0 ≤ (x5_1 : Int) := of_decide_eq_true (by first | (with_reducible assumption) | assumption); have q6 : x5_1 < (a0.size : Int) := of_decide_eq_true (by first | (with_reducible assumption) | assumption); have hx6 := bt_at a0 x5_1; replace p6 := eq_true p6; replace q6 := eq_true q6) | ((with_reducible refine gate_callee (f := 61) rfl ?_); refine goesL_ (some 28) rfl rfl Try.func61 (by kernel_rfl) rfl #[.int .i64 t103, .int .i64 (((bt a0 x5_1) - 48) % 256)] rfl (by (try simp only [List.map_toArray, List.map_cons, List.map_nil]); first | done | rfl | (simp only [List.length_drop, List.length_take]; rfl)) ?_; (with_reducible refine (whole_Add_int.calls t103 (((bt a0 x5_1) - 48) % 256) t105 false _ A7.out).mono ?_); rintro e w' ⟨rfl, ⟨nd, rfl⟩⟩; refine ⟨_, rfl, ?_⟩))
       go_ret2
       exact ⟨by first | rfl | (simp; done) | (simp [*]; done), by repeat (first | exact Drawn0.refl _ | apply Drawn0.step)⟩
     ·rw [if_neg c5] at H
      exact absurd H (by simp)
    ·replace c4 := Bool.eq_false_iff.mpr c4
     subst c4
     have H1 : (some (0, false)) = some (r1, r2) := by rw [if_neg (show ¬ (false = true) by decide)] at H; exact H
     clear H
     have H := H1
     clear H1
     simp only [Option.some.injEq, Prod.mk.injEq] at H
     obtain ⟨rfl, rfl⟩ := H
     go_wp2_with (first | ((with_reducible refine gate_callee (f := 60) rfl ?_); refine goesL_ (some 16) rfl rfl Try.func60 (by kernel_rfl) rfl #[.int .i64 x4_1, .int .i64 10] rfl (by (try simp only [List.map_toArray, List.map_cons, List.map_nil]); first | done | rfl | (simp only [List.length_drop, List.length_take]; rfl)) ?_; (with_reducible refine (whole_Mul_int.calls k1 x4_1 10 t103 false _ A3.out).mono ?_); rintro e w' ⟨rfl, ⟨nd, rfl⟩⟩; refine ⟨_, rfl, ?_⟩))
     go_ret2
     exact ⟨by first | rfl | (simp; done) | (simp [*]; done), by repeat (first | exact Drawn0.refl _ | apply Drawn0.step)⟩
   ·rw [if_neg c2] at H
    have c2b0 : decide (x5_1 < (a0.size : Int)) = false := decide_eq_false c2
    clear c2
    simp only [Option.some.injEq, Prod.mk.injEq] at H
    obtain ⟨rfl, rfl⟩ := H
    go_wp2
    go_ret2
    exact ⟨by first | rfl | (simp; done) | (simp [*]; done), by repeat (first | exact Drawn0.refl _ | apply Drawn0.step)⟩

end Go.Proofs.Ytkahgdkpehlanaa.P

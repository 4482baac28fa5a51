/- What is read is by rows, and is read again behind writing; a refused text has a place. -/
import Derived.Test.YtfgonglcmgahkabPlainAlive
import Derived.Test.YtfgonglcmgahkabPlainReadLib
import Derived.Test.YtfgonglcmgahkabPm5
set_option linter.unusedVariables false
namespace Go.Proofs.Ytfgonglcmgahkab.Pure
open Go.RowKit Go.Proofs.Ytfgonglcmgahkab.P Go.Proofs.YtfgonglcmgahkabW.PrintWords Go.Proofs.YtfgonglcmgahkabW.PrintLast Go.Proofs.YtfgonglcmgahkabW.PrintMore Go.Proofs.Ytfgonglcmgahkab.L
theorem same_go (l : List Cl) (hl : l.length ≤ 2000000) : ∀ (d i k : Nat), i + d = l.length → d < k → vivariumlaw23_same.l0 k l l (i : Int) = some true
  | 0, i, k, h, hk => by
    obtain ⟨k, rfl⟩ : ∃ j, k = j + 1 := ⟨k - 1, by omega⟩
    simp only [vivariumlaw23_same.l0]
    rw [if_neg (by omega)]
  | d + 1, i, k, h, hk => by
    obtain ⟨k, rfl⟩ : ∃ j, k = j + 1 := ⟨k - 1, by omega⟩
    have e : wrap64 ((i : Int) + 1) = ((i + 1 : Nat) : Int) := w64 (by omega) (by omega)
    have ih := same_go l hl d (i + 1) k (by omega) (by omega)
    simp only [vivariumlaw23_same.l0]
    rw [e]
    clear e
    rw [if_pos (by omega), if_pos (by omega), if_pos (by omega)]
    simp only [beq_self_eq_true, Bool.not_true, Bool.or_self, Bool.false_eq_true, if_false]
    exact ih
theorem same_refl (l : List Cl) (hl : l.length ≤ 2000000) (k : Nat) (hk : l.length < k) : vivariumlaw23_same.f k l l = some true := by
  unfold vivariumlaw23_same.f
  rw [if_pos rfl]
  exact same_go l hl l.length 0 k (by omega) hk
theorem mx_is (a b : Int) : a ≤ mx a b ∧ b ≤ mx a b ∧ (mx a b = a ∨ mx a b = b) := by unfold mx; omega
theorem form_last (l : List Cl) (y2 : Int) (hR : Rd l y2 0) (hy2 : y2 ≤ 1048577) (hl : l.length ≤ 1048577) (w h : Int) (hw : 0 ≤ w ∧ w ≤ 65536) (hh : 0 ≤ h ∧ h ≤ 65536) (ha : ∀ c ∈ l, c.f0 + 1 ≤ w ∧ c.f1 + 1 ≤ h) (hm : w * h ≤ 300000) (k : Nat) (hk : 1100000 ≤ k) : vivariumlaw23_PlainForm.j2 (k + 1) true l w h false = some true := by
  obtain ⟨W, rfl⟩ : ∃ n : Nat, w = n := ⟨w.toNat, by omega⟩
  obtain ⟨H, rfl⟩ : ∃ n : Nat, h = n := ⟨h.toNat, by omega⟩
  have hm2 : W * H ≤ 300000 := by
    have e : ((W * H : Nat) : Int) = (W : Int) * (H : Int) := Int.natCast_mul _ _
    omega
  have r1 : (W + 1) * H = W * H + H := Nat.succ_mul W H
  have r2 : H * (3 * W + 1) = 3 * (W * H) + H := by rw [Nat.mul_add, Nat.mul_one, Nat.mul_comm H (3 * W), Nat.mul_assoc]
  have hrl := rowsB_len3 (stOf l 0 0) (stOf_range l 0 0) W H 0
  obtain ⟨q1, q2⟩ := write_read l 0 0 W H (by omega) (by omega) (by omega) (by omega) (by omega) (fun c hc => by
    have h1 := hR.2.1 c hc
    have h2 := hR.2.2 c hc
    exact ⟨by omega, by omega, by omega⟩) hR.1 (by omega) (by omega)
  rw [want_all W H l (fun c hc => by
    have h1 := hR.2.1 c hc
    have h2 := ha c hc
    exact ⟨by omega, by omega, by omega⟩)] at q2
  simp only [vivariumlaw23_PlainForm.j2]
  rw [if_neg (by decide), q1, Option.bind_some]
  dsimp only
  rw [q2, Option.bind_some]
  dsimp only
  simp only [if_true]
  rw [same_refl l (by omega) k (by omega), Option.bind_some]
theorem form_go (l : List Cl) (y2 : Int) (hR : Rd l y2 0) (hy2 : y2 ≤ 1048577) (hl : l.length ≤ 1048577) : ∀ (d i k : Nat) (w h : Int), i + d = l.length → 2 * d + 1200000 ≤ k → (0 ≤ w ∧ w ≤ 2000000) → (0 ≤ h ∧ h ≤ 2000000) → (∀ c ∈ l.take i, c.f0 + 1 ≤ w ∧ c.f1 + 1 ≤ h) → vivariumlaw23_PlainForm.l0 k true l w h (i : Int) = some true
  | 0, i, k, w, h, hi, hk, hw, hh, ha => by
    obtain ⟨k, rfl⟩ : ∃ j, k = (j + 1) + 1 := ⟨k - 2, by omega⟩
    rw [List.take_of_length_le (by omega)] at ha
    obtain ⟨K, hK⟩ : ∃ K, k + 1 = K := ⟨_, rfl⟩
    rw [hK]
    simp only [vivariumlaw23_PlainForm.l0]
    rw [if_neg (by omega)]
    have jt : vivariumlaw23_PlainForm.j2 K true l w h true = some true := by
      rw [← hK]
      simp only [vivariumlaw23_PlainForm.j2]
      rw [if_pos (by trivial)]
    by_cases c1 : w > 65536
    · rw [if_pos c1]; exact jt
    · rw [if_neg c1]
      by_cases c2 : h > 65536
      · rw [if_pos c2]; exact jt
      · have hb0 : 0 ≤ w * h := Int.mul_nonneg hw.1 hh.1
        have hb1 : w * h ≤ 65536 * 65536 := Int.mul_le_mul (by omega) (by omega) hh.1 (by omega)
        have e : wrap64 (w * h) = w * h := w64 (by omega) (by omega)
        rw [if_neg c2, e]
        clear e
        by_cases c3 : w * h > 300000
        · rw [decide_eq_true c3]; exact jt
        · rw [decide_eq_false c3, ← hK]
          exact form_last l y2 hR hy2 hl w h ⟨hw.1, by omega⟩ ⟨hh.1, by omega⟩ ha (by omega) k (by omega)
  | d + 1, i, k, w, h, hi, hk, hw, hh, ha => by
    obtain ⟨k, rfl⟩ : ∃ j, k = (j + 1) + 1 := ⟨k - 2, by omega⟩
    have hil : i < l.length := by omega
    have hc := hR.2.1 l[i] (List.getElem_mem hil)
    have hc2 := hR.2.2 l[i] (List.getElem_mem hil)
    have q1 : (i : Int) < (l.length : Int) := Int.ofNat_lt.mpr hil
    have q2 : (0 : Int) ≤ (i : Int) := Int.natCast_nonneg i
    have q3 : ¬ l[i].f2 = 0 := by clear hk hi; omega
    have q4 : ¬ l[i].f0 < 0 := by clear hk hi; omega
    have q5 : ¬ l[i].f1 < 0 := by clear hk hi; omega
    have m1 := mx_is w (l[i].f0 + 1)
    have m2 := mx_is h (l[i].f1 + 1)
    have ih := form_go l y2 hR hy2 hl d (i + 1) k (mx w (l[i].f0 + 1)) (mx h (l[i].f1 + 1)) (by omega) (by omega) (by omega) (by omega) (fun c hcc => by
      rw [List.take_add_one, List.getElem?_eq_getElem hil] at hcc
      rcases List.mem_append.1 hcc with hcc | hcc
      · have := ha c hcc; omega
      · have : c = l[i] := by simpa using hcc
        subst this
        omega)
    have e1 : wrap64 ((i : Int) + 1) = ((i + 1 : Nat) : Int) := w64 (by omega) (by omega)
    have e2 : wrap64 (l[i].f0 + 1) = l[i].f0 + 1 := w64 (by omega) (by omega)
    have e3 : wrap64 (l[i].f1 + 1) = l[i].f1 + 1 := w64 (by omega) (by omega)
    have hj : vivariumlaw23_PlainForm.j1 (k + 1) true l w h (i : Int) false = some true := by
      simp only [vivariumlaw23_PlainForm.j1]
      rw [if_neg (by decide), rd_get l i hil, e1, e2, e3]
      clear e1 e2 e3
      by_cases c0 : (i : Int) > 0
      · have hp := (List.pairwise_iff_getElem.1 hR.1) (i - 1) i (by omega) hil (by omega)
        unfold ltC at hp
        have e4 : wrap64 ((i : Int) - 1) = ((i - 1 : Nat) : Int) := by rw [w64 (by omega) (by omega)]; omega
        rw [if_pos c0, e4]
        clear e4
        rw [rd_get l (i - 1) (by omega), if_pos (by omega), if_pos (by omega), if_pos (by omega), if_pos (by omega)]
        obtain ⟨p, hpp⟩ : ∃ p, l[i - 1]'(by omega) = p := ⟨_, rfl⟩
        rw [hpp] at hp ⊢
        rw [if_neg (by omega)]
        by_cases c5 : p.f1 = l[i].f1
        · rw [if_pos c5, if_neg (by omega)]; exact ih
        · rw [if_neg c5]; exact ih
      · rw [if_neg c0, if_pos (by omega), if_pos (by omega)]
        exact ih
    obtain ⟨K, hK⟩ : ∃ K, k + 1 = K := ⟨_, rfl⟩
    rw [hK] at hj ⊢
    simp only [vivariumlaw23_PlainForm.l0]
    rw [if_pos q1, if_pos q2, rd_get l i hil, if_neg q3, if_neg q4, decide_eq_false q5]
    exact hj
theorem form_fault (s : ByteArray) (p e : Int) (K : Nat) (h1 : plain_Read.f s = some ([], p, e)) (h2 : (e = 230 ∧ 0 ≤ p ∧ p < s.size) ∨ (e = 3 ∧ p = 0 ∧ 1048576 < s.size)) : vivariumlaw23_PlainForm.f K s = some true := by
  unfold vivariumlaw23_PlainForm.f
  rw [alive23, Option.bind_some, h1, Option.bind_some]
  dsimp only
  have hl : ((([] : List Cl).length : Nat) : Int) = 0 := rfl
  rcases h2 with ⟨rfl, h3, h4⟩ | ⟨rfl, rfl, h4⟩
  · have h5 : p ≤ (s.size : Int) := by omega
    rw [if_neg (by decide), if_pos rfl, if_pos hl, if_pos h3, if_pos h5, if_pos rfl, if_pos h4]
  · have h5 : (0 : Int) ≤ (s.size : Int) := by omega
    have h6 : (s.size : Int) > 1048576 := by omega
    rw [if_neg (by decide), if_pos rfl, if_pos hl, if_pos (by decide), if_pos h5, if_neg (by decide), if_pos rfl, if_pos rfl, decide_eq_true h6]
theorem form_ok (s : ByteArray) (l : List Cl) (K : Nat) (h1 : plain_Read.f s = some (l, 0, 0)) (h2 : vivariumlaw23_PlainForm.l0 K true l 0 0 0 = some true) : vivariumlaw23_PlainForm.f K s = some true := by
  unfold vivariumlaw23_PlainForm.f
  rw [alive23, Option.bind_some, h1, Option.bind_some]
  dsimp only
  rw [if_pos rfl]
  exact h2
theorem form_some : ∃ K : Nat, 4000000 ≤ K := ⟨4000000, Nat.le_refl _⟩
theorem form_start (l : List Cl) (y2 : Int) (h2 : Rd l y2 0) (h3 : y2 ≤ 1048577) (h4 : l.length ≤ 1048577) (K : Nat) (hK : 4000000 ≤ K) : vivariumlaw23_PlainForm.l0 K true l 0 0 0 = some true :=
  form_go l y2 h2 h3 h4 l.length 0 K 0 0 (by omega) (by omega) (by omega) (by omega) (fun c hc => by simp at hc)
theorem PlainForm : vivariumlaw23_PlainForm.Pure := by
  intro s _
  obtain ⟨K, hK⟩ := form_some
  refine ⟨K, ?_⟩
  rcases read_any s with ⟨p, e, h1, h2⟩ | ⟨l, y2, h1, h2, h3, h4⟩
  · exact form_fault s p e K h1 h2
  · exact form_ok s l K h1 (form_start l y2 h2 h3 h4 K hK)
end Go.Proofs.Ytfgonglcmgahkab.Pure

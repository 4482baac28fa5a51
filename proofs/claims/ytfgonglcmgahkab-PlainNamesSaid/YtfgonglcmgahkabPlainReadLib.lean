/- What is read is by rows, living, near, no more than the text has bytes; a fault lies within the text. -/
import Derived.Test.YtfgonglcmgahkabPlainMap
set_option linter.unusedVariables false
namespace Go.Proofs.Ytfgonglcmgahkab.L
open Go.RowKit Go.Maps Go.Proofs.Ytfgonglcmgahkab.P Go.Proofs.YtfgonglcmgahkabW.PrintWords Go.Proofs.YtfgonglcmgahkabW.PrintLast Go.Proofs.YtfgonglcmgahkabW.PrintMore
/-- Cells so far: by rows, living, not behind a place. -/
def Rd (acc : List Cl) (y x : Int) : Prop := acc.Pairwise ltC ∧ (∀ c ∈ acc, (0 ≤ c.f0 ∧ c.f0 ≤ 1048576) ∧ 0 ≤ c.f1 ∧ (0 < c.f2 ∧ c.f2 ≤ 255)) ∧ ∀ c ∈ acc, c.f1 < y ∨ (c.f1 = y ∧ c.f0 < x)
theorem Rd.up {acc : List Cl} {y x : Int} (h : Rd acc y x) : Rd acc (y + 1) 0 := ⟨h.1, h.2.1, fun c hc => by have := h.2.2 c hc; omega⟩
theorem Rd.right {acc : List Cl} {y x : Int} (h : Rd acc y x) : Rd acc y (x + 1) := ⟨h.1, h.2.1, fun c hc => by have := h.2.2 c hc; omega⟩
theorem Rd.snoc {acc : List Cl} {y x v : Int} (h : Rd acc y x) (hy : 0 ≤ y) (hx : 0 ≤ x ∧ x ≤ 1048576) (hv : 0 < v ∧ v ≤ 255) : Rd (acc ++ [⟨x, y, v⟩]) y (x + 1) := by
  refine ⟨List.pairwise_append.2 ⟨h.1, List.pairwise_singleton _ _, fun a ha b hb => ?_⟩, fun c hc => ?_, fun c hc => ?_⟩
  · rw [List.mem_singleton] at hb
    subst hb
    have := h.2.2 a ha
    unfold ltC
    dsimp only
    omega
  · rcases List.mem_append.1 hc with hc | hc
    · exact h.2.1 c hc
    · rw [List.mem_singleton] at hc
      subst hc
      exact ⟨hx, hy, hv⟩
  · rcases List.mem_append.1 hc with hc | hc
    · have := h.2.2 c hc; omega
    · rw [List.mem_singleton] at hc
      subst hc
      dsimp only
      omega
theorem row_Rd (L : ByteArray) (hL : L.size ≤ 1048576) (y : Int) (hy : 0 ≤ y) : ∀ (n pos : Nat) (x : Int) (acc : List Cl), 0 ≤ x → x ≤ pos → Rd acc y x → ∃ acc2 b, rowC L y n pos x acc = (acc2, b) ∧ Rd acc2 (y + 1) 0 ∧ (b = -1 ∨ (0 ≤ b ∧ b < L.size)) ∧ acc2.length ≤ acc.length + n
  | 0, pos, x, acc, _, _, h => ⟨acc, -1, rfl, h.up, .inl rfl, Nat.le_refl _⟩
  | n + 1, pos, x, acc, hx0, hx1, h => by
    rw [rowC_succ]
    by_cases c : pos < L.size
    · rw [if_pos c]
      have hwd := width_pos L pos c
      have hr := ofP_range ((Utf8.decode L pos).1 : Int)
      by_cases c1 : (ofP ((Utf8.decode L pos).1 : Int)).2 = true
      · rw [if_pos c1]
        by_cases c2 : (ofP ((Utf8.decode L pos).1 : Int)).1 = 0
        · rw [if_pos c2]
          obtain ⟨a2, b, h1, h2, h3, h4⟩ := row_Rd L hL y hy n (pos + (Utf8.decode L pos).2) (x + 1) acc (by omega) (by omega) h.right
          exact ⟨a2, b, h1, h2, h3, by omega⟩
        · rw [if_neg c2]
          obtain ⟨a2, b, h1, h2, h3, h4⟩ := row_Rd L hL y hy n (pos + (Utf8.decode L pos).2) (x + 1) _ (by omega) (by omega) (h.snoc (v := (ofP ((Utf8.decode L pos).1 : Int)).1) hy ⟨hx0, by omega⟩ ⟨by omega, hr.2⟩)
          exact ⟨a2, b, h1, h2, h3, by rw [List.length_append, List.length_singleton] at h4; omega⟩
      · rw [if_neg c1]
        exact ⟨acc, pos, rfl, h.up, .inr ⟨by omega, by omega⟩, by omega⟩
    · rw [if_neg c]
      exact ⟨acc, -1, rfl, h.up, .inl rfl, by omega⟩
theorem ltext_size (s : ByteArray) (i e : Nat) (h1 : i ≤ e) (h2 : e ≤ s.size) : (ltext s i e).size ≤ e - i := by
  unfold ltext
  by_cases c : i < e ∧ bt s ((e - 1 : Nat) : Int) = 13
  · rw [if_pos c, ByteArray.size_extract]; omega
  · rw [if_neg c, ByteArray.size_extract]; omega
theorem lines_Rd (s : ByteArray) (hs : s.size ≤ 1048576) : ∀ (n i : Nat) (y : Int) (acc : List Cl), i ≤ s.size + 1 → 0 ≤ y → y ≤ i → Rd acc y 0 → acc.length ≤ i →
    (∃ p, readC (lsp s n i) y acc = ([], p, 230) ∧ 0 ≤ p ∧ p < s.size) ∨ ∃ l y2, readC (lsp s n i) y acc = (l, 0, 0) ∧ Rd l y2 0 ∧ y2 ≤ s.size + 1 ∧ l.length ≤ s.size + 1
  | 0, i, y, acc, hi, hy0, hy1, h, hl => .inr ⟨acc, y, rfl, h, by omega, by omega⟩
  | n + 1, i, y, acc, hi, hy0, hy1, h, hl => by
    by_cases c : i < s.size
    · have hge := eol_ge s (s.size - i) i
      have hle := eol_le s (s.size - i) i (by omega)
      have e0 : lsp s (n + 1) i = (⟨(i : Int), ltext s i (eol s (s.size - i) i)⟩ : Ln) :: lsp s n (eol s (s.size - i) i + 1) := by
        have e1 : lsp s (n + 1) i = if i < s.size then (⟨(i : Int), ltext s i (eol s (s.size - i) i)⟩ : Ln) :: lsp s n (eol s (s.size - i) i + 1) else [] := by cases n <;> rfl
        rw [e1, if_pos c]
      obtain ⟨e, he⟩ : ∃ e, eol s (s.size - i) i = e := ⟨_, rfl⟩
      rw [he] at hge hle e0
      have hz := ltext_size s i e hge hle
      obtain ⟨L, hL⟩ : ∃ L, ltext s i e = L := ⟨_, rfl⟩
      rw [hL] at hz e0
      rw [e0]
      by_cases hb : bang L = true
      · rw [readC_bang _ _ y acc hb]
        exact lines_Rd s hs n (e + 1) y acc (by omega) hy0 (by omega) h (by omega)
      · obtain ⟨a2, b, h1, h2, h3, h4⟩ := row_Rd L (by omega) y hy0 L.size 0 0 acc (by omega) (by omega) h
        rcases h3 with rfl | h3
        · rw [readC_row _ _ y acc a2 hb h1]
          exact lines_Rd s hs n (e + 1) (y + 1) a2 (by omega) (by omega) (by omega) h2 (by omega)
        · rw [readC_bad _ _ y acc a2 b hb h1 (by omega)]
          exact .inl ⟨(i : Int) + b, rfl, by omega, by omega⟩
    · have e0 : lsp s (n + 1) i = [] := by
        have e1 : lsp s (n + 1) i = if i < s.size then (⟨(i : Int), ltext s i (eol s (s.size - i) i)⟩ : Ln) :: lsp s n (eol s (s.size - i) i + 1) else [] := by cases n <;> rfl
        rw [e1, if_neg c]
      rw [e0]
      exact .inr ⟨acc, y, rfl, h, by omega, by omega⟩
/-- Of any text. -/
theorem read_any (s : ByteArray) : (∃ p e, plain_Read.f s = some ([], p, e) ∧ ((e = 230 ∧ 0 ≤ p ∧ p < s.size) ∨ (e = 3 ∧ p = 0 ∧ 1048576 < s.size))) ∨ ∃ l y2, plain_Read.f s = some (l, 0, 0) ∧ Rd l y2 0 ∧ y2 ≤ 1048577 ∧ l.length ≤ 1048577 := by
  unfold plain_Read.f
  by_cases c : 1048576 < s.size
  · rw [if_pos c]
    exact .inl ⟨0, 3, rfl, .inr ⟨rfl, rfl, c⟩⟩
  · rw [if_neg c]
    rcases lines_Rd s (by omega) (s.size + 1) 0 0 [] (by omega) (by omega) (by omega) ⟨List.Pairwise.nil, by simp, by simp⟩ (by simp) with ⟨p, h1, h2, h3⟩ | ⟨l, y2, h1, h2, h3, h4⟩
    · exact .inl ⟨p, 230, by rw [h1], .inl ⟨rfl, h2, h3⟩⟩
    · exact .inr ⟨l, y2, by rw [h1], h2, by omega, by omega⟩
theorem enc_len3 (a : Int) (h0 : 0 ≤ a) (h1 : a ≤ 255) : (Lib.encodeRune (signP a)).length ≤ 3 := by
  by_cases c0 : a = 0
  · subst c0; decide
  · by_cases c1 : a = 1
    · subst c1; decide
    · have he := enc_sign a (by omega) h1
      unfold Lib.encodeRune
      rw [he]
      simp
theorem rowB_len3 (st : Int → Int → Int) (hst : ∀ x y, 0 ≤ st x y ∧ st x y ≤ 255) (y : Int) : ∀ (n : Nat) (x : Int), (rowB (gOf st) y n x).length ≤ 3 * n
  | 0, _ => Nat.le_refl _
  | n + 1, x => by
    rw [rowB_succ, List.length_append]
    have := rowB_len3 st hst y n (x + 1)
    have h3 : (Lib.encodeRune (gOf st x y)).length ≤ 3 := enc_len3 _ (hst x y).1 (hst x y).2
    omega
theorem rowsB_len3 (st : Int → Int → Int) (hst : ∀ x y, 0 ≤ st x y ∧ st x y ≤ 255) (w : Nat) : ∀ (n : Nat) (y : Int), (rowsB (gOf st) w n y).length ≤ n * (3 * w + 1)
  | 0, _ => by simp [rowsB]
  | n + 1, y => by
    rw [rowsB_succ, List.length_append, List.length_append, Nat.succ_mul]
    have := rowsB_len3 st hst w n (y + 1)
    have := rowB_len3 st hst y w 0
    simp only [List.length_cons, List.length_nil]
    omega
/-- Of cells that all lie in the rectangle at the origin: they are what is wanted. -/
theorem want_all (W H : Int) : ∀ (C : List Cl), (∀ c ∈ C, 0 < c.f2 ∧ (0 ≤ c.f0 ∧ c.f0 < W) ∧ 0 ≤ c.f1 ∧ c.f1 < H) → wantOf C 0 0 W H = C
  | [], _ => rfl
  | c :: C, h => by
    have hc := h c List.mem_cons_self
    have ih := want_all W H C (fun x hx => h x (List.mem_cons_of_mem _ hx))
    have hi : inR 0 0 W H c := ⟨hc.1, by omega, by omega, by omega⟩
    have e : (⟨c.f0 - 0, c.f1 - 0, c.f2⟩ : Cl) = c := by
      obtain ⟨a, b, s⟩ := c
      simp
    unfold wantOf at ih ⊢
    rw [List.filterMap_cons, if_pos hi, ih, e]
end Go.Proofs.Ytfgonglcmgahkab.L

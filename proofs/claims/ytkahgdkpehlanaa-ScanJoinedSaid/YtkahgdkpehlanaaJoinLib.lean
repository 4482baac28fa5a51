/- The lines of a text stand in it, one behind the other; lines joined are read back. -/
import Derived.Test.YtkahgdkpehlanaaLineSame
namespace Go.Proofs.Ytkahgdkpehlanaa.L
open Go.RowKit Go.Proofs.Ytkahgdkpehlanaa.P Go.Proofs.YtkahgdkpehlanaaW.PrintWords Go.Proofs.YtkahgdkpehlanaaW.PrintLast Go.Proofs.YtkahgdkpehlanaaW.PrintMore
/-- Where the line that begins at a place ends. -/
def eolOf (s : ByteArray) (i : Nat) : Nat := eol s (s.size - i) i
/-- What is known of each line. -/
def goodL (s : ByteArray) (x : S27) : Prop := ∃ i : Nat, x.f0 = (i : Int) ∧ i < s.size ∧ x.f1 = ltext s i (eolOf s i)
theorem lsp_good (s : ByteArray) : ∀ n i x, x ∈ lsp s n i → goodL s x
  | 0, _, x, h => by cases h
  | n + 1, i, x, h => by
    unfold lsp at h
    by_cases c : i < s.size
    · rw [if_pos c] at h
      rcases List.mem_cons.1 h with rfl | h
      · exact ⟨i, rfl, c, rfl⟩
      · exact lsp_good s n _ x h
    · rw [if_neg c] at h; cases h
/-- Where the next line begins. -/
def nxL (s : ByteArray) (x : S27) : Nat := min (eolOf s x.f0.toNat + 1) s.size
def nxsL (s : ByteArray) (i : Nat) (p : List S27) : Nat := p.foldl (fun _ y => nxL s y) i
theorem nxsL_snoc (s : ByteArray) (i : Nat) (p : List S27) (x : S27) : nxsL s i (p ++ [x]) = nxL s x := by unfold nxsL; rw [List.foldl_append]; rfl
theorem nxsL_le (s : ByteArray) (i : Nat) (hi : i ≤ s.size) (p : List S27) : nxsL s i p ≤ s.size := by
  rcases List.eq_nil_or_concat p with rfl | ⟨q, y, rfl⟩
  · exact hi
  · rw [List.concat_eq_append, nxsL_snoc]; unfold nxL; omega
theorem lsp_next (s : ByteArray) : ∀ n i p x, p ++ [x] <+: lsp s n i → x.f0 = (nxsL s i p : Int)
  | 0, i, p, x, h => by
    have := h.length_le
    rw [List.length_append] at this
    simp [lsp] at this
  | n + 1, i, p, x, h => by
    unfold lsp at h
    by_cases c : i < s.size
    · rw [if_pos c] at h
      cases p with
      | nil =>
        rw [List.nil_append, List.cons_prefix_cons] at h
        rw [h.1]; rfl
      | cons y p =>
        rw [List.cons_append, List.cons_prefix_cons] at h
        have h2 := lsp_next s n _ p x h.2
        have hlt : eolOf s i + 1 < s.size := by
          apply Decidable.byContradiction
          intro hc
          have hl := h.2.length_le
          have he : lsp s n (eol s (s.size - i) i + 1) = [] := by
            cases n with
            | zero => rfl
            | succ n => unfold lsp; rw [if_neg (show ¬ eol s (s.size - i) i + 1 < s.size from hc)]
          rw [he, List.length_append] at hl
          simp at hl
        rw [h2]
        congr 1
        show nxsL s (eolOf s i + 1) p = nxsL s (nxL s y) p
        have : nxL s y = eolOf s i + 1 := by
          rw [h.1]
          unfold nxL
          show min (eolOf s (i : Int).toNat + 1) s.size = _
          rw [Int.toNat_natCast]
          omega
        rw [this]
    · rw [if_neg c] at h
      have := h.length_le
      rw [List.length_append] at this
      simp at this
theorem lsp_end (s : ByteArray) : ∀ n i, s.size - i ≤ n → i ≤ s.size → nxsL s i (lsp s n i) = s.size
  | 0, i, h, hi => by show i = s.size; omega
  | n + 1, i, h, hi => by
    unfold lsp
    by_cases c : i < s.size
    · rw [if_pos c]
      have h1 := eol_ge s (s.size - i) i
      have h2 := eol_le s (s.size - i) i hi
      have e1 : nxsL s i ((⟨(i : Int), ltext s i (eol s (s.size - i) i)⟩ : S27) :: lsp s n (eol s (s.size - i) i + 1)) = nxsL s (min (eol s (s.size - i) i + 1) s.size) (lsp s n (eol s (s.size - i) i + 1)) := by
        show nxsL s (min (eolOf s (i : Int).toNat + 1) s.size) _ = _
        rw [Int.toNat_natCast]; rfl
      rw [e1]
      by_cases d : eol s (s.size - i) i + 1 ≤ s.size
      · rw [Nat.min_eq_left d]
        exact lsp_end s n _ (by omega) d
      · rw [Nat.min_eq_right (by omega)]
        have he : lsp s n (eol s (s.size - i) i + 1) = [] := by
          cases n with
          | zero => rfl
          | succ n => unfold lsp; rw [if_neg (by omega)]
        rw [he]; rfl
    · rw [if_neg c]; show i = s.size; omega
theorem eol_at (s : ByteArray) : ∀ n i, s.size - i ≤ n → eol s n i < s.size → bt s (eol s n i : Int) = 10
  | 0, i, h, h2 => by have : i < s.size := h2; omega
  | n + 1, i, h, h2 => by
    rw [eol_succ] at h2 ⊢
    by_cases c : i < s.size ∧ bt s (i : Int) ≠ 10
    · rw [if_pos c] at h2 ⊢; exact eol_at s n (i + 1) (by omega) h2
    · rw [if_neg c] at h2 ⊢
      exact Decidable.byContradiction fun hc => c ⟨h2, hc⟩
theorem eol_is (s : ByteArray) : ∀ n i e, i ≤ e → e < s.size → e - i ≤ n → (∀ j, i ≤ j → j < e → bt s (j : Int) ≠ 10) → bt s (e : Int) = 10 → eol s n i = e
  | 0, i, e, h1, h2, h3, h4, h5 => by show i = e; omega
  | n + 1, i, e, h1, h2, h3, h4, h5 => by
    rw [eol_succ]
    by_cases c : i = e
    · subst c; rw [if_neg (fun h => h.2 h5)]
    · rw [if_pos ⟨by omega, h4 i (Nat.le_refl _) (by omega)⟩]
      exact eol_is s n (i + 1) e (by omega) h2 (by omega) (fun j a b => h4 j (by omega) b) h5
/-- A line that may be joined. -/
def okJ (l : ByteArray) : Prop := l.size ≤ 1000 ∧ (l.size = 0 ∨ bt l ((l.size - 1 : Nat) : Int) ≠ 13) ∧ ∀ j, j < l.size → bt l (j : Int) ≠ 10
/-- The lines joined. -/
def joinT (ls : List ByteArray) : ByteArray := ls.foldl (fun w l => w ++ l ++ ⟨#[10]⟩) ⟨#[]⟩
theorem joinT_snoc (ls : List ByteArray) (l : ByteArray) : joinT (ls ++ [l]) = joinT ls ++ l ++ ⟨#[10]⟩ := by unfold joinT; rw [List.foldl_append]; rfl
theorem joinT_size_snoc (ls : List ByteArray) (l : ByteArray) : (joinT (ls ++ [l])).size = (joinT ls).size + l.size + 1 := by
  rw [joinT_snoc, ByteArray.size_append, ByteArray.size_append]; rfl
theorem joinT_pre : ∀ (more ls : List ByteArray), ∃ r : ByteArray, joinT (ls ++ more) = joinT ls ++ r
  | [], ls => ⟨⟨#[]⟩, by rw [List.append_nil]; exact (ByteArray.append_empty).symm⟩
  | l :: more, ls => by
    obtain ⟨r, hr⟩ := joinT_pre more (ls ++ [l])
    rw [List.append_assoc, List.singleton_append] at hr
    exact ⟨l ++ ⟨#[10]⟩ ++ r, by rw [hr, joinT_snoc]; simp only [ByteArray.append_assoc]⟩
theorem bt_left (a b : ByteArray) (j : Nat) (h : j < a.size) : bt (a ++ b) (j : Int) = bt a (j : Int) := by
  rw [bt_nat, bt_nat, dif_pos h, dif_pos (by rw [ByteArray.size_append]; omega), ByteArray.getElem_append_left]
theorem bt_right (a b : ByteArray) (j : Nat) (h : j < b.size) : bt (a ++ b) ((a.size + j : Nat) : Int) = bt b (j : Int) := by
  rw [bt_nat, bt_nat, dif_pos h, dif_pos (by rw [ByteArray.size_append]; omega), ByteArray.getElem_append_right (by omega)]
  congr 2
  simp
theorem lsp_joined : ∀ (rest pre : List ByteArray) (n : Nat), (∀ l, l ∈ rest → okJ l) → (joinT (pre ++ rest)).size - (joinT pre).size ≤ n → (lsp (joinT (pre ++ rest)) n (joinT pre).size).map (·.f1) = rest
  | [], pre, n, hok, hn => by
    rw [List.append_nil]
    cases n with
    | zero => rfl
    | succ n => unfold lsp; rw [if_neg (by omega)]; rfl
  | l :: rest, pre, n, hok, hn => by
    obtain ⟨h1, h2, h3⟩ := hok l List.mem_cons_self
    obtain ⟨r, hr⟩ := joinT_pre rest (pre ++ [l])
    have hs := joinT_size_snoc pre l
    have ha : pre ++ l :: rest = (pre ++ [l]) ++ rest := by simp
    have hT : joinT (pre ++ l :: rest) = joinT pre ++ (l ++ (⟨#[10]⟩ ++ r)) := by rw [ha, hr, joinT_snoc]; simp only [ByteArray.append_assoc]
    have hsz : (joinT (pre ++ l :: rest)).size = (joinT pre).size + (l.size + (1 + r.size)) := by rw [hT]; simp only [ByteArray.size_append]; rfl
    have hb : ∀ j, j < l.size → bt (joinT (pre ++ l :: rest)) (((joinT pre).size + j : Nat) : Int) = bt l (j : Int) := fun j hj => by
      rw [hT, bt_right _ _ j (by rw [ByteArray.size_append]; omega), bt_left _ _ j hj]
    have h10 : bt (joinT (pre ++ l :: rest)) (((joinT pre).size + l.size : Nat) : Int) = 10 := by
      have h0 := bt_right l ((⟨#[10]⟩ : ByteArray) ++ r) 0 (by rw [ByteArray.size_append]; show 0 < 1 + _; omega)
      rw [hT, bt_right _ _ l.size (by simp only [ByteArray.size_append]; show _ < _ + (1 + _); omega)]
      rw [Nat.add_zero] at h0
      rw [h0, bt_left _ _ 0 (by show 0 < 1; omega)]
      rfl
    cases n with
    | zero => omega
    | succ n =>
      have hL := eol_is (joinT (pre ++ l :: rest)) ((joinT (pre ++ l :: rest)).size - (joinT pre).size) (joinT pre).size ((joinT pre).size + l.size) (by omega) (by omega) (by omega)
        (fun j a b => by
          obtain ⟨d, rfl⟩ : ∃ d, j = (joinT pre).size + d := ⟨j - (joinT pre).size, by omega⟩
          rw [hb d (by omega)]; exact h3 d (by omega)) h10
      have hex : (joinT (pre ++ l :: rest)).extract (joinT pre).size ((joinT pre).size + l.size) = l := by
        rw [hT]
        apply ByteArray.ext
        simp only [ByteArray.data_extract, ByteArray.data_append]
        rw [← ByteArray.size_data, Array.extract_append]
        simp
      have hlt : ltext (joinT (pre ++ l :: rest)) (joinT pre).size ((joinT pre).size + l.size) = l := by
        unfold ltext
        rw [if_neg, hex]
        rintro ⟨c1, c2⟩
        have : (joinT pre).size + l.size - 1 = (joinT pre).size + (l.size - 1) := by omega
        rw [this, hb (l.size - 1) (by omega)] at c2
        rcases h2 with h2 | h2
        · omega
        · exact h2 c2
      unfold lsp
      rw [if_pos (by omega), hL, List.map_cons, hlt]
      have ih := lsp_joined rest (pre ++ [l]) n (fun x hx => hok x (List.mem_cons_of_mem _ hx)) (by rw [← ha]; omega)
      rw [← ha, hs] at ih
      rw [ih]
theorem joined_lines (ls : List ByteArray) (h : ∀ l, l ∈ ls → okJ l) : (lsp (joinT ls) ((joinT ls).size + 1) 0).map (·.f1) = ls := by
  have := lsp_joined ls [] ((joinT ls).size + 1) h (by show _ - 0 ≤ _; rw [List.nil_append]; omega)
  rwa [List.nil_append] at this
theorem joinT_small : ∀ (ls : List ByteArray), (∀ l, l ∈ ls → okJ l) → (joinT ls).size ≤ ls.length * 1001 := by
  intro ls
  obtain ⟨n, hn⟩ : ∃ n, ls.length = n := ⟨_, rfl⟩
  induction n generalizing ls with
  | zero => intro _; rw [List.length_eq_zero_iff.1 hn]; exact Nat.le_refl 0
  | succ n ih =>
    intro h
    rcases List.eq_nil_or_concat ls with rfl | ⟨q, y, rfl⟩
    · simp at hn
    · rw [List.concat_eq_append] at hn h ⊢
      rw [List.length_append, List.length_singleton] at hn
      have h1 := ih q (by omega) (fun l hl => h l (by simp [hl]))
      have h2 := (h y (by simp)).1
      rw [joinT_size_snoc, List.length_append, List.length_singleton]
      omega
end Go.Proofs.Ytkahgdkpehlanaa.L

/- The text of a rule of births and stays, the program's and the document's: one plain list of bytes. -/
import Derived.Test.YtkahgdkpehlanaaDoorGensRule
import Derived.Test.YtkahgdkpehlanaaDoorPm10
import Derived.Laws.BytesArg
import Derived.Laws.Strings
namespace Go.Proofs.YtkahgdkpehlanaaDoor.L
open Go.RowKit Go.Proofs.YtkahgdkpehlanaaDoor.P Go.Proofs.YtkahgdkpehlanaaDoorW.PrintWords Go.Proofs.YtkahgdkpehlanaaDoorW.PrintLast Go.Proofs.YtkahgdkpehlanaaDoorW.PrintMore
/-- A rule that may be. -/
def May (H : Int) (B S : Nat) : Prop := (H = 1 ∧ B < 512 ∧ S < 512) ∨ (H = 2 ∧ B < 32 ∧ S < 32) ∨ (H = 3 ∧ B < 128 ∧ S < 128)
theorem May.lt {H : Int} {B S : Nat} (h : May H B S) : B < 512 ∧ S < 512 := by unfold May at h; omega
theorem May.hood {H : Int} {B S : Nat} (h : May H B S) : H = 1 ∨ H = 2 ∨ H = 3 := by unfold May at h; omega
theorem or_sh (b s n : Nat) (hb : b < 2 ^ n) (hs : s < 2 ^ n) : (b ||| s) >>> n = 0 := by
  rw [Nat.shiftRight_eq_div_pow]
  exact Nat.div_eq_of_lt (Nat.or_lt_two_pow hb hs)
theorem May.chk {H : Int} {B S : Nat} (h : May H B S) : chk H B S = 0 := by
  unfold L.chk
  rw [if_pos h.hood]
  rcases h with ⟨rfl, hb, hs⟩ | ⟨rfl, hb, hs⟩ | ⟨rfl, hb, hs⟩
  · rw [show (mostOf 1).toNat + 1 = 9 from rfl, or_sh B S 9 hb hs, if_pos rfl]
  · rw [show (mostOf 2).toNat + 1 = 5 from rfl, or_sh B S 5 hb hs, if_pos rfl]
  · rw [show (mostOf 3).toNat + 1 = 7 from rfl, or_sh B S 7 hb hs, if_pos rfl]
def Bytes01 (xs : List Int) : Prop := ∀ x ∈ xs, 0 ≤ x ∧ x < 256
theorem bt_str (xs : List Int) (h : Bytes01 xs) (i : Nat) (hi : i < xs.length) : bt (strOfNums xs) (i : Int) = xs[i] := by
  rw [bt_eq _ i (by rw [strOfNums_size]; exact hi)]
  simp only [strOfNums_data, List.getElem_map]
  have := h xs[i] (List.getElem_mem hi)
  rw [UInt8.toNat_ofNat']
  omega
theorem bt_str? (xs : List Int) (h : Bytes01 xs) (i : Nat) (x : Int) (hx : xs[i]? = some x) : i < (strOfNums xs).size ∧ bt (strOfNums xs) (i : Int) = x := by
  obtain ⟨hi, rfl⟩ := List.getElem?_eq_some_iff.1 hx
  exact ⟨by rw [strOfNums_size]; exact hi, bt_str xs h i hi⟩
/-- A list of digits, told into bits. -/
def run : List Int → Nat → Option Nat
  | [], m => some m
  | d :: ds, m => if m.testBit (d - 48).toNat = true then none else run ds (m ||| 2 ^ (d - 48).toNat)
def Digits (ds : List Int) : Prop := ∀ d ∈ ds, 48 ≤ d ∧ d ≤ 57
theorem digs_run (s : ByteArray) : ∀ (ds : List Int) (n p m m' : Nat), (∀ j (h : j < ds.length), p + j < s.size ∧ bt s ((p + j : Nat) : Int) = ds[j]) → Digits ds → run ds m = some m' → ds.length < n → ¬ (p + ds.length < s.size ∧ 48 ≤ bt s ((p + ds.length : Nat) : Int) ∧ bt s ((p + ds.length : Nat) : Int) ≤ 57) → digs s n p m = (false, p + ds.length, m')
  | [], n, p, m, m', _, _, hr, hn, he => by
    obtain ⟨n, rfl⟩ : ∃ k, n = k + 1 := ⟨n - 1, by simp only [List.length_nil] at hn; omega⟩
    rw [digs_succ, if_neg (by simpa using he)]
    simp only [run, Option.some.injEq] at hr
    rw [hr]
    rfl
  | d :: ds, n, p, m, m', hp, hd, hr, hn, he => by
    obtain ⟨n, rfl⟩ : ∃ k, n = k + 1 := ⟨n - 1, by simp only [List.length_cons] at hn; omega⟩
    have h0 := hp 0 (by simp)
    simp only [Nat.add_zero, List.getElem_cons_zero] at h0
    have hd0 := hd d (by simp)
    rw [digs_succ, h0.2, if_pos ⟨h0.1, hd0⟩]
    simp only [run] at hr
    by_cases c : m.testBit (d - 48).toNat = true
    · rw [if_pos c] at hr; cases hr
    · rw [if_neg c] at hr
      rw [if_neg c, digs_run s ds n (p + 1) _ m' (fun j h => by
        have := hp (j + 1) (by simp only [List.length_cons]; omega)
        rw [show p + (j + 1) = p + 1 + j from by omega] at this
        simpa using this) (fun x hx => hd x (List.mem_cons_of_mem _ hx)) hr (by simp only [List.length_cons] at hn; omega) (by
        rw [show p + 1 + ds.length = p + (d :: ds).length from by simp only [List.length_cons]; omega]
        exact he)]
      rw [show p + 1 + ds.length = p + (d :: ds).length from by simp only [List.length_cons]; omega]
theorem digs_twice (s : ByteArray) (d : Int) (hd0 : 48 ≤ d ∧ d ≤ 57) : ∀ (ds : List Int) (n p m m' : Nat), (∀ j (h : j < ds.length), p + j < s.size ∧ bt s ((p + j : Nat) : Int) = ds[j]) → Digits ds → run ds m = some m' → ds.length < n → p + ds.length < s.size → bt s ((p + ds.length : Nat) : Int) = d → m'.testBit (d - 48).toNat = true → digs s n p m = (true, p + ds.length, m')
  | [], n, p, m, m', _, _, hr, hn, h1, h2, h3 => by
    obtain ⟨n, rfl⟩ : ∃ k, n = k + 1 := ⟨n - 1, by simp only [List.length_nil] at hn; omega⟩
    simp only [List.length_nil, Nat.add_zero] at h1 h2
    simp only [run, Option.some.injEq] at hr
    subst hr
    rw [digs_succ, h2, if_pos ⟨h1, hd0⟩, if_pos h3]
    rfl
  | e :: ds, n, p, m, m', hp, hd, hr, hn, h1, h2, h3 => by
    obtain ⟨n, rfl⟩ : ∃ k, n = k + 1 := ⟨n - 1, by simp only [List.length_cons] at hn; omega⟩
    have h0 := hp 0 (by simp)
    simp only [Nat.add_zero, List.getElem_cons_zero] at h0
    have hd1 := hd e (by simp)
    rw [digs_succ, h0.2, if_pos ⟨h0.1, hd1⟩]
    simp only [run] at hr
    have e1 : p + 1 + ds.length = p + (e :: ds).length := by simp only [List.length_cons]; omega
    by_cases c : m.testBit (e - 48).toNat = true
    · rw [if_pos c] at hr; cases hr
    · rw [if_neg c] at hr
      rw [if_neg c, digs_twice s d hd0 ds n (p + 1) _ m' (fun j h => by
        have := hp (j + 1) (by simp only [List.length_cons]; omega)
        rw [show p + (j + 1) = p + 1 + j from by omega] at this
        simpa using this) (fun x hx => hd x (List.mem_cons_of_mem _ hx)) hr (by simp only [List.length_cons] at hn; omega) (by rw [e1]; exact h1) (by rw [e1]; exact h2) h3, e1]
theorem run_bits : ∀ (ds : List Int) (m m' : Nat), run ds m = some m' → (∀ j, m.testBit j = true → m'.testBit j = true) ∧ ∀ d ∈ ds, m'.testBit (d - 48).toNat = true
  | [], m, m', h => by simp only [run, Option.some.injEq] at h; subst h; exact ⟨fun _ e => e, by simp⟩
  | d :: ds, m, m', h => by
    simp only [run] at h
    by_cases c : m.testBit (d - 48).toNat = true
    · rw [if_pos c] at h; cases h
    · rw [if_neg c] at h
      obtain ⟨h1, h2⟩ := run_bits ds _ m' h
      have h3 : ∀ j, (m ||| 2 ^ (d - 48).toNat).testBit j = (m.testBit j || decide ((d - 48).toNat = j)) := fun j => by rw [Nat.testBit_or, Nat.testBit_two_pow]
      refine ⟨fun j e => h1 j (by rw [h3, e]; rfl), fun x hx => ?_⟩
      rcases List.mem_cons.1 hx with rfl | hx
      · exact h1 _ (by rw [h3, decide_eq_true rfl, Bool.or_true])
      · exact h2 x hx
theorem firstBig_none (s : ByteArray) (g : Int) : ∀ (n p : Nat), (∀ i : Nat, p ≤ i → i < s.size → ¬ (48 ≤ bt s (i : Int) ∧ bt s (i : Int) ≤ 57 ∧ g < bt s (i : Int) - 48)) → firstBig s g n p = none
  | 0, _, _ => rfl
  | n + 1, p, h => by
    unfold firstBig
    by_cases c : p < s.size
    · rw [if_pos c, if_neg (h p (Nat.le_refl _) c)]
      exact firstBig_none s g n (p + 1) fun i hi => h i (by omega)
    · rw [if_neg c]
theorem isL_str {xs : List Int} (h : Bytes01 xs) {i : Nat} {x : Int} (hx : xs[i]? = some x) (c : Int) (hc : x = c ∨ x = c + 32) : isL (strOfNums xs) i c := by
  have := bt_str? xs h i x hx
  exact ⟨this.1, by rw [this.2]; exact hc⟩
theorem isL_not {xs : List Int} (h : Bytes01 xs) {i : Nat} {x : Int} (hx : xs[i]? = some x) (c : Int) (hc : ¬ (x = c ∨ x = c + 32)) : ¬ isL (strOfNums xs) i c := by
  have := bt_str? xs h i x hx
  intro e
  have e2 := e.2
  rw [this.2] at e2
  exact hc e2
theorem isL_end {xs : List Int} {i : Nat} (hi : xs.length ≤ i) (c : Int) : ¬ isL (strOfNums xs) i c := by
  intro e
  have := e.1
  rw [strOfNums_size] at this
  omega
/-- The letter behind the digits. -/
def Tail (H : Int) (tl : List Int) : Prop := (H = 1 ∧ tl = []) ∨ (H = 2 ∧ (tl = [86] ∨ tl = [118])) ∨ (H = 3 ∧ (tl = [72] ∨ tl = [104]))
theorem digit_le {m : Nat} {g : Nat} (hm : m < 2 ^ (g + 1)) {d : Int} (hd : 48 ≤ d) (h : m.testBit (d - 48).toNat = true) : d - 48 ≤ g := by
  rcases Nat.lt_or_ge (d - 48).toNat (g + 1) with h2 | h2
  · omega
  · rw [Nat.testBit_lt_two_pow (Nat.lt_of_lt_of_le hm (Nat.pow_le_pow_right (by decide) h2))] at h
    cases h
theorem May.pow {H : Int} {B S : Nat} (h : May H B S) : B < 2 ^ ((mostOf H).toNat + 1) ∧ S < 2 ^ ((mostOf H).toNat + 1) := by
  rcases h with ⟨rfl, hb, hs⟩ | ⟨rfl, hb, hs⟩ | ⟨rfl, hb, hs⟩
  · rw [show (2 : Nat) ^ ((mostOf 1).toNat + 1) = 512 from rfl]; exact ⟨hb, hs⟩
  · rw [show (2 : Nat) ^ ((mostOf 2).toNat + 1) = 32 from rfl]; exact ⟨hb, hs⟩
  · rw [show (2 : Nat) ^ ((mostOf 3).toNat + 1) = 128 from rfl]; exact ⟨hb, hs⟩
theorem gx {l r : List Int} {j k : Nat} (h : k = l.length + j) : (l ++ r)[k]? = r[j]? := by
  subst h
  rw [List.getElem?_append_right (Nat.le_add_right _ _), Nat.add_sub_cancel_left]
/-- A rule's text is read as the rule. -/
theorem text_parse {H : Int} {B S : Nat} (h : May H B S) (b c : Int) (ds es tl : List Int) (hb : b = 66 ∨ b = 98) (hc : c = 83 ∨ c = 115) (hd : Digits ds) (he : Digits es) (hdl : ds.length ≤ 20) (hel : es.length ≤ 20) (rd : run ds 0 = some B) (re : run es 0 = some S) (ht : Tail H tl) :
    lifeParse (strOfNums ([b] ++ (ds ++ ([47, c] ++ (es ++ tl))))) = (H, (B : Int), (S : Int), 0, 0) := by
  have htl : tl.length ≤ 1 ∧ ∀ x ∈ tl, 57 < x ∧ x < 256 := by
    rcases ht with ⟨_, rfl⟩ | ⟨_, rfl | rfl⟩ | ⟨_, rfl | rfl⟩ <;> simp
  obtain ⟨xs, hxs⟩ : ∃ xs, [b] ++ (ds ++ ([47, c] ++ (es ++ tl))) = xs := ⟨_, rfl⟩
  have hlen : xs.length = ds.length + es.length + tl.length + 3 := by rw [← hxs]; simp only [List.length_append, List.length_cons, List.length_nil]; omega
  have hmem : ∀ x, x ∈ xs ↔ x = b ∨ x ∈ ds ∨ x = 47 ∨ x = c ∨ x ∈ es ∨ x ∈ tl := fun x => by rw [← hxs]; simp
  have hB : Bytes01 xs := by
    intro x hx
    rcases (hmem x).1 hx with rfl | hx | rfl | rfl | hx | hx
    · omega
    · have := hd x hx; omega
    · omega
    · omega
    · have := he x hx; omega
    · have := htl.2 x hx; omega
  have hs : (strOfNums xs).size = xs.length := strOfNums_size xs
  have g0 : xs[0]? = some b := by rw [← hxs]; rfl
  have g1 : ∀ j (hj : j < ds.length), xs[1 + j]? = some ds[j] := fun j hj => by
    rw [← hxs, List.getElem?_append_right (by simp), List.getElem?_append_left (by simpa using hj)]
    simp [hj]
  have g2 : xs[1 + ds.length]? = some 47 := by
    rw [← hxs, List.getElem?_append_right (by simp), List.getElem?_append_right (by simp)]
    simp
  have g3 : xs[1 + ds.length + 1]? = some c := by
    rw [← hxs, gx (j := ds.length + 1) (by simp; omega), gx (j := 1) rfl]
    rfl
  have g4 : ∀ j (hj : j < es.length), xs[1 + ds.length + 1 + 1 + j]? = some es[j] := fun j hj => by
    rw [← hxs, gx (j := ds.length + (2 + j)) (by simp; omega), gx (j := 2 + j) rfl, gx (l := [47, c]) (k := 2 + j) (j := j) rfl, List.getElem?_append_left hj, List.getElem?_eq_getElem hj]
  have g5 : ∀ j, xs[1 + ds.length + 1 + 1 + es.length + j]? = tl[j]? := fun j => by
    rw [← hxs, gx (j := ds.length + (2 + (es.length + j))) (by simp; omega), gx (j := 2 + (es.length + j)) rfl, gx (l := [47, c]) (k := 2 + (es.length + j)) (j := es.length + j) rfl, gx (j := j) rfl]
  rw [hxs]
  clear hxs
  obtain ⟨s, hss⟩ : ∃ s, strOfNums xs = s := ⟨_, rfl⟩
  have hb? : ∀ i x, xs[i]? = some x → i < s.size ∧ bt s (i : Int) = x := fun i x hx => hss ▸ bt_str? xs hB i x hx
  have D1 : digs s s.size (0 + 1) 0 = (false, 1 + ds.length, B) := by
    refine digs_run s ds s.size 1 0 B (fun j hj => hb? _ _ (g1 j hj)) hd rd (by rw [← hss, hs]; omega) ?_
    rw [(hb? _ _ g2).2]
    omega
  have D2 : digs s s.size (1 + ds.length + 1 + 1) 0 = (false, 1 + ds.length + 1 + 1 + es.length, S) := by
    refine digs_run s es s.size _ 0 S (fun j hj => hb? _ _ (g4 j hj)) he re (by rw [← hss, hs]; omega) ?_
    intro e
    have g50 := g5 0
    cases ht' : tl with
    | nil => rw [← hss, hs, hlen, ht'] at e; simp at e; omega
    | cons t ts =>
      rw [ht'] at g50
      have := hb? _ _ g50
      rw [Nat.add_zero] at this
      rw [this.2] at e
      have := htl.2 t (by rw [ht']; simp)
      omega
  have hF : firstBig s (mostOf H) s.size 0 = none := by
    refine firstBig_none s _ _ _ fun i _ hi e => ?_
    rw [← hss, hs] at hi
    have hx := hb? i xs[i] (List.getElem?_eq_getElem hi)
    rw [hx.2] at e
    have hm := most_le H
    have hp := h.pow
    rcases (hmem xs[i]).1 (List.getElem_mem hi) with hx | hx | hx | hx | hx | hx
    · omega
    · have := digit_le hp.1 e.1 ((run_bits ds 0 B rd).2 _ hx); omega
    · omega
    · omega
    · have := digit_le hp.2 e.1 ((run_bits es 0 S re).2 _ hx); omega
    · have := htl.2 _ hx; omega
  have i0 : isL s 0 66 := hss ▸ isL_str hB g0 66 hb
  have i1 : isL s (1 + ds.length + 1) 83 := hss ▸ isL_str hB g3 83 hc
  have hsz : s.size = xs.length := by rw [← hss, hs]
  have hT : lifeTail s (1 + ds.length + 1 + 1 + es.length) B S = (H, (B : Int), (S : Int), 0, 0) := by
    have g50 := g5 0
    rw [Nat.add_zero] at g50
    rcases ht with ⟨rfl, rfl⟩ | ⟨rfl, ht⟩ | ⟨rfl, ht⟩
    · rw [tail_n s _ B S (hood_n s _ (hss ▸ isL_end (by rw [hlen]; simp; omega) 86) (hss ▸ isL_end (by rw [hlen]; simp; omega) 72)), if_neg (by rw [hsz, hlen]; simp; omega), hF]
    · have hv : isL s (1 + ds.length + 1 + 1 + es.length) 86 := by
        rcases ht with rfl | rfl
        · exact hss ▸ isL_str hB g50 86 (.inl rfl)
        · exact hss ▸ isL_str hB g50 86 (.inr rfl)
      have hl1 : tl.length = 1 := by rcases ht with rfl | rfl <;> rfl
      rw [tail_v s _ B S 2 (hood_v s _ hv.1 hv.2) (by decide), if_neg (by rw [hsz, hlen]; omega), hF]
    · have hv : isL s (1 + ds.length + 1 + 1 + es.length) 72 := by
        rcases ht with rfl | rfl
        · exact hss ▸ isL_str hB g50 72 (.inl rfl)
        · exact hss ▸ isL_str hB g50 72 (.inr rfl)
      have hnv : ¬ (bt s ((1 + ds.length + 1 + 1 + es.length : Nat) : Int) = 86 ∨ bt s ((1 + ds.length + 1 + 1 + es.length : Nat) : Int) = 86 + 32) := by have := hv.2; omega
      have hl1 : tl.length = 1 := by rcases ht with rfl | rfl <;> rfl
      rw [tail_v s _ B S 3 (hood_h s _ hv.1 hnv hv.2) (by decide), if_neg (by rw [hsz, hlen]; omega), hF]
  rw [hss]
  unfold lifeParse
  rw [if_neg (by rw [hsz, hlen]; omega)]
  unfold lifeStage
  rw [if_pos rfl]
  unfold st0
  rw [if_pos i0, D1]
  dsimp only
  unfold st1
  rw [if_pos (hb? _ _ g2)]
  unfold st2
  rw [if_pos i1, D2]
  dsimp only
  exact hT
/-- The digits of a list, in order. -/
def Dl (b : Nat) : List Int := ((List.range 10).filter fun i : Nat => b.testBit i).map fun i : Nat => 48 + (i : Int)
set_option maxRecDepth 100000 in
theorem dl_run : ∀ b < 512, run (Dl b) 0 = some b ∧ (Dl b).length ≤ 9 ∧ life_digits.l0 20 [] (b : Int) 0 = some (Dl b) := by decide +kernel
theorem dl_digits (b : Nat) : Digits (Dl b) := by
  intro d hd
  unfold Dl at hd
  obtain ⟨i, hi, rfl⟩ := List.mem_map.1 hd
  have := List.mem_range.1 (List.mem_filter.1 hi).1
  omega
theorem digits_pre (pre r : List Int) (hl : pre.length + r.length < 140737488355328) : ∀ (k : Nat) (a : List Int) (v n : Int), life_digits.l0 k a v n = some r → life_digits.l0 k (pre ++ a) v n = some (pre ++ r)
  | 0, _, _, _, h => by simp [life_digits.l0] at h
  | k + 1, a, v, n, h => by
    simp only [life_digits.l0] at h ⊢
    have hmono : ∀ k a v n, life_digits.l0 k a v n = some r → a.length ≤ r.length := by
      intro k
      induction k with
      | zero => intro a v n h; simp [life_digits.l0] at h
      | succ k ih =>
        intro a v n h
        simp only [life_digits.l0] at h
        by_cases c0 : v = 0
        · rw [if_pos c0] at h; cases h; exact Nat.le_refl _
        rw [if_neg c0] at h
        by_cases c1 : Go.bits .and .u16 v 1 = 1
        · rw [if_pos c1] at h
          by_cases c2 : a.length < 140737488355328
          · rw [if_pos c2] at h
            have := ih _ _ _ h
            simp only [List.length_append, List.length_cons, List.length_nil] at this
            omega
          · rw [if_neg c2] at h; cases h
        · rw [if_neg c1] at h; exact ih _ _ _ h
    by_cases c0 : v = 0
    · rw [if_pos c0] at h ⊢
      cases h
      rfl
    · rw [if_neg c0] at h ⊢
      by_cases c1 : Go.bits .and .u16 v 1 = 1
      · rw [if_pos c1] at h ⊢
        by_cases c2 : a.length < 140737488355328
        · rw [if_pos c2] at h
          have := hmono _ _ _ _ h
          simp only [List.length_append, List.length_cons, List.length_nil] at this
          rw [if_pos (by rw [List.length_append]; omega), List.append_assoc]
          exact digits_pre pre r hl k _ _ _ h
        · rw [if_neg c2] at h; cases h
      · rw [if_neg c1] at h ⊢
        exact digits_pre pre r hl k _ _ _ h
theorem digits_up (r a : List Int) (v : Int) : ∀ d, life_digits.f 20 a v = some r → life_digits.f (20 + d) a v = some r
  | 0, h => h
  | d + 1, h => life_digits.mono a v (20 + d) r (digits_up r a v d h)
theorem digits_f (k : Nat) (hk : 20 ≤ k) (pre : List Int) (hp : pre.length ≤ 1000) (b : Nat) (hb : b < 512) : life_digits.f k pre (b : Int) = some (pre ++ Dl b) := by
  obtain ⟨d, rfl⟩ : ∃ d, k = 20 + d := ⟨k - 20, by omega⟩
  have h := dl_run b hb
  refine digits_up _ _ _ d ?_
  have := digits_pre pre (Dl b) (by omega) 20 [] b 0 h.2.2
  rwa [List.append_nil] at this
def tl (H : Int) : List Int := if H = 2 then [86] else if H = 3 then [72] else []
def lifeText (H : Int) (B S : Nat) : List Int := [66] ++ (Dl B ++ ([47, 83] ++ (Dl S ++ tl H)))
theorem tl_tail {H : Int} (h : H = 1 ∨ H = 2 ∨ H = 3) : Tail H (tl H) := by
  rcases h with rfl | rfl | rfl
  · exact .inl ⟨rfl, rfl⟩
  · exact .inr (.inl ⟨rfl, .inl rfl⟩)
  · exact .inr (.inr ⟨rfl, .inl rfl⟩)
theorem print_may {H : Int} {B S : Nat} (h : May H B S) (k : Nat) (hk : 20 ≤ k) : life_Print.f k H B S = some (strOfNums (lifeText H B S), 0) := by
  have hl := h.lt
  have h1 := (dl_run B hl.1).2.1
  have h2 := (dl_run S hl.2).2.1
  unfold life_Print.f
  rw [check_life H B S (by omega) (by omega), Option.bind_some, h.chk, if_pos rfl, digits_f k hk [66] (by simp) B hl.1, Option.bind_some, if_pos (by simp; omega), show bytesOf ⟨#[47, 83]⟩ = [47, 83] from rfl, digits_f k hk _ (by simp; omega) S hl.2, Option.bind_some, if_pos (by simp; omega)]
  congr 3
  unfold life_Print.tail lifeText tl
  by_cases c2 : H = 2
  · rw [if_pos c2, if_pos c2]; simp
  · rw [if_neg c2, if_neg c2]
    by_cases c3 : H = 3
    · rw [if_pos c3, if_pos c3]; simp
    · rw [if_neg c3, if_neg c3]; simp
theorem parse_print {H : Int} {B S : Nat} (h : May H B S) : lifeParse (strOfNums (lifeText H B S)) = (H, (B : Int), (S : Int), 0, 0) := by
  have hl := h.lt
  have h1 := dl_run B hl.1
  have h2 := dl_run S hl.2
  exact text_parse h 66 83 (Dl B) (Dl S) (tl H) (.inl rfl) (.inl rfl) (dl_digits B) (dl_digits S) (by omega) (by omega) h1.1 h2.1 (tl_tail h.hood)
theorem str_app (a b : List Int) : strOfNums a ++ strOfNums b = strOfNums (a ++ b) := by
  apply ByteArray.ext
  simp [strOfNums]
theorem or_split {b s n : Nat} (h : (b ||| s) >>> n = 0) : b < 2 ^ n ∧ s < 2 ^ n := by
  rw [Nat.shiftRight_eq_div_pow] at h
  have h2 : b ||| s < 2 ^ n := by
    rcases Nat.lt_or_ge (b ||| s) (2 ^ n) with h3 | h3
    · exact h3
    · have := Nat.div_pos h3 (Nat.two_pow_pos n); omega
  exact ⟨Nat.lt_of_le_of_lt Nat.left_le_or h2, Nat.lt_of_le_of_lt Nat.right_le_or h2⟩
theorem may_of {H : Int} {B S : Nat} (h : chk H B S = 0) : May H B S := by
  have hh := chk_hood h
  unfold chk at h
  rw [if_pos hh] at h
  by_cases c : (B ||| S) >>> ((mostOf H).toNat + 1) = 0
  · have h2 := or_split c
    rcases hh with rfl | rfl | rfl
    · exact .inl ⟨rfl, h2.1, h2.2⟩
    · exact .inr (.inl ⟨rfl, h2.1, h2.2⟩)
    · exact .inr (.inr ⟨rfl, h2.1, h2.2⟩)
  · rw [if_neg c] at h; exact absurd h (by decide)
set_option maxRecDepth 100000 in
theorem dl_step_all : (List.range 512).all (fun b => (List.range 10).all fun i => decide (Dl (b % 2 ^ (i + 1)) = Dl (b % 2 ^ i) ++ (if b.testBit i = true then [48 + (i : Int)] else []))) = true := by decide +kernel
theorem dl_step (b i : Nat) (hb : b < 512) (hi : i < 10) : Dl (b % 2 ^ (i + 1)) = Dl (b % 2 ^ i) ++ (if b.testBit i = true then [48 + (i : Int)] else []) :=
  of_decide_eq_true (List.all_eq_true.1 (List.all_eq_true.1 dl_step_all b (List.mem_range.2 hb)) i (List.mem_range.2 hi))
theorem dl_len (b : Nat) : (Dl b).length ≤ 10 := by
  unfold Dl
  rw [List.length_map]
  exact Nat.le_trans (List.length_filter_le _ _) (by rw [List.length_range]; omega)
/-! Of any text. -/
theorem digs_lt (s : ByteArray) : ∀ (n p m : Nat), m < 1024 → (digs s n p m).2.2 < 1024
  | 0, _, _, h => h
  | n + 1, p, m, h => by
    rw [digs_succ]
    by_cases c : p < s.size ∧ 48 ≤ bt s p ∧ bt s p ≤ 57
    · rw [if_pos c]
      by_cases d : m.testBit (bt s p - 48).toNat = true
      · rw [if_pos d]; exact h
      · rw [if_neg d]; exact digs_lt s n (p + 1) _ (or_lt m _ h (by omega))
    · rw [if_neg c]; exact h
set_option maxRecDepth 100000 in
theorem dl_or_all : (List.range 1024).all (fun m => (List.range 10).all fun d => decide ((Dl (m ||| 2 ^ d)).length ≤ (Dl m).length + 1)) = true := by decide +kernel
theorem dl_or (m d : Nat) (hm : m < 1024) (hd : d ≤ 9) : (Dl (m ||| 2 ^ d)).length ≤ (Dl m).length + 1 :=
  of_decide_eq_true (List.all_eq_true.1 (List.all_eq_true.1 dl_or_all m (List.mem_range.2 hm)) d (List.mem_range.2 (by omega)))
/-- Where a list ends, how many digits it has, and that none is above a number that no digit of the text is above. -/
theorem digs_of (s : ByteArray) (g : Nat) : ∀ (n p m : Nat) (tw : Bool) (q m' : Nat), m < 1024 → digs s n p m = (tw, q, m') → p ≤ q ∧ (tw = true → q < s.size) ∧ (p ≤ s.size → q ≤ s.size) ∧ (Dl m').length ≤ (Dl m).length + (q - p) ∧ ((∀ i : Nat, i < s.size → 48 ≤ bt s (i : Int) ∧ bt s (i : Int) ≤ 57 → bt s (i : Int) - 48 ≤ g) → (∀ j, m.testBit j = true → j ≤ g) → ∀ j, m'.testBit j = true → j ≤ g)
  | 0, p, m, tw, q, m', _, h => by
    simp only [digs, Prod.mk.injEq] at h
    obtain ⟨rfl, rfl, rfl⟩ := h
    exact ⟨Nat.le_refl _, fun e => absurd e (by decide), fun e => e, by omega, fun _ e => e⟩
  | n + 1, p, m, tw, q, m', hm, h => by
    rw [digs_succ] at h
    by_cases c : p < s.size ∧ 48 ≤ bt s p ∧ bt s p ≤ 57
    · rw [if_pos c] at h
      by_cases d : m.testBit (bt s p - 48).toNat = true
      · rw [if_pos d] at h
        simp only [Prod.mk.injEq] at h
        obtain ⟨rfl, rfl, rfl⟩ := h
        exact ⟨Nat.le_refl _, fun _ => c.1, fun e => e, by omega, fun _ e => e⟩
      · rw [if_neg d] at h
        have hd9 : (bt s p - 48).toNat ≤ 9 := by omega
        obtain ⟨h1, h2, h3, h4, h5⟩ := digs_of s g n (p + 1) _ tw q m' (or_lt m _ hm hd9) h
        have h6 := dl_or m _ hm hd9
        refine ⟨by omega, h2, fun _ => h3 (by omega), by omega, fun a b => h5 a fun j hj => ?_⟩
        rw [Nat.testBit_or, Nat.testBit_two_pow, Bool.or_eq_true] at hj
        rcases hj with hj | hj
        · exact b j hj
        · have := of_decide_eq_true hj
          have := a p c.1 c.2
          omega
    · rw [if_neg c] at h
      simp only [Prod.mk.injEq] at h
      obtain ⟨rfl, rfl, rfl⟩ := h
      exact ⟨Nat.le_refl _, fun e => absurd e (by decide), fun e => e, by omega, fun _ e => e⟩
theorem big_of (s : ByteArray) (g : Int) : ∀ (n p : Nat), (∀ i, firstBig s g n p = some i → p ≤ i ∧ i < s.size) ∧ (firstBig s g n p = none → ∀ i : Nat, p ≤ i → i < s.size → i < p + n → 48 ≤ bt s (i : Int) ∧ bt s (i : Int) ≤ 57 → bt s (i : Int) - 48 ≤ g)
  | 0, p => ⟨fun i h => by simp [firstBig] at h, fun _ i h1 _ h2 => absurd h2 (by omega)⟩
  | n + 1, p => by
    obtain ⟨h1, h2⟩ := big_of s g n (p + 1)
    simp only [firstBig]
    by_cases c : p < s.size
    · rw [if_pos c]
      by_cases d : 48 ≤ bt s (p : Int) ∧ bt s (p : Int) ≤ 57 ∧ g < bt s (p : Int) - 48
      · rw [if_pos d]
        exact ⟨fun i h => by cases h; exact ⟨Nat.le_refl _, c⟩, fun h => absurd h (by simp)⟩
      · rw [if_neg d]
        refine ⟨fun i h => by have := h1 i h; omega, fun h i hp hs hn hd => ?_⟩
        rcases Nat.lt_or_ge p i with e | e
        · exact h2 h i e hs (by omega) hd
        · obtain rfl : p = i := by omega
          omega
    · rw [if_neg c]
      exact ⟨fun i h => absurd h (by simp), fun _ i hp hs => absurd hs (by omega)⟩
/-- What a text is read as: a rule that may be, whose own text is no longer; or a fault within the text. -/
def Read (s : ByteArray) (r : Int × Int × Int × Int × Int) : Prop :=
  (∃ (e : Int) (i : Nat), e ≠ 0 ∧ i ≤ s.size ∧ r = (0, 0, 0, (i : Int), e)) ∨ ∃ (H : Int) (B S : Nat), May H B S ∧ (lifeText H B S).length ≤ s.size ∧ r = (H, (B : Int), (S : Int), 0, 0)
theorem lt_of_bits (m g : Nat) (h : ∀ j, m.testBit j = true → j ≤ g) : m < 2 ^ (g + 1) := by
  apply Nat.lt_pow_two_of_testBit
  intro i hi
  cases e : m.testBit i with
  | false => rfl
  | true => exact absurd (h i e) (by omega)
theorem read_tail (s : ByteArray) (p0 q0 p1 q1 m0 m1 : Nat) (h1 : p0 ≤ q0) (h2 : q0 + 2 ≤ p1) (h3 : 1 ≤ p0) (h4 : p1 ≤ q1) (h5 : q1 ≤ s.size) (n0 : (Dl m0).length ≤ q0 - p0) (n1 : (Dl m1).length ≤ q1 - p1)
    (b0 : ∀ g : Nat, (∀ i : Nat, i < s.size → 48 ≤ bt s (i : Int) ∧ bt s (i : Int) ≤ 57 → bt s (i : Int) - 48 ≤ g) → ∀ j, m0.testBit j = true → j ≤ g)
    (b1 : ∀ g : Nat, (∀ i : Nat, i < s.size → 48 ≤ bt s (i : Int) ∧ bt s (i : Int) ≤ 57 → bt s (i : Int) - 48 ≤ g) → ∀ j, m1.testBit j = true → j ≤ g) : Read s (lifeTail s q1 m0 m1) := by
  have hm := most_le (hoodOf s q1)
  have hH : (hoodOf s q1 = 1) ∨ (q1 < s.size ∧ (hoodOf s q1 = 2 ∨ hoodOf s q1 = 3)) := by
    unfold hoodOf
    by_cases c : isL s q1 86
    · rw [if_pos c]; exact .inr ⟨c.1, .inl rfl⟩
    · rw [if_neg c]
      by_cases d : isL s q1 72
      · rw [if_pos d]; exact .inr ⟨d.1, .inr rfl⟩
      · rw [if_neg d]; exact .inl rfl
  unfold lifeTail
  by_cases c : (if hoodOf s q1 = 1 then q1 else q1 + 1) < s.size
  · rw [if_pos c]
    exact .inl ⟨80, _, by decide, Nat.le_of_lt c, rfl⟩
  · rw [if_neg c]
    have hb := big_of s (mostOf (hoodOf s q1)) s.size 0
    cases hf : firstBig s (mostOf (hoodOf s q1)) s.size 0 with
    | some i => exact .inl ⟨82, i, by decide, Nat.le_of_lt (hb.1 i hf).2, rfl⟩
    | none =>
      have hg : ∀ i : Nat, i < s.size → 48 ≤ bt s (i : Int) ∧ bt s (i : Int) ≤ 57 → bt s (i : Int) - 48 ≤ ((mostOf (hoodOf s q1)).toNat : Nat) := fun i hi hd => by
        have := hb.2 hf i (Nat.zero_le _) hi (by omega) hd
        omega
      have l0 := lt_of_bits m0 _ (b0 _ hg)
      have l1 := lt_of_bits m1 _ (b1 _ hg)
      refine .inr ⟨hoodOf s q1, m0, m1, ?_, ?_, rfl⟩
      · rcases hH with e | ⟨_, e | e⟩
        · rw [e] at l0 l1 ⊢; exact .inl ⟨rfl, l0, l1⟩
        · rw [e] at l0 l1 ⊢; exact .inr (.inl ⟨rfl, l0, l1⟩)
        · rw [e] at l0 l1 ⊢; exact .inr (.inr ⟨rfl, l0, l1⟩)
      · unfold lifeText tl
        simp only [List.length_append, List.length_cons, List.length_nil]
        rcases hH with e | ⟨hq, e | e⟩
        · rw [e, if_neg (by decide), if_neg (by decide), List.length_nil]; omega
        · rw [e, if_pos rfl]; simp only [List.length_cons, List.length_nil]; omega
        · rw [e, if_neg (by decide), if_pos rfl]; simp only [List.length_cons, List.length_nil]; omega
theorem read_parse (s : ByteArray) : Read s (lifeParse s) := by
  unfold lifeParse
  by_cases c0 : 1048576 < s.size
  · rw [if_pos c0]
    exact .inl ⟨3, 0, by decide, Nat.zero_le _, rfl⟩
  rw [if_neg c0]
  unfold lifeStage
  rw [if_pos rfl]
  unfold st0
  by_cases c1 : isL s 0 66
  · rw [if_pos c1]
    have hp : 0 < s.size := c1.1
    have z0 : ∀ g j : Nat, (0 : Nat).testBit j = true → j ≤ g := fun g j h => by rw [Nat.zero_testBit] at h; cases h
    have zl : (Dl 0).length = 0 := by decide
    rcases hD : digs s s.size (0 + 1) 0 with ⟨tw, q, m⟩
    have hd := fun g => digs_of s g s.size (0 + 1) 0 tw q m (by omega) hD
    cases tw with
    | true => exact .inl ⟨81, q, by decide, Nat.le_of_lt ((hd 0).2.1 rfl), rfl⟩
    | false =>
      dsimp only
      unfold st1
      by_cases c2 : q < s.size ∧ bt s (q : Int) = 47
      · rw [if_pos c2]
        unfold st2
        by_cases c3 : isL s (q + 1) 83
        · rw [if_pos c3]
          rcases hE : digs s s.size (q + 1 + 1) 0 with ⟨tw2, q2, m2⟩
          have he := fun g => digs_of s g s.size (q + 1 + 1) 0 tw2 q2 m2 (by omega) hE
          have hs2 := (he 0).2.2.1 (by have := c3.1; omega)
          cases tw2 with
          | true => exact .inl ⟨81, q2, by decide, hs2, rfl⟩
          | false =>
            have n0 := (hd 0).2.2.2.1
            have n1 := (he 0).2.2.2.1
            exact read_tail s 1 q (q + 1 + 1) q2 m m2 (hd 0).1 (by omega) (by omega) (he 0).1 hs2 (by omega) (by omega) (fun g a => (hd g).2.2.2.2 a (z0 g)) (fun g a => (he g).2.2.2.2 a (z0 g))
        · rw [if_neg c3]
          exact .inl ⟨80, q + 1, by decide, c2.1, rfl⟩
      · rw [if_neg c2]
        exact .inl ⟨80, q, by decide, (hd 0).2.2.1 (by omega), rfl⟩
  · rw [if_neg c1]
    exact .inl ⟨80, 0, by decide, Nat.zero_le _, rfl⟩
end Go.Proofs.YtkahgdkpehlanaaDoor.L

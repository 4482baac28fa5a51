/- The text of a rule, and what it is read as: plain functions of lists of bytes. -/
import Derived.Test.YtfgonglcmgahkaaLifeTurn
import Derived.Test.YtfgonglcmgahkaaP27
import Derived.Laws.BytesArg
import Derived.Laws.Strings
namespace Go.Proofs.Ytfgonglcmgahkaa.L
open Go.RowKit Go.Proofs.Ytfgonglcmgahkaa.P Go.Proofs.YtfgonglcmgahkaaW.PrintWords Go.Proofs.YtfgonglcmgahkaaW.PrintLast Go.Proofs.YtfgonglcmgahkaaW.PrintMore

def Bytes01 (xs : List Int) : Prop := ∀ x ∈ xs, 0 ≤ x ∧ x < 256
theorem bt_str (xs : List Int) (h : Bytes01 xs) (i : Nat) (hi : i < xs.length) : bt (strOfNums xs) (i : Int) = xs[i] := by
  rw [bt_eq _ i (by rw [strOfNums_size]; exact hi)]
  simp only [strOfNums_data, List.getElem_map]
  have := h xs[i] (List.getElem_mem hi)
  rw [UInt8.toNat_ofNat']
  omega
theorem bt_str? (xs : List Int) (h : Bytes01 xs) (i : Nat) (x : Int) (hx : xs[i]? = some x) : i < (strOfNums xs).size ∧ bt (strOfNums xs) (i : Int) = x := by
  obtain ⟨hi, rfl⟩ := List.getElem?_eq_some_iff.1 hx
  exact ⟨by rw [strOfNums_size]; exact hi, bt_str xs h i hi⟩
/-- A list of digits, told into bits. -/
def run : List Int → Nat → Option Nat
  | [], m => some m
  | d :: ds, m => if m.testBit (d - 48).toNat = true then none else run ds (m ||| 2 ^ (d - 48).toNat)
def Digits (ds : List Int) : Prop := ∀ d ∈ ds, 48 ≤ d ∧ d ≤ 57
theorem digs_run (s : ByteArray) : ∀ (ds : List Int) (n p m m' : Nat), (∀ j (h : j < ds.length), p + j < s.size ∧ bt s ((p + j : Nat) : Int) = ds[j]) → Digits ds → run ds m = some m' → ds.length < n → ¬ (p + ds.length < s.size ∧ 48 ≤ bt s ((p + ds.length : Nat) : Int) ∧ bt s ((p + ds.length : Nat) : Int) ≤ 57) → digs s n p m = (false, p + ds.length, m')
  | [], n, p, m, m', _, _, hr, hn, he => by
    obtain ⟨n, rfl⟩ : ∃ k, n = k + 1 := ⟨n - 1, by simp only [List.length_nil] at hn; omega⟩
    rw [digs_succ, if_neg (by simpa using he)]
    simp only [run, Option.some.injEq] at hr
    rw [hr]
    rfl
  | d :: ds, n, p, m, m', hp, hd, hr, hn, he => by
    obtain ⟨n, rfl⟩ : ∃ k, n = k + 1 := ⟨n - 1, by simp only [List.length_cons] at hn; omega⟩
    have h0 := hp 0 (by simp)
    simp only [Nat.add_zero, List.getElem_cons_zero] at h0
    have hd0 := hd d (by simp)
    rw [digs_succ, h0.2, if_pos ⟨h0.1, hd0⟩]
    simp only [run] at hr
    by_cases c : m.testBit (d - 48).toNat = true
    · rw [if_pos c] at hr; cases hr
    · rw [if_neg c] at hr
      rw [if_neg c, digs_run s ds n (p + 1) _ m' (fun j h => by
        have := hp (j + 1) (by simp only [List.length_cons]; omega)
        rw [show p + (j + 1) = p + 1 + j from by omega] at this
        simpa using this) (fun x hx => hd x (List.mem_cons_of_mem _ hx)) hr (by simp only [List.length_cons] at hn; omega) (by
        rw [show p + 1 + ds.length = p + (d :: ds).length from by simp only [List.length_cons]; omega]
        exact he)]
      rw [show p + 1 + ds.length = p + (d :: ds).length from by simp only [List.length_cons]; omega]
theorem digs_twice (s : ByteArray) (d : Int) (hd0 : 48 ≤ d ∧ d ≤ 57) : ∀ (ds : List Int) (n p m m' : Nat), (∀ j (h : j < ds.length), p + j < s.size ∧ bt s ((p + j : Nat) : Int) = ds[j]) → Digits ds → run ds m = some m' → ds.length < n → p + ds.length < s.size → bt s ((p + ds.length : Nat) : Int) = d → m'.testBit (d - 48).toNat = true → digs s n p m = (true, p + ds.length, m')
  | [], n, p, m, m', _, _, hr, hn, h1, h2, h3 => by
    obtain ⟨n, rfl⟩ : ∃ k, n = k + 1 := ⟨n - 1, by simp only [List.length_nil] at hn; omega⟩
    simp only [List.length_nil, Nat.add_zero] at h1 h2
    simp only [run, Option.some.injEq] at hr
    subst hr
    rw [digs_succ, h2, if_pos ⟨h1, hd0⟩, if_pos h3]
    rfl
  | e :: ds, n, p, m, m', hp, hd, hr, hn, h1, h2, h3 => by
    obtain ⟨n, rfl⟩ : ∃ k, n = k + 1 := ⟨n - 1, by simp only [List.length_cons] at hn; omega⟩
    have h0 := hp 0 (by simp)
    simp only [Nat.add_zero, List.getElem_cons_zero] at h0
    have hd1 := hd e (by simp)
    rw [digs_succ, h0.2, if_pos ⟨h0.1, hd1⟩]
    simp only [run] at hr
    have e1 : p + 1 + ds.length = p + (e :: ds).length := by simp only [List.length_cons]; omega
    by_cases c : m.testBit (e - 48).toNat = true
    · rw [if_pos c] at hr; cases hr
    · rw [if_neg c] at hr
      rw [if_neg c, digs_twice s d hd0 ds n (p + 1) _ m' (fun j h => by
        have := hp (j + 1) (by simp only [List.length_cons]; omega)
        rw [show p + (j + 1) = p + 1 + j from by omega] at this
        simpa using this) (fun x hx => hd x (List.mem_cons_of_mem _ hx)) hr (by simp only [List.length_cons] at hn; omega) (by rw [e1]; exact h1) (by rw [e1]; exact h2) h3, e1]
theorem run_bits : ∀ (ds : List Int) (m m' : Nat), run ds m = some m' → (∀ j, m.testBit j = true → m'.testBit j = true) ∧ ∀ d ∈ ds, m'.testBit (d - 48).toNat = true
  | [], m, m', h => by simp only [run, Option.some.injEq] at h; subst h; exact ⟨fun _ e => e, by simp⟩
  | d :: ds, m, m', h => by
    simp only [run] at h
    by_cases c : m.testBit (d - 48).toNat = true
    · rw [if_pos c] at h; cases h
    · rw [if_neg c] at h
      obtain ⟨h1, h2⟩ := run_bits ds _ m' h
      have h3 : ∀ j, (m ||| 2 ^ (d - 48).toNat).testBit j = (m.testBit j || decide ((d - 48).toNat = j)) := fun j => by rw [Nat.testBit_or, Nat.testBit_two_pow]
      refine ⟨fun j e => h1 j (by rw [h3, e]; rfl), fun x hx => ?_⟩
      rcases List.mem_cons.1 hx with rfl | hx
      · exact h1 _ (by rw [h3, decide_eq_true rfl, Bool.or_true])
      · exact h2 x hx
theorem firstBig_none (s : ByteArray) (g : Int) : ∀ (n p : Nat), (∀ i : Nat, p ≤ i → i < s.size → ¬ (48 ≤ bt s (i : Int) ∧ bt s (i : Int) ≤ 57 ∧ g < bt s (i : Int) - 48)) → firstBig s g n p = none
  | 0, _, _ => rfl
  | n + 1, p, h => by
    unfold firstBig
    by_cases c : p < s.size
    · rw [if_pos c, if_neg (h p (Nat.le_refl _) c)]
      exact firstBig_none s g n (p + 1) fun i hi => h i (by omega)
    · rw [if_neg c]
theorem isL_str {xs : List Int} (h : Bytes01 xs) {i : Nat} {x : Int} (hx : xs[i]? = some x) (c : Int) (hc : x = c ∨ x = c + 32) : isL (strOfNums xs) i c := by
  have := bt_str? xs h i x hx
  exact ⟨this.1, by rw [this.2]; exact hc⟩
theorem isL_not {xs : List Int} (h : Bytes01 xs) {i : Nat} {x : Int} (hx : xs[i]? = some x) (c : Int) (hc : ¬ (x = c ∨ x = c + 32)) : ¬ isL (strOfNums xs) i c := by
  have := bt_str? xs h i x hx
  intro e
  have e2 := e.2
  rw [this.2] at e2
  exact hc e2
theorem isL_end {xs : List Int} {i : Nat} (hi : xs.length ≤ i) (c : Int) : ¬ isL (strOfNums xs) i c := by
  intro e
  have := e.1
  rw [strOfNums_size] at this
  omega
/-- The letter behind the digits. -/
def Tail (H : Int) (tl : List Int) : Prop := (H = 1 ∧ tl = []) ∨ (H = 2 ∧ (tl = [86] ∨ tl = [118])) ∨ (H = 3 ∧ (tl = [72] ∨ tl = [104]))
theorem digit_le {m : Nat} {g : Nat} (hm : m < 2 ^ (g + 1)) {d : Int} (hd : 48 ≤ d) (h : m.testBit (d - 48).toNat = true) : d - 48 ≤ g := by
  rcases Nat.lt_or_ge (d - 48).toNat (g + 1) with h2 | h2
  · omega
  · rw [Nat.testBit_lt_two_pow (Nat.lt_of_lt_of_le hm (Nat.pow_le_pow_right (by decide) h2))] at h
    cases h
theorem May.pow {H : Int} {B S : Nat} (h : May H B S) : B < 2 ^ ((mostOf H).toNat + 1) ∧ S < 2 ^ ((mostOf H).toNat + 1) := by
  rcases h with ⟨rfl, hb, hs⟩ | ⟨rfl, hb, hs⟩ | ⟨rfl, hb, hs⟩
  · rw [show (2 : Nat) ^ ((mostOf 1).toNat + 1) = 512 from rfl]; exact ⟨hb, hs⟩
  · rw [show (2 : Nat) ^ ((mostOf 2).toNat + 1) = 32 from rfl]; exact ⟨hb, hs⟩
  · rw [show (2 : Nat) ^ ((mostOf 3).toNat + 1) = 128 from rfl]; exact ⟨hb, hs⟩
theorem gx {l r : List Int} {j k : Nat} (h : k = l.length + j) : (l ++ r)[k]? = r[j]? := by
  subst h
  rw [List.getElem?_append_right (Nat.le_add_right _ _), Nat.add_sub_cancel_left]
/-- A rule's text is read as the rule. -/
theorem text_parse {H : Int} {B S : Nat} (h : May H B S) (b c : Int) (ds es tl : List Int) (hb : b = 66 ∨ b = 98) (hc : c = 83 ∨ c = 115) (hd : Digits ds) (he : Digits es) (hdl : ds.length ≤ 20) (hel : es.length ≤ 20) (rd : run ds 0 = some B) (re : run es 0 = some S) (ht : Tail H tl) :
    lifeParse (strOfNums ([b] ++ (ds ++ ([47, c] ++ (es ++ tl))))) = (H, (B : Int), (S : Int), 0, 0) := by
  have htl : tl.length ≤ 1 ∧ ∀ x ∈ tl, 57 < x ∧ x < 256 := by
    rcases ht with ⟨_, rfl⟩ | ⟨_, rfl | rfl⟩ | ⟨_, rfl | rfl⟩ <;> simp
  obtain ⟨xs, hxs⟩ : ∃ xs, [b] ++ (ds ++ ([47, c] ++ (es ++ tl))) = xs := ⟨_, rfl⟩
  have hlen : xs.length = ds.length + es.length + tl.length + 3 := by rw [← hxs]; simp only [List.length_append, List.length_cons, List.length_nil]; omega
  have hmem : ∀ x, x ∈ xs ↔ x = b ∨ x ∈ ds ∨ x = 47 ∨ x = c ∨ x ∈ es ∨ x ∈ tl := fun x => by rw [← hxs]; simp
  have hB : Bytes01 xs := by
    intro x hx
    rcases (hmem x).1 hx with rfl | hx | rfl | rfl | hx | hx
    · omega
    · have := hd x hx; omega
    · omega
    · omega
    · have := he x hx; omega
    · have := htl.2 x hx; omega
  have hs : (strOfNums xs).size = xs.length := strOfNums_size xs
  have g0 : xs[0]? = some b := by rw [← hxs]; rfl
  have g1 : ∀ j (hj : j < ds.length), xs[1 + j]? = some ds[j] := fun j hj => by
    rw [← hxs, List.getElem?_append_right (by simp), List.getElem?_append_left (by simpa using hj)]
    simp [hj]
  have g2 : xs[1 + ds.length]? = some 47 := by
    rw [← hxs, List.getElem?_append_right (by simp), List.getElem?_append_right (by simp)]
    simp
  have g3 : xs[1 + ds.length + 1]? = some c := by
    rw [← hxs, gx (j := ds.length + 1) (by simp; omega), gx (j := 1) rfl]
    rfl
  have g4 : ∀ j (hj : j < es.length), xs[1 + ds.length + 1 + 1 + j]? = some es[j] := fun j hj => by
    rw [← hxs, gx (j := ds.length + (2 + j)) (by simp; omega), gx (j := 2 + j) rfl, gx (l := [47, c]) (k := 2 + j) (j := j) rfl, List.getElem?_append_left hj, List.getElem?_eq_getElem hj]
  have g5 : ∀ j, xs[1 + ds.length + 1 + 1 + es.length + j]? = tl[j]? := fun j => by
    rw [← hxs, gx (j := ds.length + (2 + (es.length + j))) (by simp; omega), gx (j := 2 + (es.length + j)) rfl, gx (l := [47, c]) (k := 2 + (es.length + j)) (j := es.length + j) rfl, gx (j := j) rfl]
  rw [hxs]
  clear hxs
  obtain ⟨s, hss⟩ : ∃ s, strOfNums xs = s := ⟨_, rfl⟩
  have hb? : ∀ i x, xs[i]? = some x → i < s.size ∧ bt s (i : Int) = x := fun i x hx => hss ▸ bt_str? xs hB i x hx
  have D1 : digs s s.size (0 + 1) 0 = (false, 1 + ds.length, B) := by
    refine digs_run s ds s.size 1 0 B (fun j hj => hb? _ _ (g1 j hj)) hd rd (by rw [← hss, hs]; omega) ?_
    rw [(hb? _ _ g2).2]
    omega
  have D2 : digs s s.size (1 + ds.length + 1 + 1) 0 = (false, 1 + ds.length + 1 + 1 + es.length, S) := by
    refine digs_run s es s.size _ 0 S (fun j hj => hb? _ _ (g4 j hj)) he re (by rw [← hss, hs]; omega) ?_
    intro e
    have g50 := g5 0
    cases ht' : tl with
    | nil => rw [← hss, hs, hlen, ht'] at e; simp at e; omega
    | cons t ts =>
      rw [ht'] at g50
      have := hb? _ _ g50
      rw [Nat.add_zero] at this
      rw [this.2] at e
      have := htl.2 t (by rw [ht']; simp)
      omega
  have hF : firstBig s (mostOf H) s.size 0 = none := by
    refine firstBig_none s _ _ _ fun i _ hi e => ?_
    rw [← hss, hs] at hi
    have hx := hb? i xs[i] (List.getElem?_eq_getElem hi)
    rw [hx.2] at e
    have hm := most_le H
    have hp := h.pow
    rcases (hmem xs[i]).1 (List.getElem_mem hi) with hx | hx | hx | hx | hx | hx
    · omega
    · have := digit_le hp.1 e.1 ((run_bits ds 0 B rd).2 _ hx); omega
    · omega
    · omega
    · have := digit_le hp.2 e.1 ((run_bits es 0 S re).2 _ hx); omega
    · have := htl.2 _ hx; omega
  have i0 : isL s 0 66 := hss ▸ isL_str hB g0 66 hb
  have i1 : isL s (1 + ds.length + 1) 83 := hss ▸ isL_str hB g3 83 hc
  have hsz : s.size = xs.length := by rw [← hss, hs]
  have hT : lifeTail s (1 + ds.length + 1 + 1 + es.length) B S = (H, (B : Int), (S : Int), 0, 0) := by
    have g50 := g5 0
    rw [Nat.add_zero] at g50
    rcases ht with ⟨rfl, rfl⟩ | ⟨rfl, ht⟩ | ⟨rfl, ht⟩
    · rw [tail_n s _ B S (hood_n s _ (hss ▸ isL_end (by rw [hlen]; simp; omega) 86) (hss ▸ isL_end (by rw [hlen]; simp; omega) 72)), if_neg (by rw [hsz, hlen]; simp; omega), hF]
    · have hv : isL s (1 + ds.length + 1 + 1 + es.length) 86 := by
        rcases ht with rfl | rfl
        · exact hss ▸ isL_str hB g50 86 (.inl rfl)
        · exact hss ▸ isL_str hB g50 86 (.inr rfl)
      have hl1 : tl.length = 1 := by rcases ht with rfl | rfl <;> rfl
      rw [tail_v s _ B S 2 (hood_v s _ hv.1 hv.2) (by decide), if_neg (by rw [hsz, hlen]; omega), hF]
    · have hv : isL s (1 + ds.length + 1 + 1 + es.length) 72 := by
        rcases ht with rfl | rfl
        · exact hss ▸ isL_str hB g50 72 (.inl rfl)
        · exact hss ▸ isL_str hB g50 72 (.inr rfl)
      have hnv : ¬ (bt s ((1 + ds.length + 1 + 1 + es.length : Nat) : Int) = 86 ∨ bt s ((1 + ds.length + 1 + 1 + es.length : Nat) : Int) = 86 + 32) := by have := hv.2; omega
      have hl1 : tl.length = 1 := by rcases ht with rfl | rfl <;> rfl
      rw [tail_v s _ B S 3 (hood_h s _ hv.1 hnv hv.2) (by decide), if_neg (by rw [hsz, hlen]; omega), hF]
  rw [hss]
  unfold lifeParse
  rw [if_neg (by rw [hsz, hlen]; omega)]
  unfold lifeStage
  rw [if_pos rfl]
  unfold st0
  rw [if_pos i0, D1]
  dsimp only
  unfold st1
  rw [if_pos (hb? _ _ g2)]
  unfold st2
  rw [if_pos i1, D2]
  dsimp only
  exact hT
/-- The digits of a list, in order. -/
def Dl (b : Nat) : List Int := ((List.range 10).filter fun i : Nat => b.testBit i).map fun i : Nat => 48 + (i : Int)
set_option maxRecDepth 100000 in
theorem dl_run : ∀ b < 512, run (Dl b) 0 = some b ∧ (Dl b).length ≤ 9 ∧ life_digits.l0 20 [] (b : Int) 0 = some (Dl b) := by decide +kernel
theorem dl_digits (b : Nat) : Digits (Dl b) := by
  intro d hd
  unfold Dl at hd
  obtain ⟨i, hi, rfl⟩ := List.mem_map.1 hd
  have := List.mem_range.1 (List.mem_filter.1 hi).1
  omega
theorem digits_pre (pre r : List Int) (hl : pre.length + r.length < 140737488355328) : ∀ (k : Nat) (a : List Int) (v n : Int), life_digits.l0 k a v n = some r → life_digits.l0 k (pre ++ a) v n = some (pre ++ r)
  | 0, _, _, _, h => by simp [life_digits.l0] at h
  | k + 1, a, v, n, h => by
    simp only [life_digits.l0] at h ⊢
    have hmono : ∀ k a v n, life_digits.l0 k a v n = some r → a.length ≤ r.length := by
      intro k
      induction k with
      | zero => intro a v n h; simp [life_digits.l0] at h
      | succ k ih =>
        intro a v n h
        simp only [life_digits.l0] at h
        by_cases c0 : v = 0
        · rw [if_pos c0] at h; cases h; exact Nat.le_refl _
        rw [if_neg c0] at h
        by_cases c1 : Go.bits .and .u16 v 1 = 1
        · rw [if_pos c1] at h
          by_cases c2 : a.length < 140737488355328
          · rw [if_pos c2] at h
            have := ih _ _ _ h
            simp only [List.length_append, List.length_cons, List.length_nil] at this
            omega
          · rw [if_neg c2] at h; cases h
        · rw [if_neg c1] at h; exact ih _ _ _ h
    by_cases c0 : v = 0
    · rw [if_pos c0] at h ⊢
      cases h
      rfl
    · rw [if_neg c0] at h ⊢
      by_cases c1 : Go.bits .and .u16 v 1 = 1
      · rw [if_pos c1] at h ⊢
        by_cases c2 : a.length < 140737488355328
        · rw [if_pos c2] at h
          have := hmono _ _ _ _ h
          simp only [List.length_append, List.length_cons, List.length_nil] at this
          rw [if_pos (by rw [List.length_append]; omega), List.append_assoc]
          exact digits_pre pre r hl k _ _ _ h
        · rw [if_neg c2] at h; cases h
      · rw [if_neg c1] at h ⊢
        exact digits_pre pre r hl k _ _ _ h
theorem digits_up (r a : List Int) (v : Int) : ∀ d, life_digits.f 20 a v = some r → life_digits.f (20 + d) a v = some r
  | 0, h => h
  | d + 1, h => life_digits.mono a v (20 + d) r (digits_up r a v d h)
theorem digits_f (k : Nat) (hk : 20 ≤ k) (pre : List Int) (hp : pre.length ≤ 1000) (b : Nat) (hb : b < 512) : life_digits.f k pre (b : Int) = some (pre ++ Dl b) := by
  obtain ⟨d, rfl⟩ : ∃ d, k = 20 + d := ⟨k - 20, by omega⟩
  have h := dl_run b hb
  refine digits_up _ _ _ d ?_
  have := digits_pre pre (Dl b) (by omega) 20 [] b 0 h.2.2
  rwa [List.append_nil] at this
def tl (H : Int) : List Int := if H = 2 then [86] else if H = 3 then [72] else []
def lifeText (H : Int) (B S : Nat) : List Int := [66] ++ (Dl B ++ ([47, 83] ++ (Dl S ++ tl H)))
theorem tl_tail {H : Int} (h : H = 1 ∨ H = 2 ∨ H = 3) : Tail H (tl H) := by
  rcases h with rfl | rfl | rfl
  · exact .inl ⟨rfl, rfl⟩
  · exact .inr (.inl ⟨rfl, .inl rfl⟩)
  · exact .inr (.inr ⟨rfl, .inl rfl⟩)
theorem print_may {H : Int} {B S : Nat} (h : May H B S) (k : Nat) (hk : 20 ≤ k) : life_Print.f k H B S = some (strOfNums (lifeText H B S), 0) := by
  have hl := h.lt
  have h1 := (dl_run B hl.1).2.1
  have h2 := (dl_run S hl.2).2.1
  unfold life_Print.f
  rw [check_life H B S (by omega) (by omega), Option.bind_some, h.chk, if_pos rfl, digits_f k hk [66] (by simp) B hl.1, Option.bind_some, if_pos (by simp; omega), show bytesOf ⟨#[47, 83]⟩ = [47, 83] from rfl, digits_f k hk _ (by simp; omega) S hl.2, Option.bind_some, if_pos (by simp; omega)]
  congr 3
  unfold life_Print.tail lifeText tl
  by_cases c2 : H = 2
  · rw [if_pos c2, if_pos c2]; simp
  · rw [if_neg c2, if_neg c2]
    by_cases c3 : H = 3
    · rw [if_pos c3, if_pos c3]; simp
    · rw [if_neg c3, if_neg c3]; simp
theorem parse_print {H : Int} {B S : Nat} (h : May H B S) : lifeParse (strOfNums (lifeText H B S)) = (H, (B : Int), (S : Int), 0, 0) := by
  have hl := h.lt
  have h1 := dl_run B hl.1
  have h2 := dl_run S hl.2
  exact text_parse h 66 83 (Dl B) (Dl S) (tl H) (.inl rfl) (.inl rfl) (dl_digits B) (dl_digits S) (by omega) (by omega) h1.1 h2.1 (tl_tail h.hood)
end Go.Proofs.Ytfgonglcmgahkaa.L

/- Letters made small; what a text is read as, of any text. -/
import Derived.Test.YtfgonglcmgahkaaLifeText
import Derived.Test.YtfgonglcmgahkaaP26
namespace Go.Proofs.Ytfgonglcmgahkaa.L
open Go.RowKit Go.Proofs.Ytfgonglcmgahkaa.P Go.Proofs.YtfgonglcmgahkaaW.PrintWords Go.Proofs.YtfgonglcmgahkaaW.PrintLast Go.Proofs.YtfgonglcmgahkaaW.PrintMore

def lo (x : Int) : Int := if 65 ≤ x ∧ x ≤ 90 then x + 32 else x
def los (s : ByteArray) : List Int := (bytesOf s).map lo
def sm (s : ByteArray) : ByteArray := strOfNums (los s)
theorem bytesOf_01 (s : ByteArray) : Bytes01 (bytesOf s) := by
  intro x hx
  obtain ⟨b, _, rfl⟩ := List.mem_map.1 hx
  have := UInt8.toNat_lt b
  omega
theorem lo_range {x : Int} (h : 0 ≤ x ∧ x < 256) : 0 ≤ lo x ∧ lo x < 256 := by
  unfold lo
  by_cases c : 65 ≤ x ∧ x ≤ 90
  · rw [if_pos c]; omega
  · rw [if_neg c]; exact h
theorem los_01 (s : ByteArray) : Bytes01 (los s) := by
  intro x hx
  obtain ⟨y, hy, rfl⟩ := List.mem_map.1 hx
  exact lo_range (bytesOf_01 s y hy)
theorem sm_size (s : ByteArray) : (sm s).size = s.size := by
  unfold sm los
  rw [strOfNums_size, List.length_map, bytesOf_length]
theorem bytesOf_get (s : ByteArray) (i : Nat) (h : i < s.size) : (bytesOf s)[i]? = some (bt s (i : Int)) := by
  unfold bytesOf
  rw [List.getElem?_map, bt_get s i h, Option.map_some]
  have := bt_range s (i : Int)
  congr 1
  rw [UInt8.toNat_ofNat']
  omega
theorem sm_bt (s : ByteArray) (i : Nat) (h : i < s.size) : bt (sm s) (i : Int) = lo (bt s (i : Int)) := by
  refine (bt_str? (los s) (los_01 s) i _ ?_).2
  unfold los
  rw [List.getElem?_map, bytesOf_get s i h]
  rfl
theorem lo_up {x c : Int} (hc : 65 ≤ c ∧ c ≤ 90) : (lo x = c ∨ lo x = c + 32) ↔ (x = c ∨ x = c + 32) := by
  unfold lo
  by_cases h : 65 ≤ x ∧ x ≤ 90
  · rw [if_pos h]; omega
  · rw [if_neg h]
theorem lo_low {x : Int} : (48 ≤ lo x ∧ lo x ≤ 57) ↔ (48 ≤ x ∧ x ≤ 57) := by
  unfold lo
  by_cases h : 65 ≤ x ∧ x ≤ 90
  · rw [if_pos h]; omega
  · rw [if_neg h]
theorem lo_same {x : Int} (h : x ≤ 57) : lo x = x := by
  unfold lo
  rw [if_neg (by omega)]
theorem lo_slash {x : Int} : lo x = 47 ↔ x = 47 := by
  unfold lo
  by_cases h : 65 ≤ x ∧ x ≤ 90
  · rw [if_pos h]; omega
  · rw [if_neg h]
theorem sm_isL (s : ByteArray) (p : Nat) (c : Int) (hc : 65 ≤ c ∧ c ≤ 90) : isL (sm s) p c = isL s p c := by
  unfold isL
  rw [sm_size]
  by_cases h : p < s.size
  · rw [sm_bt s p h, eq_iff_iff]
    exact ⟨fun e => ⟨h, (lo_up hc).1 e.2⟩, fun e => ⟨h, (lo_up hc).2 e.2⟩⟩
  · rw [eq_iff_iff]
    exact ⟨fun e => absurd e.1 h, fun e => absurd e.1 h⟩
theorem sm_digs (s : ByteArray) : ∀ n p m, digs (sm s) n p m = digs s n p m
  | 0, _, _ => rfl
  | n + 1, p, m => by
    rw [digs_succ, digs_succ, sm_size]
    by_cases h : p < s.size
    · rw [sm_bt s p h]
      by_cases d : 48 ≤ bt s (p : Int) ∧ bt s (p : Int) ≤ 57
      · have hc : p < s.size ∧ 48 ≤ bt s (p : Int) ∧ bt s (p : Int) ≤ 57 := ⟨h, d⟩
        rw [lo_same d.2, if_pos hc, if_pos hc, sm_digs s n]
      · rw [if_neg (fun e => d (lo_low.1 e.2)), if_neg (fun e => d e.2)]
    · rw [if_neg (fun e => h e.1), if_neg (fun e => h e.1)]
theorem sm_big (s : ByteArray) (g : Int) : ∀ n p, firstBig (sm s) g n p = firstBig s g n p
  | 0, _ => rfl
  | n + 1, p => by
    simp only [firstBig]
    rw [sm_size]
    by_cases h : p < s.size
    · rw [if_pos h, if_pos h, sm_bt s p h, sm_big s g n]
      by_cases d : 48 ≤ bt s (p : Int) ∧ bt s (p : Int) ≤ 57
      · rw [lo_same d.2]
      · rw [if_neg (fun e => d (lo_low.1 ⟨e.1, e.2.1⟩)), if_neg (fun e => d ⟨e.1, e.2.1⟩)]
    · rw [if_neg h, if_neg h]
theorem ite_prop {α : Type} {p q : Prop} [Decidable p] [Decidable q] (h : p = q) (a b : α) : (if p then a else b) = if q then a else b := by
  by_cases c : q
  · rw [if_pos c, if_pos (h ▸ c)]
  · rw [if_neg c, if_neg (fun e => c (h ▸ e))]
theorem sm_tail (s : ByteArray) (p m0 m1 : Nat) : lifeTail (sm s) p m0 m1 = lifeTail s p m0 m1 := by
  have hh : hoodOf (sm s) p = hoodOf s p := by
    unfold hoodOf
    rw [ite_prop (sm_isL s p 86 (by omega)), ite_prop (sm_isL s p 72 (by omega))]
  unfold lifeTail
  rw [hh, sm_size, sm_big]
theorem sm_st2 (s : ByteArray) (p m0 m1 : Nat) : st2 (sm s) p m0 m1 = st2 s p m0 m1 := by
  unfold st2
  rw [ite_prop (sm_isL s p 83 (by omega)), sm_size, sm_digs]
  congr 1
  split
  · rfl
  · exact sm_tail s _ _ _
theorem sm_st1 (s : ByteArray) (p m0 m1 : Nat) : st1 (sm s) p m0 m1 = st1 s p m0 m1 := by
  unfold st1
  have h : (p < (sm s).size ∧ bt (sm s) (p : Int) = 47) = (p < s.size ∧ bt s (p : Int) = 47) := by
    rw [sm_size, eq_iff_iff]
    constructor
    · intro e
      have e2 := e.2
      rw [sm_bt s p e.1] at e2
      exact ⟨e.1, lo_slash.1 e2⟩
    · intro e
      refine ⟨e.1, ?_⟩
      rw [sm_bt s p e.1]
      exact lo_slash.2 e.2
  rw [ite_prop h, sm_st2]
theorem sm_parse (s : ByteArray) : lifeParse (sm s) = lifeParse s := by
  unfold lifeParse lifeStage st0
  rw [sm_size, ite_prop (sm_isL s 0 66 (by omega)), sm_digs]
  congr 1
  rw [if_pos rfl, if_pos rfl]
  congr 1
  split
  · rfl
  · exact sm_st1 s _ _ _
/-- The program's own letters made small. -/
theorem small_go (s : ByteArray) (hn : s.size ≤ 140737488351232) : ∀ (d k i : Nat) (a : List Int), s.size - i = d → i ≤ s.size → d < k → a = (los s).take i → vivariumlaw08_small.l0 k s a (i : Int) = some (sm s) := by
  intro d
  have hl : (los s).length = s.size := by unfold los; rw [List.length_map, bytesOf_length]
  induction d with
  | zero =>
    intro k i a hd hi hk ha
    obtain ⟨k, rfl⟩ : ∃ m, k = m + 1 := ⟨k - 1, by omega⟩
    simp only [vivariumlaw08_small.l0]
    rw [if_neg (by omega), ha, List.take_of_length_le (by omega)]
    rfl
  | succ d ih =>
    intro k i a hd hi hk ha
    obtain ⟨k, rfl⟩ : ∃ m, k = m + 1 := ⟨k - 1, by omega⟩
    have hi2 : i < s.size := by omega
    have q1 : (i : Int) < (s.size : Int) := by omega
    have q2 : (0 : Int) ≤ (i : Int) := by omega
    have hal : a.length = i := by rw [ha, List.length_take]; omega
    have q3 : a.length < 140737488355328 := by omega
    have hr := bt_range s (i : Int)
    have hg : (los s)[i]? = some (lo (bt s (i : Int))) := by unfold los; rw [List.getElem?_map, bytesOf_get s i hi2]; rfl
    have ht : a ++ [lo (bt s (i : Int))] = (los s).take (i + 1) := by
      rw [ha, List.take_add_one, hg]
      rfl
    have key := ih k (i + 1) _ (by omega) (by omega) (by omega) ht
    have e1 : wrap64 ((i : Int) + 1) = ((i + 1 : Nat) : Int) := w64 (by omega) (by omega)
    simp only [vivariumlaw08_small.l0]
    rw [if_pos q1, if_pos q2, if_pos q3, if_pos q3, e1]
    unfold lo at key
    by_cases c1 : bt s (i : Int) ≥ 65
    · rw [if_pos c1]
      by_cases c2 : bt s (i : Int) ≤ 90
      · rw [if_pos c2]
        rw [if_pos ⟨c1, c2⟩] at key
        rw [show (bt s (i : Int) + 32) % 256 = bt s (i : Int) + 32 from Int.emod_eq_of_lt (by omega) (by omega)]
        exact key
      · rw [if_neg c2]
        rw [if_neg (fun e => c2 e.2)] at key
        exact key
    · rw [if_neg c1]
      rw [if_neg (fun e => c1 e.1)] at key
      exact key
theorem small_f (s : ByteArray) (hn : s.size ≤ 140737488351232) (k : Nat) (hk : s.size < k) : vivariumlaw08_small.f k s = some (sm s) := small_go s hn s.size k 0 [] rfl (Nat.zero_le _) hk (by simp)

/-! Of any text. -/
theorem digs_lt (s : ByteArray) : ∀ (n p m : Nat), m < 1024 → (digs s n p m).2.2 < 1024
  | 0, _, _, h => h
  | n + 1, p, m, h => by
    rw [digs_succ]
    by_cases c : p < s.size ∧ 48 ≤ bt s p ∧ bt s p ≤ 57
    · rw [if_pos c]
      by_cases d : m.testBit (bt s p - 48).toNat = true
      · rw [if_pos d]; exact h
      · rw [if_neg d]; exact digs_lt s n (p + 1) _ (or_lt m _ h (by omega))
    · rw [if_neg c]; exact h
set_option maxRecDepth 100000 in
theorem dl_or_all : (List.range 1024).all (fun m => (List.range 10).all fun d => decide ((Dl (m ||| 2 ^ d)).length ≤ (Dl m).length + 1)) = true := by decide +kernel
theorem dl_or (m d : Nat) (hm : m < 1024) (hd : d ≤ 9) : (Dl (m ||| 2 ^ d)).length ≤ (Dl m).length + 1 :=
  of_decide_eq_true (List.all_eq_true.1 (List.all_eq_true.1 dl_or_all m (List.mem_range.2 hm)) d (List.mem_range.2 (by omega)))
/-- Where a list ends, how many digits it has, and that none is above a number that no digit of the text is above. -/
theorem digs_of (s : ByteArray) (g : Nat) : ∀ (n p m : Nat) (tw : Bool) (q m' : Nat), m < 1024 → digs s n p m = (tw, q, m') → p ≤ q ∧ (tw = true → q < s.size) ∧ (p ≤ s.size → q ≤ s.size) ∧ (Dl m').length ≤ (Dl m).length + (q - p) ∧ ((∀ i : Nat, i < s.size → 48 ≤ bt s (i : Int) ∧ bt s (i : Int) ≤ 57 → bt s (i : Int) - 48 ≤ g) → (∀ j, m.testBit j = true → j ≤ g) → ∀ j, m'.testBit j = true → j ≤ g)
  | 0, p, m, tw, q, m', _, h => by
    simp only [digs, Prod.mk.injEq] at h
    obtain ⟨rfl, rfl, rfl⟩ := h
    exact ⟨Nat.le_refl _, fun e => absurd e (by decide), fun e => e, by omega, fun _ e => e⟩
  | n + 1, p, m, tw, q, m', hm, h => by
    rw [digs_succ] at h
    by_cases c : p < s.size ∧ 48 ≤ bt s p ∧ bt s p ≤ 57
    · rw [if_pos c] at h
      by_cases d : m.testBit (bt s p - 48).toNat = true
      · rw [if_pos d] at h
        simp only [Prod.mk.injEq] at h
        obtain ⟨rfl, rfl, rfl⟩ := h
        exact ⟨Nat.le_refl _, fun _ => c.1, fun e => e, by omega, fun _ e => e⟩
      · rw [if_neg d] at h
        have hd9 : (bt s p - 48).toNat ≤ 9 := by omega
        obtain ⟨h1, h2, h3, h4, h5⟩ := digs_of s g n (p + 1) _ tw q m' (or_lt m _ hm hd9) h
        have h6 := dl_or m _ hm hd9
        refine ⟨by omega, h2, fun _ => h3 (by omega), by omega, fun a b => h5 a fun j hj => ?_⟩
        rw [Nat.testBit_or, Nat.testBit_two_pow, Bool.or_eq_true] at hj
        rcases hj with hj | hj
        · exact b j hj
        · have := of_decide_eq_true hj
          have := a p c.1 c.2
          omega
    · rw [if_neg c] at h
      simp only [Prod.mk.injEq] at h
      obtain ⟨rfl, rfl, rfl⟩ := h
      exact ⟨Nat.le_refl _, fun e => absurd e (by decide), fun e => e, by omega, fun _ e => e⟩
theorem big_of (s : ByteArray) (g : Int) : ∀ (n p : Nat), (∀ i, firstBig s g n p = some i → p ≤ i ∧ i < s.size) ∧ (firstBig s g n p = none → ∀ i : Nat, p ≤ i → i < s.size → i < p + n → 48 ≤ bt s (i : Int) ∧ bt s (i : Int) ≤ 57 → bt s (i : Int) - 48 ≤ g)
  | 0, p => ⟨fun i h => by simp [firstBig] at h, fun _ i h1 _ h2 => absurd h2 (by omega)⟩
  | n + 1, p => by
    obtain ⟨h1, h2⟩ := big_of s g n (p + 1)
    simp only [firstBig]
    by_cases c : p < s.size
    · rw [if_pos c]
      by_cases d : 48 ≤ bt s (p : Int) ∧ bt s (p : Int) ≤ 57 ∧ g < bt s (p : Int) - 48
      · rw [if_pos d]
        exact ⟨fun i h => by cases h; exact ⟨Nat.le_refl _, c⟩, fun h => absurd h (by simp)⟩
      · rw [if_neg d]
        refine ⟨fun i h => by have := h1 i h; omega, fun h i hp hs hn hd => ?_⟩
        rcases Nat.lt_or_ge p i with e | e
        · exact h2 h i e hs (by omega) hd
        · obtain rfl : p = i := by omega
          omega
    · rw [if_neg c]
      exact ⟨fun i h => absurd h (by simp), fun _ i hp hs => absurd hs (by omega)⟩
/-- What a text is read as: a rule that may be, whose own text is no longer; or a fault within the text. -/
def Read (s : ByteArray) (r : Int × Int × Int × Int × Int) : Prop :=
  (∃ (e : Int) (i : Nat), e ≠ 0 ∧ i ≤ s.size ∧ r = (0, 0, 0, (i : Int), e)) ∨ ∃ (H : Int) (B S : Nat), May H B S ∧ (lifeText H B S).length ≤ s.size ∧ r = (H, (B : Int), (S : Int), 0, 0)
theorem lt_of_bits (m g : Nat) (h : ∀ j, m.testBit j = true → j ≤ g) : m < 2 ^ (g + 1) := by
  apply Nat.lt_pow_two_of_testBit
  intro i hi
  cases e : m.testBit i with
  | false => rfl
  | true => exact absurd (h i e) (by omega)
theorem read_tail (s : ByteArray) (p0 q0 p1 q1 m0 m1 : Nat) (h1 : p0 ≤ q0) (h2 : q0 + 2 ≤ p1) (h3 : 1 ≤ p0) (h4 : p1 ≤ q1) (h5 : q1 ≤ s.size) (n0 : (Dl m0).length ≤ q0 - p0) (n1 : (Dl m1).length ≤ q1 - p1)
    (b0 : ∀ g : Nat, (∀ i : Nat, i < s.size → 48 ≤ bt s (i : Int) ∧ bt s (i : Int) ≤ 57 → bt s (i : Int) - 48 ≤ g) → ∀ j, m0.testBit j = true → j ≤ g)
    (b1 : ∀ g : Nat, (∀ i : Nat, i < s.size → 48 ≤ bt s (i : Int) ∧ bt s (i : Int) ≤ 57 → bt s (i : Int) - 48 ≤ g) → ∀ j, m1.testBit j = true → j ≤ g) : Read s (lifeTail s q1 m0 m1) := by
  have hm := most_le (hoodOf s q1)
  have hH : (hoodOf s q1 = 1) ∨ (q1 < s.size ∧ (hoodOf s q1 = 2 ∨ hoodOf s q1 = 3)) := by
    unfold hoodOf
    by_cases c : isL s q1 86
    · rw [if_pos c]; exact .inr ⟨c.1, .inl rfl⟩
    · rw [if_neg c]
      by_cases d : isL s q1 72
      · rw [if_pos d]; exact .inr ⟨d.1, .inr rfl⟩
      · rw [if_neg d]; exact .inl rfl
  unfold lifeTail
  by_cases c : (if hoodOf s q1 = 1 then q1 else q1 + 1) < s.size
  · rw [if_pos c]
    exact .inl ⟨80, _, by decide, Nat.le_of_lt c, rfl⟩
  · rw [if_neg c]
    have hb := big_of s (mostOf (hoodOf s q1)) s.size 0
    cases hf : firstBig s (mostOf (hoodOf s q1)) s.size 0 with
    | some i => exact .inl ⟨82, i, by decide, Nat.le_of_lt (hb.1 i hf).2, rfl⟩
    | none =>
      have hg : ∀ i : Nat, i < s.size → 48 ≤ bt s (i : Int) ∧ bt s (i : Int) ≤ 57 → bt s (i : Int) - 48 ≤ ((mostOf (hoodOf s q1)).toNat : Nat) := fun i hi hd => by
        have := hb.2 hf i (Nat.zero_le _) hi (by omega) hd
        omega
      have l0 := lt_of_bits m0 _ (b0 _ hg)
      have l1 := lt_of_bits m1 _ (b1 _ hg)
      refine .inr ⟨hoodOf s q1, m0, m1, ?_, ?_, rfl⟩
      · rcases hH with e | ⟨_, e | e⟩
        · rw [e] at l0 l1 ⊢; exact .inl ⟨rfl, l0, l1⟩
        · rw [e] at l0 l1 ⊢; exact .inr (.inl ⟨rfl, l0, l1⟩)
        · rw [e] at l0 l1 ⊢; exact .inr (.inr ⟨rfl, l0, l1⟩)
      · unfold lifeText tl
        simp only [List.length_append, List.length_cons, List.length_nil]
        rcases hH with e | ⟨hq, e | e⟩
        · rw [e, if_neg (by decide), if_neg (by decide), List.length_nil]; omega
        · rw [e, if_pos rfl]; simp only [List.length_cons, List.length_nil]; omega
        · rw [e, if_neg (by decide), if_pos rfl]; simp only [List.length_cons, List.length_nil]; omega
theorem read_parse (s : ByteArray) : Read s (lifeParse s) := by
  unfold lifeParse
  by_cases c0 : 1048576 < s.size
  · rw [if_pos c0]
    exact .inl ⟨3, 0, by decide, Nat.zero_le _, rfl⟩
  rw [if_neg c0]
  unfold lifeStage
  rw [if_pos rfl]
  unfold st0
  by_cases c1 : isL s 0 66
  · rw [if_pos c1]
    have hp : 0 < s.size := c1.1
    have z0 : ∀ g j : Nat, (0 : Nat).testBit j = true → j ≤ g := fun g j h => by rw [Nat.zero_testBit] at h; cases h
    have zl : (Dl 0).length = 0 := by decide
    rcases hD : digs s s.size (0 + 1) 0 with ⟨tw, q, m⟩
    have hd := fun g => digs_of s g s.size (0 + 1) 0 tw q m (by omega) hD
    cases tw with
    | true => exact .inl ⟨81, q, by decide, Nat.le_of_lt ((hd 0).2.1 rfl), rfl⟩
    | false =>
      dsimp only
      unfold st1
      by_cases c2 : q < s.size ∧ bt s (q : Int) = 47
      · rw [if_pos c2]
        unfold st2
        by_cases c3 : isL s (q + 1) 83
        · rw [if_pos c3]
          rcases hE : digs s s.size (q + 1 + 1) 0 with ⟨tw2, q2, m2⟩
          have he := fun g => digs_of s g s.size (q + 1 + 1) 0 tw2 q2 m2 (by omega) hE
          have hs2 := (he 0).2.2.1 (by have := c3.1; omega)
          cases tw2 with
          | true => exact .inl ⟨81, q2, by decide, hs2, rfl⟩
          | false =>
            have n0 := (hd 0).2.2.2.1
            have n1 := (he 0).2.2.2.1
            exact read_tail s 1 q (q + 1 + 1) q2 m m2 (hd 0).1 (by omega) (by omega) (he 0).1 hs2 (by omega) (by omega) (fun g a => (hd g).2.2.2.2 a (z0 g)) (fun g a => (he g).2.2.2.2 a (z0 g))
        · rw [if_neg c3]
          exact .inl ⟨80, q + 1, by decide, c2.1, rfl⟩
      · rw [if_neg c2]
        exact .inl ⟨80, q, by decide, (hd 0).2.2.1 (by omega), rfl⟩
  · rw [if_neg c1]
    exact .inl ⟨80, 0, by decide, Nat.zero_le _, rfl⟩
end Go.Proofs.Ytfgonglcmgahkaa.L

/- A rule's text and count, written, are read as they were. -/
import Derived.Test.YtkahgdkpehlanaaDoorGensText
import Derived.Test.YtkahgdkpehlanaaDoorGensSame
import Derived.Test.YtkahgdkpehlanaaDoorPm10
import Derived.Lib.ItoaNum
namespace Go.Proofs.YtkahgdkpehlanaaDoor.L
open Go.RowKit Go.Proofs.YtkahgdkpehlanaaDoor.P Go.Proofs.YtkahgdkpehlanaaDoorW.PrintWords Go.Proofs.YtkahgdkpehlanaaDoorW.PrintLast Go.Proofs.YtkahgdkpehlanaaDoorW.PrintMore
theorem fsb_hit (s : ByteArray) (c : Int) : ∀ (n i j : Nat), i ≤ j → j < s.size → j - i < n → (∀ m, i ≤ m → m < j → bt s (m : Int) ≠ c) → bt s (j : Int) = c → fsb s c n i = j
  | 0, i, j, _, _, h, _, _ => by omega
  | n + 1, i, j, h0, h1, h2, h3, h4 => by
    rw [fsb_succ]
    by_cases e : i = j
    · subst e
      rw [if_neg (fun h => h.2 h4)]
    · rw [if_pos ⟨by omega, h3 i (Nat.le_refl _) (by omega)⟩]
      exact fsb_hit s c n (i + 1) j (by omega) h1 (by omega) (fun m a b => h3 m (by omega) b) h4
/-! Parts of a text that is told as a list. -/
theorem ext_mid (a b c : List Int) (i j : Nat) (hi : i = a.length) (hj : j = a.length + b.length) : (strOfNums (a ++ (b ++ c))).extract i j = strOfNums b := by
  subst hi hj
  apply ByteArray.ext
  rw [ByteArray.data_extract]
  apply Array.toList_inj.1
  rw [Array.toList_extract, List.extract_eq_take_drop, strOfNums_data, strOfNums_data, List.map_append, List.map_append, Nat.add_sub_cancel_left, List.drop_left' (by simp), List.take_left' (by simp)]
theorem fsb_list (pre mid rest : List Int) (hx : Bytes01 (pre ++ (mid ++ (47 :: rest)))) (hm : ∀ x ∈ mid, x ≠ 47) (n i : Nat) (hn : mid.length < n) (hi : i = pre.length) : fsb (strOfNums (pre ++ (mid ++ (47 :: rest)))) 47 n i = pre.length + mid.length := by
  subst hi
  refine fsb_hit _ 47 n _ _ (Nat.le_add_right _ _) ?_ (by omega) ?_ ?_
  · rw [strOfNums_size]; simp only [List.length_append, List.length_cons]; omega
  · intro m h1 h2
    have hg : (pre ++ (mid ++ (47 :: rest)))[m]? = some (mid[m - pre.length]'(by omega)) := by
      rw [gx (j := m - pre.length) (by omega), List.getElem?_append_left (by omega), List.getElem?_eq_getElem (by omega)]
    rw [(bt_str? _ hx m _ hg).2]
    exact hm _ (List.getElem_mem _)
  · have hg : (pre ++ (mid ++ (47 :: rest)))[pre.length + mid.length]? = some 47 := by
      rw [gx (j := mid.length) rfl, gx (l := mid) (j := 0) (Nat.add_zero _).symm]
      rfl
    exact (bt_str? _ hx _ _ hg).2
/-! The count. -/
def decD (n : Nat) : List UInt8 := if n < 10 then [UInt8.ofNat (48 + n)] else if n < 100 then [UInt8.ofNat (48 + n / 10), UInt8.ofNat (48 + n % 10)] else [UInt8.ofNat (48 + n / 10 / 10), UInt8.ofNat (48 + n / 10 % 10), UInt8.ofNat (48 + n % 10)]
theorem dec_one {n : Nat} (h : n < 10) : Lib.decDigits n = [UInt8.ofNat (48 + n)] := by rw [Lib.decDigits, dif_pos h]
theorem dec_more {n : Nat} (h : ¬ n < 10) : Lib.decDigits n = Lib.decDigits (n / 10) ++ [UInt8.ofNat (48 + n % 10)] := by rw [Lib.decDigits, dif_neg h]
theorem dec_is (n : Nat) (h : n < 1000) : Lib.decDigits n = decD n := by
  unfold decD
  by_cases a : n < 10
  · rw [if_pos a, dec_one a]
  · rw [if_neg a, dec_more a]
    by_cases b : n < 100
    · rw [if_pos b, dec_one (show n / 10 < 10 by omega)]
      rfl
    · rw [if_neg b, dec_more (show ¬ n / 10 < 10 by omega), dec_one (show n / 10 / 10 < 10 by omega)]
      rfl
def decI (n : Nat) : List Int := (decD n).map fun b => (b.toNat : Int)
theorem itoa_is (n : Nat) (h1 : n ≤ 256) : (⟨(Lib.itoa (n : Int)).toArray⟩ : ByteArray) = strOfNums (decI n) := by
  have h : Lib.itoa (n : Int) = decD n := by
    unfold Lib.itoa
    rw [if_neg (by omega), Int.toNat_natCast, dec_is _ (by omega)]
  rw [h]
  unfold strOfNums decI
  congr 2
  rw [List.map_map]
  have e : ((fun n : Int => UInt8.ofNat n.toNat) ∘ fun b : UInt8 => (b.toNat : Int)) = id := by
    funext b
    simp
  rw [e, List.map_id]
set_option maxRecDepth 100000 in
theorem tail_all : (List.range 257).all (fun n => n < 2 || ((decide (stT (strOfNums (67 :: decI n)) = ((n : Int), 0, true)) && decide (stT (strOfNums (103 :: decI n)) = ((n : Int), 0, true))) && (decide (stT (strOfNums (decI n)) = ((n : Int), 0, true)) && (decI n).all fun x => decide (48 ≤ x ∧ x ≤ 57)))) = true := by decide +kernel
theorem tail_is (n : Nat) (h0 : 2 ≤ n) (h1 : n ≤ 256) : stT (strOfNums (67 :: decI n)) = ((n : Int), 0, true) ∧ stT (strOfNums (103 :: decI n)) = ((n : Int), 0, true) ∧ stT (strOfNums (decI n)) = ((n : Int), 0, true) ∧ Digits (decI n) := by
  have h := List.all_eq_true.1 tail_all n (List.mem_range.2 (by omega))
  simp only [Bool.or_eq_true, Bool.and_eq_true, decide_eq_true_eq, List.all_eq_true] at h
  rcases h with h | ⟨⟨h2, h3⟩, h4, h5⟩
  · omega
  · exact ⟨h2, h3, h4, h5⟩
theorem decI_len (n : Nat) : 1 ≤ (decI n).length ∧ (decI n).length ≤ 3 := by
  unfold decI decD
  rw [List.length_map]
  by_cases a : n < 10
  · rw [if_pos a]; simp
  · rw [if_neg a]
    by_cases b : n < 100
    · rw [if_pos b]; simp
    · rw [if_neg b]; simp
/-! The text of a rule with a count. -/
theorem lifeText_len (h : Int) (b s : Nat) : 3 ≤ (lifeText h b s).length ∧ (lifeText h b s).length ≤ 30 := by
  have h1 := dl_len b
  have h2 := dl_len s
  have h3 : (tl h).length ≤ 1 := by
    unfold tl
    by_cases c2 : h = 2
    · rw [if_pos c2]; decide
    · rw [if_neg c2]
      by_cases c3 : h = 3
      · rw [if_pos c3]; decide
      · rw [if_neg c3]; decide
  unfold lifeText
  simp only [List.length_append, List.length_cons, List.length_nil]
  omega
theorem tl_mem (H : Int) : ∀ x ∈ tl H, 57 < x ∧ x < 256 := by
  intro x hx
  unfold tl at hx
  by_cases c2 : H = 2
  · rw [if_pos c2, List.mem_singleton] at hx; omega
  · rw [if_neg c2] at hx
    by_cases c3 : H = 3
    · rw [if_pos c3, List.mem_singleton] at hx; omega
    · rw [if_neg c3] at hx; simp at hx
theorem life_01 (H : Int) (B S : Nat) : Bytes01 (lifeText H B S) := by
  intro x hx
  unfold lifeText at hx
  simp only [List.mem_append, List.mem_cons, List.not_mem_nil, or_false] at hx
  rcases hx with rfl | hx | (rfl | rfl) | hx | hx
  · omega
  · have := dl_digits B x hx; omega
  · omega
  · omega
  · have := dl_digits S x hx; omega
  · have := tl_mem H x hx; omega
theorem text_01 (H : Int) (B S : Nat) (t : List Int) (ht : Bytes01 t) : Bytes01 (lifeText H B S ++ (47 :: t)) := by
  intro x hx
  rcases List.mem_append.1 hx with hx | hx
  · exact life_01 H B S x hx
  · rcases List.mem_cons.1 hx with rfl | hx
    · omega
    · exact ht x hx
theorem p2_text (H : Int) (B S : Nat) (t : List Int) (ht : Bytes01 t) : p2 (strOfNums (lifeText H B S ++ (47 :: t))) = (lifeText H B S).length := by
  have hx := text_01 H B S t ht
  have e1 : lifeText H B S ++ (47 :: t) = [] ++ (([66] ++ Dl B) ++ (47 :: ([83] ++ (Dl S ++ (tl H ++ (47 :: t)))))) := by simp [lifeText]
  have e2 : lifeText H B S ++ (47 :: t) = ([66] ++ (Dl B ++ [47])) ++ (([83] ++ (Dl S ++ tl H)) ++ (47 :: t)) := by simp [lifeText]
  have hz := strOfNums_size (lifeText H B S ++ (47 :: t))
  have hlen : (lifeText H B S).length = 1 + (Dl B).length + (2 + ((Dl S).length + (tl H).length)) := by unfold lifeText; simp only [List.length_append, List.length_cons, List.length_nil]; omega
  have hp1 : p1 (strOfNums (lifeText H B S ++ (47 :: t))) = 1 + (Dl B).length := by
    unfold p1
    rw [hz]
    have h := fsb_list [] ([66] ++ Dl B) ([83] ++ (Dl S ++ (tl H ++ (47 :: t)))) (by rw [← e1]; exact hx) (by
      intro x hx
      rcases List.mem_append.1 hx with hx | hx
      · rw [List.mem_singleton] at hx; omega
      · have := dl_digits B x hx; omega) (lifeText H B S ++ (47 :: t)).length 0 (by simp only [List.length_append, List.length_cons, List.length_nil]; omega) rfl
    rw [← e1] at h
    rw [h]
    simp only [List.length_append, List.length_cons, List.length_nil]
    omega
  have hz2 : (lifeText H B S ++ (47 :: t)).length = (lifeText H B S).length + t.length + 1 := by simp only [List.length_append, List.length_cons]; omega
  unfold p2
  rw [hp1, hz, hz2, if_pos (by omega)]
  have h := fsb_list ([66] ++ (Dl B ++ [47])) ([83] ++ (Dl S ++ tl H)) t (by rw [← e2]; exact hx) (by
    intro x hx
    simp only [List.mem_append, List.mem_singleton] at hx
    rcases hx with rfl | hx | hx
    · omega
    · have := dl_digits S x hx; omega
    · have := tl_mem H x hx; omega) ((lifeText H B S).length + t.length + 1 - (1 + (Dl B).length + 1)) (1 + (Dl B).length + 1) (by simp only [List.length_append, List.length_cons, List.length_nil]; omega) (by simp only [List.length_append, List.length_cons, List.length_nil]; omega)
  rw [← e2] at h
  rw [h]
  simp only [List.length_append, List.length_cons, List.length_nil]
  omega
theorem gens_text {H : Int} {B S : Nat} (h : May H B S) (t : List Int) (n : Int) (ht : Bytes01 t) (hl : t.length ≤ 10) (hst : stT (strOfNums t) = (n, 0, true)) : gensAll (strOfNums (lifeText H B S ++ (47 :: t))) = (H, (B : Int), (S : Int), n, 0, 0) := by
  have hp2 := p2_text H B S t ht
  have hz : (strOfNums (lifeText H B S ++ (47 :: t))).size = (lifeText H B S).length + 1 + t.length := by rw [strOfNums_size]; simp only [List.length_append, List.length_cons]; omega
  have hll := lifeText_len H B S
  have x1 := ext_mid [] (lifeText H B S) (47 :: t) 0 (lifeText H B S).length rfl (by simp)
  rw [List.nil_append] at x1
  have x2 := ext_mid (lifeText H B S ++ [47]) t [] ((lifeText H B S).length + 1) ((lifeText H B S).length + 1 + t.length) (by simp) (by simp)
  rw [List.append_nil, List.append_assoc, List.singleton_append] at x2
  have hb : bLet (strOfNums (lifeText H B S ++ (47 :: t))) := by
    refine ⟨by omega, Or.inl ?_⟩
    exact (bt_str? _ (text_01 H B S t ht) 0 66 (by simp [lifeText])).2
  unfold gensAll
  rw [if_neg (by omega), if_pos hb, hp2, x1, parse_print h, hz, x2, hst]
  dsimp only
  rw [if_pos rfl, if_pos (by omega), if_pos rfl]
/-! Of any text. -/
theorem gm_read (s : ByteArray) : ∀ (n i li m0 m1 : Nat) (nine : Int), m0 < 1024 → m1 < 1024 → nine ≤ s.size → (nine < 0 → m0 < 512 ∧ m1 < 512) → (∃ (e : Int) (j : Nat), e ≠ 0 ∧ j ≤ s.size ∧ gm s n i li m0 m1 nine = (0, 0, 0, (j : Int), e)) ∨ ∃ B S : Nat, B < 512 ∧ S < 512 ∧ gm s n i li m0 m1 nine = (1, (B : Int), (S : Int), 0, 0)
  | 0, _, _, _, _, _, _, _, _, _ => .inl ⟨80, s.size, by decide, Nat.le_refl _, rfl⟩
  | n + 1, i, li, m0, m1, nine, h0, h1, hn, hd => by
    rw [gm_succ]
    by_cases c : i < s.size
    · rw [if_pos c]
      by_cases c47 : bt s (i : Int) = 47
      · rw [if_pos c47]
        by_cases cl : li = 0
        · rw [if_pos cl]; exact gm_read s n (i + 1) 1 m0 m1 nine h0 h1 hn hd
        · rw [if_neg cl]
          by_cases cn : 0 ≤ nine
          · rw [if_pos cn]
            refine .inl ⟨82, nine.toNat, by decide, by omega, ?_⟩
            rw [Int.toNat_of_nonneg cn]
          · rw [if_neg cn]
            have h := hd (by omega)
            exact .inr ⟨m1, m0, h.2, h.1, rfl⟩
      · rw [if_neg c47]
        by_cases cd : bt s (i : Int) < 48 ∨ 57 < bt s (i : Int)
        · rw [if_pos cd]; exact .inl ⟨80, i, by decide, Nat.le_of_lt c, rfl⟩
        · rw [if_neg cd]
          by_cases cb : (if li = 0 then m0 else m1).testBit (bt s (i : Int) - 48).toNat = true
          · rw [if_pos cb]; exact .inl ⟨81, i, by decide, Nat.le_of_lt c, rfl⟩
          · rw [if_neg cb]
            obtain ⟨d, hdd⟩ : ∃ d, (bt s (i : Int) - 48).toNat = d := ⟨_, rfl⟩
            have hd9 : d ≤ 9 := by omega
            have hp9 : ¬ bt s (i : Int) = 57 → 2 ^ d < 2 ^ 9 := fun e => Nat.pow_lt_pow_right (by decide) (by omega)
            rw [hdd]
            refine gm_read s n (i + 1) li _ _ _ ?_ ?_ ?_ ?_
            · by_cases cl : li = 0
              · rw [if_pos cl]; exact or_lt m0 d h0 hd9
              · rw [if_neg cl]; exact h0
            · by_cases cl : li = 0
              · rw [if_pos cl]; exact h1
              · rw [if_neg cl]; exact or_lt m1 d h1 hd9
            · by_cases cn : bt s (i : Int) = 57 ∧ nine < 0
              · rw [if_pos cn]; omega
              · rw [if_neg cn]; exact hn
            · by_cases cn : bt s (i : Int) = 57 ∧ nine < 0
              · rw [if_pos cn]; intro e; omega
              · rw [if_neg cn]
                intro e
                have e9 := hp9 (fun e2 => cn ⟨e2, e⟩)
                have h := hd e
                by_cases cl : li = 0
                · rw [if_pos cl, if_pos cl]; exact ⟨Nat.or_lt_two_pow (n := 9) h.1 e9, h.2⟩
                · rw [if_neg cl, if_neg cl]; exact ⟨h.1, Nat.or_lt_two_pow (n := 9) h.2 e9⟩
    · rw [if_neg c]; exact .inl ⟨80, s.size, by decide, Nat.le_refl _, rfl⟩
theorem stT_ok (t : ByteArray) (h : (stT t).2.2 = true) : ∃ n : Nat, 2 ≤ n ∧ n ≤ 256 ∧ stT t = ((n : Int), 0, true) := by
  unfold stT at h ⊢
  by_cases c1 : stF t + stC t < t.size
  · rw [if_pos c1] at h; exact absurd h Bool.false_ne_true
  · rw [if_neg c1] at h ⊢
    by_cases c2 : stC t = 0
    · rw [if_pos c2] at h; exact absurd h Bool.false_ne_true
    · rw [if_neg c2] at h ⊢
      by_cases c3 : vv t (stC t) (stF t) 0 < 2 ∨ 256 < vv t (stC t) (stF t) 0
      · rw [if_pos c3] at h; exact absurd h Bool.false_ne_true
      · rw [if_neg c3]
        refine ⟨(vv t (stC t) (stF t) 0).toNat, by omega, by omega, ?_⟩
        rw [Int.toNat_of_nonneg (by omega)]
theorem gens_read (s : ByteArray) : (∃ (e : Int) (i : Nat), e ≠ 0 ∧ i ≤ s.size ∧ gensAll s = (0, 0, 0, 0, (i : Int), e)) ∨ ∃ (H : Int) (B S n : Nat), May H B S ∧ 2 ≤ n ∧ n ≤ 256 ∧ gensAll s = (H, (B : Int), (S : Int), (n : Int), 0, 0) := by
  unfold gensAll
  by_cases c : 1048576 < s.size
  · rw [if_pos c]; exact .inl ⟨3, 0, by decide, Nat.zero_le _, rfl⟩
  · rw [if_neg c]
    have hp := p2_le s
    have hl : (∃ (e : Int) (i : Nat), e ≠ 0 ∧ i ≤ s.size ∧ (if bLet s then lifeParse (s.extract 0 (p2 s)) else gmAll s) = (0, 0, 0, (i : Int), e)) ∨ ∃ (H : Int) (B S : Nat), May H B S ∧ (if bLet s then lifeParse (s.extract 0 (p2 s)) else gmAll s) = (H, (B : Int), (S : Int), 0, 0) := by
      by_cases cb : bLet s
      · rw [if_pos cb]
        rcases read_parse (s.extract 0 (p2 s)) with ⟨e, i, he, hi, hr⟩ | ⟨H, B, S, hm, _, hr⟩
        · rw [ByteArray.size_extract] at hi
          exact .inl ⟨e, i, he, by omega, hr⟩
        · exact .inr ⟨H, B, S, hm, hr⟩
      · rw [if_neg cb]
        rcases gm_read s s.size 0 0 0 0 (-1) (by decide) (by decide) (by omega) (fun _ => ⟨by decide, by decide⟩) with ⟨e, i, he, hi, hr⟩ | ⟨B, S, hB, hS, hr⟩
        · exact .inl ⟨e, i, he, hi, hr⟩
        · exact .inr ⟨1, B, S, .inl ⟨rfl, hB, hS⟩, hr⟩
    rcases hl with ⟨e, i, he, hi, hr⟩ | ⟨H, B, S, hm, hr⟩
    · rw [hr]
      dsimp only
      rw [if_neg he]
      exact .inl ⟨e, i, he, hi, rfl⟩
    · rw [hr]
      dsimp only
      rw [if_pos rfl]
      by_cases c2 : p2 s < s.size
      · rw [if_pos c2]
        have hz : (s.extract (p2 s + 1) s.size).size = s.size - (p2 s + 1) := by rw [ByteArray.size_extract]; omega
        have hrg := stT_range (s.extract (p2 s + 1) s.size)
        by_cases c3 : (stT (s.extract (p2 s + 1) s.size)).2.2 = true
        · obtain ⟨n, h2, h3, h4⟩ := stT_ok _ c3
          rw [if_pos c3, h4]
          exact .inr ⟨H, B, S, n, hm, h2, h3, rfl⟩
        · rw [if_neg c3]
          refine .inl ⟨90, (((p2 s + 1 : Nat) : Int) + (stT (s.extract (p2 s + 1) s.size)).2.1).toNat, by decide, by omega, ?_⟩
          rw [Int.toNat_of_nonneg (by omega)]
      · rw [if_neg c2]
        exact .inl ⟨90, s.size, by decide, Nat.le_refl _, rfl⟩
/-! The program's text. -/
theorem print_gens {H : Int} {B S : Nat} (h : May H B S) (n : Nat) (h0 : 2 ≤ n) (h1 : n ≤ 256) (k : Nat) (hk : 1000 ≤ k) : gens_Print.f k H B S n = some (strOfNums (lifeText H B S ++ (47 :: (67 :: decI n))), 0) := by
  have hl := h.lt
  have hll := lifeText_len H B S
  have hdl := decI_len n
  have c1 := prog_check H B S (by omega) (by omega) n
  have c2 : gchk H B S n = 0 := by
    unfold gchk
    rw [if_pos h.chk, if_neg (by omega)]
  unfold gens_Print.f strconv_Itoa.f
  rw [c1, Option.bind_some, if_pos c2, print_may h k (by omega), Option.bind_some]
  dsimp only
  rw [if_pos (by rw [strOfNums_size]; omega), if_pos ⟨by omega, by omega⟩, Option.bind_some, itoa_is n h1, if_pos (by rw [strOfNums_size, strOfNums_size]; omega)]
  rw [show (⟨#[47, 67]⟩ : ByteArray) = strOfNums [47, 67] from rfl, str_app, str_app, List.append_assoc]
  rfl
end Go.Proofs.YtkahgdkpehlanaaDoor.L

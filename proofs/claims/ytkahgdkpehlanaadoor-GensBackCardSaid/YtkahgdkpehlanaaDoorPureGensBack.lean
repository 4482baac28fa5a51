/- What is printed is read as the rule, with another letter, and without one, too; what is read is printed as one text. -/
import Derived.Test.YtkahgdkpehlanaaDoorGensBackLib
import Derived.Test.YtkahgdkpehlanaaDoorPm15
namespace Go.Proofs.YtkahgdkpehlanaaDoor.Pure
open Go.RowKit Go.Proofs.YtkahgdkpehlanaaDoor.P Go.Proofs.YtkahgdkpehlanaaDoorW.PrintWords Go.Proofs.YtkahgdkpehlanaaDoorW.PrintLast Go.Proofs.YtkahgdkpehlanaaDoorW.PrintMore Go.Proofs.YtkahgdkpehlanaaDoor.L
theorem digits_01 {D : List Int} (h : Digits D) (x : Int) (hx : 0 ≤ x ∧ x < 256) : Bytes01 D ∧ Bytes01 (x :: D) := by
  have h1 : Bytes01 D := fun y hy => by have := h y hy; omega
  refine ⟨h1, fun y hy => ?_⟩
  rcases List.mem_cons.1 hy with rfl | hy
  · exact hx
  · exact h1 y hy
theorem back (a1 : ByteArray) (t : Bool) (A D : List Int) (hA : 0 < A.length) (hx : Bytes01 (A ++ (67 :: D))) (hD : Digits D) (hl : D.length ≤ 10 ∧ A.length ≤ 100) (h b s n : Int) : ∀ (d k : Nat), d ≤ D.length → vivariumlaw09_GensBack.l0 (k + d + 1) a1 t (strOfNums (A ++ (67 :: D))) ((A.length + d : Nat) : Int) h b s n = vivariumlaw09_GensBack.j1 k a1 t (strOfNums (A ++ (67 :: D))) (A.length : Int) h b s n
  | 0, k, _ => by
    have hg := bt_str? _ hx A.length 67 (by rw [gx (l := A) (j := 0) (Nat.add_zero _).symm]; rfl)
    simp only [vivariumlaw09_GensBack.l0]
    rw [Nat.add_zero, if_pos (by omega), if_pos (by omega), if_pos (by omega), hg.2, if_pos rfl]
  | d + 1, k, hd => by
    have hg := bt_str? _ hx (A.length + (d + 1)) (D[d]'(by omega)) (by rw [gx (j := d + 1) rfl, List.getElem?_cons_succ, List.getElem?_eq_getElem])
    have h2 := hD (D[d]'(by omega)) (List.getElem_mem _)
    have q1 : ((A.length + (d + 1) : Nat) : Int) > 0 := by omega
    have q2 : 0 ≤ ((A.length + (d + 1) : Nat) : Int) := by omega
    have q3 := Int.ofNat_lt.mpr hg.1
    have q4 : ¬ (D[d]'(by omega)) = 67 := by omega
    have q5 : k + (d + 1) + 1 = (k + d + 1) + 1 := by omega
    have e : wrap64 (((A.length + (d + 1) : Nat) : Int) - 1) = ((A.length + d : Nat) : Int) := by rw [w64 (by omega) (by omega)]; omega
    have ih := back a1 t A D hA hx hD hl h b s n d k (by omega)
    rw [q5]
    simp only [vivariumlaw09_GensBack.l0]
    rw [if_pos q1, if_pos q2, if_pos q3, hg.2, if_neg q4, e]
    exact ih
theorem second (a1 : ByteArray) (k : Nat) (hk : a1.size + 2000 ≤ k) : vivariumlaw09_GensBack.j2 k a1 true = some true := by
  obtain ⟨k, rfl⟩ : ∃ m, k = m + 1 := ⟨k - 1, by omega⟩
  simp only [vivariumlaw09_GensBack.j2]
  rw [parse_prog a1 k (by omega), Option.bind_some]
  rcases gens_read a1 with ⟨e, i, he, hi, hr⟩ | ⟨H, B, S, n, hm, h2, h3, hr⟩
  · rw [hr]
    dsimp only
    rw [if_neg he]
    simp
    omega
  · have ht := tail_is n h2 h3
    have hd := digits_01 ht.2.2.2 67 (by omega)
    have hdl := decI_len n
    have hll := lifeText_len H B S
    rw [hr]
    dsimp only
    rw [if_pos rfl, print_gens hm n h2 h3 k (by omega), Option.bind_some]
    dsimp only
    rw [parse_prog _ k (by rw [strOfNums_size]; simp only [List.length_append, List.length_cons]; omega), gens_text hm _ n hd.2 (by simp only [List.length_cons]; omega) ht.1, Option.bind_some]
    dsimp only
    have hne : (strOfNums (lifeText H B S ++ (47 :: (67 :: decI n)))).toList ≠ ([] : List UInt8) := by
      intro e
      rw [ByteArray.toList_eq, strOfNums_data] at e
      have := congrArg List.length e
      simp at this
    simp [hne]
theorem GensBack : vivariumlaw09_GensBack.Pure := by
  intro h b s n a1 w0 w1 w2 w3 wa
  obtain ⟨b, rfl, hb⟩ := u16_nat w1
  obtain ⟨s, rfl, hs⟩ := u16_nat w2
  by_cases c : gchk h b s n = 0
  · obtain ⟨hk, hn2, hn3⟩ := gchk_ok c
    have hm := may_of hk
    obtain ⟨n, rfl⟩ : ∃ m : Nat, n = m := ⟨n.toNat, by omega⟩
    have h2 : 2 ≤ n := by omega
    have h3 : n ≤ 256 := by omega
    have ht := tail_is n h2 h3
    have hD := ht.2.2.2
    have hd := digits_01 hD 67 (by omega)
    have hd' := digits_01 hD 103 (by omega)
    have hdl := decI_len n
    have hll := lifeText_len h b s
    refine ⟨(a1.size + 3000) + (decI n).length + 1, ?_⟩
    have hbk := back a1 true (lifeText h b s ++ [47]) (decI n) (by simp) (by rw [List.append_assoc, List.singleton_append]; exact text_01 h b s _ hd.2) hD (by simp only [List.length_append, List.length_cons, List.length_nil]; omega) h b s n (decI n).length (a1.size + 3000) (Nat.le_refl _)
    have x1 := ext_mid [] (lifeText h b s ++ [47]) (67 :: decI n) 0 (lifeText h b s ++ [47]).length rfl (by simp)
    rw [List.nil_append] at x1
    have x2 := ext_mid (lifeText h b s ++ [47] ++ [67]) (decI n) [] ((lifeText h b s ++ [47]).length + 1) ((lifeText h b s ++ [47]).length + 1 + (decI n).length) (by simp) (by simp)
    rw [List.append_nil, List.append_assoc (lifeText h b s ++ [47]), List.singleton_append] at x2
    have hz : (strOfNums ((lifeText h b s ++ [47]) ++ (67 :: decI n))).size = (lifeText h b s ++ [47]).length + 1 + (decI n).length := by rw [strOfNums_size]; simp only [List.length_append, List.length_cons, List.length_nil]; omega
    have hAl : (lifeText h b s ++ [47]).length = (lifeText h b s).length + 1 := by simp
    have e0 : strOfNums (lifeText h b s ++ (47 :: (67 :: decI n))) = strOfNums ((lifeText h b s ++ [47]) ++ (67 :: decI n)) := by rw [List.append_assoc, List.singleton_append]
    unfold vivariumlaw09_GensBack.f vivariumlaw09_GensBack.f0
    rw [awake9_true _ (by omega), Option.bind_some, print_gens hm n h2 h3 _ (by omega), Option.bind_some]
    dsimp only
    rw [if_pos rfl, e0, hz]
    have e1 : wrap64 ((((lifeText h b s ++ [47]).length + 1 + (decI n).length : Nat) : Int) - 1) = (((lifeText h b s ++ [47]).length + (decI n).length : Nat) : Int) := by rw [w64 (by omega) (by omega)]; omega
    rw [e1, hbk]
    clear e1 hbk
    obtain ⟨K, hK⟩ : ∃ K, a1.size + 3000 = K + 1 := ⟨a1.size + 2999, by omega⟩
    rw [hK]
    have g1 : gensAll (strOfNums ((lifeText h b s ++ [47]) ++ (67 :: decI n))) = (h, (b : Int), (s : Int), (n : Int), 0, 0) := by rw [← e0]; exact gens_text hm _ n hd.2 (by simp only [List.length_cons]; omega) ht.1
    have g2 : gensAll ((strOfNums (lifeText h b s ++ [47]) ++ (⟨#[103]⟩ : ByteArray)) ++ strOfNums (decI n)) = (h, (b : Int), (s : Int), (n : Int), 0, 0) := by
      rw [show (⟨#[103]⟩ : ByteArray) = strOfNums [103] from rfl, str_app, str_app, List.append_assoc, List.append_assoc, List.singleton_append, List.singleton_append]
      exact gens_text hm _ n hd'.2 (by simp only [List.length_cons]; omega) ht.2.1
    have g3 : gensAll (strOfNums (lifeText h b s ++ [47]) ++ strOfNums (decI n)) = (h, (b : Int), (s : Int), (n : Int), 0, 0) := by
      rw [str_app, List.append_assoc, List.singleton_append]
      exact gens_text hm _ n hd.1 (by omega) ht.2.2.1
    have z1 : (strOfNums (lifeText h b s ++ [47])).size = (lifeText h b s).length + 1 := by rw [strOfNums_size, hAl]
    have z2 : (strOfNums (decI n)).size = (decI n).length := strOfNums_size _
    have z3 : (⟨#[103]⟩ : ByteArray).size = 1 := rfl
    have hKs : (strOfNums ((lifeText h b s ++ [47]) ++ (67 :: decI n))).size + 100 ≤ K := by omega
    have q1 : ¬ ((lifeText h b s ++ [47]).length : Int) < 1 := by omega
    have e2 : wrap64 (((lifeText h b s ++ [47]).length : Int) + 1) = (((lifeText h b s ++ [47]).length + 1 : Nat) : Int) := by rw [w64 (by omega) (by omega)]; omega
    simp only [vivariumlaw09_GensBack.j1]
    rw [if_neg q1, parse_prog _ K hKs, g1, Option.bind_some, e2]
    clear e2
    rw [Int.toNat_natCast, Int.toNat_natCast, x1, hz, x2]
    rw [if_pos (by omega), if_pos (by omega), if_pos (by omega), if_pos (by omega), if_pos (by omega), if_pos (by omega)]
    rw [parse_prog _ K (by rw [ByteArray.size_append, ByteArray.size_append]; omega), g2, Option.bind_some, if_pos (by omega), parse_prog _ K (by rw [ByteArray.size_append]; omega), g3, Option.bind_some]
    dsimp only
    rw [if_pos rfl, if_pos rfl, if_pos rfl, second a1 K (by omega)]
    simp
  · refine ⟨a1.size + 3000, ?_⟩
    unfold vivariumlaw09_GensBack.f vivariumlaw09_GensBack.f0
    have p1 : gens_Print.f (a1.size + 3000) h b s n = some (⟨#[]⟩, gchk h b s n) := by unfold gens_Print.f; rw [prog_check h b s hb hs n, Option.bind_some, if_neg c]
    rw [awake9_true _ (by omega), Option.bind_some, p1, Option.bind_some]
    dsimp only
    rw [if_neg c, prog_check h b s hb hs n, Option.bind_some, if_pos rfl, if_pos (by rw [ByteArray.toList_eq]), second a1 _ (by omega)]
    rfl
end Go.Proofs.YtkahgdkpehlanaaDoor.Pure

/- The program's lines are the plain function's. -/
import Derived.Test.YtkahgdkpehlanaaLineLib
import Derived.Laws.Strings
import Derived.Test.YtkahgdkpehlanaaPm8
namespace Go.Proofs.Ytkahgdkpehlanaa.L
open Go.RowKit Go.Proofs.Ytkahgdkpehlanaa.P Go.Proofs.YtkahgdkpehlanaaW.PrintWords Go.Proofs.YtkahgdkpehlanaaW.PrintLast Go.Proofs.YtkahgdkpehlanaaW.PrintMore
theorem drop_extract (s : ByteArray) (i : Nat) : (s.extract i s.size).data.toList = s.data.toList.drop i := by
  rw [ByteArray.data_extract]
  simp only [Array.toList_extract]
  rw [List.extract_eq_take_drop, List.take_of_length_le]
  rw [List.length_drop, Array.length_toList]
  exact Nat.le_refl _
theorem idx_drop (s : ByteArray) : ∀ n i, i + n = s.size → Lib.indexByte (s.data.toList.drop i) 10 = if eol s n i < s.size then ((eol s n i - i : Nat) : Int) else -1
  | 0, i, h => by
    have hl : s.data.toList.length = s.size := Array.length_toList
    rw [List.drop_eq_nil_of_le (by omega), if_neg (by simp only [eol]; omega)]
    rfl
  | n + 1, i, h => by
    have hl : s.data.toList.length = s.size := Array.length_toList
    have hi : i < s.data.toList.length := by omega
    have hb := bt_eq s i (by omega)
    have ih := idx_drop s n (i + 1) (by omega)
    have hge := eol_ge s n (i + 1)
    rw [List.drop_eq_getElem_cons hi, eol_succ]
    unfold Lib.indexByte
    by_cases c : bt s (i : Int) = 10
    · have hx : s.data.toList[i] = 10 := by
        apply UInt8.toNat_inj.1
        show (s.data.toList[i]).toNat = 10
        omega
      rw [if_pos (by rw [hx]; rfl), if_neg (show ¬ (i < s.size ∧ bt s (i : Int) ≠ 10) from fun e => e.2 c), if_pos (by omega), Nat.sub_self]
      rfl
    · have hx : ¬ (s.data.toList[i] == 10) = true := by
        rw [beq_iff_eq]
        intro e
        rw [e] at hb
        exact c hb
      rw [if_neg hx, if_pos (show i < s.size ∧ bt s (i : Int) ≠ 10 from ⟨by omega, c⟩), ih]
      by_cases c2 : eol s n (i + 1) < s.size
      · rw [if_pos c2, if_neg (by rw [beq_iff_eq]; omega), if_pos c2]
        omega
      · rw [if_neg c2, if_pos (by rfl), if_neg c2]
theorem part_part (s : ByteArray) (i e : Nat) (h1 : i ≤ e) (h2 : e ≤ s.size) : (s.extract i s.size).extract 0 (e - i) = s.extract i e := by
  apply ByteArray.ext
  simp only [ByteArray.data_extract, Array.extract_extract]
  congr 1
  omega
theorem cut_at (s : ByteArray) (hs : s.size ≤ 140737488351232) (i : Nat) (hi : i < s.size) : ∃ c2 c3, strings_Cut.f (s.extract i s.size) ⟨#[10]⟩ = some (s.extract i (eol s (s.size - i) i), c2, c3) := by
  have hz : (s.extract i s.size).size = s.size - i := by rw [ByteArray.size_extract]; omega
  have hidx := idx_drop s (s.size - i) i (by omega)
  have hge := eol_ge s (s.size - i) i
  have hle := eol_le s (s.size - i) i (by omega)
  have h10 : (bt (⟨#[10]⟩ : ByteArray) 0).toNat.toUInt8 = 10 := rfl
  have h1s : (⟨#[10]⟩ : ByteArray).size = 1 := rfl
  obtain ⟨e, he⟩ : ∃ e, eol s (s.size - i) i = e := ⟨_, rfl⟩
  rw [he] at hidx hge hle ⊢
  unfold strings_Cut.f stringslite_Cut.f stringslite_Index.f
  rw [if_pos h1s, h10, drop_extract, hidx, Option.bind_some]
  by_cases c : e < s.size
  · have z1 : -9223372036854775808 ≤ ((e - i : Nat) : Int) + 1 := by omega
    have z2 : ((e - i : Nat) : Int) + 1 ≤ 9223372036854775807 := by omega
    refine ⟨(s.extract i s.size).extract (((e - i : Nat) : Int) + 1).toNat (s.size - i), true, ?_⟩
    rw [if_pos c, if_pos (by omega), if_pos (by omega), hz, if_pos (by omega), h1s, show ((1 : Nat) : Int) = 1 from rfl, w64 z1 z2, if_pos (by omega), if_pos (by omega), Option.bind_some]
    dsimp only
    rw [Int.toNat_natCast, part_part s i e hge hle]
  · obtain rfl : e = s.size := by omega
    refine ⟨⟨#[]⟩, false, ?_⟩
    rw [if_neg c, if_neg (by decide), Option.bind_some]
theorem bt_partL (s : ByteArray) (a b j : Nat) (h : a + j < b) (hb : b ≤ s.size) : bt (s.extract a b) (j : Int) = bt s ((a + j : Nat) : Int) := by
  have h1 : j < (s.extract a b).size := by rw [ByteArray.size_extract]; omega
  rw [bt_nat, bt_nat, dif_pos h1, dif_pos (show a + j < s.size by omega)]
  congr 1
  simp [ByteArray.getElem_extract]
theorem one_listL (s : ByteArray) (p : Nat) (hp : p < s.size) : ∃ a : UInt8, (s.extract p (p + 1)).data.toList = [a] ∧ (a.toNat : Int) = bt s (p : Int) := by
  have hz : (s.extract p (p + 1)).data.toList.length = 1 := by
    rw [Array.length_toList]
    show (s.extract p (p + 1)).size = 1
    rw [ByteArray.size_extract]; omega
  obtain ⟨a, ha⟩ := List.length_eq_one_iff.1 hz
  refine ⟨a, ha, ?_⟩
  have h := bt_eq (s.extract p (p + 1)) 0 (by rw [ByteArray.size_extract]; omega)
  have h2 := bt_partL s p (p + 1) 0 (by omega) (by omega)
  simp only [ha, List.getElem_cons_zero] at h
  rw [← h, h2, Nat.add_zero]
theorem trim_at (s : ByteArray) (hs : s.size ≤ 140737488351232) (i e : Nat) (h1 : i ≤ e) (h2 : e ≤ s.size) : strings_TrimSuffix.f (s.extract i e) ⟨#[13]⟩ = some (ltext s i e) := by
  have hz : (s.extract i e).size = e - i := by rw [ByteArray.size_extract]; omega
  have h1s : (⟨#[13]⟩ : ByteArray).size = 1 := rfl
  unfold strings_TrimSuffix.f stringslite_TrimSuffix.f stringslite_HasSuffix.f ltext
  rw [hz, h1s]
  by_cases c : i < e
  · have z1 : -9223372036854775808 ≤ ((e - i : Nat) : Int) - ((1 : Nat) : Int) := by omega
    have z2 : ((e - i : Nat) : Int) - ((1 : Nat) : Int) ≤ 9223372036854775807 := by omega
    have e1 : ((e - i : Nat) : Int) - ((1 : Nat) : Int) = ((e - i - 1 : Nat) : Int) := by omega
    obtain ⟨a, ha, hac⟩ := one_listL (s.extract i e) (e - i - 1) (by omega)
    rw [bt_partL s i e (e - i - 1) (by omega) h2, show i + (e - i - 1) = e - 1 from by omega] at hac
    have hl : ((s.extract i e).extract (e - i - 1) (e - i)).toList = [a] := by
      rw [ByteArray.toList_eq, ← ha, show e - i - 1 + 1 = e - i from by omega]
    have h13 : (⟨#[13]⟩ : ByteArray).toList = [13] := by rw [ByteArray.toList_eq]
    have hx : (s.extract i e).extract 0 (e - i - 1) = s.extract i (e - 1) := by
      apply ByteArray.ext
      simp only [ByteArray.data_extract, Array.extract_extract]
      congr 1
      omega
    rw [if_pos (by omega), w64 z1 z2, e1, if_pos (by omega), if_pos (by omega), Int.toNat_natCast, hl, h13, Option.bind_some]
    by_cases c2 : bt s ((e - 1 : Nat) : Int) = 13
    · have hax : a = 13 := by
        apply UInt8.toNat_inj.1
        show a.toNat = 13
        omega
      rw [hax, if_pos (by rfl), if_pos (by omega), if_pos (by omega), Option.bind_some, hx, if_pos ⟨c, c2⟩]
    · have hax : ¬ ([a] == ([13] : List UInt8)) = true := by
        rw [beq_iff_eq]
        intro ee
        have : a = 13 := by simpa using ee
        rw [this] at hac
        exact c2 hac.symm
      rw [if_neg hax, Option.bind_some, if_neg (show ¬ (i < e ∧ bt s ((e - 1 : Nat) : Int) = 13) from fun x => c2 x.2)]
  · rw [if_neg (by omega), Option.bind_some, if_neg (by decide), Option.bind_some, if_neg (show ¬ (i < e ∧ bt s ((e - 1 : Nat) : Int) = 13) from fun x => c x.1)]
end Go.Proofs.Ytkahgdkpehlanaa.L

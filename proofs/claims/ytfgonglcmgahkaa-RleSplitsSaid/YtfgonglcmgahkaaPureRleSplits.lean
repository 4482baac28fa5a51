/- Any rule's text is parted by the program as by the reference: at the first colon, else the whole text, P and its length. No condition. -/
import Derived.Test.YtfgonglcmgahkaaP3
import Derived.Test.YtfgonglcmgahkaaPureLib
namespace Go.Proofs.Ytfgonglcmgahkaa.Pure
open Go.RowKit Go.Proofs.Ytfgonglcmgahkaa.P Go.Proofs.YtfgonglcmgahkaaW.PrintWords Go.Proofs.Ytfgonglcmgahkaa.L

theorem split_none (s : ByteArray) (hn : s.size ≤ 140737488351232) (d : Nat) : ∀ (k : Nat) (i : Nat), s.size - i = d → i ≤ s.size → d < k → (∀ j : Nat, i ≤ j → j < s.size → bt s (j : Int) ≠ 58) →
    vivariumref22_Split.l0 k s i = some (s, ⟨#[80]⟩, (s.size : Int)) := by
  induction d with
  | zero =>
    intro k i hd hi hk _
    obtain ⟨k, rfl⟩ : ∃ m, k = m + 1 := ⟨k - 1, by omega⟩
    simp only [vivariumref22_Split.l0]
    rw [if_neg (by omega)]
  | succ d ih =>
    intro k i hd hi hk h
    obtain ⟨k, rfl⟩ : ∃ m, k = m + 1 := ⟨k - 1, by omega⟩
    simp only [vivariumref22_Split.l0]
    rw [if_pos (by omega), if_pos (by omega), if_neg (h i (Nat.le_refl _) (by omega)), w64 (by omega) (by omega)]
    exact ih k (i + 1) (by omega) (by omega) (by omega) (fun j hj hj2 => h j (by omega) hj2)

theorem split_some (s : ByteArray) (hn : s.size ≤ 140737488351232) (o : Nat) (ho : o < s.size) (h58 : bt s (o : Int) = 58) (d : Nat) : ∀ (k : Nat) (i : Nat), o - i = d → i ≤ o → d < k → (∀ j : Nat, i ≤ j → j < o → bt s (j : Int) ≠ 58) →
    vivariumref22_Split.l0 k s i = some (s.extract 0 o, s.extract (o + 1) s.size, (o : Int) + 1) := by
  induction d with
  | zero =>
    intro k i hd hi hk _
    obtain ⟨k, rfl⟩ : ∃ m, k = m + 1 := ⟨k - 1, by omega⟩
    obtain rfl : i = o := by omega
    simp only [vivariumref22_Split.l0]
    rw [w64 (by omega) (by omega), if_pos (by omega), if_pos (by omega), if_pos h58, if_pos (by omega), if_pos (by omega), if_pos (by omega)]
    have e1 : ((i : Int)).toNat = i := by omega
    have e2 : ((i : Int) + 1).toNat = i + 1 := by omega
    rw [e1, e2]
  | succ d ih =>
    intro k i hd hi hk h
    obtain ⟨k, rfl⟩ : ∃ m, k = m + 1 := ⟨k - 1, by omega⟩
    simp only [vivariumref22_Split.l0]
    rw [if_pos (by omega), if_pos (by omega), if_neg (h i (Nat.le_refl _) (by omega)), w64 (by omega) (by omega)]
    exact ih k (i + 1) (by omega) (by omega) (by omega) (fun j hj hj2 => h j (by omega) hj2)

theorem size_extract (s : ByteArray) (a b : Nat) : (s.extract a b).size = min b s.size - a := by
  simp

theorem RleSplits : vivariumlaw22_RleSplits.Pure := by
  intro s hn
  have hc : (bt (⟨#[58]⟩ : ByteArray) 0).toNat.toUInt8 = 58 := by rfl
  have h1 : (⟨#[58]⟩ : ByteArray).size = 1 := rfl
  have hge := Lib.indexByte_ge s.data.toList 58
  unfold vivariumlaw22_RleSplits.f rle_Split.f strings_Cut.f stringslite_Cut.f stringslite_Index.f vivariumref22_Split.f
  rw [if_pos h1, hc]
  simp only [Option.bind_some]
  by_cases hm : Lib.indexByte s.data.toList 58 = -1
  · have hno := Lib.indexByte_none hm
    refine ⟨s.size + 1, ?_⟩
    have h0 := split_none s hn s.size (s.size + 1) 0 (by omega) (by omega) (by omega) (fun j _ hj e => hno j ((bt_byte s j hj 58).2 e))
    rw [show ((0 : Nat) : Int) = 0 from rfl] at h0
    rw [h0, hm, if_neg (by omega)]
    simp
  · obtain ⟨o, ho⟩ : ∃ o : Nat, Lib.indexByte s.data.toList 58 = (o : Int) := ⟨(Lib.indexByte s.data.toList 58).toNat, by omega⟩
    obtain ⟨hat, hbe⟩ := Lib.indexByte_some ho
    have hlt : o < s.size := by
      have := (List.getElem?_eq_some_iff.1 hat).1
      simpa using this
    refine ⟨s.size + 1, ?_⟩
    have h0 := split_some s hn o hlt ((bt_byte s o hlt 58).1 hat) o (s.size + 1) 0 (by omega) (by omega) (by omega) (fun j _ hj e => hbe j hj ((bt_byte s j (by omega) 58).2 e))
    rw [show ((0 : Nat) : Int) = 0 from rfl] at h0
    rw [h0, ho, w64 (by omega) (by omega)]
    rw [if_pos (by omega), if_pos (by omega), if_pos (by omega), if_pos (by omega), if_pos (by omega)]
    have e1 : ((o : Int)).toNat = o := by omega
    have e2 : ((o : Int) + ((⟨#[58]⟩ : ByteArray).size : Int)).toNat = o + 1 := by rw [h1]; omega
    simp only [Option.bind_some, e1, e2]
    rw [size_extract, w64 (by omega) (by omega)]
    have e3 : ((min o s.size - 0 : Nat) : Int) + 1 = (o : Int) + 1 := by omega
    rw [e3]
    simp
end Go.Proofs.Ytfgonglcmgahkaa.Pure

/- Plain lemmas on bytes, lists and wraps, used by this session's pure proofs. No program in sight. -/
import Derived.Test.YtkahgdkpehlanaaWMini
import Derived.Lib.IndexLaws
namespace Go.Proofs.Ytkahgdkpehlanaa.L
open Go.RowKit Go.Proofs.YtkahgdkpehlanaaW.PrintWords

theorem bt_nat (s : ByteArray) (i : Nat) : bt s (i : Int) = if h : i < s.size then ((s[i]'h).toNat : Int) else 0 := by
 unfold bt; simp
theorem bt_eq (s : ByteArray) (i : Nat) (h : i < s.size) : bt s (i : Int) = ((s.data.toList[i]'(by simpa using h)).toNat : Int) := by
 rw [bt_nat, dif_pos h]; rfl
theorem bt_get (s : ByteArray) (i : Nat) (h : i < s.size) : s.data.toList[i]? = some (bt s (i : Int)).toNat.toUInt8 := by
 rw [bt_eq s i h, List.getElem?_eq_getElem (by simpa using h)]
 simp
theorem bt_byte (s : ByteArray) (i : Nat) (h : i < s.size) (c : UInt8) : s.data.toList[i]? = some c ↔ bt s (i : Int) = (c.toNat : Int) := by
 rw [List.getElem?_eq_getElem (by simpa using h), bt_eq s i h]
 constructor
 ·intro e
  injection e with e
  rw [e]
 ·intro e
  have : (s.data.toList[i]'(by simpa using h)).toNat = c.toNat := by omega
  rw [UInt8.toNat_inj.1 this]
theorem w64 {x : Int} (h0 : -9223372036854775808 ≤ x) (h1 : x ≤ 9223372036854775807) : wrap64 x = x := by
 unfold wrap64; omega
end Go.Proofs.Ytkahgdkpehlanaa.L

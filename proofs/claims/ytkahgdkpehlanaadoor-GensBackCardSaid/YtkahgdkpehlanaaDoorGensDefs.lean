/- What two lists of digits are read as: a plain function, shared by the program's walk and the reference's. -/
import Derived.Test.YtkahgdkpehlanaaDoorLifeDefs
namespace Go.Proofs.YtkahgdkpehlanaaDoor.L
open Go.RowKit Go.Proofs.YtkahgdkpehlanaaDoorW.PrintWords
/-- From a place on: which list (0: those that stay, 1: those that are born), both lists as bits, where the first nine stands (-1: none yet). -/
def gm (s : ByteArray) : Nat → Nat → Nat → Nat → Nat → Int → Int × Int × Int × Int × Int
  | 0, _, _, _, _, _ => (0, 0, 0, (s.size : Int), 80)
  | n + 1, i, li, m0, m1, nine =>
    if i < s.size then
      if bt s (i : Int) = 47 then (if li = 0 then gm s n (i + 1) 1 m0 m1 nine else if 0 ≤ nine then (0, 0, 0, nine, 82) else (1, (m1 : Int), (m0 : Int), 0, 0))
      else if bt s (i : Int) < 48 ∨ 57 < bt s (i : Int) then (0, 0, 0, (i : Int), 80)
      else if (if li = 0 then m0 else m1).testBit (bt s (i : Int) - 48).toNat = true then (0, 0, 0, (i : Int), 81)
      else gm s n (i + 1) li (if li = 0 then m0 ||| 2 ^ (bt s (i : Int) - 48).toNat else m0) (if li = 0 then m1 else m1 ||| 2 ^ (bt s (i : Int) - 48).toNat) (if bt s (i : Int) = 57 ∧ nine < 0 then (i : Int) else nine)
    else (0, 0, 0, (s.size : Int), 80)
theorem gm_succ (s : ByteArray) (n i li m0 m1 : Nat) (nine : Int) : gm s (n + 1) i li m0 m1 nine =
    if i < s.size then
      if bt s (i : Int) = 47 then (if li = 0 then gm s n (i + 1) 1 m0 m1 nine else if 0 ≤ nine then (0, 0, 0, nine, 82) else (1, (m1 : Int), (m0 : Int), 0, 0))
      else if bt s (i : Int) < 48 ∨ 57 < bt s (i : Int) then (0, 0, 0, (i : Int), 80)
      else if (if li = 0 then m0 else m1).testBit (bt s (i : Int) - 48).toNat = true then (0, 0, 0, (i : Int), 81)
      else gm s n (i + 1) li (if li = 0 then m0 ||| 2 ^ (bt s (i : Int) - 48).toNat else m0) (if li = 0 then m1 else m1 ||| 2 ^ (bt s (i : Int) - 48).toNat) (if bt s (i : Int) = 57 ∧ nine < 0 then (i : Int) else nine)
    else (0, 0, 0, (s.size : Int), 80) := rfl
theorem gm_out (s : ByteArray) (n i li m0 m1 : Nat) (nine : Int) (h : ¬ i < s.size) : gm s n i li m0 m1 nine = (0, 0, 0, (s.size : Int), 80) := by
  cases n with
  | zero => rfl
  | succ n => rw [gm_succ, if_neg h]
def gmAll (s : ByteArray) : Int × Int × Int × Int × Int := gm s s.size 0 0 0 0 (-1)
end Go.Proofs.YtkahgdkpehlanaaDoor.L

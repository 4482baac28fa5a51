/- Of any rule and count: its text, or the error: the program's is the document's. -/
import Derived.Test.YtkahgdkpehlanaaDoorGensText
import Derived.Test.YtkahgdkpehlanaaDoorPm19
import Derived.Test.YtkahgdkpehlanaaDoorPm18
import Derived.Lib.ItoaNum
namespace Go.Proofs.YtkahgdkpehlanaaDoor.Pure
open Go.RowKit Go.Proofs.YtkahgdkpehlanaaDoor.P Go.Proofs.YtkahgdkpehlanaaDoorW.PrintWords Go.Proofs.YtkahgdkpehlanaaDoorW.PrintLast Go.Proofs.YtkahgdkpehlanaaDoorW.PrintMore Go.Proofs.YtkahgdkpehlanaaDoor.L
def decD (n : Nat) : List UInt8 := if n < 10 then [UInt8.ofNat (48 + n)] else if n < 100 then [UInt8.ofNat (48 + n / 10), UInt8.ofNat (48 + n % 10)] else [UInt8.ofNat (48 + n / 10 / 10), UInt8.ofNat (48 + n / 10 % 10), UInt8.ofNat (48 + n % 10)]
theorem dec_one {n : Nat} (h : n < 10) : Lib.decDigits n = [UInt8.ofNat (48 + n)] := by rw [Lib.decDigits, dif_pos h]
theorem dec_more {n : Nat} (h : ¬ n < 10) : Lib.decDigits n = Lib.decDigits (n / 10) ++ [UInt8.ofNat (48 + n % 10)] := by rw [Lib.decDigits, dif_neg h]
theorem dec_is (n : Nat) (h : n < 1000) : Lib.decDigits n = decD n := by
 unfold decD
 by_cases a : n < 10
 ·rw [if_pos a, dec_one a]
 ·rw [if_neg a, dec_more a]
  by_cases b : n < 100
  ·rw [if_pos b, dec_one (show n / 10 < 10 by omega)]
   rfl
  ·rw [if_neg b, dec_more (show ¬ n / 10 < 10 by omega), dec_one (show n / 10 / 10 < 10 by omega)]
   rfl
theorem itoa_is (n : Int) (h0 : 2 ≤ n) (h1 : n ≤ 256) : Lib.itoa n = decD n.toNat := by
 unfold Lib.itoa
 rw [if_neg (by omega), dec_is _ (by omega)]
theorem decD_len (n : Nat) : (decD n).length ≤ 3 := by
 unfold decD
 by_cases a : n < 10
 ·rw [if_pos a]; simp
 ·rw [if_neg a]
  by_cases b : n < 100
  ·rw [if_pos b]; simp
  ·rw [if_neg b]; simp
set_option maxRecDepth 100000 in
theorem tens_all : ∀ n : Nat, n < 257 → 2 ≤ n → vivariumref09_tens.f 1000 (n : Int) = some ⟨(decD n).toArray⟩ := by decide +kernel
theorem tens_is (n : Int) (h0 : 2 ≤ n) (h1 : n ≤ 256) : vivariumref09_tens.f 1000 n = some ⟨(Lib.itoa n).toArray⟩ := by
 obtain ⟨m, rfl⟩ : ∃ m : Nat, n = m := ⟨n.toNat, by omega⟩
 rw [itoa_is _ h0 h1, tens_all m (by omega) (by omega), Int.toNat_natCast]
theorem check9_ref (h : Int) (b s : Nat) (hb : b < 65536) (hs : s < 65536) (n : Int) (k : Nat) (hk : 100 ≤ k) : vivariumref09_Check.f k h b s n = some (gchk h b s n) := by
 unfold vivariumref09_Check.f gchk
 rw [check_ref h b s hb hs k (by omega), Option.bind_some]
 by_cases c0 : chk h b s = 0
 ·rw [if_pos c0, if_pos c0]
  by_cases c1 : n < 2
  ·rw [if_pos c1, if_pos (Or.inl c1)]
  ·rw [if_neg c1]
   by_cases c2 : n > 256
   ·rw [if_pos c2, if_pos (Or.inr c2)]
   ·rw [if_neg c2, if_neg (by omega)]
 ·rw [if_neg c0, if_neg c0]
theorem lifeText_len (h : Int) (b s : Nat) : (lifeText h b s).length ≤ 30 := by
 have h1 := dl_len b
 have h2 := dl_len s
 have h3 : (tl h).length ≤ 1 := by
  unfold tl
  by_cases c2 : h = 2
  ·rw [if_pos c2]; decide
  ·rw [if_neg c2]
   by_cases c3 : h = 3
   ·rw [if_pos c3]; decide
   ·rw [if_neg c3]; decide
 unfold lifeText
 simp only [List.length_append, List.length_cons, List.length_nil]
 omega
theorem GensPrint : vivariumlaw09_GensPrint.Pure := by
 intro h b s n w0 w1 w2 w3
 obtain ⟨b, rfl, hb⟩ := u16_nat w1
 obtain ⟨s, rfl, hs⟩ := u16_nat w2
 refine ⟨1000, ?_⟩
 have c1 := prog_check h b s hb hs n
 have c2 := check9_ref h b s hb hs n 1000 (by omega)
 unfold vivariumlaw09_GensPrint.f vivariumlaw09_GensPrint.f0
 rw [awake9_true 1000 (by omega), Option.bind_some]
 by_cases c : gchk h b s n = 0
 ·obtain ⟨hk, hn2, hn3⟩ := gchk_ok c
  have hm := may_of hk
  have hl := lifeText_len h b s
  have h1 : (strOfNums (lifeText h b s)).size + 2 ≤ 9223372036854775807 := by rw [strOfNums_size]; omega
  have hi : (⟨(Lib.itoa n).toArray⟩ : ByteArray).size ≤ 3 := by
   rw [itoa_is n hn2 hn3]
   exact decD_len _
  have h2 : (strOfNums (lifeText h b s)).size + 2 + (⟨(Lib.itoa n).toArray⟩ : ByteArray).size ≤ 9223372036854775807 := by rw [strOfNums_size]; omega
  have p1 : gens_Print.f 1000 h b s n = some ((strOfNums (lifeText h b s) ++ (⟨#[47, 67]⟩ : ByteArray)) ++ ⟨(Lib.itoa n).toArray⟩, 0) := by
   unfold gens_Print.f strconv_Itoa.f
   rw [c1, Option.bind_some, if_pos c, print_may hm 1000 (by omega), Option.bind_some]
   dsimp only
   rw [if_pos h1, if_pos ⟨by omega, by omega⟩, Option.bind_some, if_pos h2]
  have p2 : vivariumref09_Print.f 1000 h b s n = some ((strOfNums (lifeText h b s) ++ (⟨#[47, 67]⟩ : ByteArray)) ++ ⟨(Lib.itoa n).toArray⟩, 0) := by
   unfold vivariumref09_Print.f
   rw [c2, Option.bind_some, if_pos c, print_ref hm 1000 (by omega), Option.bind_some]
   dsimp only
   rw [if_pos h1, tens_is n hn2 hn3, Option.bind_some, if_pos h2]
  rw [p1, Option.bind_some, p2, Option.bind_some, c1, c2]
  simp
 ·have p1 : gens_Print.f 1000 h b s n = some (⟨#[]⟩, gchk h b s n) := by unfold gens_Print.f; rw [c1, Option.bind_some, if_neg c]
  have p2 : vivariumref09_Print.f 1000 h b s n = some (⟨#[]⟩, gchk h b s n) := by unfold vivariumref09_Print.f; rw [c2, Option.bind_some, if_neg c]
  rw [p1, Option.bind_some, p2, Option.bind_some, c1, c2]
  simp
end Go.Proofs.YtkahgdkpehlanaaDoor.Pure

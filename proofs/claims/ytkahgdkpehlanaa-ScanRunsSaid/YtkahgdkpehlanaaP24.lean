-- Written by a program of this session (wip/tools/mk.py) that runs the kit's printer.
import Derived.Test.YtkahgdkpehlanaaP0
import Derived.Laws.Runes
import Derived.Laws.DeepStrings4
import Derived.Test.YtkahgdkpehlanaaPureLib
namespace Go.Proofs.Ytkahgdkpehlanaa.P
open Go.RowKit Go.Proofs.YtkahgdkpehlanaaW.PrintWords Go.Proofs.YtkahgdkpehlanaaW.PrintLast Go.Proofs.YtkahgdkpehlanaaW.PrintMore
attribute [local go_sem] max2_int min2_int max_two min_two max_three min_three max_four min_four   -- for this text's walks alone
set_option linter.unusedVariables false
set_option linter.unusedSimpArgs false

/-! ### scan_Tag: function 24 -/
-- EXT Derived.Laws.Runes Derived.Laws.DeepStrings4 Derived.Test.@NPureLib
open Go.Proofs.Ytkahgdkpehlanaa.L
def scan_Tag.f (a0 : Int) (a1 : Bool) : Option ByteArray := if 0 ≤ a0 ∧ a0 ≤ 255 then (if a1 = true then (if a0 = 0 then some ⟨#[46]⟩ else if a0 ≤ 24 then some (Utf8.encode (64 + a0)) else some (Utf8.encode (112 + (a0 - 25) / 24) ++ Utf8.encode (65 + (a0 - 25) % 24))) else (if a0 > 1 then some ⟨#[]⟩ else some ((⟨#[98, 111]⟩ : ByteArray).extract a0.toNat (a0 + 1).toNat))) else none
theorem enc_all : (List.range 128).all (fun n => decide ((Utf8.encode (n : Int)).size = 1)) = true := by decide +kernel
theorem enc_size (n : Int) (h0 : 0 ≤ n) (h1 : n < 128) : (Utf8.encode n).size = 1 := by
  obtain ⟨m, rfl⟩ : ∃ m : Nat, n = m := ⟨n.toNat, by omega⟩
  exact of_decide_eq_true (List.all_eq_true.1 enc_all m (List.mem_range.2 (by omega)))
set_option maxHeartbeats 4000000 in
set_option maxRecDepth 100000 in
theorem scan_Tag.calls (a0 : Int) (a1 : Bool) (r : ByteArray) (w : World) (h : scan_Tag.f a0 a1 = some r) :
    Calls Try.prog 24 #[.int .u8 a0, .bool a1] w fun e w' => e = .returned (.string r) ∧ Drawn0 w w' := by
  unfold scan_Tag.f at h
  by_cases c0 : 0 ≤ a0 ∧ a0 ≤ 255
  · rw [if_pos c0] at h
    obtain ⟨b1, b2⟩ := c0
    have hq1 : (a0 - 25).tdiv 24 = (a0 - 25) / 24 ∨ a0 < 25 := by
      by_cases c : a0 < 25
      · exact .inr c
      · exact .inl (Int.tdiv_eq_ediv_of_nonneg (by omega))
    cases a1 with
    | true =>
      rw [if_pos rfl] at h
      by_cases c1 : a0 = 0
      · rw [if_pos c1] at h
        obtain rfl := Option.some.inj h
        subst c1
        clear h hq1
        go_enter Try.func24, Try.ntmps24
        go_wp2
        go_ret
        exact ⟨rfl, Drawn0.refl _⟩
      · rw [if_neg c1] at h
        by_cases c2 : a0 ≤ 24
        · rw [if_pos c2] at h
          obtain rfl := Option.some.inj h
          have e1 : 65 + a0 - 1 = 64 + a0 := by omega
          clear h hq1
          go_enter Try.func24, Try.ntmps24
          go_wp2
          go_ret
          exact ⟨rfl, Drawn0.refl _⟩
        · rw [if_neg c2] at h
          obtain rfl := Option.some.inj h
          have q1 : (a0 - 25).tdiv 24 = (a0 - 25) / 24 := by omega
          have q2 : (a0 - 25).tmod 24 = (a0 - 25) % 24 := Int.tmod_eq_emod_of_nonneg (by omega)
          have s1 := enc_size (112 + (a0 - 25) / 24) (by omega) (by omega)
          have s2 := enc_size (65 + (a0 - 25) % 24) (by omega) (by omega)
          have s3 : ¬ 9223372036854775807 < (Utf8.encode (112 + (a0 - 25) / 24)).size + (Utf8.encode (65 + (a0 - 25) % 24)).size := by omega
          clear h hq1 s1 s2
          go_enter Try.func24, Try.ntmps24
          go_wp2
          go_ret
          exact ⟨rfl, Drawn0.refl _⟩
    | false =>
      rw [if_neg (by decide)] at h
      by_cases c1 : a0 > 1
      · rw [if_pos c1] at h
        obtain rfl := Option.some.inj h
        clear h hq1
        go_enter Try.func24, Try.ntmps24
        go_wp2
        go_ret
        exact ⟨rfl, Drawn0.refl _⟩
      · rw [if_neg c1] at h
        obtain rfl := Option.some.inj h
        clear h hq1
        have c2 : a0 = 0 ∨ a0 = 1 := by omega
        rcases c2 with rfl | rfl
        · go_enter Try.func24, Try.ntmps24
          go_wp2
          go_ret
          exact ⟨rfl, Drawn0.refl _⟩
        · go_enter Try.func24, Try.ntmps24
          go_wp2
          go_ret
          exact ⟨rfl, Drawn0.refl _⟩
  · rw [if_neg c0] at h; cases h

end Go.Proofs.Ytkahgdkpehlanaa.P

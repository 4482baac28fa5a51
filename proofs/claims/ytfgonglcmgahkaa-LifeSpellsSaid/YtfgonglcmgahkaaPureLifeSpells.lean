/- A rule's digits may stand in any order, and its letters be small; a digit once more is told, at its place. -/
import Derived.Test.YtfgonglcmgahkaaP9
import Derived.Test.YtfgonglcmgahkaaLifeShuffle
namespace Go.Proofs.Ytfgonglcmgahkaa.Pure
open Go.RowKit Go.Proofs.Ytfgonglcmgahkaa.P Go.Proofs.YtfgonglcmgahkaaW.PrintWords Go.Proofs.YtfgonglcmgahkaaW.PrintLast Go.Proofs.YtfgonglcmgahkaaW.PrintMore Go.Proofs.Ytfgonglcmgahkaa.L
theorem str_app (a b : List Int) : strOfNums a ++ strOfNums b = strOfNums (a ++ b) := by
  apply ByteArray.ext
  simp [strOfNums]
def spellTail (H : Int) : List Int := if H = 2 then [118] else if H = 3 then [72] else []
theorem LifeSpells : vivariumlaw08_LifeSpells.Pure := by
  intro a b s o wa wb ws wo
  obtain ⟨b, rfl, hb⟩ := u16_nat wb
  obtain ⟨s, rfl, hs⟩ := u16_nat ws
  obtain ⟨H, B, S, h1, h⟩ := made_eq a (Go.bounds_u8 wa).1 b s hb hs
  have ho := Go.bounds_u64 wo
  have hl := h.lt
  obtain ⟨p, hp, hpf⟩ := shuffled_f B hl.1 o (by omega) (by omega) 100 (by omega)
  obtain ⟨o', ho', h0', h1'⟩ : ∃ o' : Int, IntKind.u64.wrap (Int.tdiv o 7) = o' ∧ 0 ≤ o' ∧ o' < 18446744073709551616 := ⟨_, rfl, by rw [IntKind.wrap_u64]; omega, by rw [IntKind.wrap_u64]; omega⟩
  obtain ⟨q, hq, hqf⟩ := shuffled_f S hl.2 o' h0' h1' 100 (by omega)
  have hB := dl_run B hl.1
  have hS := dl_run S hl.2
  have dB := digits_perm hp.symm (dl_digits B)
  have dS := digits_perm hq.symm (dl_digits S)
  have rB : run p 0 = some B := (run_perm hp 0).trans hB.1
  have rS : run q 0 = some S := (run_perm hq 0).trans hS.1
  have lB : p.length ≤ 9 := by rw [hp.length_eq]; exact hB.2.1
  have lS : q.length ≤ 9 := by rw [hq.length_eq]; exact hS.2.1
  have hH : 0 ≤ H ∧ H < 4 := by have := h.hood; omega
  have ht : Tail H (spellTail H) := by
    rcases h.hood with rfl | rfl | rfl
    · exact .inl ⟨rfl, rfl⟩
    · exact .inr (.inl ⟨rfl, .inr rfl⟩)
    · exact .inr (.inr ⟨rfl, .inl rfl⟩)
  have htl : rdOf ByteArray.empty [(⟨#[]⟩ : ByteArray), (⟨#[]⟩ : ByteArray), (⟨#[118]⟩ : ByteArray), (⟨#[72]⟩ : ByteArray)] H = strOfNums (spellTail H) := by
    rcases h.hood with rfl | rfl | rfl <;> rfl
  have htn : (spellTail H).length ≤ 1 := by
    rcases h.hood with rfl | rfl | rfl <;> decide
  refine ⟨100, ?_⟩
  unfold vivariumlaw08_LifeSpells.f
  rw [alive_true, Option.bind_some, h1, Option.bind_some]
  dsimp only
  rw [Option.bind_some, if_pos hH.1, if_pos (by simp only [List.length_cons, List.length_nil]; omega), hpf, Option.bind_some, ho', hqf, Option.bind_some, htl]
  rw [if_pos (by rw [strOfNums_size]; omega), if_pos (by rw [strOfNums_size]; omega), if_pos (by rw [strOfNums_size, strOfNums_size]; omega), if_pos (by rw [strOfNums_size, strOfNums_size, strOfNums_size]; omega)]
  rw [show (⟨#[98]⟩ : ByteArray) = strOfNums [98] from rfl, show (⟨#[47, 83]⟩ : ByteArray) = strOfNums [47, 83] from rfl, str_app, str_app, str_app, str_app, List.append_assoc, List.append_assoc, List.append_assoc]
  have P1 := text_parse h 98 83 p q (spellTail H) (.inr rfl) (.inl rfl) dB dS (by omega) (by omega) rB rS ht
  rw [show ∀ x, life_Parse.f x = some (lifeParse x) from fun _ => rfl, P1, Option.bind_some]
  simp only [if_true, beq_self_eq_true, Bool.not_true, Bool.or_self]
  simp only [vivariumlaw08_LifeSpells.j0]
  rw [if_neg (by decide)]
  cases hpp : p with
  | nil => rw [if_pos (by rw [ByteArray.toList_eq]; rfl)]
  | cons d ds =>
    rw [if_neg (by rw [ByteArray.toList_eq, strOfNums_data]; simp)]
    rw [hpp] at lB dB rB
    have hex : (strOfNums (d :: ds)).extract 0 1 = strOfNums [d] := by
      apply ByteArray.ext
      simp [strOfNums]
    rw [hex]
    simp only [List.length_cons] at lB
    rw [if_pos (by rw [strOfNums_size]; simp only [List.length_cons]; omega), if_pos (by decide), if_pos (by rw [strOfNums_size]; simp only [List.length_cons]; omega), if_pos (by rw [strOfNums_size, strOfNums_size]; simp only [List.length_cons, List.length_nil]; omega), if_pos (by rw [strOfNums_size, strOfNums_size]; simp only [List.length_cons, List.length_nil]; omega), if_pos (by rw [strOfNums_size, strOfNums_size, strOfNums_size]; simp only [List.length_cons, List.length_nil]; omega), if_pos (by rw [strOfNums_size, strOfNums_size, strOfNums_size, strOfNums_size]; simp only [List.length_cons, List.length_nil]; omega)]
    rw [show (⟨#[66]⟩ : ByteArray) = strOfNums [66] from rfl, show (⟨#[47, 83]⟩ : ByteArray) = strOfNums [47, 83] from rfl, str_app, str_app, str_app, str_app, str_app, List.append_assoc, List.append_assoc, List.append_assoc, List.append_assoc]
    have P2 := twice_parse B d ds q (spellTail H) dB (by simp only [List.length_cons]; omega) rB (by omega) htn (fun x hx => by
      rcases List.mem_append.1 hx with hx | hx
      · have := dS x hx; omega
      · rcases h.hood with rfl | rfl | rfl
        · exact absurd hx (by simp [spellTail])
        · have : x = 118 := by simpa [spellTail] using hx
          omega
        · have : x = 72 := by simpa [spellTail] using hx
          omega)
    rw [show ∀ x, life_Parse.f x = some (lifeParse x) from fun _ => rfl, P2, Option.bind_some]
    dsimp only
    rw [if_pos rfl, strOfNums_size]
    congr 1
    rw [beq_iff_eq, w64 (by omega) (by simp only [List.length_cons]; omega)]
    simp only [List.length_cons]
    omega
end Go.Proofs.Ytfgonglcmgahkaa.Pure

/- Chapter 23's numbers: pictures of just so many bytes are read and written, longer ones are not; the longest side and one more. -/
import Derived.Test.YtfgonglcmgahkabPlainAlive
import Derived.Test.YtfgonglcmgahkabPlainNamesLib
import Derived.Test.YtfgonglcmgahkabPm5
set_option linter.unusedVariables false
namespace Go.Proofs.Ytfgonglcmgahkab.Pure
open Go.RowKit Go.Maps Go.Proofs.Ytfgonglcmgahkab.P Go.Proofs.YtfgonglcmgahkabW.PrintWords Go.Proofs.YtfgonglcmgahkabW.PrintLast Go.Proofs.YtfgonglcmgahkabW.PrintMore Go.Proofs.Ytfgonglcmgahkab.L
theorem names_dots (x14 x18 : ByteArray) (x15 x17 x19 x21 x23 x25 : Int) (n : Nat) (hn : n = 360000) : ∀ (d i k : Nat), i + d = n → vivariumlaw23_PlainNames.l1 (k + d + 1) true x14 x15 x17 x18 x19 x21 x23 x25 (dots i) (i : Int) = vivariumlaw23_PlainNames.l1 (k + 1) true x14 x15 x17 x18 x19 x21 x23 x25 (dots n) (n : Int)
  | 0, i, k, h => by
    have e : i = n := by omega
    rw [e]
  | d + 1, i, k, h => by
    have ih := names_dots x14 x18 x15 x17 x19 x21 x23 x25 n hn d (i + 1) k (by omega)
    rw [← ih]
    obtain ⟨K, hK⟩ : ∃ K, k + d + 1 = K := ⟨_, rfl⟩
    rw [show k + (d + 1) + 1 = K + 1 from by omega, hK]
    have q1 : (i : Int) < 360000 := by omega
    have q2 : (dots i).length < 5864062014805 := by rw [dots_len]; omega
    have e1 : Int.tmod (i : Int) 600 = ((i % 600 : Nat) : Int) := by rw [Int.tmod_eq_emod_of_nonneg (by omega)]; omega
    have e2 : Int.tdiv (i : Int) 600 = ((i / 600 : Nat) : Int) := by rw [Int.tdiv_eq_ediv_of_nonneg (by omega)]; omega
    have e3 : wrap64 ((i / 600 : Nat) : Int) = ((i / 600 : Nat) : Int) := w64 (by omega) (by omega)
    have e4 : wrap64 ((i : Int) + 1) = ((i + 1 : Nat) : Int) := w64 (by omega) (by omega)
    conv => lhs; simp only [vivariumlaw23_PlainNames.l1]
    rw [if_pos q1, if_pos q2, e1, e2, e3, e4, ← dots_succ]
theorem names_fill (x1 : Bool) (n : Nat) (hn : n ≤ 2000000) (k : Nat) (hk : vivariumlaw23_PlainNames.l0 (k + 1) x1 (List.replicate n 46) (n : Int) = some true) : ∀ (d i : Nat) (x2 : List Int), i + d = n → x2.length = n → x2.take i = List.replicate i 46 → vivariumlaw23_PlainNames.l0 (k + d + 1) x1 x2 (i : Int) = some true
  | 0, i, x2, h, hl, ht => by
    have e : i = n := by omega
    subst e
    rw [List.take_of_length_le (by omega)] at ht
    rw [ht]
    exact hk
  | d + 1, i, x2, h, hl, ht => by
    have hi : i < x2.length := by omega
    have ht2 : (x2.set i 46).take (i + 1) = List.replicate (i + 1) 46 := by
      rw [List.take_add_one, List.take_set_of_le (Nat.le_refl _), ht, List.getElem?_set_self hi, List.replicate_succ']
      rfl
    have ih := names_fill x1 n hn k hk d (i + 1) (x2.set i 46) (by omega) (by rw [List.length_set]; exact hl) ht2
    obtain ⟨K, hK⟩ : ∃ K, k + d + 1 = K := ⟨_, rfl⟩
    rw [hK] at ih
    rw [show k + (d + 1) + 1 = K + 1 from by omega]
    have q1 : (i : Int) < (x2.length : Int) := Int.ofNat_lt.mpr hi
    have q2 : (0 : Int) ≤ (i : Int) := Int.natCast_nonneg i
    have e4 : wrap64 ((i : Int) + 1) = ((i + 1 : Nat) : Int) := w64 (by omega) (by omega)
    simp only [vivariumlaw23_PlainNames.l0]
    rw [if_pos q1, if_pos q2, e4, Int.toNat_natCast]
    exact ih
theorem names_end (x14 x18 : ByteArray) (h14 : x14.size = 983055) (h18 : x18.size = 1048576) (n : Nat) (hn : n = 360000) (k : Nat) : vivariumlaw23_PlainNames.l1 (k + 1) true x14 0 231 x18 0 3 231 5 (dots n) (n : Int) = some true := by
  have hl := dots_len n
  have w1 := write_any (dots n) 600 600 (by omega) (by decide) (by decide) (dots_near n (by omega)) (dots_sorted n)
  have w2 := write_any (dots n) 582 600 (by omega) (by decide) (by decide) (dots_near n (by omega)) (dots_sorted n)
  have c1 := drawn_more (gOf (stOf (dots n) 0 0)) 3 600 600 (fun x z a b c d => by
    have e := dots_st n hn x z ⟨a, b⟩ ⟨c, d⟩
    show (Lib.encodeRune (signP (stOf (dots n) 0 0 x z))).length = 3
    rw [e]
    rfl) (by decide)
  obtain ⟨c2, c3⟩ := drawn_len (gOf (stOf (dots n) 0 0)) 3 582 600 1048200 (fun x z a b c d => by
    have e := dots_st n hn x z ⟨a, by omega⟩ ⟨c, d⟩
    show (Lib.encodeRune (signP (stOf (dots n) 0 0 x z))).length = 3
    rw [e]
    rfl) (by decide) rfl (by decide)
  rw [c1] at w1
  rw [c2] at w2
  have q1 : ¬ ((n : Nat) : Int) < 360000 := by omega
  have q2 : ((drawnP (gOf (stOf (dots n) 0 0)) ((582 : Nat) : Int) ((600 : Nat) : Int)).1.size : Int) = 1048200 := by rw [c3]; rfl
  have q3 : (x14.size : Int) = 983055 := by rw [h14]; rfl
  have q4 : (x18.size : Int) = 1048576 := by rw [h18]; rfl
  simp only [vivariumlaw23_PlainNames.l1]
  rw [if_neg q1]
  have w1' : plain_Write.f (dots n) 0 0 600 600 = _ := w1
  have w2' : plain_Write.f (dots n) 0 0 582 600 = _ := w2
  rw [w1', Option.bind_some, w2', Option.bind_some]
  dsimp only
  simp only [if_true]
  rw [if_pos q2, if_pos q3, if_pos q4]
  rfl
theorem far_1 : plain_Write.f [] 1099511627777 0 (-1) 0 = some (⟨#[]⟩, 231) := by kernel_rfl
theorem far_2 : plain_Write.f [⟨0, 0, 1⟩, ⟨0, 0, 2⟩, ⟨1099511627777, 0, 1⟩] 0 0 1 1 = some (⟨#[]⟩, 5) := by kernel_rfl
theorem wide_1 : plain_Write.f [] 0 0 65537 0 = some (⟨#[]⟩, 231) := by kernel_rfl
theorem names_j1 (x14 x18 : ByteArray) (h14 : x14.size = 983055) (h18 : x18.size = 1048576) (n : Nat) (hn : n = 360000) (k : Nat) : vivariumlaw23_PlainNames.j1 (k + n + 1 + 1) true x14 0 231 x18 0 3 false = some true := by
  have hd := names_dots x14 x18 0 231 0 3 231 5 n hn n 0 k (by omega)
  rw [names_end x14 x18 h14 h18 n hn k] at hd
  obtain ⟨K, hK⟩ : ∃ K, k + n + 1 = K := ⟨_, rfl⟩
  rw [hK] at hd ⊢
  simp only [vivariumlaw23_PlainNames.j1]
  rw [if_neg (by decide), far_1, Option.bind_some, far_2, Option.bind_some]
  exact hd
theorem names_tail (N n : Nat) (hN : N = 1048577) (hn : n = 360000) (k : Nat) : vivariumlaw23_PlainNames.l0 (k + n + 1 + 1 + 1) true (List.replicate N 46) (N : Int) = some true := by
  have hlen : (List.replicate N (46 : Int)).length = N := List.length_replicate
  obtain ⟨l, r1⟩ := read_stops (strOfNums ((List.replicate N 46).take 1048576)) 1048576 (by
    rw [strOfNums_data, List.take_replicate, List.map_replicate, Nat.min_eq_left (by omega)]
    rfl) (Nat.le_refl _) (by decide)
  have hz : (strOfNums (List.replicate N 46)).size = N := by rw [strOfNums_size, hlen]
  have r2 : plain_Read.f (strOfNums (List.replicate N 46)) = some ([], 0, 3) := by
    unfold plain_Read.f
    rw [if_pos (by omega)]
  obtain ⟨a1, a2⟩ := drawn_len (runeP (.map []) 0 0) 1 1023 1024 1048576 (fun x z _ _ _ _ => len_46 x z) (by decide) rfl (by decide)
  have a3 := drawn_long (runeP (.map []) 0 0) 1024 1024 (by decide)
  obtain ⟨a4, a5⟩ := drawn_len (runeP (.map []) 0 0) 1 65536 15 983055 (fun x z _ _ _ _ => len_46 x z) (by decide) rfl (by decide)
  obtain ⟨a6, a7⟩ := drawn_len (halfP (.map []) 0 0 (2048 : Nat)) 1 1023 1024 1048576 (fun x z _ _ _ _ => len_32 _ x z) (by decide) rfl (by decide)
  have a8 := drawn_long (halfP (.map []) 0 0 (2049 : Nat)) 1023 1025 (by decide)
  have w1 := write_nil 1023 1024 (by decide) (by decide)
  have w2 := write_nil 1024 1024 (by decide) (by decide)
  have w3 := write_nil 65536 15 (by decide) (by decide)
  have w4 := halves_nil 1023 2048 (by decide) (by decide)
  have w5 := halves_nil 1023 2049 (by decide) (by decide)
  have w4' : plain_Halves.f [] 0 0 (1023 : Nat) (2048 : Nat) = some ((drawnP (halfP (.map []) 0 0 (2048 : Nat)) (1023 : Nat) (1024 : Nat)).1, (drawnP (halfP (.map []) 0 0 (2048 : Nat)) (1023 : Nat) (1024 : Nat)).2) := w4
  have w5' : plain_Halves.f [] 0 0 (1023 : Nat) (2049 : Nat) = some ((drawnP (halfP (.map []) 0 0 (2049 : Nat)) (1023 : Nat) (1025 : Nat)).1, (drawnP (halfP (.map []) 0 0 (2049 : Nat)) (1023 : Nat) (1025 : Nat)).2) := w5
  rw [a1] at w1
  rw [a3] at w2
  rw [a4] at w3
  rw [a6] at w4'
  rw [a8] at w5'
  obtain ⟨s1, e1⟩ : ∃ s, (drawnP (runeP (.map []) 0 0) (1023 : Nat) (1024 : Nat)).1 = s := ⟨_, rfl⟩
  obtain ⟨s2, e2⟩ : ∃ s, (drawnP (runeP (.map []) 0 0) (1024 : Nat) (1024 : Nat)).1 = s := ⟨_, rfl⟩
  obtain ⟨s3, e3⟩ : ∃ s, (drawnP (runeP (.map []) 0 0) (65536 : Nat) (15 : Nat)).1 = s := ⟨_, rfl⟩
  obtain ⟨s4, e4⟩ : ∃ s, (drawnP (halfP (.map []) 0 0 (2048 : Nat)) (1023 : Nat) (1024 : Nat)).1 = s := ⟨_, rfl⟩
  obtain ⟨s5, e5⟩ : ∃ s, (drawnP (halfP (.map []) 0 0 (2049 : Nat)) (1023 : Nat) (1025 : Nat)).1 = s := ⟨_, rfl⟩
  rw [e1] at w1 a2
  rw [e2] at w2
  rw [e3] at w3 a5
  rw [e4] at w4' a7
  rw [e5] at w5'
  have v1 : plain_Write.f [] 0 0 1023 1024 = some (s1, 0) := w1
  have v2 : plain_Write.f [] 0 0 1024 1024 = some (s2, 3) := w2
  have v3 : plain_Write.f [] 0 0 65536 15 = some (s3, 0) := w3
  have v4 : plain_Halves.f [] 0 0 1023 2048 = some (s4, 0) := w4'
  have v5 : plain_Halves.f [] 0 0 1023 2049 = some (s5, 3) := w5'
  have hj := names_j1 s3 s4 a5 a7 n hn k
  obtain ⟨K, hK⟩ : ∃ K, k + n + 1 + 1 = K := ⟨_, rfl⟩
  rw [hK] at hj ⊢
  have q1 : ¬ (N : Int) < ((List.replicate N (46 : Int)).length : Int) := by rw [hlen]; omega
  have q2 : (1048576 : Int) ≤ ((List.replicate N (46 : Int)).length : Int) := by rw [hlen]; omega
  have q3 : (s1.size : Int) = 1048576 := by rw [a2]; rfl
  simp only [vivariumlaw23_PlainNames.l0]
  rw [if_neg q1, if_pos q2, r1, Option.bind_some, r2, Option.bind_some, v1, Option.bind_some, v2, Option.bind_some, v3, Option.bind_some, wide_1, Option.bind_some, v4, Option.bind_some, v5, Option.bind_some]
  dsimp only
  rw [if_pos rfl, if_pos rfl, if_pos rfl, if_pos rfl, if_pos q3]
  exact hj
theorem names_n : ∃ N n : Nat, N = 1048577 ∧ n = 360000 := ⟨_, _, rfl, rfl⟩
theorem PlainNames : vivariumlaw23_PlainNames.Pure := by
  obtain ⟨N, n, hN, hn⟩ := names_n
  refine ⟨(0 + n + 1 + 1) + N + 1, ?_⟩
  have hf := names_fill true N (by omega) (0 + n + 1 + 1) (names_tail N n hN hn 0) N 0 (List.replicate N 0) (by omega) List.length_replicate (by rw [List.take_zero]; rfl)
  unfold vivariumlaw23_PlainNames.f
  rw [alive23, Option.bind_some, if_pos (by decide), ← hN]
  exact hf
end Go.Proofs.Ytfgonglcmgahkab.Pure

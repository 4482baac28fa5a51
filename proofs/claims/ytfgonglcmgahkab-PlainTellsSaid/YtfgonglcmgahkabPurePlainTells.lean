/- Halves tells of each place whether Write's picture is read as living there. -/
import Derived.Test.YtfgonglcmgahkabPlainAlive
import Derived.Test.YtfgonglcmgahkabPlainPlace
import Derived.Test.YtfgonglcmgahkabEvLib
import Derived.Test.YtfgonglcmgahkabTellsDef
import Derived.OpenShut
import Derived.Test.YtfgonglcmgahkabPm4
import Derived.Test.YtfgonglcmgahkabPm5
set_option linter.unusedVariables false
namespace Go.Proofs.Ytfgonglcmgahkab.Pure
open Go.RowKit Go.Maps Go.Proofs.Ytfgonglcmgahkab.P Go.Proofs.YtfgonglcmgahkabW.PrintWords Go.Proofs.YtfgonglcmgahkabW.PrintLast Go.Proofs.YtfgonglcmgahkabW.PrintMore Go.Proofs.Ytfgonglcmgahkab.L
theorem up21 (a : Int) : ∃ n : Nat, n ≤ 20 ∧ vivariumlaw23_up.f a 21 = some (n : Int) := by
 have h1 := Int.tmod_lt_of_pos a (b := 21) (by decide)
 have h2 := Int.lt_tmod_of_pos a (b := 21) (by decide)
 unfold vivariumlaw23_up.f
 rw [if_neg (by decide)]
 obtain ⟨t, ht⟩ : ∃ t, Int.tmod a 21 = t := ⟨_, rfl⟩
 rw [ht] at h1 h2 ⊢
 have e : wrap64 (t + 21) = t + 21 := w64 (by omega) (by omega)
 rw [e]
 clear e
 rw [Int.tmod_eq_emod_of_nonneg (by omega)]
 exact ⟨((t + 21) % 21).toNat, by omega, by congr 1; omega⟩
theorem few_is (a b c d : Int) : ∃ (X Y : Int) (W H : Nat), (-1000 ≤ X ∧ X ≤ 1000) ∧ (-1000 ≤ Y ∧ Y ≤ 1000) ∧ W ≤ 20 ∧ H ≤ 20 ∧ vivariumlaw23_few.f a b c d = some (X, Y, (W : Int), (H : Int)) := by
 obtain ⟨W, hW, eW⟩ := up21 c
 obtain ⟨H, hH, eH⟩ := up21 d
 have h1 := Int.tmod_lt_of_pos a (b := 1001) (by decide)
 have h2 := Int.lt_tmod_of_pos a (b := 1001) (by decide)
 have h3 := Int.tmod_lt_of_pos b (b := 1001) (by decide)
 have h4 := Int.lt_tmod_of_pos b (b := 1001) (by decide)
 refine ⟨Int.tmod a 1001, Int.tmod b 1001, W, H, ⟨by omega, by omega⟩, ⟨by omega, by omega⟩, hW, hH, ?_⟩
 unfold vivariumlaw23_few.f
 rw [eW, Option.bind_some, eH, Option.bind_some]
def Laid (acc : List Cl) (k6 : Nat) (y x : Int) : Prop := acc.Pairwise ltC ∧ (∀ c ∈ acc, nearC c) ∧ (∀ c ∈ acc, c.f1 < y ∨ (c.f1 = y ∧ c.f0 < x)) ∧ acc.length ≤ k6
theorem laid_row (S : List Int) (hS : ∀ x ∈ S, 0 ≤ x ∧ x ≤ 255) (X Y W H : Int) (hX : -1000 ≤ X ∧ X ≤ 1000) (hW : 0 ≤ W ∧ W ≤ 20) (y : Int) (hy : -2000 ≤ y ∧ y ≤ 2000) (C0 : List Cl) : ∀ (n k6 : Nat) (x : Int) (acc : List Cl), x + n = X + W + 1 → X - 1 ≤ x → k6 + n ≤ 1000 → Laid acc k6 y x →
  ∃ acc2, Laid acc2 (k6 + n) (y + 1) (X - 1) ∧ ∀ r, Evn (fun k => vivariumlaw23_laid.l0 k S acc2 ((k6 + n : Nat) : Int) (y + 1) X Y W H) r → Evn (fun k => vivariumlaw23_laid.l1 k S acc (k6 : Int) y x X Y W H) r
 | 0, k6, x, acc, hx, hx0, hk6, hL => by
  have e1 : wrap64 (X + W) = X + W := w64 (by omega) (by omega)
  have e2 : wrap64 (y + 1) = y + 1 := w64 (by omega) (by omega)
  refine ⟨acc, ⟨hL.1, hL.2.1, fun c hc => ?_, hL.2.2.2⟩, fun r hr => hr.step (fun k => ?_)⟩
  ·have := hL.2.2.1 c hc
   clear e1 e2
   omega
  ·simp only [vivariumlaw23_laid.l1]
   rw [e1, e2]
   clear e1 e2
   rw [if_neg (by omega)]
   rfl
 | n + 1, k6, x, acc, hx, hx0, hk6, hL => by
  have hlen := hL.2.2.2
  have hstep : ∀ k, vivariumlaw23_laid.l1 (k + 1) S acc (k6 : Int) y x X Y W H = vivariumlaw23_laid.l1 k S (if (k6 : Int) < (S.length : Int) then acc ++ [⟨x, y, rd S (k6 : Int)⟩] else acc) ((k6 + 1 : Nat) : Int) y (x + 1) X Y W H := fun k => by
   have e1 : wrap64 (X + W) = X + W := w64 (by omega) (by omega)
   have e2 : wrap64 (x + 1) = x + 1 := w64 (by omega) (by omega)
   have e3 : wrap64 ((k6 : Int) + 1) = ((k6 + 1 : Nat) : Int) := w64 (by omega) (by omega)
   simp only [vivariumlaw23_laid.l1]
   rw [e1, e2, e3]
   clear e1 e2 e3
   rw [if_pos (by omega)]
   by_cases c : (k6 : Int) < (S.length : Int)
   ·rw [if_pos c, if_pos (by omega), if_pos (by omega), if_pos c]
   ·rw [if_neg c, if_neg c]
  have hnew : Laid (if (k6 : Int) < (S.length : Int) then acc ++ [⟨x, y, rd S (k6 : Int)⟩] else acc) (k6 + 1) y (x + 1) := by
   by_cases c : (k6 : Int) < (S.length : Int)
   ·rw [if_pos c]
    have hr : 0 ≤ rd S (k6 : Int) ∧ rd S (k6 : Int) ≤ 255 := by
     have hk : k6 < S.length := by omega
     have e : rd S (k6 : Int) = S[k6] := by
      unfold rd
      rw [Int.toNat_natCast, List.getD_eq_getElem?_getD, List.getElem?_eq_getElem hk]
      rfl
     rw [e]
     exact hS _ (List.getElem_mem hk)
    refine ⟨List.pairwise_append.2 ⟨hL.1, List.pairwise_singleton _ _, fun a ha b hb => ?_⟩, fun c hc => ?_, fun c hc => ?_, by rw [List.length_append, List.length_singleton]; omega⟩
    ·rw [List.mem_singleton] at hb
     subst hb
     have := hL.2.2.1 a ha
     unfold ltC
     dsimp only
     omega
    ·rcases List.mem_append.1 hc with hc | hc
     ·exact hL.2.1 c hc
     ·rw [List.mem_singleton] at hc
      subst hc
      exact ⟨by dsimp only; omega, by dsimp only; omega, hr⟩
    ·rcases List.mem_append.1 hc with hc | hc
     ·have := hL.2.2.1 c hc; omega
     ·rw [List.mem_singleton] at hc
      subst hc
      dsimp only
      omega
   ·rw [if_neg c]
    exact ⟨hL.1, hL.2.1, fun c hc => by have := hL.2.2.1 c hc; omega, by omega⟩
  obtain ⟨a2, h1, h2⟩ := laid_row S hS X Y W H hX hW y hy C0 n (k6 + 1) (x + 1) _ (by omega) (by omega) (by omega) hnew
  rw [show k6 + (n + 1) = k6 + 1 + n from by omega]
  exact ⟨a2, h1, fun r hr => (h2 r hr).step hstep⟩
theorem laid_rows (S : List Int) (hS : ∀ x ∈ S, 0 ≤ x ∧ x ≤ 255) (X Y W H : Int) (hX : -1000 ≤ X ∧ X ≤ 1000) (hY : -1000 ≤ Y ∧ Y ≤ 1000) (hW : 0 ≤ W ∧ W ≤ 20) (hH : 0 ≤ H ∧ H ≤ 20) : ∀ (m k6 : Nat) (y : Int) (acc : List Cl), y + m = Y + H + 1 → Y - 1 ≤ y → k6 + 22 * m ≤ 500 → Laid acc k6 y (X - 1) →
  ∃ C, Evn (fun k => vivariumlaw23_laid.l0 k S acc (k6 : Int) y X Y W H) C ∧ C.Pairwise ltC ∧ (∀ c ∈ C, nearC c) ∧ C.length ≤ 500
 | 0, k6, y, acc, hy, hy0, hk6, hL => by
  have := hL.2.2.2
  refine ⟨acc, Evn.const.step (g' := fun _ => some acc) (fun k => ?_), hL.1, hL.2.1, by omega⟩
  have e1 : wrap64 (Y + H) = Y + H := w64 (by omega) (by omega)
  simp only [vivariumlaw23_laid.l0]
  rw [e1]
  clear e1
  rw [if_neg (by omega)]
 | m + 1, k6, y, acc, hy, hy0, hk6, hL => by
  obtain ⟨n, hn⟩ : ∃ n : Nat, (n : Int) = W + 2 := ⟨(W + 2).toNat, by omega⟩
  obtain ⟨a2, h2, h3⟩ := laid_row S hS X Y W H hX hW y (by omega) acc n k6 (X - 1) acc (by omega) (by omega) (by omega) hL
  obtain ⟨C, h4, h5⟩ := laid_rows S hS X Y W H hX hY hW hH m (k6 + n) (y + 1) a2 (by omega) (by omega) (by omega) h2
  refine ⟨C, (h3 C h4).step (fun k => ?_), h5⟩
  have e1 : wrap64 (Y + H) = Y + H := w64 (by omega) (by omega)
  have e2 : wrap64 (X - 1) = X - 1 := w64 (by omega) (by omega)
  simp only [vivariumlaw23_laid.l0]
  rw [e1, e2]
  clear e1 e2
  rw [if_pos (by omega)]
/-- The sign of two places. -/
def pairT (up down : Bool) : Int := if (up && down) = true then 9608 else if up = true then 9600 else if down = true then 9604 else 32
theorem pair_ok (u d : Bool) : tellOk u d (pairT u d) = true := by cases u <;> cases d <;> decide
theorem pair_enc (u d : Bool) : (u = false ∧ d = false ∧ Lib.encodeRune (pairT u d) = [32]) ∨ (∃ a : Nat, (a = 0 ∨ a = 4 ∨ a = 8) ∧ pairT u d = 9600 + (a : Int) ∧ Lib.encodeRune (pairT u d) = [226, 150, (128 + a : Nat).toUInt8]) := by
 cases u <;> cases d
 ·exact .inl ⟨rfl, rfl, by decide⟩
 ·exact .inr ⟨4, .inr (.inl rfl), rfl, by decide⟩
 ·exact .inr ⟨0, .inl rfl, rfl, by decide⟩
 ·exact .inr ⟨8, .inr (.inr rfl), rfl, by decide⟩
theorem decode_block (s : ByteArray) (pos a : Nat) (ha : a = 0 ∨ a = 4 ∨ a = 8) (hz : pos + 2 < s.size) (b0 : (s.get! pos).toNat = 226) (b1 : (s.get! (pos + 1)).toNat = 150) (b2 : (s.get! (pos + 2)).toNat = 128 + a) : Utf8.decode s pos = (9600 + a, 3) := by
 have z1 : pos + 1 < s.size := by omega
 have c2 : (128 + a) / 64 = 2 := by omega
 have c3 : 226 % 16 * 4096 + 150 % 64 * 64 + (128 + a) % 64 = 9600 + a := by omega
 unfold Utf8.decode
 simp only [Nat.add_zero, b0, b1, b2, c2, c3]
 rw [if_neg (by decide), if_neg (by simp), if_pos (by simp [z1, hz]), if_pos]
 rcases ha with rfl | rfl | rfl <;> decide +kernel
theorem get_byte (s : ByteArray) (pre rest : List UInt8) (x : UInt8) (hs : s.data.toList = pre ++ (x :: rest)) : pre.length < s.size ∧ s.get! pre.length = x := by
 have hz : s.size = pre.length + (rest.length + 1) := by
  have e : s.data.toList.length = s.size := Array.length_toList
  rw [← e, hs, List.length_append, List.length_cons]
 have hlt : pre.length < s.size := by omega
 refine ⟨hlt, ?_⟩
 rw [get_list s _ hlt]
 have h2 : s.data.toList[pre.length]? = some x := by rw [hs, List.getElem?_append_right (Nat.le_refl _), Nat.sub_self]; rfl
 exact (List.getElem?_eq_some_iff.1 h2).2
theorem decode_one (s : ByteArray) (pre rest : List UInt8) (x : UInt8) (hx : x.toNat < 128) (hs : s.data.toList = pre ++ (x :: rest)) : Utf8.decode s pre.length = (x.toNat, 1) := by
 obtain ⟨h1, h2⟩ := get_byte s pre rest x hs
 have e : (s[pre.length]'h1) = x := (get_list s _ h1).symm.trans h2
 rw [decode_ascii s _ h1 (by rw [e]; exact hx), e]
theorem decode_pair (s : ByteArray) (pre rest : List UInt8) (u d : Bool) (hs : s.data.toList = pre ++ (Lib.encodeRune (pairT u d) ++ rest)) : ((Utf8.decode s pre.length).1 : Int) = pairT u d ∧ (Utf8.decode s pre.length).2 = (Lib.encodeRune (pairT u d)).length ∧ pre.length < s.size := by
 rcases pair_enc u d with ⟨rfl, rfl, e⟩ | ⟨a, ha, e1, e⟩
 ·rw [e] at hs ⊢
  have h := decode_one s pre rest 32 (by decide) hs
  rw [h]
  exact ⟨rfl, rfl, (get_byte s pre rest 32 hs).1⟩
 ·rw [e] at hs ⊢
  have hb : ((128 + a : Nat).toUInt8).toNat = 128 + a := by
   show (128 + a) % 256 = 128 + a
   omega
  obtain ⟨z0, g0⟩ := get_byte s pre _ 226 hs
  obtain ⟨z1, g1⟩ := get_byte s (pre ++ [226]) ((128 + a : Nat).toUInt8 :: rest) 150 (by rw [hs, List.append_assoc]; rfl)
  obtain ⟨z2, g2⟩ := get_byte s (pre ++ [226, 150]) rest (128 + a : Nat).toUInt8 (by rw [hs, List.append_assoc]; rfl)
  rw [List.length_append] at z1 g1 z2 g2
  have h := decode_block s pre.length a ha z2 (by rw [g0]; rfl) (by rw [show pre.length + 1 = pre.length + [(226 : UInt8)].length from rfl, g1]; rfl) (by rw [show pre.length + 2 = pre.length + [(226 : UInt8), 150].length from rfl, g2]; exact hb)
  rw [h, e1]
  exact ⟨by omega, rfl, z0⟩
theorem m21 (n : Nat) (h : n ≤ 1000) : wrap64 (21 * (n : Int)) = ((21 * n : Nat) : Int) := by
 rw [show (21 : Int) * (n : Int) = ((21 * n : Nat) : Int) from by omega]
 exact w64 (by omega) (by omega)
theorem m2 (n : Nat) (h : n ≤ 1000) : wrap64 (2 * (n : Int)) = ((2 * n : Nat) : Int) := by
 rw [show (2 : Int) * (n : Int) = ((2 * n : Nat) : Int) from by omega]
 exact w64 (by omega) (by omega)
theorem addn (a b : Nat) (h : a + b ≤ 100000) : wrap64 ((a : Int) + (b : Int)) = ((a + b : Nat) : Int) := w64 (by omega) (by omega)
theorem add1 (n : Nat) (h : n ≤ 100000) : wrap64 ((n : Int) + 1) = ((n + 1 : Nat) : Int) := w64 (by omega) (by omega)
theorem add2 (n : Nat) (h : n ≤ 100000) : wrap64 (((2 * n : Nat) : Int) + 2) = ((2 * (n + 1) : Nat) : Int) := w64 (by omega) (by omega)
theorem half_is (H j : Nat) (hH : H ≤ 1000) (h : j = (H + 1) / 2) : wrap64 (Int.tdiv (wrap64 ((H : Int) + 1)) 2) = (j : Int) := by
 rw [add1 H (by omega), show Int.tdiv ((H + 1 : Nat) : Int) 2 = (j : Int) from by rw [Int.tdiv_eq_ediv_of_nonneg (by omega)]; omega]
 exact w64 (by omega) (by omega)
/-- The signs of a row, told. -/
theorem tells_row (lives : List Bool) (hlv : lives.length = 462) (s : ByteArray) (W H : Nat) (hW : W ≤ 20) (hH : H ≤ 20) (g : Int → Int → Int) (j : Nat) (hj : 2 * j < H) (hg : ∀ i : Nat, i < W → g i j = pairT (lives.getD (21 * (2 * j) + i) false) (lives.getD (21 * (2 * j + 1) + i) false)) (ln : Int) : ∀ (n i : Nat) (pre rest : List UInt8) (k : Nat), i + n = W → s.data.toList = pre ++ (rowB g j n i ++ rest) → s.size < pre.length + k →
  ∃ k2, s.size < (pre ++ rowB g j n i).length + k2 ∧ tellsL lives s W H k pre.length (i : Int) ((2 * j : Nat) : Int) ln = tellsL lives s W H k2 (pre ++ rowB g j n i).length (W : Int) ((2 * j : Nat) : Int) ln
 | 0, i, pre, rest, k, h, hs, hk => by
  rw [rowB_zero, List.append_nil]
  obtain rfl : i = W := by omega
  exact ⟨k, hk, rfl⟩
 | n + 1, i, pre, rest, k, h, hs, hk => by
  rw [rowB_succ] at hs ⊢
  have hgi := hg i (by omega)
  obtain ⟨u, hu⟩ : ∃ u, lives.getD (21 * (2 * j) + i) false = u := ⟨_, rfl⟩
  obtain ⟨d, hd⟩ : ∃ d, lives.getD (21 * (2 * j + 1) + i) false = d := ⟨_, rfl⟩
  rw [hu, hd] at hgi
  rw [hgi, List.append_assoc] at hs
  obtain ⟨d1, d2, d3⟩ := decode_pair s pre _ u d hs
  have he := encode_len (pairT u d)
  have hpos : 1 ≤ (Lib.encodeRune (pairT u d)).length := by
   rcases pair_enc u d with ⟨_, _, e⟩ | ⟨a, _, _, e⟩ <;> rw [e] <;> simp
  obtain ⟨k, rfl⟩ : ∃ m, k = m + 1 := ⟨k - 1, by omega⟩
  obtain ⟨k2, h1, h2⟩ := tells_row lives hlv s W H hW hH g j hj hg ln n (i + 1) (pre ++ Lib.encodeRune (pairT u d)) rest k (by omega) (by rw [List.append_assoc]; exact hs) (by rw [List.length_append]; omega)
  refine ⟨k2, ?_, ?_⟩
  ·rw [hgi, ← List.append_assoc]
   exact h1
  ·rw [hgi, ← List.append_assoc]
   refine Eq.trans ?_ h2
   have hne : ¬ ((Utf8.decode s pre.length).1 : Int) = 10 := by
    rw [d1]
    cases u <;> cases d <;> decide
   simp only [tellsL]
   rw [if_pos d3, if_neg hne, m21 (2 * j) (by omega), addn (21 * (2 * j)) i (by omega), add1 (2 * j) (by omega), m21 (2 * j + 1) (by omega), addn (21 * (2 * j + 1)) i (by omega), add1 i (by omega)]
   rw [if_neg (by omega), if_neg (by omega), if_pos ⟨by omega, by omega, by omega, by omega⟩, Int.toNat_natCast, Int.toNat_natCast, hu, hd, d1, if_pos (pair_ok u d), d2, List.length_append]
theorem tells_rows (lives : List Bool) (hlv : lives.length = 462) (s : ByteArray) (W H : Nat) (hW : W ≤ 20) (hH : H ≤ 20) (g : Int → Int → Int) (hg : ∀ i j : Nat, i < W → 2 * j < H → g i j = pairT (lives.getD (21 * (2 * j) + i) false) (lives.getD (21 * (2 * j + 1) + i) false)) : ∀ (n j : Nat) (pre : List UInt8) (k : Nat), j + n = (H + 1) / 2 → s.data.toList = pre ++ rowsB g W n j → s.size < pre.length + k →
  tellsL lives s W H k pre.length 0 ((2 * j : Nat) : Int) (j : Int) = some true
 | 0, j, pre, k, h, hs, hk => by
  have hz : s.size = pre.length := by
   have e : s.data.toList.length = s.size := Array.length_toList
   rw [← e, hs, rowsB_zero, List.append_nil]
  obtain ⟨k, rfl⟩ : ∃ m, k = m + 1 := ⟨k - 1, by omega⟩
  simp only [tellsL]
  rw [if_neg (by omega), half_is H j (by omega) (by omega)]
  simp
 | n + 1, j, pre, k, h, hs, hk => by
  rw [rowsB_succ] at hs
  obtain ⟨k2, h1, h2⟩ := tells_row lives hlv s W H hW hH g j (by omega) (fun i hi => hg i j hi (by omega)) (j : Int) W 0 pre ([10] ++ rowsB g W n (j + 1)) k (by omega) (by rw [hs]; rfl) hk
  have h1 : s.size < (pre ++ rowB g j W 0).length + k2 := h1
  have h2 : tellsL lives s W H k pre.length 0 ((2 * j : Nat) : Int) (j : Int) = tellsL lives s W H k2 (pre ++ rowB g j W 0).length (W : Int) ((2 * j : Nat) : Int) (j : Int) := h2
  have hd := decode_one s (pre ++ rowB g j W 0) (rowsB g W n (j + 1)) 10 (by decide) (by rw [hs, List.append_assoc]; rfl)
  have hz := (get_byte s (pre ++ rowB g j W 0) (rowsB g W n (j + 1)) 10 (by rw [hs, List.append_assoc]; rfl)).1
  obtain ⟨k2, rfl⟩ : ∃ m, k2 = m + 1 := ⟨k2 - 1, by omega⟩
  have ih := tells_rows lives hlv s W H hW hH g hg n (j + 1) (pre ++ rowB g j W 0 ++ [10]) k2 (by omega) (by rw [hs, List.append_assoc, List.append_assoc]; rfl) (by rw [List.length_append, List.length_singleton]; omega)
  rw [List.length_append, List.length_singleton] at ih
  refine Eq.trans h2 (Eq.trans ?_ ih)
  simp only [tellsL]
  rw [if_pos hz, hd, add2 j (by omega), add1 j (by omega)]
  dsimp only
  rw [if_pos (show ((UInt8.toNat 10 : Nat) : Int) = 10 from rfl)]
  simp only [if_true]
/-- The living places, one by one. -/
def place (c : Cl) : Nat := (21 * c.f1 + c.f0).toNat
def livesOf (L : List Cl) : List Bool := L.foldl (fun l c => l.set (place c) true) (List.replicate 462 false)
theorem lives_get : ∀ (L : List Cl) (l : List Bool) (p : Nat), p < l.length → (L.foldl (fun l c => l.set (place c) true) l).getD p false = (l.getD p false || decide (∃ c ∈ L, place c = p))
 | [], l, p, hp => by simp
 | c :: L, l, p, hp => by
  rw [List.foldl_cons, lives_get L _ p (by rw [List.length_set]; exact hp)]
  have e : (decide (∃ d ∈ c :: L, place d = p)) = (decide (place c = p) || decide (∃ d ∈ L, place d = p)) := by
   rw [Bool.eq_iff_iff]
   simp
  rw [e, ← Bool.or_assoc]
  congr 1
  rw [List.getD_eq_getElem?_getD, List.getD_eq_getElem?_getD, List.getElem?_set]
  by_cases c1 : place c = p
  ·rw [if_pos c1, if_pos (by omega), decide_eq_true c1]; simp
  ·rw [if_neg c1, decide_eq_false c1, Bool.or_false]
theorem lives_len : ∀ (L : List Cl) (l : List Bool), (L.foldl (fun l c => l.set (place c) true) l).length = l.length
 | [], l => rfl
 | c :: L, l => by rw [List.foldl_cons, lives_len L, List.length_set]
theorem tell_go (L : List Cl) (W H : Nat) (hL : ∀ c ∈ L, (0 ≤ c.f0 ∧ c.f0 < W) ∧ (0 ≤ c.f1 ∧ c.f1 < H)) (hl : L.length ≤ 100000) (hW : W ≤ 20) (hH : H ≤ 20) (s : ByteArray) (X Y : Int) (hT : tellsF (livesOf L) s W H = some true) : ∀ (d i : Nat), i + d = L.length → Evn (fun k => vivariumlaw23_PlainTells.l0 k s L (livesOf (L.take i)) (i : Int) X Y W H) true
 | 0, i, h => by
  refine Evn.const.step (g' := fun _ => some true) (fun k => ?_)
  simp only [vivariumlaw23_PlainTells.l0]
  rw [if_neg (by omega), List.take_of_length_le (by omega)]
  exact hT
 | d + 1, i, h => by
  have hi : i < L.length := by omega
  have ih := tell_go L W H hL hl hW hH s X Y hT d (i + 1) (by omega)
  have ht : L.take (i + 1) = L.take i ++ [L[i]] := by rw [List.take_add_one, List.getElem?_eq_getElem hi]; rfl
  have hc := hL L[i] (List.getElem_mem hi)
  have e : wrap64 ((i : Int) + 1) = ((i + 1 : Nat) : Int) := w64 (by omega) (by omega)
  have e1 : wrap64 (21 * L[i].f1) = 21 * L[i].f1 := w64 (by omega) (by omega)
  have e2 : wrap64 (21 * L[i].f1 + L[i].f0) = 21 * L[i].f1 + L[i].f0 := w64 (by omega) (by omega)
  have hlen : (livesOf (L.take i)).length = 462 := by unfold livesOf; rw [lives_len, List.length_replicate]
  have hset : livesOf (L.take (i + 1)) = (livesOf (L.take i)).set (21 * L[i].f1 + L[i].f0).toNat true := by
   rw [ht]
   unfold livesOf
   rw [List.foldl_append]
   rfl
  rw [hset] at ih
  refine ih.step (fun k => ?_)
  simp only [vivariumlaw23_PlainTells.l0]
  rw [rd_get L i hi, e1, e2, e]
  clear e e1 e2
  rw [if_pos (by omega), if_pos (by omega), if_neg (by omega), if_neg (by omega), if_neg (by omega), if_neg (by omega), if_pos (by omega), if_pos (by omega)]
theorem PlainTells : vivariumlaw23_PlainTells.Pure := by
 intro a b c d S w0 w1 w2 w3 _ _ hS
 obtain ⟨X, Y, W, H, hX, hY, hW, hH, hf⟩ := few_is a b c d
 have hS2 : ∀ x ∈ S, 0 ≤ x ∧ x ≤ 255 := fun x hx => Go.bounds_u8 (hS x hx)
 obtain ⟨C, h1, h2, h3, h4⟩ := laid_rows S hS2 X Y W H hX hY (by omega) (by omega) (H + 2) 0 (Y - 1) [] (by omega) (by omega) (by omega) ⟨List.Pairwise.nil, by simp, by simp, by simp⟩
 have hr := rowsB_len (gOf (stOf C X Y)) W H 0
 have hr2 : H * (4 * W + 1) ≤ 20 * 81 := Nat.mul_le_mul hH (by omega)
 have hr3 : (W + 1) * H ≤ 21 * 20 := Nat.mul_le_mul (by omega) hH
 obtain ⟨q1, q2⟩ := write_read C X Y W H (by omega) (by omega) (by omega) (by omega) (by omega) h3 h2 (by omega) (by omega)
 -- the halves
 have hok : ∀ c ∈ C, okC c := fun c hc => (h3 c hc).2.2
 have hN : NearAll C := fun c hc _ => ⟨(h3 c hc).1, (h3 c hc).2.1⟩
 have hD : DistC C := h2.imp fun {a b} hab e => by unfold ltC at hab; omega
 have hE : stE (stD C (.map []) 0) X Y W H = 0 := asked_eq (stE_asked C X Y W H hok) (.inr (.inr (.inr (.inr ⟨hN, hD, by omega, ⟨⟨by omega, by omega⟩, by omega, by omega⟩, rfl⟩))))
 have hall : (C.all fun x => (Lit.int .i64 x.f0).wf && ((Lit.int .i64 x.f1).wf && (Lit.int .u8 x.f2).wf)) = true := by
  rw [List.all_eq_true]
  intro c hc
  obtain ⟨⟨a1, a2⟩, ⟨b1, b2⟩, c1, c2⟩ := h3 c hc
  have hu : (Lit.int .u8 c.f2).wf = true := by
   have : ∀ n : Nat, n < 256 → (Lit.int .u8 (n : Int)).wf = true := by decide +kernel
   have e := this c.f2.toNat (by omega)
   rwa [Int.toNat_of_nonneg c1] at e
  rw [wfi (by omega) (by omega), wfi (by omega) (by omega), hu]
  rfl
 obtain ⟨q, hq⟩ : ∃ q : Nat, (H + 1) / 2 = q := ⟨_, rfl⟩
 obtain ⟨g, hg⟩ : ∃ g, halfP (stD C (.map []) 0).1 X Y H = g := ⟨_, rfl⟩
 have hm1 : q * (4 * W + 1) ≤ 20 * 81 := Nat.mul_le_mul (by omega) (by omega)
 have hm2 : (W + 1) * q ≤ 21 * 20 := Nat.mul_le_mul (by omega) (by omega)
 have hrl := rowsB_len g W q 0
 have hcast : (((W + 1) * q : Nat) : Int) = ((W : Int) + 1) * (q : Int) := by rw [Int.natCast_mul, Int.natCast_add]; rfl
 have hq2 : ((H : Int) + 1) / 2 = (q : Int) := by omega
 have hh : plain_Halves.f C X Y W H = some (⟨(rowsB g W q 0).toArray⟩, 0) := by
  have hd : drawnP g W q = (⟨(rowsB g W q 0).toArray⟩, 0) := by
   unfold drawnP
   rw [if_neg (by omega), Int.toNat_natCast, Int.toNat_natCast, if_neg (by omega)]
  unfold plain_Halves.f
  rw [if_pos ⟨by omega, hall, wfi (by omega) (by omega), wfi (by omega) (by omega), wfi (by omega) (by omega), wfi (by omega) (by omega)⟩, hE, if_pos rfl, if_pos rfl, hg, hq2, hd]
 have hgw := grid_want C X Y W H (by omega) (by omega) (by omega) (by omega) h3 h2
 have hmem : ∀ c, c ∈ wantOf C X Y W H ↔ ((0 : Int) ≤ c.f1 ∧ c.f1 < 0 + H) ∧ (0 ≤ c.f0 ∧ c.f0 < W) ∧ stOf C X Y c.f0 c.f1 = c.f2 ∧ ¬ c.f2 = 0 := fun c => by rw [← hgw, mem_gridCells]
 have hlive : ∀ x y : Nat, x ≤ 20 → y ≤ 21 → (livesOf (wantOf C X Y W H)).getD (21 * y + x) false = decide (x < W ∧ y < H ∧ ¬ stOf C X Y x y = 0) := fun x y hx hy => by
  have hlg := lives_get (wantOf C X Y W H) (List.replicate 462 false) (21 * y + x) (by rw [List.length_replicate]; omega)
  unfold livesOf
  rw [hlg, show (List.replicate 462 false).getD (21 * y + x) false = false from by rw [List.getD_eq_getElem?_getD, List.getElem?_replicate]; split <;> rfl, Bool.false_or, Bool.eq_iff_iff, decide_eq_true_eq, decide_eq_true_eq]
  constructor
  ·rintro ⟨c, hc, hp⟩
   obtain ⟨m1, m2, m3, m4⟩ := (hmem c).1 hc
   unfold place at hp
   have e1 : c.f1 = (y : Int) := by omega
   have e0 : c.f0 = (x : Int) := by omega
   rw [e0, e1] at m3
   exact ⟨by omega, by omega, by rw [m3]; exact m4⟩
  ·rintro ⟨m1, m2, m3⟩
   refine ⟨⟨x, y, stOf C X Y x y⟩, (hmem _).2 ⟨⟨by dsimp only; omega, by dsimp only; omega⟩, ⟨by dsimp only; omega, by dsimp only; omega⟩, rfl, m3⟩, ?_⟩
   unfold place
   dsimp only
   omega
 have hgT : ∀ i j : Nat, i < W → 2 * j < H → g i j = pairT ((livesOf (wantOf C X Y W H)).getD (21 * (2 * j) + i) false) ((livesOf (wantOf C X Y W H)).getD (21 * (2 * j + 1) + i) false) := fun i j hi hj => by
  rw [hlive i (2 * j) (by omega) (by omega), hlive i (2 * j + 1) (by omega) (by omega), ← hg]
  unfold halfP
  have e2 : wrap64 (wrap64 (Y + ((2 * j : Nat) : Int)) + 1) = wrap64 (Y + ((2 * j + 1 : Nat) : Int)) := by
   rw [w64 (x := Y + ((2 * j : Nat) : Int)) (by omega) (by omega)]
   congr 1
   omega
  have f1 : mapAt (stD C (.map []) 0).1 (wrap64 (X + (i : Int))) (wrap64 (Y + ((2 * j : Nat) : Int))) = stOf C X Y i ((2 * j : Nat) : Int) := rfl
  have f2 : mapAt (stD C (.map []) 0).1 (wrap64 (X + (i : Int))) (wrap64 (Y + ((2 * j + 1 : Nat) : Int))) = stOf C X Y i ((2 * j + 1 : Nat) : Int) := rfl
  rw [m2 j (by omega), add1 (2 * j) (by omega), e2, f1, f2]
  clear e2 f1 f2
  by_cases t1 : stOf C X Y i ((2 * j : Nat) : Int) = 0
  ·rw [if_pos t1, decide_eq_false (fun f => f.2.2 t1)]
   by_cases t3 : ((2 * j + 1 : Nat) : Int) < (H : Int)
   ·rw [if_pos t3]
    by_cases t2 : stOf C X Y i ((2 * j + 1 : Nat) : Int) = 0
    ·rw [if_pos t2, decide_eq_false (fun f => f.2.2 t2)]; rfl
    ·rw [if_neg t2, decide_eq_true ⟨hi, by omega, t2⟩]; rfl
   ·rw [if_neg t3, decide_eq_false (fun f => t3 (by omega))]; rfl
  ·rw [if_neg t1, decide_eq_true ⟨hi, hj, t1⟩]
   by_cases t3 : ((2 * j + 1 : Nat) : Int) < (H : Int)
   ·rw [if_pos t3]
    by_cases t2 : stOf C X Y i ((2 * j + 1 : Nat) : Int) = 0
    ·rw [if_pos t2, decide_eq_false (fun f => f.2.2 t2)]; rfl
    ·rw [if_neg t2, decide_eq_true ⟨hi, by omega, t2⟩]; rfl
   ·rw [if_neg t3, decide_eq_false (fun f => t3 (by omega))]; rfl
 have hT : tellsF (livesOf (wantOf C X Y W H)) ⟨(rowsB g W q 0).toArray⟩ W H = some true := by
  unfold tellsF
  exact tells_rows (livesOf (wantOf C X Y W H)) (by unfold livesOf; rw [lives_len, List.length_replicate]) ⟨(rowsB g W q 0).toArray⟩ W H hW hH g hgT q 0 [] _ (by omega) rfl (by rw [List.length_nil]; omega)
 have hL : ∀ c ∈ wantOf C X Y W H, (0 ≤ c.f0 ∧ c.f0 < W) ∧ (0 ≤ c.f1 ∧ c.f1 < H) := fun c hc => by
  obtain ⟨m1, m2, _⟩ := (hmem c).1 hc
  exact ⟨m2, by omega, by omega⟩
 have hwl : (wantOf C X Y W H).length ≤ C.length := by unfold wantOf; exact List.length_filterMap_le _ _
 have hgo := tell_go (wantOf C X Y W H) W H hL (by omega) hW hH _ X Y hT (wantOf C X Y W H).length 0 (by omega)
 rw [List.take_zero] at hgo
 have hlf : Evn (fun k => vivariumlaw23_laid.f k X Y W H S) C := h1.congr (fun k => by
  have hy : wrap64 (Y - 1) = Y - 1 := w64 (by omega) (by omega)
  unfold vivariumlaw23_laid.f
  rw [hy]
  rfl)
 obtain ⟨K1, k1⟩ := hlf
 obtain ⟨K2, k2⟩ := hgo
 have j1 : vivariumlaw23_laid.f (K1 + K2 + 1) X Y W H S = some C := k1 _ (by omega)
 have j2 := k2 (K1 + K2) (by omega)
 refine ⟨K1 + K2 + 1, ?_⟩
 unfold vivariumlaw23_PlainTells.f
 rw [alive23, Option.bind_some, hf, Option.bind_some]
 dsimp only
 rw [j1, Option.bind_some, hh, Option.bind_some, q1, Option.bind_some]
 dsimp only
 rw [q2, Option.bind_some]
 dsimp only
 simp only [if_true, bne_self_eq_false, vivariumlaw23_PlainTells.j0, Bool.false_eq_true, if_false]
 rw [if_pos (by decide)]
 exact j2
end Go.Proofs.Ytfgonglcmgahkab.Pure

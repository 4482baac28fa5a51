/- A picture that is drawn of states is read as the living cells of it. -/
import Derived.Test.YtfgonglcmgahkabPlainDefs
import Derived.Test.YtfgonglcmgahkabPlainDrawn
import Derived.Test.YtfgonglcmgahkabPm1
import Derived.Test.YtfgonglcmgahkabPm3
set_option linter.unusedVariables false
namespace Go.Proofs.Ytfgonglcmgahkab.L
open Go.RowKit Go.Proofs.Ytfgonglcmgahkab.P Go.Proofs.YtfgonglcmgahkabW.PrintWords Go.Proofs.YtfgonglcmgahkabW.PrintLast Go.Proofs.YtfgonglcmgahkabW.PrintMore
theorem get_list (s : ByteArray) (i : Nat) (h : i < s.size) : s.get! i = s.data.toList[i]'(by simpa using h) := by
 have := get_at s i h
 rw [Nat.add_zero] at this
 rw [this]
 rfl
theorem enc_sign (a : Int) (h0 : 2 ≤ a) (h1 : a ≤ 255) : Lib.encodeRuneZ (signP a) = [226, 160 + a / 64, 128 + a % 64] := by
 unfold signP
 rw [if_neg (by omega), if_neg (by omega), Lib.encodeRuneZ_three (by omega)]
 congr 1
 ·omega
 ·congr 1
  ·omega
  ·congr 1
   omega
theorem decode_three (s : ByteArray) (pos a : Nat) (h1 : a ≤ 255) (hz : pos + 2 < s.size) (b0 : (s.get! pos).toNat = 226) (b1 : (s.get! (pos + 1)).toNat = 160 + a / 64) (b2 : (s.get! (pos + 2)).toNat = 128 + a % 64) : Utf8.decode s pos = (10240 + a, 3) := by
 have c1 : (160 + a / 64) / 64 = 2 := by omega
 have c2 : (128 + a % 64) / 64 = 2 := by omega
 have c3 : 226 % 16 * 4096 + (160 + a / 64) % 64 * 64 + (128 + a % 64) % 64 = 10240 + a := by omega
 have z1 : pos + 1 < s.size := by omega
 unfold Utf8.decode
 simp only [Nat.add_zero, b0, b1, b2, c1, c2, c3]
 rw [if_neg (by decide), if_neg (by simp), if_pos (by simp [z1, hz]), if_pos]
 have : ∀ a : Nat, a < 256 → (decide (10240 + a ≥ 2048) && Utf8.valid (10240 + a)) = true := by decide +kernel
 exact this a (by omega)
theorem decode_sign (s : ByteArray) (pre rest : List UInt8) (a : Int) (h0 : 0 ≤ a) (h1 : a ≤ 255) (hs : s.data.toList = pre ++ (Lib.encodeRune (signP a) ++ rest)) : Utf8.decode s pre.length = ((signP a).toNat, (Lib.encodeRune (signP a)).length) := by
 have hsz : s.size = pre.length + ((Lib.encodeRune (signP a)).length + rest.length) := by
  have : s.data.toList.length = s.size := Array.length_toList
  rw [← this, hs, List.length_append, List.length_append]
 have hget : ∀ (j : Nat) (x : UInt8), (Lib.encodeRune (signP a))[j]? = some x → pre.length + j < s.size ∧ s.get! (pre.length + j) = x := fun j x hj => by
  have hjl := (List.getElem?_eq_some_iff.1 hj).1
  have hlt : pre.length + j < s.size := by omega
  refine ⟨hlt, ?_⟩
  rw [get_list s _ hlt]
  have h2 : s.data.toList[pre.length + j]? = some x := by
   rw [hs, List.getElem?_append_right (Nat.le_add_right _ _), Nat.add_sub_cancel_left, List.getElem?_append_left hjl, hj]
  exact (List.getElem?_eq_some_iff.1 h2).2
 by_cases c0 : a = 0
 ·subst c0
  obtain ⟨hl, hg⟩ := hget 0 46 rfl
  rw [Nat.add_zero] at hl hg
  have e : (s[pre.length]'hl) = 46 := (get_list s _ hl).symm.trans hg
  rw [decode_ascii s _ hl (by rw [e]; decide), e]
  rfl
 ·by_cases c1 : a = 1
  ·subst c1
   obtain ⟨hl, hg⟩ := hget 0 79 rfl
   rw [Nat.add_zero] at hl hg
   have e : (s[pre.length]'hl) = 79 := (get_list s _ hl).symm.trans hg
   rw [decode_ascii s _ hl (by rw [e]; decide), e]
   rfl
  ·obtain ⟨n, rfl⟩ : ∃ n : Nat, a = n := ⟨a.toNat, by omega⟩
   have he := enc_sign n (by omega) (by omega)
   have he2 : Lib.encodeRune (signP n) = [226, (160 + n / 64 : Nat).toUInt8, (128 + n % 64 : Nat).toUInt8] := by
    unfold Lib.encodeRune
    rw [he]
    have e1 : (160 + (n : Int) / 64).toNat = 160 + n / 64 := by omega
    have e2 : (128 + (n : Int) % 64).toNat = 128 + n % 64 := by omega
    simp only [List.map_cons, List.map_nil, e1, e2]
    rfl
   have g0 := hget 0 _ (by rw [he2]; rfl)
   have g1 := hget 1 _ (by rw [he2]; rfl)
   have g2 := hget 2 _ (by rw [he2]; rfl)
   rw [Nat.add_zero] at g0
   have u : ∀ m : Nat, m < 256 → (m.toUInt8).toNat = m := fun m hm => by
    show m % 256 = m
    omega
   rw [decode_three s pre.length n (by omega) g2.1 (by rw [g0.2]; rfl) (by rw [g1.2]; exact u _ (by omega)) (by rw [g2.2]; exact u _ (by omega)), he2]
   unfold signP
   rw [if_neg (by omega), if_neg (by omega)]
   congr 1
theorem ofP_sign (a : Int) (h0 : 0 ≤ a) (h1 : a ≤ 255) : ofP (signP a) = (a, true) := by
 unfold signP
 by_cases c0 : a = 0
 ·subst c0; rfl
 ·rw [if_neg c0]
  by_cases c1 : a = 1
  ·subst c1; rfl
  ·rw [if_neg c1]
   unfold ofP
   rw [if_neg (by omega), if_neg (by omega), if_pos (by omega)]
   congr 1
   omega
theorem signP_pos (a : Int) (h0 : 0 ≤ a) : 0 ≤ signP a := by
 unfold signP
 by_cases c0 : a = 0
 ·rw [if_pos c0]; decide
 ·rw [if_neg c0]
  by_cases c1 : a = 1
  ·rw [if_pos c1]; decide
  ·rw [if_neg c1]; omega
theorem enc_pos (a : Int) (h0 : 0 ≤ a) (h1 : a ≤ 255) : 1 ≤ (Lib.encodeRune (signP a)).length := (Lib.runeCells_le (signP a)).1 |> fun h => by
 have e := congrArg List.length (Lib.byteCells_encodeRune (signP a))
 rw [Lib.byteCells_length] at e
 rw [e]
 exact h
/-- No byte of a sign is an end of line, or an exclamation mark. -/
theorem enc_bytes (a : Int) (h0 : 0 ≤ a) (h1 : a ≤ 255) : ∀ b ∈ Lib.encodeRune (signP a), b ≠ 10 ∧ b ≠ 13 ∧ b ≠ 33 := by
 by_cases c0 : a = 0
 ·subst c0; decide
 ·by_cases c1 : a = 1
  ·subst c1; decide
  ·obtain ⟨n, rfl⟩ : ∃ n : Nat, a = n := ⟨a.toNat, by omega⟩
   have he := enc_sign n (by omega) (by omega)
   have he2 : Lib.encodeRune (signP n) = [226, (160 + n / 64 : Nat).toUInt8, (128 + n % 64 : Nat).toUInt8] := by
    unfold Lib.encodeRune
    rw [he]
    have e1 : (160 + (n : Int) / 64).toNat = 160 + n / 64 := by omega
    have e2 : (128 + (n : Int) % 64).toNat = 128 + n % 64 := by omega
    simp only [List.map_cons, List.map_nil, e1, e2]
    rfl
   have u : ∀ m : Nat, 128 ≤ m → m < 256 → m.toUInt8 ≠ 10 ∧ m.toUInt8 ≠ 13 ∧ m.toUInt8 ≠ 33 := by
    intro m h1 h2
    have e : (m.toUInt8).toNat = m := by
     show m % 256 = m
     omega
    refine ⟨?_, ?_, ?_⟩ <;> intro e2 <;> rw [e2] at e
    ·have : (10 : Nat) = m := e
     omega
    ·have : (13 : Nat) = m := e
     omega
    ·have : (33 : Nat) = m := e
     omega
   intro b hb
   rw [he2] at hb
   simp only [List.mem_cons, List.not_mem_nil, or_false] at hb
   rcases hb with rfl | rfl | rfl
   ·decide
   ·exact u _ (by omega) (by omega)
   ·exact u _ (by omega) (by omega)
def gOf (st : Int → Int → Int) (x y : Int) : Int := signP (st x y)
def rowCells (st : Int → Int → Int) (y : Int) : Nat → Int → List Cl
 | 0, _ => []
 | n + 1, x => (if st x y = 0 then [] else [⟨x, y, st x y⟩]) ++ rowCells st y n (x + 1)
theorem rowCells_succ (st : Int → Int → Int) (y : Int) (n : Nat) (x : Int) : rowCells st y (n + 1) x = (if st x y = 0 then [] else [⟨x, y, st x y⟩]) ++ rowCells st y n (x + 1) := rfl
def gridCells (st : Int → Int → Int) (w : Nat) : Nat → Int → List Cl
 | 0, _ => []
 | n + 1, y => rowCells st y w 0 ++ gridCells st w n (y + 1)
theorem gridCells_succ (st : Int → Int → Int) (w n : Nat) (y : Int) : gridCells st w (n + 1) y = rowCells st y w 0 ++ gridCells st w n (y + 1) := rfl
theorem row_bytes (st : Int → Int → Int) (hst : ∀ x y, 0 ≤ st x y ∧ st x y ≤ 255) (y : Int) : ∀ (n : Nat) (x : Int), ∀ b ∈ rowB (gOf st) y n x, b ≠ 10 ∧ b ≠ 13 ∧ b ≠ 33
 | 0, _, b, hb => by rw [rowB_zero] at hb; simp at hb
 | n + 1, x, b, hb => by
  rw [rowB_succ] at hb
  rcases List.mem_append.1 hb with hb | hb
  ·exact enc_bytes _ (hst x y).1 (hst x y).2 b hb
  ·exact row_bytes st hst y n (x + 1) b hb
theorem row_read (st : Int → Int → Int) (hst : ∀ x y, 0 ≤ st x y ∧ st x y ≤ 255) (L : ByteArray) (y : Int) : ∀ (n : Nat) (x : Int) (pre : List UInt8) (k : Nat) (acc : List Cl), L.data.toList = pre ++ rowB (gOf st) y n x → L.size ≤ pre.length + k → rowC L y k pre.length x acc = (acc ++ rowCells st y n x, -1)
 | 0, x, pre, k, acc, hL, hk => by
  have hz : L.size = pre.length := by
   have h : L.data.toList.length = L.size := Array.length_toList
   rw [← h, hL, rowB_zero, List.append_nil]
  rw [rowC_out L y k pre.length x acc (by omega)]
  simp [rowCells]
 | n + 1, x, pre, k, acc, hL, hk => by
  rw [rowB_succ] at hL
  have hs := hst x y
  have hp := enc_pos (st x y) hs.1 hs.2
  have hz : L.size = pre.length + ((Lib.encodeRune (gOf st x y)).length + (rowB (gOf st) y n (x + 1)).length) := by
   have h : L.data.toList.length = L.size := Array.length_toList
   rw [← h, hL, List.length_append, List.length_append]
  have hp2 : 1 ≤ (Lib.encodeRune (gOf st x y)).length := hp
  obtain ⟨k, rfl⟩ : ∃ m, k = m + 1 := ⟨k - 1, by omega⟩
  have hd := decode_sign L pre (rowB (gOf st) y n (x + 1)) (st x y) hs.1 hs.2 hL
  have hc : (((signP (st x y)).toNat : Nat) : Int) = signP (st x y) := Int.toNat_of_nonneg (signP_pos _ hs.1)
  have ih := row_read st hst L y n (x + 1) (pre ++ Lib.encodeRune (gOf st x y)) k (if st x y = 0 then acc else acc ++ [⟨x, y, st x y⟩]) (by rw [List.append_assoc]; exact hL) (by rw [List.length_append]; omega)
  rw [List.length_append] at ih
  rw [rowC_succ, if_pos (by omega), hd, hc, ofP_sign _ hs.1 hs.2, if_pos rfl]
  refine Eq.trans ih ?_
  rw [rowCells_succ]
  by_cases c : st x y = 0
  ·rw [if_pos c, if_pos c, List.nil_append]
  ·rw [if_neg c, if_neg c, List.append_assoc]
theorem eol_hit (s : ByteArray) : ∀ (n i j : Nat), i ≤ j → j < s.size → j - i < n → (∀ m, i ≤ m → m < j → bt s (m : Int) ≠ 10) → bt s (j : Int) = 10 → eol s n i = j
 | 0, i, j, _, _, h, _, _ => by omega
 | n + 1, i, j, h0, h1, h2, h3, h4 => by
  rw [eol_succ]
  by_cases e : i = j
  ·subst e
   rw [if_neg (fun h => h.2 h4)]
  ·rw [if_pos ⟨by omega, h3 i (Nat.le_refl _) (by omega)⟩]
   exact eol_hit s n (i + 1) j (by omega) h1 (by omega) (fun m a b => h3 m (by omega) b) h4
theorem bt_of (s : ByteArray) (i : Nat) (x : UInt8) (h : s.data.toList[i]? = some x) : i < s.size ∧ bt s (i : Int) = (x.toNat : Int) := by
 obtain ⟨hi, hx⟩ := List.getElem?_eq_some_iff.1 h
 rw [Array.length_toList] at hi
 exact ⟨hi, by rw [bt_eq s i hi, hx]⟩
theorem ne_nat {a b : UInt8} (h : a ≠ b) : (a.toNat : Int) ≠ (b.toNat : Int) := fun e => h (UInt8.toNat_inj.1 (by omega))
theorem ext_list (s : ByteArray) (pre mid rest : List UInt8) (i j : Nat) (hi : i = pre.length) (hj : j = pre.length + mid.length) (h : s.data.toList = pre ++ (mid ++ rest)) : (s.extract i j).data.toList = mid := by
 subst hi hj
 rw [ByteArray.data_extract, Array.toList_extract, List.extract_eq_take_drop, h, Nat.add_sub_cancel_left, List.drop_left' rfl, List.take_left' rfl]
theorem line_at (s : ByteArray) (pre mid rest : List UInt8) (h : s.data.toList = pre ++ (mid ++ (10 :: rest))) (hm : ∀ b ∈ mid, b ≠ 10 ∧ b ≠ 13 ∧ b ≠ 33) : pre.length < s.size ∧ eol s (s.size - pre.length) pre.length = pre.length + mid.length ∧ (ltext s pre.length (pre.length + mid.length)).data.toList = mid := by
 have hz : s.size = pre.length + (mid.length + (rest.length + 1)) := by
  have e : s.data.toList.length = s.size := Array.length_toList
  rw [← e, h, List.length_append, List.length_append, List.length_cons]
 have hmid : ∀ m, pre.length ≤ m → m < pre.length + mid.length → ∃ b ∈ mid, bt s (m : Int) = (b.toNat : Int) := fun m h1 h2 => by
  refine ⟨mid[m - pre.length]'(by omega), List.getElem_mem _, (bt_of s m _ ?_).2⟩
  rw [h, List.getElem?_append_right h1, List.getElem?_append_left (by omega), List.getElem?_eq_getElem]
 have hend : bt s ((pre.length + mid.length : Nat) : Int) = 10 := by
  refine (bt_of s _ 10 ?_).2
  rw [h, List.getElem?_append_right (Nat.le_add_right _ _), Nat.add_sub_cancel_left, List.getElem?_append_right (Nat.le_refl _), Nat.sub_self]
  rfl
 refine ⟨by omega, eol_hit s _ _ _ (Nat.le_add_right _ _) (by omega) (by omega) (fun m h1 h2 => ?_) hend, ?_⟩
 ·obtain ⟨b, hb, e⟩ := hmid m h1 h2
  rw [e]
  exact ne_nat (hm b hb).1
 ·have hne : ¬ (pre.length < pre.length + mid.length ∧ bt s ((pre.length + mid.length - 1 : Nat) : Int) = 13) := by
   rintro ⟨h1, h2⟩
   obtain ⟨b, hb, e⟩ := hmid (pre.length + mid.length - 1) (by omega) (by omega)
   rw [e] at h2
   exact ne_nat (hm b hb).2.1 h2
  unfold ltext
  rw [if_neg hne]
  exact ext_list s pre mid (10 :: rest) _ _ rfl rfl h
theorem bang_no (L : ByteArray) (h : ∀ b ∈ L.data.toList, b ≠ 10 ∧ b ≠ 13 ∧ b ≠ 33) : ¬ bang L = true := by
 unfold bang
 rw [decide_eq_true_eq]
 rintro ⟨h1, h2⟩
 have hl : 0 < L.data.toList.length := by rw [Array.length_toList]; exact h1
 have e := bt_eq L 0 h1
 have := (h _ (List.getElem_mem hl)).2.2
 refine ne_nat this ?_
 rw [← e]
 exact h2
theorem rows_read (st : Int → Int → Int) (hst : ∀ x y, 0 ≤ st x y ∧ st x y ≤ 255) (w : Nat) (s : ByteArray) : ∀ (h : Nat) (y : Int) (pre : List UInt8) (n : Nat) (acc : List Cl), s.data.toList = pre ++ rowsB (gOf st) w h y → s.size + 1 ≤ n + pre.length → readC (lsp s n pre.length) y acc = (acc ++ gridCells st w h y, 0, 0)
 | 0, y, pre, n, acc, hs, hn => by
  have hz : s.size = pre.length := by
   have e : s.data.toList.length = s.size := Array.length_toList
   rw [← e, hs, rowsB_zero, List.append_nil]
  have e : lsp s n pre.length = [] := by
   cases n with
   | zero => rfl
   | succ n => unfold lsp; rw [if_neg (by omega)]
  rw [e]
  simp [readC, gridCells]
 | h + 1, y, pre, n, acc, hs, hn => by
  rw [rowsB_succ, List.singleton_append] at hs
  have hb := row_bytes st hst y w 0
  obtain ⟨h1, h2, h3⟩ := line_at s pre (rowB (gOf st) y w 0) _ hs hb
  obtain ⟨n, rfl⟩ : ∃ m, n = m + 1 := ⟨n - 1, by omega⟩
  have e : lsp s (n + 1) pre.length = ⟨(pre.length : Int), ltext s pre.length (pre.length + (rowB (gOf st) y w 0).length)⟩ :: lsp s n (pre.length + (rowB (gOf st) y w 0).length + 1) := by
   have e0 : lsp s (n + 1) pre.length = if pre.length < s.size then (⟨(pre.length : Int), ltext s pre.length (eol s (s.size - pre.length) pre.length)⟩ : Ln) :: lsp s n (eol s (s.size - pre.length) pre.length + 1) else [] := by cases n <;> rfl
   rw [e0, if_pos h1, h2]
  obtain ⟨L, hL⟩ : ∃ L, ltext s pre.length (pre.length + (rowB (gOf st) y w 0).length) = L := ⟨_, rfl⟩
  rw [hL] at h3 e
  have hbang := bang_no L (by rw [h3]; exact hb)
  have hrow := row_read st hst L y w 0 [] L.size acc (by rw [h3, List.nil_append]) (by simp)
  have ih := rows_read st hst w s h (y + 1) (pre ++ (rowB (gOf st) y w 0 ++ [10])) n (acc ++ rowCells st y w 0) (by rw [hs, List.append_assoc, List.append_assoc]; rfl) (by rw [List.length_append, List.length_append, List.length_singleton]; omega)
  rw [List.length_append, List.length_append, List.length_singleton, ← Nat.add_assoc] at ih
  rw [e, readC_row _ _ y acc _ hbang hrow, ih, gridCells_succ, List.append_assoc]
/-- What is drawn is read. -/
theorem drawn_read (st : Int → Int → Int) (hst : ∀ x y, 0 ≤ st x y ∧ st x y ≤ 255) (w h : Nat) (hl : (rowsB (gOf st) w h 0).length ≤ 1048576) : plain_Read.f ⟨(rowsB (gOf st) w h 0).toArray⟩ = some (gridCells st w h 0, 0, 0) := by
 have hz : (⟨(rowsB (gOf st) w h 0).toArray⟩ : ByteArray).size = (rowsB (gOf st) w h 0).length := by simp [ByteArray.size]
 unfold plain_Read.f
 rw [if_neg (by omega)]
 have hr := rows_read st hst w ⟨(rowsB (gOf st) w h 0).toArray⟩ h 0 [] ((⟨(rowsB (gOf st) w h 0).toArray⟩ : ByteArray).size + 1) [] (by rw [List.nil_append]) (by simp)
 rw [List.length_nil, List.nil_append] at hr
 rw [hr]
end Go.Proofs.Ytfgonglcmgahkab.L

/- A list's digits in an order by a number: distinct digits, whose bits are the list's. -/
import Derived.Test.YtfgonglcmgahkaaLifeText
import Derived.Test.YtfgonglcmgahkaaP29
namespace Go.Proofs.Ytfgonglcmgahkaa.L
open Go.RowKit Go.Proofs.Ytfgonglcmgahkaa.P Go.Proofs.YtfgonglcmgahkaaW.PrintWords Go.Proofs.YtfgonglcmgahkaaW.PrintLast Go.Proofs.YtfgonglcmgahkaaW.PrintMore
/-- The same digits in another order. -/
theorem run_app : ∀ (a b : List Int) (m : Nat), run (a ++ b) m = (run a m).bind (run b)
  | [], b, m => rfl
  | d :: a, b, m => by
    simp only [List.cons_append, run]
    by_cases c : m.testBit (d - 48).toNat = true
    · rw [if_pos c, if_pos c]; rfl
    · rw [if_neg c, if_neg c]; exact run_app a b _
theorem or_bit (m i j : Nat) : (m ||| 2 ^ i).testBit j = (m.testBit j || decide (i = j)) := by rw [Nat.testBit_or, Nat.testBit_two_pow]
theorem run_swap (x y : Int) (m : Nat) : run [x, y] m = run [y, x] m := by
  simp only [run, or_bit]
  by_cases e : (x - 48).toNat = (y - 48).toNat
  · rw [e]
  · have e2 : ¬ (y - 48).toNat = (x - 48).toNat := fun h => e h.symm
    simp only [decide_eq_false e, decide_eq_false e2, Bool.or_false]
    have hc : m ||| 2 ^ (x - 48).toNat ||| 2 ^ (y - 48).toNat = m ||| 2 ^ (y - 48).toNat ||| 2 ^ (x - 48).toNat := by
      rw [Nat.or_assoc, Nat.or_comm (2 ^ (x - 48).toNat), ← Nat.or_assoc]
    rw [hc]
    cases m.testBit (x - 48).toNat <;> cases m.testBit (y - 48).toNat <;> rfl
theorem run_perm {a b : List Int} (h : List.Perm a b) : ∀ m, run a m = run b m := by
  induction h with
  | nil => exact fun _ => rfl
  | cons x _ ih =>
    intro m
    simp only [run]
    by_cases c : m.testBit (x - 48).toNat = true
    · rw [if_pos c, if_pos c]
    · rw [if_neg c, if_neg c]; exact ih _
  | swap x y l =>
    intro m
    have h := run_swap y x m
    have e1 : run ([y, x] ++ l) m = run (y :: x :: l) m := rfl
    have e2 : run ([x, y] ++ l) m = run (x :: y :: l) m := rfl
    rw [← e1, ← e2, run_app, run_app, h]
  | trans _ _ h1 h2 => exact fun m => (h1 m).trans (h2 m)
theorem digits_perm {a b : List Int} (h : List.Perm a b) (hd : Digits a) : Digits b := fun d hd' => hd d (h.mem_iff.2 hd')
/-- Taking out, one by one. -/
theorem shuf_go : ∀ (n : Nat) (k : Nat) (o : Int) (l acc : List Int), l.length = n → n < k → n + acc.length ≤ 100 → 0 ≤ o → o < 18446744073709551616 → ∃ p : List Int, List.Perm p l ∧ vivariumlaw08_shuffled.l1 k o l (strOfNums acc) = some (strOfNums (acc ++ p)) := by
  intro n
  induction n with
  | zero =>
    intro k o l acc hl hk _ h0 h1
    obtain ⟨k, rfl⟩ : ∃ m, k = m + 1 := ⟨k - 1, by omega⟩
    obtain rfl : l = [] := List.length_eq_zero_iff.1 hl
    refine ⟨[], List.Perm.refl _, ?_⟩
    simp only [vivariumlaw08_shuffled.l1]
    rw [if_neg (by simp), List.append_nil]
  | succ n ih =>
    intro k o l acc hl hk ha h0 h1
    obtain ⟨k, rfl⟩ : ∃ m, k = m + 1 := ⟨k - 1, by omega⟩
    have q1 : (l.length : Int) > 0 := by omega
    have q2 : IntKind.u64.wrap ((l.length : Nat) : Int) = ((n + 1 : Nat) : Int) := by rw [IntKind.wrap_u64, hl]; omega
    obtain ⟨i, hi, hin⟩ : ∃ i : Nat, Int.tmod o ((n + 1 : Nat) : Int) = (i : Int) ∧ i < n + 1 := by
      have e := Int.tmod_eq_emod_of_nonneg (b := ((n + 1 : Nat) : Int)) h0
      have e1 := Int.emod_nonneg o (b := ((n + 1 : Nat) : Int)) (by omega)
      have e2 := Int.emod_lt_of_pos o (b := ((n + 1 : Nat) : Int)) (by omega)
      exact ⟨(Int.tmod o ((n + 1 : Nat) : Int)).toNat, by omega, by omega⟩
    have q3 : ¬ ((n + 1 : Nat) : Int) = 0 := by omega
    have q4 : (0 : Int) ≤ (i : Int) := by omega
    have q5 : (i : Int) ≤ (i : Int) + 1 := by omega
    have q6 : (i : Int) + 1 ≤ (l.length : Int) := by omega
    have q7 : (i : Int) ≤ (l.length : Int) := by omega
    have q8 : (0 : Int) ≤ (i : Int) + 1 := by omega
    have q9 : ((i : Int) + 1).toNat = i + 1 := by omega
    have hil : i < l.length := by omega
    have hd : (l.take (i + 1)).drop i = [l[i]] := by
      rw [List.take_add_one, List.getElem?_eq_getElem hil, List.drop_append_of_le_length (by rw [List.length_take]; omega), List.drop_eq_nil_of_le (by rw [List.length_take]; omega)]
      rfl
    have ho : ∃ o' : Int, IntKind.u64.wrap (Int.tdiv o 3) = o' ∧ 0 ≤ o' ∧ o' < 18446744073709551616 := ⟨_, rfl, by rw [IntKind.wrap_u64]; omega, by rw [IntKind.wrap_u64]; omega⟩
    obtain ⟨o', ho', h0', h1'⟩ := ho
    have hlen : (l.take i ++ l.drop (i + 1)).length = n := by rw [List.length_append, List.length_take, List.length_drop]; omega
    have hperm : List.Perm (l[i] :: (l.take i ++ l.drop (i + 1))) l := by
      have e : l = l.take i ++ l[i] :: l.drop (i + 1) := by rw [← List.drop_eq_getElem_cons hil, List.take_append_drop]
      have e2 : List.Perm (l[i] :: (l.take i ++ l.drop (i + 1))) (l.take i ++ l[i] :: l.drop (i + 1)) := List.perm_middle.symm
      exact e2.trans (List.Perm.of_eq e.symm)
    obtain ⟨p, hp, hr⟩ := ih k o' (l.take i ++ l.drop (i + 1)) (acc ++ [l[i]]) hlen (by omega) (by rw [List.length_append]; simp only [List.length_cons, List.length_nil]; omega) h0' h1'
    refine ⟨l[i] :: p, (List.Perm.cons _ hp).trans hperm, ?_⟩
    have z1 : -9223372036854775808 ≤ (i : Int) := by omega
    have z2 : (i : Int) ≤ 9223372036854775807 := by omega
    have z3 : -9223372036854775808 ≤ (i : Int) + 1 := by omega
    have z4 : (i : Int) + 1 ≤ 9223372036854775807 := by omega
    simp only [vivariumlaw08_shuffled.l1]
    rw [if_pos q1]
    simp only [q2, hi, (w64 z1 z2 : wrap64 (i : Int) = (i : Int)), w64 z3 z4, ho', Int.toNat_natCast, q9, hd, if_neg q3, if_pos q4, if_pos q5, if_pos q6, if_pos q7, if_pos q8, Option.bind_some, List.nil_append, List.length_nil]
    rw [if_pos (by rw [strOfNums_size, strOfNums_size]; simp only [List.length_cons, List.length_nil]; omega), if_pos (by rw [List.length_take]; omega), if_pos (by rw [← List.length_append, hlen]; omega)]
    have es : strOfNums acc ++ strOfNums [l[i]] = strOfNums (acc ++ [l[i]]) := by
      apply ByteArray.ext
      simp [strOfNums]
    rw [es, hr, List.append_assoc]
    rfl
set_option maxRecDepth 100000 in
theorem dl_step_all : (List.range 512).all (fun b => (List.range 9).all fun i => decide (Dl (b % 2 ^ (i + 1)) = Dl (b % 2 ^ i) ++ (if b.testBit i = true then [48 + (i : Int)] else []))) = true := by decide +kernel
theorem dl_step (b i : Nat) (hb : b < 512) (hi : i < 9) : Dl (b % 2 ^ (i + 1)) = Dl (b % 2 ^ i) ++ (if b.testBit i = true then [48 + (i : Int)] else []) :=
  of_decide_eq_true (List.all_eq_true.1 (List.all_eq_true.1 dl_step_all b (List.mem_range.2 hb)) i (List.mem_range.2 hi))
theorem dl_len (b : Nat) : (Dl b).length ≤ 10 := by
  unfold Dl
  rw [List.length_map]
  exact Nat.le_trans (List.length_filter_le _ _) (by rw [List.length_range]; omega)
theorem shuf_list (b : Nat) (hb : b < 512) (o : Int) (k : Nat) : ∀ (d i : Nat) (l : List Int), 9 - i = d → i ≤ 9 → l = Dl (b % 2 ^ i) → vivariumlaw08_shuffled.l0 (k + d + 1) (b : Int) o l (i : Int) = vivariumlaw08_shuffled.l1 k o (Dl b) (strOfNums []) := by
  intro d
  induction d with
  | zero =>
    intro i l hd hi hl
    obtain rfl : i = 9 := by omega
    simp only [vivariumlaw08_shuffled.l0]
    rw [if_neg (by omega), hl, Nat.mod_eq_of_lt (by omega)]
    rfl
  | succ d ih =>
    intro i l hd hi hl
    have hi9 : i < 9 := by omega
    have q1 : (i : Int) < 9 := by omega
    have q2 : (0 : Int) ≤ (i : Int) := by omega
    have q3 : (i : Int) ≤ 8 := by omega
    have q4 : l.length < 140737488355328 := by rw [hl]; have := dl_len (b % 2 ^ i); omega
    have key := fun l => ih (i + 1) l (by omega) (by omega)
    have st := dl_step b i hb hi9
    have z1 : -9223372036854775808 ≤ (i : Int) + 1 := by omega
    have z2 : (i : Int) + 1 ≤ 9223372036854775807 := by omega
    have z3 : -9223372036854775808 ≤ 48 + (i : Int) := by omega
    have z4 : 48 + (i : Int) ≤ 9223372036854775807 := by omega
    have z5 : (48 + (i : Int)) % 256 = 48 + (i : Int) := by omega
    have e3 : IntKind.u64.wrap (i : Int) = (i : Int) := by rw [IntKind.wrap_u64]; omega
    have e4 : (wrap64 (48 + (i : Int))) % 256 = 48 + (i : Int) := by rw [w64 z3 z4, z5]
    have e1 : wrap64 ((i : Int) + 1) = ((i + 1 : Nat) : Int) := w64 z1 z2
    have hb2 : b < 65536 := Nat.lt_trans hb (by decide)
    rw [show k + (d + 1) + 1 = (k + d + 1) + 1 from rfl]
    simp only [vivariumlaw08_shuffled.l0]
    rw [if_pos q1, e3, if_pos q2, bit_shr b hb2 i q2 q3, Int.toNat_natCast, if_pos q4, e4, e1]
    cases hbit : b.testBit i with
    | true =>
      rw [hbit, if_pos rfl] at st
      rw [if_pos rfl, if_pos rfl]
      exact key _ (by rw [st, hl])
    | false =>
      rw [hbit, if_neg (by decide), List.append_nil] at st
      rw [if_neg (show ¬ false = true by decide), if_neg (by decide)]
      exact key _ (by rw [st, hl])
/-- A list's digits in any order. -/
theorem shuffled_f (b : Nat) (hb : b < 512) (o : Int) (h0 : 0 ≤ o) (h1 : o < 18446744073709551616) (k : Nat) (hk : 40 ≤ k) : ∃ p : List Int, List.Perm p (Dl b) ∧ vivariumlaw08_shuffled.f k (b : Int) o = some (strOfNums p) := by
  obtain ⟨k, rfl⟩ : ∃ m, k = m + 9 + 1 := ⟨k - 10, by omega⟩
  have hl := dl_len b
  obtain ⟨p, hp, hr⟩ := shuf_go (Dl b).length k o (Dl b) [] rfl (by omega) (by simp only [List.length_nil]; omega) h0 h1
  refine ⟨p, hp, ?_⟩
  unfold vivariumlaw08_shuffled.f
  have h := shuf_list b hb o k 9 0 [] rfl (by omega) (by rw [Nat.pow_zero, Nat.mod_one]; rfl)
  exact h.trans (by rw [hr, List.nil_append])
/-- A digit once more: it is told, at its place. -/
theorem twice_parse (B : Nat) (d : Int) (ds q tl : List Int) (hd : Digits (d :: ds)) (hl : (d :: ds).length ≤ 9) (rB : run (d :: ds) 0 = some B) (hq : q.length ≤ 20) (htl : tl.length ≤ 1) (hr : ∀ x ∈ q ++ tl, 0 ≤ x ∧ x < 256) :
    lifeParse (strOfNums ([66] ++ ((d :: ds) ++ ([d] ++ ([47, 83] ++ (q ++ tl)))))) = (0, 0, 0, ((1 + (d :: ds).length : Nat) : Int), 81) := by
  obtain ⟨xs, hxs⟩ : ∃ xs, [66] ++ ((d :: ds) ++ ([d] ++ ([47, 83] ++ (q ++ tl)))) = xs := ⟨_, rfl⟩
  have hlen : xs.length = (d :: ds).length + q.length + tl.length + 4 := by rw [← hxs]; simp only [List.length_append, List.length_cons, List.length_nil]; omega
  have hB : Bytes01 xs := by
    intro x hx
    rw [← hxs] at hx
    rcases List.mem_append.1 hx with hx | hx
    · have : x = 66 := by simpa using hx
      omega
    rcases List.mem_append.1 hx with hx | hx
    · have := hd x hx; omega
    rcases List.mem_append.1 hx with hx | hx
    · have e : x = d := by simpa using hx
      have := hd d (by simp)
      omega
    rcases List.mem_append.1 hx with hx | hx
    · have : x = 47 ∨ x = 83 := by simpa using hx
      omega
    · exact hr x hx
  have g0 : xs[0]? = some 66 := by rw [← hxs]; rfl
  have g1 : ∀ j (hj : j < (d :: ds).length), xs[1 + j]? = some (d :: ds)[j] := fun j hj => by
    rw [← hxs, gx (l := [66]) (k := 1 + j) (j := j) rfl, List.getElem?_append_left hj, List.getElem?_eq_getElem hj]
  have g2 : xs[1 + (d :: ds).length]? = some d := by
    rw [← hxs, gx (l := [66]) (k := 1 + (d :: ds).length) (j := (d :: ds).length) rfl, gx (k := (d :: ds).length) (j := 0) rfl]
    rfl
  rw [hxs]
  have hsz : (strOfNums xs).size = xs.length := strOfNums_size xs
  have i0 : isL (strOfNums xs) 0 66 := isL_str hB g0 66 (.inl rfl)
  have hb? : ∀ i x, xs[i]? = some x → i < (strOfNums xs).size ∧ bt (strOfNums xs) (i : Int) = x := fun i x hx => bt_str? xs hB i x hx
  have D1 : digs (strOfNums xs) (strOfNums xs).size (0 + 1) 0 = (true, 1 + (d :: ds).length, B) :=
    digs_twice (strOfNums xs) d (hd d (by simp)) (d :: ds) _ 1 0 B (fun j hj => hb? _ _ (g1 j hj)) hd rB (by rw [hsz]; omega) (hb? _ _ g2).1 (hb? _ _ g2).2 ((run_bits (d :: ds) 0 B rB).2 d (by simp))
  unfold lifeParse
  rw [if_neg (by rw [hsz, hlen]; omega)]
  unfold lifeStage
  rw [if_pos rfl]
  unfold st0
  rw [if_pos i0, D1]
end Go.Proofs.Ytfgonglcmgahkaa.L

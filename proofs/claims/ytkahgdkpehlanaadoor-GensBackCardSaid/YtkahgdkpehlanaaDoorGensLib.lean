/- How many states a text says: the program's reading and the reference's; the slashes. -/
import Derived.Test.YtkahgdkpehlanaaDoorNumLib
import Derived.Laws.Strings
import Derived.Test.YtkahgdkpehlanaaDoorPm7
import Derived.Test.YtkahgdkpehlanaaDoorPm0
namespace Go.Proofs.YtkahgdkpehlanaaDoor.L
open Go.RowKit Go.Proofs.YtkahgdkpehlanaaDoor.P Go.Proofs.YtkahgdkpehlanaaDoorW.PrintWords Go.Proofs.YtkahgdkpehlanaaDoorW.PrintLast Go.Proofs.YtkahgdkpehlanaaDoorW.PrintMore
/-- Where a byte stands first. -/
def fsb (s : ByteArray) (c : Int) : Nat → Nat → Nat
  | 0, i => i
  | n + 1, i => if i < s.size ∧ bt s (i : Int) ≠ c then fsb s c n (i + 1) else i
theorem fsb_succ (s : ByteArray) (c : Int) (n i : Nat) : fsb s c (n + 1) i = if i < s.size ∧ bt s (i : Int) ≠ c then fsb s c n (i + 1) else i := rfl
theorem fsb_ge (s : ByteArray) (c : Int) : ∀ n i, i ≤ fsb s c n i
  | 0, i => Nat.le_refl i
  | n + 1, i => by
    rw [fsb_succ]
    by_cases h : i < s.size ∧ bt s (i : Int) ≠ c
    · rw [if_pos h]; have := fsb_ge s c n (i + 1); omega
    · rw [if_neg h]; exact Nat.le_refl i
theorem fsb_le (s : ByteArray) (c : Int) : ∀ n i, i ≤ s.size → fsb s c n i ≤ s.size
  | 0, i, h => h
  | n + 1, i, h => by
    rw [fsb_succ]
    by_cases h2 : i < s.size ∧ bt s (i : Int) ≠ c
    · rw [if_pos h2]; exact fsb_le s c n (i + 1) h2.1
    · rw [if_neg h2]; exact h
theorem idx_from (s : ByteArray) (c : UInt8) : ∀ n i, i + n = s.size → Lib.indexByte (s.data.toList.drop i) c = if fsb s (c.toNat : Int) n i < s.size then ((fsb s (c.toNat : Int) n i - i : Nat) : Int) else -1
  | 0, i, h => by
    have hl : s.data.toList.length = s.size := Array.length_toList
    rw [List.drop_eq_nil_of_le (by omega), if_neg (by simp only [fsb]; omega)]
    rfl
  | n + 1, i, h => by
    have hl : s.data.toList.length = s.size := Array.length_toList
    have hi : i < s.data.toList.length := by omega
    have hb := bt_eq s i (by omega)
    have ih := idx_from s c n (i + 1) (by omega)
    have hge := fsb_ge s (c.toNat : Int) n (i + 1)
    rw [List.drop_eq_getElem_cons hi, fsb_succ]
    unfold Lib.indexByte
    by_cases h1 : bt s (i : Int) = (c.toNat : Int)
    · have hx : s.data.toList[i] = c := by
        apply UInt8.toNat_inj.1
        omega
      rw [if_pos (by rw [hx]; exact beq_self_eq_true c), if_neg (show ¬ (i < s.size ∧ bt s (i : Int) ≠ (c.toNat : Int)) from fun e => e.2 h1), if_pos (by omega), Nat.sub_self]
      rfl
    · have hx : ¬ (s.data.toList[i] == c) = true := by
        rw [beq_iff_eq]
        intro e
        rw [e] at hb
        exact h1 hb
      rw [if_neg hx, if_pos (show i < s.size ∧ bt s (i : Int) ≠ (c.toNat : Int) from ⟨by omega, h1⟩), ih]
      by_cases c2 : fsb s (c.toNat : Int) n (i + 1) < s.size
      · rw [if_pos c2, if_neg (by rw [beq_iff_eq]; omega), if_pos c2]
        omega
      · rw [if_neg c2, if_pos (by rfl), if_neg c2]
theorem drop_part (s : ByteArray) (i : Nat) : (s.extract i s.size).data.toList = s.data.toList.drop i := by
  rw [ByteArray.data_extract]
  simp only [Array.toList_extract]
  rw [List.extract_eq_take_drop, List.take_of_length_le]
  rw [List.length_drop, Array.length_toList]
  exact Nat.le_refl _
theorem part_all (s : ByteArray) : s.extract 0 s.size = s := by
  apply ByteArray.ext
  rw [ByteArray.data_extract]
  exact Array.extract_size
theorem one_part (s : ByteArray) (p : Nat) (hp : p < s.size) : ∃ a : UInt8, (s.extract p (p + 1)).data.toList = [a] ∧ (a.toNat : Int) = bt s (p : Int) := by
  have hz : (s.extract p (p + 1)).data.toList.length = 1 := by
    rw [Array.length_toList]
    show (s.extract p (p + 1)).size = 1
    rw [ByteArray.size_extract]; omega
  obtain ⟨a, ha⟩ := List.length_eq_one_iff.1 hz
  refine ⟨a, ha, ?_⟩
  have h := bt_eq (s.extract p (p + 1)) 0 (by rw [ByteArray.size_extract]; omega)
  have h2 := bt_part s p (p + 1) 0 (by omega) (by omega)
  simp only [ha, List.getElem_cons_zero] at h
  rw [← h, h2, Nat.add_zero]
theorem prefix_one (s : ByteArray) (c : UInt8) : strings_HasPrefix.f s ⟨#[c]⟩ = some (decide (0 < s.size ∧ bt s 0 = (c.toNat : Int))) := by
  have h1s : (⟨#[c]⟩ : ByteArray).size = 1 := rfl
  unfold strings_HasPrefix.f stringslite_HasPrefix.f
  rw [h1s]
  by_cases h : 0 < s.size
  · obtain ⟨a, ha, hac⟩ := one_part s 0 h
    rw [if_pos (by omega), if_pos (by omega), if_pos (by omega), Option.bind_some, ByteArray.toList_eq, ByteArray.toList_eq]
    rw [show (((1 : Nat) : Int)).toNat = 0 + 1 from rfl, ha]
    show some ([a] == [c]) = _
    congr 1
    rw [Bool.eq_iff_iff, beq_iff_eq, decide_eq_true_eq]
    constructor
    · intro e
      have : a = c := by simpa using e
      exact ⟨h, by show bt s ((0 : Nat) : Int) = _; rw [← hac, this]⟩
    · rintro ⟨_, e⟩
      have : a = c := by
        apply UInt8.toNat_inj.1
        have e2 : bt s ((0 : Nat) : Int) = (c.toNat : Int) := e
        omega
      rw [this]
  · rw [if_neg (by omega), Option.bind_some, decide_eq_false (fun e => h e.1)]
theorem wrap_1 : wrap64 (0 + 1) = 1 := by unfold wrap64; decide
theorem wrap_2 : wrap64 (1 + 1) = 2 := by unfold wrap64; decide
/-! The slashes. -/
def isLet (b : Int) : Prop := b = 67 ∨ b = 99 ∨ b = 71 ∨ b = 103
instance (b : Int) : Decidable (isLet b) := by unfold isLet; exact inferInstance
theorem let_idx (b : Int) (h0 : 0 ≤ b) (h1 : b ≤ 255) : (decide (Lib.indexByte (⟨#[67, 99, 71, 103]⟩ : ByteArray).data.toList b.toNat.toUInt8 ≥ 0)) = decide (isLet b) := by
  obtain ⟨n, rfl⟩ : ∃ n : Nat, b = n := ⟨b.toNat, by omega⟩
  have hn : n < 256 := by omega
  have key : (List.range 256).all (fun n => decide (Lib.indexByte (⟨#[67, 99, 71, 103]⟩ : ByteArray).data.toList (n : Int).toNat.toUInt8 ≥ 0) == decide (isLet (n : Int))) = true := by decide +kernel
  exact beq_iff_eq.1 (List.all_eq_true.1 key n (List.mem_range.2 hn))
/-- Where the number begins. -/
def stF (t : ByteArray) : Nat := if 0 < t.size ∧ isLet (bt t 0) then 1 else 0
def stC (t : ByteArray) : Nat := cnt t (t.size - stF t) (stF t)
def stT (t : ByteArray) : Int × Int × Bool :=
  if stF t + stC t < t.size then (0, ((stF t + stC t : Nat) : Int), false)
  else if stC t = 0 then (0, (stF t : Int), false)
  else if vv t (stC t) (stF t) 0 < 2 ∨ 256 < vv t (stC t) (stF t) 0 then (0, (stF t : Int), false) else (vv t (stC t) (stF t) 0, 0, true)
theorem stF_le (t : ByteArray) : stF t ≤ t.size ∧ stF t ≤ 1 := by
  unfold stF
  by_cases c : 0 < t.size ∧ isLet (bt t 0)
  · rw [if_pos c]; exact ⟨c.1, Nat.le_refl 1⟩
  · rw [if_neg c]; exact ⟨Nat.zero_le _, Nat.zero_le _⟩
theorem cnt_le (s : ByteArray) : ∀ n i, i + n ≤ s.size → i + cnt s n i ≤ s.size
  | 0, i, h => by simp only [cnt]; omega
  | n + 1, i, h => by
    rw [cnt_succ]
    by_cases c : isD s i
    · rw [if_pos c]; have := cnt_le s n (i + 1) (by omega); omega
    · rw [if_neg c]; omega
/-- The program's way behind a number that does not fit. -/
theorem st_loop (t : ByteArray) (ht : t.size ≤ 1048576) (fst : Int) : ∀ (n i k : Nat), i + n = t.size → n < k → gens_states.l0 k t (i : Int) fst = some (if i + cnt t n i < t.size then (0, ((i + cnt t n i : Nat) : Int), false) else (0, fst, false))
  | 0, i, k, h, hk => by
    obtain ⟨k, rfl⟩ : ∃ m, k = m + 1 := ⟨k - 1, by omega⟩
    simp only [gens_states.l0]
    rw [if_neg (by omega), if_neg (show ¬ i + cnt t 0 i < t.size by simp only [cnt]; omega)]
  | n + 1, i, k, h, hk => by
    obtain ⟨k, rfl⟩ : ∃ m, k = m + 1 := ⟨k - 1, by omega⟩
    have z1 : -9223372036854775808 ≤ (i : Int) + 1 := by omega
    have z2 : (i : Int) + 1 ≤ 9223372036854775807 := by omega
    have ih := st_loop t ht fst n (i + 1) k (by omega) (by omega)
    simp only [gens_states.l0]
    rw [if_pos (by omega), if_pos (by omega), cnt_succ]
    by_cases c1 : bt t (i : Int) < 48
    · rw [if_pos c1, if_neg (show ¬ isD t i from fun e => by have := e.2.1; omega), if_pos (by omega)]
      rfl
    · by_cases c2 : bt t (i : Int) > 57
      · rw [if_neg c1, if_pos c2, if_neg (show ¬ isD t i from fun e => by have := e.2.2; omega), if_pos (by omega)]
        rfl
      · rw [if_neg c1, if_neg c2, w64 z1 z2, show (i : Int) + 1 = ((i + 1 : Nat) : Int) from rfl, ih, if_pos (show isD t i from ⟨by omega, by omega, by omega⟩), show i + (cnt t n (i + 1) + 1) = i + 1 + cnt t n (i + 1) from by omega]
theorem peek_is (t : ByteArray) : scan_Cutter_Peek.f t 0 true = some (if 0 < t.size then bt t 0 else 0, decide (0 < t.size), t, 0, true) := by
  unfold scan_Cutter_Peek.f scan_Cutter_rest.f scan_Cutter_there.f
  rw [Option.bind_some]
  dsimp only
  rw [if_pos rfl, if_pos (by omega), if_pos (by omega), Option.bind_some]
  dsimp only
  rw [show ((0 : Int)).toNat = 0 from rfl, part_all, ByteArray.toList_eq]
  by_cases c : 0 < t.size
  · have hne : ¬ t.data.toList = [] := by
      intro e
      have hl : t.data.toList.length = t.size := Array.length_toList
      rw [e] at hl
      simp at hl
      omega
    rw [if_neg hne, if_pos (by omega), if_pos c, decide_eq_true c]
  · have he : t.data.toList = [] := by
      apply List.eq_nil_of_length_eq_zero
      rw [Array.length_toList]
      show t.size = 0
      omega
    rw [if_pos he, if_neg c, decide_eq_false c]
theorem number_is (t : ByteArray) (ht : t.size ≤ 1048576) (a : Nat) (ha : a ≤ t.size) (k : Nat) (hk : t.size + 4 < k) : scan_Cutter_Number.f k t (a : Int) true = some (
    if cnt t (t.size - a) a = 0 then (0, 10, t, (a : Int), true) else if vv t (cnt t (t.size - a) a) a 0 ≤ 9223372036854775807 then (vv t (cnt t (t.size - a) a) a 0, 0, t, ((a + cnt t (t.size - a) a : Nat) : Int), true) else (0, 11, t, (a : Int), true)) := by
  have hz : (t.extract a t.size).size = t.size - a := by rw [ByteArray.size_extract]; omega
  have hsp : scan_span.f (t.extract a t.size) 30 = some ((cnt t (t.size - a) a : Nat) : Int) := by
    have h := span_cnt t a ha (t.size - a) 0 (by omega) (by omega)
    unfold scan_span.f
    rw [hz, if_pos (by omega), if_pos rfl, h]
    show some (((0 + cnt t (t.size - a) (a + 0) : Nat)) : Int) = _
    rw [Nat.zero_add, Nat.add_zero]
  have hle := cnt_le t (t.size - a) a (by omega)
  have hdig := cnt_digits t (t.size - a) a
  obtain ⟨c, hc⟩ : ∃ c, cnt t (t.size - a) a = c := ⟨_, rfl⟩
  rw [hc] at hsp hle hdig ⊢
  unfold scan_Cutter_Number.f scan_Cutter_rest.f scan_Cutter_there.f
  rw [Option.bind_some]
  dsimp only
  rw [if_pos rfl, Option.bind_some]
  dsimp only
  rw [if_pos rfl, if_pos (by omega), if_pos (by omega), Option.bind_some]
  dsimp only
  rw [Int.toNat_natCast, hsp, Option.bind_some]
  by_cases c0 : c = 0
  · rw [if_pos (by omega), if_pos c0]
  · have z1 : -9223372036854775808 ≤ (a : Int) + (c : Int) := by omega
    have z2 : (a : Int) + (c : Int) ≤ 9223372036854775807 := by omega
    have hez : ((t.extract a t.size).extract 0 c).size = c := by rw [ByteArray.size_extract, hz]; omega
    have hbt : ∀ j, j < c → bt ((t.extract a t.size).extract 0 c) (j : Int) = bt t ((a + j : Nat) : Int) := fun j hj => by
      have h1 := bt_part (t.extract a t.size) 0 c j (by omega) (by omega)
      have h2 := bt_part t a t.size j (by omega) (Nat.le_refl _)
      rw [h1, Nat.zero_add, h2]
    have hv := value_go t ((t.extract a t.size).extract 0 c) a c hez hbt hdig (by omega) c 0 k 0 (by omega) (by omega) (by omega) (by omega) (by omega)
    have hv2 : scan_value.f k ((t.extract a t.size).extract 0 c) = some (if vv t c a 0 ≤ 9223372036854775807 then (vv t c a 0, true) else (0, false)) := hv
    rw [if_neg (by omega), if_pos (by omega), if_pos (by omega), Int.toNat_natCast, hv2, Option.bind_some, if_neg c0, w64 z1 z2, show (a : Int) + (c : Int) = ((a + c : Nat) : Int) from by omega]
    by_cases c1 : vv t c a 0 ≤ 9223372036854775807
    · rw [if_pos c1, if_pos c1]
      dsimp only
      rw [if_pos rfl]
    · rw [if_neg c1, if_neg c1]
      dsimp only
      rw [if_neg (by decide)]
theorem states_from (t : ByteArray) (ht : t.size ≤ 1048576) (k : Nat) (hk : t.size + 10 < k) (hf : stF t ≤ t.size) : gens_states.j1 k t t (stF t : Int) true = some (stT t) := by
  obtain ⟨k, rfl⟩ : ∃ m, k = m + 1 := ⟨k - 1, by omega⟩
  have hnum := number_is t ht (stF t) hf k (by omega)
  have hle := cnt_le t (t.size - stF t) (stF t) (by omega)
  have hloop := st_loop t ht (stF t : Int) (t.size - stF t) (stF t) k (by omega) (by omega)
  have hvv := vv_ge t (cnt t (t.size - stF t) (stF t)) (stF t) 0 (by omega) (cnt_digits t (t.size - stF t) (stF t))
  unfold stT
  have hcc : stC t = cnt t (t.size - stF t) (stF t) := rfl
  rw [← hcc] at hnum hle hloop hvv
  obtain ⟨f, hf2⟩ : ∃ f, stF t = f := ⟨_, rfl⟩
  obtain ⟨c, hc⟩ : ∃ c, stC t = c := ⟨_, rfl⟩
  rw [hf2] at hf hnum hle hloop hvv ⊢
  rw [hc] at hnum hle hloop hvv ⊢
  obtain ⟨v, hv⟩ : ∃ v, vv t c f 0 = v := ⟨_, rfl⟩
  rw [hv] at hnum hvv ⊢
  simp only [gens_states.j1]
  unfold scan_Cutter_At.f scan_Cutter_there.f
  rw [Option.bind_some]
  dsimp only
  rw [if_pos rfl, Option.bind_some]
  dsimp only
  rw [hnum, Option.bind_some]
  obtain ⟨k, rfl⟩ : ∃ m, k = m + 1 := ⟨k - 1, by omega⟩
  by_cases c0 : c = 0
  · subst c0
    rw [if_pos rfl]
    dsimp only
    rw [if_neg (by decide), if_neg (by decide)]
    simp only [gens_states.j3]
    rw [if_pos (by trivial)]
    unfold scan_Cutter_At.f scan_Cutter_there.f
    rw [Option.bind_some]
    dsimp only
    rw [if_pos rfl, Option.bind_some]
    dsimp only
    rw [Nat.add_zero]
    by_cases c1 : f < t.size
    · rw [if_pos c1]
    · rw [if_neg c1, if_pos (by trivial)]
  · rw [if_neg c0]
    by_cases c1 : v ≤ 9223372036854775807
    · rw [if_pos c1]
      dsimp only
      rw [if_neg (by decide), if_pos rfl]
      unfold scan_Cutter_Done.f
      rw [Option.bind_some]
      dsimp only
      simp only [gens_states.j3]
      by_cases c2 : f + c < t.size
      · have hb : (!(true && ((f + c : Nat) : Int) == (t.size : Int))) = true := by
          rw [Bool.true_and, beq_eq_false_iff_ne.mpr (show ((f + c : Nat) : Int) ≠ (t.size : Int) by omega)]
          rfl
        rw [hb, if_pos rfl, if_pos c2]
        unfold scan_Cutter_At.f scan_Cutter_there.f
        rw [Option.bind_some]
        dsimp only
        rw [if_pos rfl, Option.bind_some]
      · have hb : (!(true && ((f + c : Nat) : Int) == (t.size : Int))) = false := by
          rw [Bool.true_and, beq_iff_eq.mpr (show ((f + c : Nat) : Int) = (t.size : Int) by omega)]
          rfl
        rw [hb, if_neg (by decide), if_neg c2, if_neg c0]
        by_cases c3 : v < 2
        · rw [if_pos c3, if_pos (Or.inl c3)]
        · by_cases c4 : v > 256
          · rw [if_neg c3, if_pos c4, if_pos (Or.inr c4)]
          · rw [if_neg c3, if_neg c4, if_neg (by omega)]
    · rw [if_neg c1]
      dsimp only
      rw [if_pos rfl, hloop]
      by_cases c2 : f + c < t.size
      · rw [if_pos c2, if_pos c2]
      · rw [if_neg c2, if_neg c2, if_neg c0, if_pos (Or.inr (by omega))]
theorem states_prog (t : ByteArray) (ht : t.size ≤ 1048576) (k : Nat) (hk : t.size + 20 < k) : gens_states.f k t = some (stT t) := by
  obtain ⟨k, rfl⟩ : ∃ m, k = m + 1 := ⟨k - 1, by omega⟩
  unfold gens_states.f scan_New.f
  rw [Option.bind_some]
  dsimp only
  rw [peek_is, Option.bind_some]
  dsimp only
  by_cases c : 0 < t.size
  · have hbr := bt_range t 0
    have hli := let_idx (bt t 0) hbr.1 hbr.2
    rw [if_pos c, decide_eq_true c, if_pos rfl]
    unfold strings_IndexByte.f
    rw [Option.bind_some, hli]
    simp only [gens_states.j0]
    by_cases cl : isLet (bt t 0)
    · have hF : stF t = 1 := by unfold stF; rw [if_pos ⟨c, cl⟩]
      have key := states_from t ht k (by omega) (by omega)
      rw [hF] at key
      rw [if_pos (decide_eq_true cl)]
      unfold scan_Cutter_Take.f
      rw [peek_is, Option.bind_some]
      dsimp only
      rw [if_pos (decide_eq_true c), if_pos c, if_pos rfl, Option.bind_some]
      dsimp only
      rw [wrap_1]
      exact key
    · have hF : stF t = 0 := by unfold stF; rw [if_neg (fun e => cl e.2)]
      have key := states_from t ht k (by omega) (by omega)
      rw [hF] at key
      rw [if_neg (by rw [decide_eq_false cl]; decide)]
      exact key
  · have hF : stF t = 0 := by unfold stF; rw [if_neg (fun e => c e.1)]
    have key := states_from t ht k (by omega) (by omega)
    rw [hF] at key
    rw [decide_eq_false c, if_neg (by decide)]
    simp only [gens_states.j0]
    rw [if_neg (by decide)]
    exact key
/-! The reference's states. -/
theorem part_isD (s : ByteArray) (p i : Nat) (hp : p ≤ s.size) : isD (s.extract p s.size) i ↔ isD s (p + i) := by
  have hz : (s.extract p s.size).size = s.size - p := by rw [ByteArray.size_extract]; omega
  unfold isD
  rw [hz]
  constructor
  · rintro ⟨h1, h2, h3⟩
    rw [bt_part s p s.size i (by omega) (Nat.le_refl _)] at h2 h3
    exact ⟨by omega, h2, h3⟩
  · rintro ⟨h1, h2, h3⟩
    rw [bt_part s p s.size i (by omega) (Nat.le_refl _)]
    exact ⟨by omega, h2, h3⟩
theorem part_cnt (s : ByteArray) (p : Nat) (hp : p ≤ s.size) : ∀ n i, cnt (s.extract p s.size) n i = cnt s n (p + i)
  | 0, _ => rfl
  | n + 1, i => by
    rw [cnt_succ, cnt_succ]
    by_cases c : isD s (p + i)
    · rw [if_pos ((part_isD s p i hp).2 c), if_pos c, part_cnt s p hp n (i + 1), show p + (i + 1) = p + i + 1 from by omega]
    · rw [if_neg (fun e => c ((part_isD s p i hp).1 e)), if_neg c]
theorem part_vv (s : ByteArray) (p : Nat) : ∀ d i n, p + i + d ≤ s.size → vv (s.extract p s.size) d i n = vv s d (p + i) n
  | 0, _, _, _ => rfl
  | d + 1, i, n, h => by
    unfold vv
    rw [bt_part s p s.size i (by omega) (Nat.le_refl _), part_vv s p d (i + 1) _ (by omega), show p + (i + 1) = p + i + 1 from by omega]
theorem mn_step (V d : Int) (h0 : 0 ≤ V) (h1 : 0 ≤ d) (h2 : d ≤ 9) : mn (wrap64 (wrap64 (mn V 1000 * 10) + d)) 1000 = mn (V * 10 + d) 1000 := by
  unfold mn
  by_cases c : 1000 < V
  · have e1 : wrap64 (1000 * 10) = 10000 := by unfold wrap64; decide
    rw [if_pos c, e1, w64 (by omega) (by omega), if_pos (by omega), if_pos (by omega)]
  · have e1 : wrap64 (V * 10) = V * 10 := w64 (by omega) (by omega)
    rw [if_neg c, e1, w64 (by omega) (by omega)]
end Go.Proofs.YtkahgdkpehlanaaDoor.L

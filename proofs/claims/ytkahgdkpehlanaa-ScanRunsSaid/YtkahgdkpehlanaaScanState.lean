/- What state a text means: the program's and the reference's (as in PureScanTags). -/
import Derived.Test.YtkahgdkpehlanaaP22
import Derived.Test.YtkahgdkpehlanaaP23
import Derived.Test.YtkahgdkpehlanaaP24
import Derived.Test.YtkahgdkpehlanaaScanLib
import Derived.Laws.Strings
import Derived.OpenShut
namespace Go.Proofs.Ytkahgdkpehlanaa.L
open Go.RowKit Go.Proofs.Ytkahgdkpehlanaa.P Go.Proofs.YtkahgdkpehlanaaW.PrintWords Go.Proofs.YtkahgdkpehlanaaW.PrintLast Go.Proofs.YtkahgdkpehlanaaW.PrintMore
def tg (n : Nat) (b : Bool) : ByteArray := (vivariumref03_Tag.f 5 (n : Int) b).getD ⟨#[]⟩
def TT (n : Nat) : List UInt8 := if n = 0 then [46] else if n ≤ 24 then [UInt8.ofNat (64 + n)] else [UInt8.ofNat (112 + (n - 25) / 24), UInt8.ofNat (65 + (n - 25) % 24)]
def TF (n : Nat) : List UInt8 := if n = 0 then [98] else if n = 1 then [111] else []
def tgOk (n : Nat) : Bool := (vivariumref03_Tag.f 5 (n : Int) true).isSome && ((vivariumref03_Tag.f 5 (n : Int) false).isSome && (decide ((scan_Tag.f (n : Int) true).map (fun x => x.data.toList) = some (tg n true).data.toList) && (decide ((scan_Tag.f (n : Int) false).map (fun x => x.data.toList) = some (tg n false).data.toList) && (decide ((tg n true).data.toList = TT n) && decide ((tg n false).data.toList = TF n)))))
set_option maxRecDepth 100000 in
theorem tg_all : (List.range 256).all tgOk = true := by decide +kernel
theorem tg_of (n : Nat) (hn : n < 256) : vivariumref03_Tag.f 5 (n : Int) true = some (tg n true) ∧ vivariumref03_Tag.f 5 (n : Int) false = some (tg n false) ∧ (scan_Tag.f (n : Int) true).map (fun x => x.data.toList) = some (tg n true).data.toList ∧ (scan_Tag.f (n : Int) false).map (fun x => x.data.toList) = some (tg n false).data.toList ∧ (tg n true).data.toList = TT n ∧ (tg n false).data.toList = TF n := by
  have h := List.all_eq_true.1 tg_all n (List.mem_range.2 hn)
  unfold tgOk at h
  simp only [Bool.and_eq_true] at h
  obtain ⟨h1, h2, h3, h4, h5, h6⟩ := h
  refine ⟨?_, ?_, of_decide_eq_true h3, of_decide_eq_true h4, of_decide_eq_true h5, of_decide_eq_true h6⟩
  · obtain ⟨x, hx⟩ := Option.isSome_iff_exists.1 h1
    unfold tg; rw [hx]; rfl
  · obtain ⟨x, hx⟩ := Option.isSome_iff_exists.1 h2
    unfold tg; rw [hx]; rfl
theorem tag_up (n : Nat) (b : Bool) (x : ByteArray) (h : vivariumref03_Tag.f 5 (n : Int) b = some x) : ∀ d, vivariumref03_Tag.f (5 + d) (n : Int) b = some x
  | 0 => h
  | d + 1 => vivariumref03_Tag.mono _ _ (5 + d) _ (tag_up n b x h d)
theorem tag_ref (n : Nat) (hn : n < 256) (b : Bool) (k : Nat) (hk : 5 ≤ k) : vivariumref03_Tag.f k (n : Int) b = some (tg n b) := by
  obtain ⟨d, rfl⟩ : ∃ d, k = 5 + d := ⟨k - 5, by omega⟩
  cases b with
  | true => exact tag_up n true _ (tg_of n hn).1 d
  | false => exact tag_up n false _ (tg_of n hn).2.1 d
theorem tag_same (a : Int) (h0 : 0 ≤ a) (h1 : a ≤ 255) (b : Bool) (k : Nat) (hk : 5 ≤ k) : ∃ x y, scan_Tag.f a b = some x ∧ vivariumref03_Tag.f k a b = some y ∧ x.toList = y.toList := by
  obtain ⟨n, rfl⟩ : ∃ n : Nat, a = n := ⟨a.toNat, by omega⟩
  have hn : n < 256 := by omega
  have h := tg_of n hn
  cases b with
  | true =>
    obtain ⟨x, hx, hxx⟩ := Option.map_eq_some_iff.1 h.2.2.1
    exact ⟨x, _, hx, tag_ref n hn true k hk, by rw [ByteArray.toList_eq, ByteArray.toList_eq, hxx]⟩
  | false =>
    obtain ⟨x, hx, hxx⟩ := Option.map_eq_some_iff.1 h.2.2.2.1
    exact ⟨x, _, hx, tag_ref n hn false k hk, by rw [ByteArray.toList_eq, ByteArray.toList_eq, hxx]⟩
/-- The reference's search: the first state whose tag it is. -/
theorem state_go (s : ByteArray) (hne : s.data.toList ≠ []) (m : Nat) (hm : m ≤ 256) (hmiss : ∀ n, n < m → s.data.toList ≠ TT n ∧ s.data.toList ≠ TF n) (hhit : m < 256 → s.data.toList = TT m ∨ s.data.toList = TF m) : ∀ (d i k : Nat), m - i = d → i ≤ m → d + 10 < k → vivariumref03_State.l0 k s (i : Int) = some (if m < 256 then ((m : Int), true) else (0, false)) := by
  intro d
  have hne2 : ¬ s.toList = [] := by rw [ByteArray.toList_eq]; exact hne
  induction d with
  | zero =>
    intro i k hd hi hk
    obtain ⟨k, rfl⟩ : ∃ n, k = n + 1 := ⟨k - 1, by omega⟩
    obtain rfl : i = m := by omega
    simp only [vivariumref03_State.l0]
    by_cases c : i < 256
    · have q1 : (i : Int) < 256 := by omega
      have q2 : (i : Int) % 256 = (i : Int) := by omega
      have h := tg_of i c
      rw [if_pos q1, if_neg hne2, q2, tag_ref i c true k (by omega), Option.bind_some, if_pos c, tag_ref i c false k (by omega)]
      rcases hhit c with e | e
      · rw [if_pos (by rw [ByteArray.toList_eq, ByteArray.toList_eq, h.2.2.2.2.1]; exact e)]
      · by_cases e2 : s.toList = (tg i true).toList
        · rw [if_pos e2]
        · rw [if_neg e2, Option.bind_some, if_pos (by rw [ByteArray.toList_eq, ByteArray.toList_eq, h.2.2.2.2.2]; exact e)]
    · rw [if_neg (by omega), if_neg c]
  | succ d ih =>
    intro i k hd hi hk
    obtain ⟨k, rfl⟩ : ∃ n, k = n + 1 := ⟨k - 1, by omega⟩
    have c : i < 256 := by omega
    have q1 : (i : Int) < 256 := by omega
    have q2 : (i : Int) % 256 = (i : Int) := by omega
    have z1 : -9223372036854775808 ≤ (i : Int) + 1 := by omega
    have z2 : (i : Int) + 1 ≤ 9223372036854775807 := by omega
    have h := tg_of i c
    have hms := hmiss i (by omega)
    have key := ih (i + 1) k (by omega) (by omega) (by omega)
    simp only [vivariumref03_State.l0]
    rw [if_pos q1, if_neg hne2, q2, tag_ref i c true k (by omega), Option.bind_some, if_neg (by rw [ByteArray.toList_eq, ByteArray.toList_eq, h.2.2.2.2.1]; exact hms.1), tag_ref i c false k (by omega), Option.bind_some, if_neg (by rw [ByteArray.toList_eq, ByteArray.toList_eq, h.2.2.2.2.2]; exact hms.2), w64 z1 z2]
    exact key
theorem state_empty (s : ByteArray) (he : s.data.toList = []) : ∀ (d i k : Nat), 256 - i = d → i ≤ 256 → d + 10 < k → vivariumref03_State.l0 k s (i : Int) = some (0, false) := by
  intro d
  have he2 : s.toList = [] := by rw [ByteArray.toList_eq]; exact he
  induction d with
  | zero =>
    intro i k hd hi hk
    obtain ⟨k, rfl⟩ : ∃ n, k = n + 1 := ⟨k - 1, by omega⟩
    simp only [vivariumref03_State.l0]
    rw [if_neg (by omega)]
  | succ d ih =>
    intro i k hd hi hk
    obtain ⟨k, rfl⟩ : ∃ n, k = n + 1 := ⟨k - 1, by omega⟩
    have z1 : -9223372036854775808 ≤ (i : Int) + 1 := by omega
    have z2 : (i : Int) + 1 ≤ 9223372036854775807 := by omega
    have q1 : (i : Int) < 256 := by omega
    have key := ih (i + 1) k (by omega) (by omega) (by omega)
    simp only [vivariumref03_State.l0]
    rw [if_pos q1, if_pos he2, w64 z1 z2]
    exact key
/-- What state a tag means. -/
def sv : List UInt8 → Option Nat
  | [a] => if a.toNat = 98 ∨ a.toNat = 46 then some 0 else if a.toNat = 111 then some 1 else if 65 ≤ a.toNat ∧ a.toNat ≤ 88 then some (a.toNat - 64) else none
  | [a, b] => if 112 ≤ a.toNat ∧ a.toNat ≤ 121 ∧ 65 ≤ b.toNat ∧ b.toNat ≤ 88 ∧ 25 + 24 * (a.toNat - 112) + (b.toNat - 65) ≤ 255 then some (25 + 24 * (a.toNat - 112) + (b.toNat - 65)) else none
  | _ => none
theorem u8_eq (a : UInt8) (n : Nat) (hn : n < 256) : a = UInt8.ofNat n ↔ a.toNat = n := by
  constructor
  · intro h; rw [h, UInt8.toNat_ofNat']; omega
  · intro h
    apply UInt8.toNat_inj.1
    rw [UInt8.toNat_ofNat', h]; omega
theorem one_TT (a : UInt8) (n : Nat) (hn : n < 256) : [a] = TT n ↔ (n = 0 ∧ a.toNat = 46) ∨ (1 ≤ n ∧ n ≤ 24 ∧ a.toNat = 64 + n) := by
  unfold TT
  by_cases c0 : n = 0
  · rw [if_pos c0]
    have := u8_eq a 46 (by omega)
    simp only [List.cons.injEq, and_true]
    rw [show (46 : UInt8) = UInt8.ofNat 46 from rfl, this]
    omega
  · rw [if_neg c0]
    by_cases c1 : n ≤ 24
    · rw [if_pos c1]
      have := u8_eq a (64 + n) (by omega)
      simp only [List.cons.injEq, and_true]
      rw [this]
      omega
    · rw [if_neg c1]
      simp only [List.cons.injEq, List.nil_eq, reduceCtorEq, and_false, false_iff]
      omega
theorem one_TF (a : UInt8) (n : Nat) : [a] = TF n ↔ (n = 0 ∧ a.toNat = 98) ∨ (n = 1 ∧ a.toNat = 111) := by
  unfold TF
  by_cases c0 : n = 0
  · rw [if_pos c0]
    have := u8_eq a 98 (by omega)
    simp only [List.cons.injEq, and_true]
    rw [show (98 : UInt8) = UInt8.ofNat 98 from rfl, this]
    omega
  · rw [if_neg c0]
    by_cases c1 : n = 1
    · rw [if_pos c1]
      have := u8_eq a 111 (by omega)
      simp only [List.cons.injEq, and_true]
      rw [show (111 : UInt8) = UInt8.ofNat 111 from rfl, this]
      omega
    · rw [if_neg c1]
      simp only [reduceCtorEq, false_iff]
      omega
theorem two_TT (a b : UInt8) (n : Nat) (hn : n < 256) : [a, b] = TT n ↔ 25 ≤ n ∧ a.toNat = 112 + (n - 25) / 24 ∧ b.toNat = 65 + (n - 25) % 24 := by
  unfold TT
  by_cases c0 : n = 0
  · rw [if_pos c0]; simp only [List.cons.injEq, reduceCtorEq, and_false, false_iff]; omega
  · rw [if_neg c0]
    by_cases c1 : n ≤ 24
    · rw [if_pos c1]; simp only [List.cons.injEq, reduceCtorEq, and_false, false_iff]; omega
    · rw [if_neg c1]
      have h1 := u8_eq a (112 + (n - 25) / 24) (by omega)
      have h2 := u8_eq b (65 + (n - 25) % 24) (by omega)
      simp only [List.cons.injEq, and_true]
      rw [h1, h2]
      omega
theorem two_TF (a b : UInt8) (n : Nat) : ¬ [a, b] = TF n := by
  unfold TF
  by_cases c0 : n = 0
  · rw [if_pos c0]; simp
  · rw [if_neg c0]
    by_cases c1 : n = 1
    · rw [if_pos c1]; simp
    · rw [if_neg c1]; simp
theorem TT_len (n : Nat) : (TT n).length = 1 ∨ (TT n).length = 2 := by
  unfold TT
  by_cases c0 : n = 0
  · rw [if_pos c0]; exact .inl rfl
  · rw [if_neg c0]
    by_cases c1 : n ≤ 24
    · rw [if_pos c1]; exact .inl rfl
    · rw [if_neg c1]; exact .inr rfl
theorem TF_len (n : Nat) : (TF n).length ≤ 1 := by
  unfold TF
  by_cases c0 : n = 0
  · rw [if_pos c0]; exact Nat.le_refl _
  · rw [if_neg c0]
    by_cases c1 : n = 1
    · rw [if_pos c1]; exact Nat.le_refl _
    · rw [if_neg c1]; exact Nat.zero_le _
def svr (l : List UInt8) : Int × Bool := match sv l with
  | some n => ((n : Int), true)
  | none => (0, false)
theorem state_ref (s : ByteArray) (k : Nat) (hk : 300 ≤ k) : vivariumref03_State.f k s = some (svr s.data.toList) := by
  have miss : ∀ (l : List UInt8), s.data.toList = l → l ≠ [] → (∀ n, n < 256 → l ≠ TT n ∧ l ≠ TF n) → vivariumref03_State.f k s = some (0, false) := fun l hl hne h =>
    (state_go s (by rw [hl]; exact hne) 256 (by omega) (fun n hn => by rw [hl]; exact h n hn) (fun e => absurd e (by omega)) 256 0 k rfl (by omega) (by omega)).trans (by rw [if_neg (by omega)])
  have hit : ∀ (l : List UInt8) (m : Nat), s.data.toList = l → l ≠ [] → m < 256 → (∀ n, n < m → l ≠ TT n ∧ l ≠ TF n) → (l = TT m ∨ l = TF m) → vivariumref03_State.f k s = some ((m : Int), true) := fun l m hl hne hm h h2 =>
    (state_go s (by rw [hl]; exact hne) m (by omega) (fun n hn => by rw [hl]; exact h n hn) (fun _ => by rw [hl]; exact h2) m 0 k rfl (by omega) (by omega)).trans (by rw [if_pos hm])
  match hl : s.data.toList with
  | [] => exact state_empty s hl 256 0 k rfl (by omega) (by omega)
  | [a] =>
    simp only [svr, sv]
    by_cases c1 : a.toNat = 98 ∨ a.toNat = 46
    · rw [if_pos c1]
      exact hit [a] 0 hl (by simp) (by omega) (fun n hn => absurd hn (by omega)) (by rw [one_TT a 0 (by omega), one_TF]; omega)
    · rw [if_neg c1]
      by_cases c2 : a.toNat = 111
      · rw [if_pos c2]
        exact hit [a] 1 hl (by simp) (by omega) (fun n hn => by rw [Ne, Ne, one_TT a n (by omega), one_TF]; omega) (by rw [one_TT a 1 (by omega), one_TF]; omega)
      · rw [if_neg c2]
        by_cases c3 : 65 ≤ a.toNat ∧ a.toNat ≤ 88
        · rw [if_pos c3]
          exact hit [a] (a.toNat - 64) hl (by simp) (by omega) (fun n hn => by rw [Ne, Ne, one_TT a n (by omega), one_TF]; omega) (by rw [one_TT a _ (by omega), one_TF]; omega)
        · rw [if_neg c3]
          exact miss [a] hl (by simp) (fun n hn => by rw [Ne, Ne, one_TT a n hn, one_TF]; omega)
  | [a, b] =>
    simp only [svr, sv]
    by_cases c1 : 112 ≤ a.toNat ∧ a.toNat ≤ 121 ∧ 65 ≤ b.toNat ∧ b.toNat ≤ 88 ∧ 25 + 24 * (a.toNat - 112) + (b.toNat - 65) ≤ 255
    · rw [if_pos c1]
      exact hit [a, b] _ hl (by simp) (by omega) (fun n hn => ⟨by rw [Ne, two_TT a b n (by omega)]; omega, two_TF a b n⟩) (.inl (by rw [two_TT a b _ (by omega)]; omega))
    · rw [if_neg c1]
      exact miss [a, b] hl (by simp) (fun n hn => ⟨by rw [Ne, two_TT a b n hn]; omega, two_TF a b n⟩)
  | a :: b :: c :: l =>
    exact miss (a :: b :: c :: l) hl (by simp) (fun n hn => ⟨fun e => by
      have := TT_len n
      rw [← e] at this
      simp only [List.length_cons] at this
      omega, fun e => by
      have := TF_len n
      rw [← e] at this
      simp only [List.length_cons] at this
      omega⟩)
theorem state_other (s : ByteArray) (k : Nat) (h1 : ¬ s.size = 1) (h2 : ¬ s.size = 2) : scan_State.f (k + 4) s = some (0, false) := by
  have hn : ∀ c : UInt8, ¬ s.toList = [c] := fun c e => by
    rw [ByteArray.toList_eq] at e
    have : s.data.toList.length = 1 := by rw [e]; rfl
    rw [Array.length_toList] at this
    exact h1 this
  unfold scan_State.f
  rw [if_neg (hn 98)]
  simp only [scan_State.j0]
  rw [if_neg (by rw [beq_iff_eq]; exact hn 46), if_neg (hn 111), if_neg (by omega)]
  simp only [scan_State.j1]
  rw [if_neg (by decide), if_neg (by omega)]
theorem j2_at (s : ByteArray) (k : Nat) (x : Int) (m : Nat) (c : UInt8) (hs : s.size = m + 1) (hm : m ≤ 1) (hc : bt s (m : Int) = (c.toNat : Int)) (hx : 0 ≤ x ∧ x ≤ 240) : scan_State.j2 (k + 2) s x = some (if 65 ≤ c.toNat ∧ c.toNat ≤ 88 ∧ x + ((c.toNat : Int) - 65) + 1 ≤ 255 then (x + ((c.toNat : Int) - 65) + 1, true) else (0, false)) := by
  have e1 : wrap64 ((s.size : Int) - 1) = (m : Int) := by rw [w64 (by omega) (by omega)]; omega
  have hl := UInt8.toNat_lt c
  simp only [scan_State.j2]
  rw [e1, if_pos (by omega), if_pos (by omega), hc]
  by_cases c1 : (c.toNat : Int) < 65
  · rw [if_pos c1]
    simp only [scan_State.j3]
    rw [if_pos (by trivial), if_neg (by omega)]
  · rw [if_neg c1]
    simp only [scan_State.j3]
    by_cases c2 : (c.toNat : Int) > 88
    · rw [if_pos (decide_eq_true c2), if_neg (by omega)]
    · have e2 : ((c.toNat : Int) - 65) % 256 = (c.toNat : Int) - 65 := by omega
      have e3 : wrap64 (x + (((c.toNat : Int) - 65) + 1)) = x + (((c.toNat : Int) - 65) + 1) := w64 (by omega) (by omega)
      rw [if_neg (by rw [decide_eq_false c2]; decide), e2, e3]
      by_cases c3 : x + (((c.toNat : Int) - 65) + 1) > 255
      · rw [if_pos c3, if_neg (by clear e3; omega)]
      · rw [if_neg c3, if_pos (by clear e3; omega)]
        congr 2
        clear e3
        omega
theorem state_prog (s : ByteArray) (k : Nat) (hk : 10 ≤ k) : scan_State.f k s = some (svr s.data.toList) := by
  obtain ⟨k, rfl⟩ : ∃ m, k = m + 4 := ⟨k - 4, by omega⟩
  match hl : s.data.toList with
  | [] =>
    have hz : s.size = 0 := by have := congrArg List.length hl; rw [Array.length_toList] at this; exact this
    exact state_other s k (by omega) (by omega)
  | [a] =>
    have hz : s.size = 0 + 1 := by have := congrArg List.length hl; rw [Array.length_toList] at this; exact this
    have ht : s.toList = [a] := by rw [ByteArray.toList_eq, hl]
    have hb : bt s ((0 : Nat) : Int) = (a.toNat : Int) := by
      rw [bt_eq s 0 (by omega)]
      simp only [hl, List.getElem_cons_zero]
    have e98 : ([a] = ([98] : List UInt8)) ↔ a.toNat = 98 := by
      rw [show (98 : UInt8) = UInt8.ofNat 98 from rfl]; simp only [List.cons.injEq, and_true]; exact u8_eq a 98 (by omega)
    have e46 : ([a] = ([46] : List UInt8)) ↔ a.toNat = 46 := by
      rw [show (46 : UInt8) = UInt8.ofNat 46 from rfl]; simp only [List.cons.injEq, and_true]; exact u8_eq a 46 (by omega)
    have e111 : ([a] = ([111] : List UInt8)) ↔ a.toNat = 111 := by
      rw [show (111 : UInt8) = UInt8.ofNat 111 from rfl]; simp only [List.cons.injEq, and_true]; exact u8_eq a 111 (by omega)
    simp only [svr, sv]
    unfold scan_State.f
    rw [ht]
    by_cases c1 : a.toNat = 98
    · rw [if_pos (e98.2 c1), if_pos (.inl c1)]
      simp only [scan_State.j0]
      rw [if_pos (by rw [beq_iff_eq]; exact e98.2 c1)]
      rfl
    · rw [if_neg (fun e => c1 (e98.1 e))]
      simp only [scan_State.j0]
      by_cases c2 : a.toNat = 46
      · rw [if_pos (by rw [beq_iff_eq]; exact e46.2 c2), if_pos (.inr c2)]
        rfl
      · rw [if_neg (by rw [beq_iff_eq]; exact fun e => c2 (e46.1 e)), if_neg (show ¬ (a.toNat = 98 ∨ a.toNat = 46) by omega), ht]
        by_cases c3 : a.toNat = 111
        · rw [if_pos (e111.2 c3), if_pos c3]
          rfl
        · rw [if_neg (fun e => c3 (e111.1 e)), if_neg c3, if_neg (by omega)]
          simp only [scan_State.j1]
          rw [if_neg (by decide), if_pos (by omega), j2_at s k 0 0 a hz (by omega) hb (by omega)]
          by_cases c4 : 65 ≤ a.toNat ∧ a.toNat ≤ 88
          · rw [if_pos c4, if_pos (by omega)]
            dsimp only
            congr 2
            omega
          · rw [if_neg c4, if_neg (by omega)]
  | [a, b] =>
    have hz : s.size = 1 + 1 := by have := congrArg List.length hl; rw [Array.length_toList] at this; exact this
    have ht : s.toList = [a, b] := by rw [ByteArray.toList_eq, hl]
    have hb : bt s ((1 : Nat) : Int) = (b.toNat : Int) := by
      rw [bt_eq s 1 (by omega)]
      simp only [hl, List.getElem_cons_succ, List.getElem_cons_zero]
    have ha : bt s 0 = (a.toNat : Int) := by
      have := bt_eq s 0 (by omega)
      simp only [hl, List.getElem_cons_zero] at this
      exact this
    have hn : ∀ c : UInt8, ¬ [a, b] = [c] := fun c e => by simp at e
    have hla := UInt8.toNat_lt a
    simp only [svr, sv]
    unfold scan_State.f
    rw [ht, if_neg (hn 98)]
    simp only [scan_State.j0]
    rw [if_neg (by rw [beq_iff_eq]; exact hn 46), ht, if_neg (hn 111), if_pos (by omega), if_pos (by omega), ha]
    by_cases c1 : 112 ≤ (a.toNat : Int)
    · rw [if_pos c1]
      simp only [scan_State.j1]
      by_cases c2 : (a.toNat : Int) ≤ 121
      · have e1 : ((a.toNat : Int) - 112) % 256 = (a.toNat : Int) - 112 := by omega
        rw [if_pos (decide_eq_true c2), if_pos (by omega), ha, e1, j2_at s k _ 1 b hz (by omega) hb (by omega)]
        by_cases c3 : 112 ≤ a.toNat ∧ a.toNat ≤ 121 ∧ 65 ≤ b.toNat ∧ b.toNat ≤ 88 ∧ 25 + 24 * (a.toNat - 112) + (b.toNat - 65) ≤ 255
        · rw [if_pos c3, if_pos (by omega)]
          dsimp only
          congr 2
          omega
        · rw [if_neg c3, if_neg (by omega)]
      · rw [if_neg (by rw [decide_eq_false c2]; decide), if_neg (by omega), if_neg (show ¬ (112 ≤ a.toNat ∧ a.toNat ≤ 121 ∧ 65 ≤ b.toNat ∧ b.toNat ≤ 88 ∧ 25 + 24 * (a.toNat - 112) + (b.toNat - 65) ≤ 255) by omega)]
    · rw [if_neg c1]
      simp only [scan_State.j1]
      rw [if_neg (by decide), if_neg (by omega), if_neg (show ¬ (112 ≤ a.toNat ∧ a.toNat ≤ 121 ∧ 65 ≤ b.toNat ∧ b.toNat ≤ 88 ∧ 25 + 24 * (a.toNat - 112) + (b.toNat - 65) ≤ 255) by omega)]
  | a :: b :: c :: l =>
    have hz : s.size = l.length + 3 := by have := congrArg List.length hl; rw [Array.length_toList] at this; exact this
    exact state_other s k (by omega) (by omega)
end Go.Proofs.Ytkahgdkpehlanaa.L

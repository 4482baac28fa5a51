/- The document's pictures are the program's. -/
import Derived.Test.YtfgonglcmgahkabPlainPlace
import Derived.Test.YtfgonglcmgahkabEvLib
import Derived.Test.YtfgonglcmgahkabRuneLib
import Derived.Test.YtfgonglcmgahkabPm5
import Derived.Test.YtfgonglcmgahkabPm6
import Derived.Test.YtfgonglcmgahkabPm1
set_option linter.unusedVariables false
namespace Go.Proofs.Ytfgonglcmgahkab.L
open Go.RowKit Go.Maps Go.Proofs.Ytfgonglcmgahkab.P Go.Proofs.YtfgonglcmgahkabW.PrintWords Go.Proofs.YtfgonglcmgahkabW.PrintLast Go.Proofs.YtfgonglcmgahkabW.PrintMore
theorem near_is (n : Int) : vivariumref23_near.f n = some (decide (nearI n)) := by
 unfold vivariumref23_near.f
 by_cases c : n ≥ -1099511627776
 ·rw [if_pos c]
  congr 1
  rw [Bool.eq_iff_iff, decide_eq_true_eq, decide_eq_true_eq]
  unfold nearI
  omega
 ·rw [if_neg c]
  congr 1
  rw [eq_comm, decide_eq_false_iff_not]
  unfold nearI
  omega
theorem at_go (C : List Cl) (hl : C.length ≤ 1000000) (x y : Int) : ∀ (d i : Nat), i + d = C.length → Evn (fun k => vivariumref23_At.l0 k C x y (i : Int)) (atP (C.drop i) x y)
 | 0, i, h => by
  refine Evn.const.step (g' := fun _ => some (atP (C.drop i) x y)) (fun k => ?_)
  simp only [vivariumref23_At.l0]
  rw [if_neg (by omega), List.drop_of_length_le (by omega)]
  rfl
 | d + 1, i, h => by
  have ih := at_go C hl x y d (i + 1) (by omega)
  have hi : i < C.length := by omega
  have e : wrap64 ((i : Int) + 1) = ((i + 1 : Nat) : Int) := w64 (by omega) (by omega)
  have hd : C.drop i = C[i] :: C.drop (i + 1) := List.drop_eq_getElem_cons hi
  by_cases c : C[i].f2 > 0 ∧ C[i].f0 = x ∧ C[i].f1 = y
  ·refine Evn.const.step (g' := fun _ => some (atP (C.drop i) x y)) (fun k => ?_)
   simp only [vivariumref23_At.l0]
   rw [rd_get C i hi, if_pos (by omega), if_pos (by omega), if_pos c.1, if_pos c.2.1, if_pos c.2.2, hd, atP, if_pos c]
  ·rw [hd, atP, if_neg c]
   refine ih.step (fun k => ?_)
   simp only [vivariumref23_At.l0]
   rw [rd_get C i hi, if_pos (by omega), if_pos (by omega), e]
   by_cases c1 : C[i].f2 > 0
   ·rw [if_pos c1]
    by_cases c2 : C[i].f0 = x
    ·rw [if_pos c2, if_neg (fun c3 => c ⟨c1, c2, c3⟩)]
    ·rw [if_neg c2]
   ·rw [if_neg c1]
theorem at_ev (C : List Cl) (hl : C.length ≤ 1000000) (x y : Int) : Evn (fun k => vivariumref23_At.f k C x y) (atP C x y) := by
 have h := at_go C hl x y C.length 0 (by omega)
 rw [List.drop_zero] at h
 exact h
theorem near_cons (c : Cl) (cs : List Cl) : NearAll (c :: cs) ↔ (c.f2 > 0 → nearI c.f0 ∧ nearI c.f1) ∧ NearAll cs := by
 unfold NearAll
 constructor
 ·intro h
  exact ⟨h c List.mem_cons_self, fun x hx => h x (List.mem_cons_of_mem _ hx)⟩
 ·rintro ⟨h1, h2⟩ x hx
  rcases List.mem_cons.1 hx with rfl | hx
  ·exact h1
  ·exact h2 x hx
theorem asked_0 (C : List Cl) (hl : C.length ≤ 1000000) (X Y W H E1 : Int) (h1 : NearAll C → Evn (fun k => vivariumref23_asked.l1 k C 0 X Y W H) E1) : ∀ (d i : Nat), i + d = C.length → (NearAll (C.take i)) → (NearAll C → Evn (fun k => vivariumref23_asked.l0 k C (i : Int) X Y W H) E1) ∧ (¬ NearAll C → Evn (fun k => vivariumref23_asked.l0 k C (i : Int) X Y W H) 5)
 | 0, i, h, hT => by
  rw [List.take_of_length_le (by omega)] at hT
  refine ⟨fun _ => (h1 hT).step (fun k => ?_), fun n => absurd hT n⟩
  simp only [vivariumref23_asked.l0]
  rw [if_neg (by omega)]
 | d + 1, i, h, hT => by
  have hi : i < C.length := by omega
  have e : wrap64 ((i : Int) + 1) = ((i + 1 : Nat) : Int) := w64 (by omega) (by omega)
  have ht : C.take (i + 1) = C.take i ++ [C[i]] := by rw [List.take_add_one, List.getElem?_eq_getElem hi]; rfl
  have ih := asked_0 C hl X Y W H E1 h1 d (i + 1) (by omega)
  by_cases c : C[i].f2 > 0 → nearI C[i].f0 ∧ nearI C[i].f1
  ·have hT2 : NearAll (C.take (i + 1)) := by
    rw [ht]
    intro x hx hp
    rcases List.mem_append.1 hx with hx | hx
    ·exact hT x hx hp
    ·rw [List.mem_singleton] at hx
     subst hx
     exact c hp
   have hs : ∀ k, vivariumref23_asked.l0 (k + 1) C (i : Int) X Y W H = vivariumref23_asked.l0 k C ((i + 1 : Nat) : Int) X Y W H := fun k => by
    simp only [vivariumref23_asked.l0]
    rw [rd_get C i hi, if_pos (by omega), if_pos (by omega), e]
    by_cases c1 : C[i].f2 > 0
    ·rw [if_pos c1, near_is, Option.bind_some, if_pos (decide_eq_true (c c1).1), near_is, Option.bind_some, if_pos (decide_eq_true (c c1).2)]
    ·rw [if_neg c1]
   exact ⟨fun n => ((ih hT2).1 n).step hs, fun n => ((ih hT2).2 n).step hs⟩
  ·have hc : C[i].f2 > 0 ∧ ¬ (nearI C[i].f0 ∧ nearI C[i].f1) := Classical.byContradiction fun f => c fun a => Classical.byContradiction fun b => f ⟨a, b⟩
   refine ⟨fun n => absurd (n C[i] (List.getElem_mem hi) hc.1) hc.2, fun _ => Evn.const.step (g' := fun _ => some 5) (fun k => ?_)⟩
   simp only [vivariumref23_asked.l0]
   rw [rd_get C i hi, if_pos (by omega), if_pos (by omega), if_pos hc.1, near_is, Option.bind_some]
   by_cases c1 : nearI C[i].f0
   ·rw [if_pos (decide_eq_true c1), near_is, Option.bind_some, if_neg (by rw [decide_eq_true_eq]; exact fun f => hc.2 ⟨c1, f⟩)]
   ·rw [if_neg (by rw [decide_eq_true_eq]; exact c1)]
def clash (a b : Cl) : Prop := a.f2 > 0 ∧ b.f2 > 0 ∧ a.f0 = b.f0 ∧ a.f1 = b.f1
instance (a b : Cl) : Decidable (clash a b) := inferInstanceAs (Decidable (_ ∧ _))
theorem asked_2 (C : List Cl) (hl : C.length ≤ 1000000) (X Y W H E1 : Int) (i : Nat) (hi : i < C.length) (h1 : Evn (fun k => vivariumref23_asked.l1 k C ((i + 1 : Nat) : Int) X Y W H) E1) : ∀ (d j : Nat), j + d = i → (¬ ∃ x ∈ (C.take i).drop j, clash C[i] x) →
  Evn (fun k => vivariumref23_asked.l2 k C (i : Int) (j : Int) X Y W H) E1
 | 0, j, h, _ => by
  have e : wrap64 ((i : Int) + 1) = ((i + 1 : Nat) : Int) := w64 (by omega) (by omega)
  refine h1.step (fun k => ?_)
  simp only [vivariumref23_asked.l2]
  rw [if_neg (by omega), e]
 | d + 1, j, h, hx => by
  have hj : j < C.length := by omega
  have e : wrap64 ((j : Int) + 1) = ((j + 1 : Nat) : Int) := w64 (by omega) (by omega)
  have hd : (C.take i).drop j = C[j] :: (C.take i).drop (j + 1) := by
   rw [List.drop_eq_getElem_cons (by rw [List.length_take]; omega)]
   congr 1
   exact List.getElem_take
  rw [hd] at hx
  have c : ¬ clash C[i] C[j] := fun f => hx ⟨C[j], List.mem_cons_self, f⟩
  have ih := asked_2 C hl X Y W H E1 i hi h1 d (j + 1) (by omega) (fun ⟨x, hm, f⟩ => hx ⟨x, List.mem_cons_of_mem _ hm, f⟩)
  refine ih.step (fun k => ?_)
  simp only [vivariumref23_asked.l2]
  rw [rd_get C i hi, rd_get C j hj, if_pos (by omega), if_pos (by omega), if_pos (by omega), if_pos (show (0 : Int) ≤ (j : Int) by omega), if_pos (show (j : Int) < (C.length : Int) by omega), e]
  by_cases c1 : C[i].f2 > 0
  ·rw [if_pos c1]
   by_cases c2 : C[j].f2 > 0
   ·rw [if_pos c2]
    by_cases c3 : C[i].f0 = C[j].f0
    ·rw [if_pos c3, if_neg (fun c4 => c ⟨c1, c2, c3, c4⟩)]
    ·rw [if_neg c3]
   ·rw [if_neg c2]
  ·rw [if_neg c1]
theorem asked_2' (C : List Cl) (hl : C.length ≤ 1000000) (X Y W H : Int) (i : Nat) (hi : i < C.length) : ∀ (d j : Nat), j + d = i → (∃ x ∈ (C.take i).drop j, clash C[i] x) →
  Evn (fun k => vivariumref23_asked.l2 k C (i : Int) (j : Int) X Y W H) 6
 | 0, j, h, hx => by
  have hd : (C.take i).drop j = [] := List.drop_of_length_le (by rw [List.length_take]; omega)
  rw [hd] at hx
  obtain ⟨x, hx, _⟩ := hx
  simp at hx
 | d + 1, j, h, hx => by
  have hj : j < C.length := by omega
  have e : wrap64 ((j : Int) + 1) = ((j + 1 : Nat) : Int) := w64 (by omega) (by omega)
  have hd : (C.take i).drop j = C[j] :: (C.take i).drop (j + 1) := by
   rw [List.drop_eq_getElem_cons (by rw [List.length_take]; omega)]
   congr 1
   exact List.getElem_take
  by_cases c : clash C[i] C[j]
  ·refine Evn.const.step (g' := fun _ => some 6) (fun k => ?_)
   simp only [vivariumref23_asked.l2]
   rw [rd_get C i hi, rd_get C j hj, if_pos (by omega), if_pos (by omega), if_pos (by omega), if_pos c.1, if_pos (by omega), if_pos (by omega), if_pos c.2.1, if_pos c.2.2.1, if_pos c.2.2.2]
  ·have hx2 : ∃ x ∈ (C.take i).drop (j + 1), clash C[i] x := by
    rw [hd] at hx
    obtain ⟨x, hx, hc⟩ := hx
    rcases List.mem_cons.1 hx with rfl | hx
    ·exact absurd hc c
    ·exact ⟨x, hx, hc⟩
   refine (asked_2' C hl X Y W H i hi d (j + 1) (by omega) hx2).step (fun k => ?_)
   simp only [vivariumref23_asked.l2]
   rw [rd_get C i hi, rd_get C j hj, if_pos (by omega), if_pos (by omega), if_pos (by omega), if_pos (show (0 : Int) ≤ (j : Int) by omega), if_pos (show (j : Int) < (C.length : Int) by omega), e]
   by_cases c1 : C[i].f2 > 0
   ·rw [if_pos c1]
    by_cases c2 : C[j].f2 > 0
    ·rw [if_pos c2]
     by_cases c3 : C[i].f0 = C[j].f0
     ·rw [if_pos c3, if_neg (fun c4 => c ⟨c1, c2, c3, c4⟩)]
     ·rw [if_neg c3]
    ·rw [if_neg c2]
   ·rw [if_neg c1]
/-- What the rectangle alone is refused for. -/
def rectE (X Y W H : Int) : Int := if W < 0 ∨ 65536 < W ∨ H < 0 ∨ 65536 < H then 231 else if nearI X ∧ nearI Y then 0 else 5
theorem asked_3 (X Y W H : Int) (b : Bool) (hb : b = decide (W < 0 ∨ 65536 < W ∨ H < 0 ∨ 65536 < H)) : Evn (fun k => vivariumref23_asked.j3 k b X Y W H) (rectE X Y W H) := by
 refine Evn.const.step (g' := fun _ => some (rectE X Y W H)) (fun k => ?_)
 simp only [vivariumref23_asked.j3]
 unfold rectE
 subst hb
 by_cases c : W < 0 ∨ 65536 < W ∨ H < 0 ∨ 65536 < H
 ·rw [if_pos c, if_pos (decide_eq_true c)]
 ·rw [if_neg c, if_neg (by rw [decide_eq_true_eq]; exact c), near_is, Option.bind_some]
  by_cases c1 : nearI X
  ·rw [if_pos (decide_eq_true c1), near_is, Option.bind_some]
   by_cases c2 : nearI Y
   ·rw [if_pos (decide_eq_true c2), if_pos ⟨c1, c2⟩]
   ·rw [if_neg (by rw [decide_eq_true_eq]; exact c2), if_neg (fun f => c2 f.2)]
  ·rw [if_neg (by rw [decide_eq_true_eq]; exact c1), if_neg (fun f => c1 f.1)]
theorem asked_1 (C : List Cl) (hl : C.length ≤ 1000000) (X Y W H : Int) : ∀ (d i : Nat), i + d = C.length → DistC (C.take i) →
  (DistC C → Evn (fun k => vivariumref23_asked.l1 k C (i : Int) X Y W H) (rectE X Y W H)) ∧ (¬ DistC C → Evn (fun k => vivariumref23_asked.l1 k C (i : Int) X Y W H) 6)
 | 0, i, h, hT => by
  rw [List.take_of_length_le (by omega)] at hT
  refine ⟨fun _ => ?_, fun n => absurd hT n⟩
  by_cases c0 : W < 0
  ·refine (asked_3 X Y W H true (by rw [decide_eq_true (Or.inl c0)])).step (fun k => ?_)
   simp only [vivariumref23_asked.l1]
   rw [if_neg (by omega), if_pos c0]
  ·by_cases c1 : W > 65536
   ·refine (asked_3 X Y W H true (by rw [decide_eq_true (Or.inr (Or.inl c1))])).step (fun k => ?_)
    simp only [vivariumref23_asked.l1]
    rw [if_neg (by omega), if_neg c0, if_pos c1]
   ·by_cases c2 : H < 0
    ·refine (asked_3 X Y W H true (by rw [decide_eq_true (Or.inr (Or.inr (Or.inl c2)))])).step (fun k => ?_)
     simp only [vivariumref23_asked.l1]
     rw [if_neg (by omega), if_neg c0, if_neg c1, if_pos c2]
    ·refine (asked_3 X Y W H (decide (H > 65536)) (by rw [Bool.eq_iff_iff, decide_eq_true_eq, decide_eq_true_eq]; omega)).step (fun k => ?_)
     simp only [vivariumref23_asked.l1]
     rw [if_neg (by omega), if_neg c0, if_neg c1, if_neg c2]
 | d + 1, i, h, hT => by
  have hi : i < C.length := by omega
  have ht : C.take (i + 1) = C.take i ++ [C[i]] := by rw [List.take_add_one, List.getElem?_eq_getElem hi]; rfl
  have hstep : ∀ k, vivariumref23_asked.l1 (k + 1) C (i : Int) X Y W H = vivariumref23_asked.l2 k C (i : Int) ((0 : Nat) : Int) X Y W H := fun k => by
   simp only [vivariumref23_asked.l1]
   rw [if_pos (by omega)]
   rfl
  by_cases c : ∃ x ∈ C.take i, clash C[i] x
  ·have hn : ¬ DistC C := fun f => by
    obtain ⟨x, hx, hc⟩ := c
    obtain ⟨j, hj, e⟩ := List.getElem_of_mem hx
    rw [List.length_take] at hj
    rw [List.getElem_take] at e
    have := (List.pairwise_iff_getElem.1 f) j i (by omega) hi (by omega)
    rw [e] at this
    exact this ⟨hc.2.1, hc.1, hc.2.2.1.symm, hc.2.2.2.symm⟩
   exact ⟨fun f => absurd f hn, fun _ => (asked_2' C hl X Y W H i hi i 0 (by omega) (by rw [List.drop_zero]; exact c)).step hstep⟩
  ·have hT2 : DistC (C.take (i + 1)) := by
    rw [ht]
    refine List.pairwise_append.2 ⟨hT, List.pairwise_singleton _ _, fun a ha b hb e => ?_⟩
    rw [List.mem_singleton] at hb
    subst hb
    exact c ⟨a, ha, e.2.1, e.1, e.2.2.1.symm, e.2.2.2.symm⟩
   have ih := asked_1 C hl X Y W H d (i + 1) (by omega) hT2
   exact ⟨fun f => (asked_2 C hl X Y W H _ i hi (ih.1 f) i 0 (by omega) (by rw [List.drop_zero]; exact c)).step hstep, fun f => (asked_2 C hl X Y W H _ i hi (ih.2 f) i 0 (by omega) (by rw [List.drop_zero]; exact c)).step hstep⟩
theorem asked_ev (C : List Cl) (hl : C.length ≤ 1000000) (X Y W H : Int) : ∃ E, Evn (fun k => vivariumref23_asked.f k C X Y W H) E ∧ askedP C X Y W H E := by
 have h1 := asked_1 C hl X Y W H C.length 0 (by omega) (by rw [List.take_zero]; exact List.Pairwise.nil)
 have hT : NearAll (C.take 0) := by rw [List.take_zero]; intro x hx; simp at hx
 by_cases c : NearAll C
 ·by_cases c1 : DistC C
  ·have h0 := asked_0 C hl X Y W H _ (fun _ => h1.1 c1) C.length 0 (by omega) hT
   refine ⟨_, h0.1 c, ?_⟩
   unfold askedP rectE
   by_cases c2 : W < 0 ∨ 65536 < W ∨ H < 0 ∨ 65536 < H
   ·rw [if_pos c2]; exact .inr (.inr (.inl ⟨c, c1, c2, rfl⟩))
   ·rw [if_neg c2]
    by_cases c3 : nearI X ∧ nearI Y
    ·rw [if_pos c3]; exact .inr (.inr (.inr (.inr ⟨c, c1, c2, c3, rfl⟩)))
    ·rw [if_neg c3]; exact .inr (.inr (.inr (.inl ⟨c, c1, c2, c3, rfl⟩)))
  ·have h0 := asked_0 C hl X Y W H _ (fun _ => h1.2 c1) C.length 0 (by omega) hT
   exact ⟨_, h0.1 c, .inr (.inl ⟨c, c1, rfl⟩)⟩
 ·have h0 := asked_0 C hl X Y W H 0 (fun n => absurd n c) C.length 0 (by omega) hT
  exact ⟨5, h0.2 c, .inl ⟨c, rfl⟩⟩
theorem refsign_is (a : Int) (h0 : 0 ≤ a) (h1 : a ≤ 255) : vivariumref23_Sign.f a = some (signP a) := by
 unfold vivariumref23_Sign.f signP
 by_cases c0 : a = 0
 ·rw [if_pos c0, if_pos c0]
 ·rw [if_neg c0, if_neg c0]
  by_cases c1 : a = 1
  ·rw [if_pos c1, if_pos c1]
  ·rw [if_neg c1, if_neg c1]
   have e : wrap32 (10240 + wrap32 a) = 10240 + a := by unfold wrap32; omega
   rw [e]
theorem strOf_map (l : List UInt8) : strOfNums (l.map fun b => (b.toNat : Int)) = ⟨l.toArray⟩ := by
 unfold strOfNums
 rw [List.map_map]
 congr 2
 conv => rhs; rw [← List.map_id l]
 refine List.map_congr_left (fun b _ => ?_)
 show UInt8.ofNat ((b.toNat : Int)).toNat = b
 rw [Int.toNat_natCast]
 exact UInt8.ofNat_toNat
theorem enc_if (n : Nat) (hv : Utf8.valid (n : Int) = true) : Utf8.encode n = if n < 0x80 then ⟨#[UInt8.ofNat n]⟩ else if n < 0x800 then ⟨#[UInt8.ofNat (0xC0 + n / 64), UInt8.ofNat (0x80 + n % 64)]⟩
 else if n < 0x10000 then ⟨#[UInt8.ofNat (0xE0 + n / 4096), UInt8.ofNat (0x80 + n / 64 % 64), UInt8.ofNat (0x80 + n % 64)]⟩
 else ⟨#[UInt8.ofNat (0xF0 + n / 262144), UInt8.ofNat (0x80 + n / 4096 % 64), UInt8.ofNat (0x80 + n / 64 % 64), UInt8.ofNat (0x80 + n % 64)]⟩ := by
 simp only [Utf8.encode, hv, if_true, Int.toNat_natCast]
theorem enc_k0 (n : Nat) (hv : Utf8.valid (n : Int) = true) (c0 : n < 0x80) : (Utf8.encode n).data.toList = Lib.encodeRune n := by
 rw [enc_if n hv, if_pos c0]
 unfold Lib.encodeRune
 rw [Lib.encodeRuneZ_one (by omega) (by omega)]
 simp only [List.map_cons, List.map_nil, Int.toNat_natCast]
theorem enc_k1 (n : Nat) (hv : Utf8.valid (n : Int) = true) (c0 : ¬ n < 0x80) (c1 : n < 0x800) : (Utf8.encode n).data.toList = Lib.encodeRune n := by
 rw [enc_if n hv, if_neg c0, if_pos c1]
 unfold Lib.encodeRune
 rw [Lib.encodeRuneZ_two (by omega) (by omega)]
 have e1 : (192 + (n : Int) / 64).toNat = 0xC0 + n / 64 := by omega
 have e2 : (128 + (n : Int) % 64).toNat = 0x80 + n % 64 := by omega
 simp only [List.map_cons, List.map_nil, e1, e2]
theorem enc_k2 (n : Nat) (hv : Utf8.valid (n : Int) = true) (c0 : ¬ n < 0x80) (c1 : ¬ n < 0x800) (h1 : n ≤ 50000) : (Utf8.encode n).data.toList = Lib.encodeRune n := by
 rw [enc_if n hv, if_neg c0, if_neg c1, if_pos (by omega)]
 unfold Lib.encodeRune
 rw [Lib.encodeRuneZ_three (by omega)]
 have e1 : (224 + (n : Int) / 4096).toNat = 0xE0 + n / 4096 := by omega
 have e2 : (128 + (n : Int) / 64 % 64).toNat = 0x80 + n / 64 % 64 := by omega
 have e3 : (128 + (n : Int) % 64).toNat = 0x80 + n % 64 := by omega
 simp only [List.map_cons, List.map_nil, e1, e2, e3]
theorem enc_same (r : Int) (h0 : 0 ≤ r) (h1 : r ≤ 50000) : (runesBytes [r]).data.toList = Lib.encodeRune r := by
 obtain ⟨n, rfl⟩ : ∃ n : Nat, r = n := ⟨r.toNat, by omega⟩
 have hv : Utf8.valid (n : Int) = true := by
  unfold Utf8.valid
  simp only [Bool.or_eq_true, Bool.and_eq_true, decide_eq_true_eq]
  omega
 have he : runesBytes [(n : Int)] = Utf8.encode n := by
  show ByteArray.empty ++ Utf8.encode n = _
  rw [ByteArray.empty_append]
 rw [he]
 by_cases c0 : n < 0x80
 ·exact enc_k0 n hv c0
 ·by_cases c1 : n < 0x800
  ·exact enc_k1 n hv c0 c1
  ·exact enc_k2 n hv c0 c1 (by omega)
theorem runes_one (r : Int) (h0 : 0 ≤ r) (h1 : r ≤ 50000) : bytesOf (runesOfNums [r]) = (Lib.encodeRune r).map fun b => (b.toNat : Int) := by
 have h := Lib.byteCells_encodeRune r
 have e : (runesBytes [r]).data.toList = Lib.encodeRune r := enc_same r h0 h1
 unfold bytesOf runesOfNums
 rw [e]
def ints (l : List UInt8) : List Int := l.map fun b => (b.toNat : Int)
theorem ints_app (a b : List UInt8) : ints (a ++ b) = ints a ++ ints b := List.map_append
theorem ints_len (a : List UInt8) : (ints a).length = a.length := List.length_map _
theorem strOf_ints (l : List UInt8) : strOfNums (ints l) = ⟨l.toArray⟩ := strOf_map l
theorem sign_small (a : Int) (h0 : 0 ≤ a) (h1 : a ≤ 255) : 0 ≤ signP a ∧ signP a ≤ 50000 := by
 unfold signP
 by_cases c0 : a = 0
 ·rw [if_pos c0]; decide
 ·rw [if_neg c0]
  by_cases c1 : a = 1
  ·rw [if_pos c1]; decide
  ·rw [if_neg c1]; omega
theorem row_ref (C : List Cl) (hC : ∀ c ∈ C, okC c) (hl : C.length ≤ 1000000) (X Y : Int) (W : Nat) (H : Int) (hW : W ≤ 65536) (g : Int → Int → Int) (hg : ∀ x y, g x y = signP (atP C (wrap64 (X + x)) (wrap64 (Y + y)))) (y : Nat) (hy : y ≤ 100000) (p : ByteArray × Int) : ∀ (n i : Nat) (acc : List UInt8), i + n = W → acc.length + 4 * n + 1 ≤ 1000000000 →
  Evn (fun k => vivariumref23_Write.l0 k C (ints (acc ++ rowB g y n i ++ [10])) ((y + 1 : Nat) : Int) X Y W H) p → Evn (fun k => vivariumref23_Write.l1 k C (ints acc) (y : Int) (i : Int) X Y W H) p
 | 0, i, acc, h, hb, hp => by
  rw [rowB_zero, List.append_nil] at hp
  have e : wrap64 ((y : Int) + 1) = ((y + 1 : Nat) : Int) := w64 (by omega) (by omega)
  refine hp.step (fun k => ?_)
  simp only [vivariumref23_Write.l1]
  rw [if_neg (by omega), if_pos (by rw [ints_len]; omega), e, ints_app]
  rfl
 | n + 1, i, acc, h, hb, hp => by
  have e : wrap64 ((i : Int) + 1) = ((i + 1 : Nat) : Int) := w64 (by omega) (by omega)
  have hle := encode_len (g i y)
  rw [rowB_succ, ← List.append_assoc] at hp
  have ih := row_ref C hC hl X Y W H hW g hg y hy p n (i + 1) (acc ++ Lib.encodeRune (g i y)) (by omega) (by rw [List.length_append]; omega) hp
  have hr := atP_range C (wrap64 (X + i)) (wrap64 (Y + y)) hC
  have hgr : 0 ≤ g i y ∧ g i y ≤ 50000 := by
   rw [hg]
   exact sign_small _ hr.1 hr.2
  have hs : vivariumref23_Sign.f (atP C (wrap64 (X + i)) (wrap64 (Y + y))) = some (g i y) := by rw [hg]; exact refsign_is _ hr.1 hr.2
  refine ((at_ev C hl (wrap64 (X + i)) (wrap64 (Y + y))).bind (f := fun k t140 => ((vivariumref23_Sign.f t140).bind fun t141 => ((some (([t141] : List Int) : List Int)).bind fun y142 => (if (ints acc).length + (runesOfNums y142).size < 140737488355328 then (vivariumref23_Write.l1 k C ((ints acc) ++ bytesOf (runesOfNums y142)) (y : Int) (wrap64 ((i : Int) + 1)) X Y W H) else (none))))) ?_).step (fun k => ?_)
  ·refine ih.congr (fun k => ?_)
   show ((vivariumref23_Sign.f (atP C (wrap64 (X + i)) (wrap64 (Y + y)))).bind _) = _
   have hz : (runesOfNums [g i y]).size = (Lib.encodeRune (g i y)).length := by
    rw [← bytesOf_length, runes_one _ hgr.1 hgr.2, List.length_map]
   rw [hs, Option.bind_some, Option.bind_some, if_pos (by rw [ints_len, hz]; omega), runes_one _ hgr.1 hgr.2, e, ints_app]
   rfl
  ·simp only [vivariumref23_Write.l1]
   rw [if_pos (by omega)]
theorem rows_ref (C : List Cl) (hC : ∀ c ∈ C, okC c) (hl : C.length ≤ 1000000) (X Y : Int) (W H : Nat) (hW : W ≤ 65536) (hH : H ≤ 65536) (g : Int → Int → Int) (hg : ∀ x y, g x y = signP (atP C (wrap64 (X + x)) (wrap64 (Y + y)))) : ∀ (n y : Nat) (acc : List UInt8), y + n = H → acc.length + n * (4 * W + 1) ≤ 900000000 →
  Evn (fun k => vivariumref23_Write.l0 k C (ints acc) (y : Int) X Y W H) (if 1048576 < (acc ++ rowsB g W n y).length then (⟨#[]⟩, 3) else (⟨(acc ++ rowsB g W n y).toArray⟩, 0))
 | 0, y, acc, h, hb => by
  rw [rowsB_zero, List.append_nil]
  refine Evn.const.step (g' := fun _ => some _) (fun k => ?_)
  simp only [vivariumref23_Write.l0]
  rw [if_neg (by omega), ints_len]
  by_cases c : 1048576 < acc.length
  ·rw [if_pos c, if_pos (by omega)]
  ·rw [if_neg c, if_neg (by omega), strOf_ints]
 | n + 1, y, acc, h, hb => by
  have hle := rowB_len g y W 0
  rw [Nat.succ_mul] at hb
  have ih := rows_ref C hC hl X Y W H hW hH g hg n (y + 1) (acc ++ rowB g y W 0 ++ [10]) (by omega) (by rw [List.length_append, List.length_append, List.length_singleton]; omega)
  have e2 : acc ++ rowsB g W (n + 1) y = acc ++ rowB g y W 0 ++ [10] ++ rowsB g W n ((y + 1 : Nat) : Int) := by
   rw [rowsB_succ, List.append_assoc, List.append_assoc]
   rfl
  rw [e2]
  refine (row_ref C hC hl X Y W H hW g hg y (by omega) _ W 0 acc (by omega) (by omega) ih).step (fun k => ?_)
  simp only [vivariumref23_Write.l0]
  rw [if_pos (by omega)]
  rfl
/-- What is asked of a rectangle that is drawn: few places, or so many that it is refused. -/
def fewP (W H : Int) : Prop := ∀ (w h : Nat), W = w → H = h → w ≤ 65536 → h ≤ 65536 → w * h ≤ 3000 ∨ 2097152 < w * h
theorem write_ev (C : List ClS) (hC : ∀ c ∈ C, okC c) (hl : C.length ≤ 1000000) (hwf : (C.all fun x => (Lit.int .i64 x.f0).wf && ((Lit.int .i64 x.f1).wf && (Lit.int .u8 x.f2).wf)) = true) (X Y W H : Int) (hX : (Lit.int .i64 X).wf = true) (hY : (Lit.int .i64 Y).wf = true) (hW : (Lit.int .i64 W).wf = true) (hH : (Lit.int .i64 H).wf = true) (hs : fewP W H) :
  ∃ p, plain_Write.f C X Y W H = some p ∧ Evn (fun k => vivariumref23_Write.f k C X Y W H) p := by
 have hp : ∀ p, (if stE (stD C (.map []) 0) X Y W H = 0 then (drawnP (runeP (stD C (.map []) 0).1 X Y) W H).1 else ⟨#[]⟩, if stE (stD C (.map []) 0) X Y W H = 0 then (drawnP (runeP (stD C (.map []) 0).1 X Y) W H).2 else stE (stD C (.map []) 0) X Y W H) = p → plain_Write.f C X Y W H = some p := fun p h => by
  unfold plain_Write.f
  rw [if_pos ⟨by omega, hwf, hX, hY, hW, hH⟩, h]
 obtain ⟨E, he, ha⟩ := asked_ev C hl X Y W H
 have hE := asked_eq (stE_asked C X Y W H hC) ha
 rw [hE] at hp
 by_cases c : E = 0
 ·subst c
  obtain ⟨hN, hD, hr, hnr⟩ := asked_ok ha
  obtain ⟨w, rfl⟩ : ∃ w : Nat, W = w := ⟨W.toNat, by omega⟩
  obtain ⟨h, rfl⟩ : ∃ h : Nat, H = h := ⟨H.toNat, by omega⟩
  have hf := hs w h rfl rfl (by omega) (by omega)
  have hm : (w + 1) * h ≤ 65537 * 65536 := Nat.mul_le_mul (by omega) (by omega)
  have hm2 : (w + 1) * h = w * h + h := Nat.succ_mul w h
  have hcast : (((w + 1) * h : Nat) : Int) = ((w : Int) + 1) * (h : Int) := by rw [Int.natCast_mul, Int.natCast_add]; rfl
  have e1 : wrap64 ((w : Int) + 1) = ((w + 1 : Nat) : Int) := w64 (by omega) (by omega)
  have e2 : wrap64 ((h : Int) * ((w + 1 : Nat) : Int)) = (((w + 1) * h : Nat) : Int) := by
   rw [← Int.natCast_mul, Nat.mul_comm h (w + 1)]
   exact w64 (by omega) (by omega)
  have hg : runeP (stD C (.map []) 0).1 X Y = fun x y => signP (atP C (wrap64 (X + x)) (wrap64 (Y + y))) := by
   funext x y
   unfold runeP
   rw [mapAt_atP C _ _ (wrap64_wf _) (wrap64_wf _) hC hN hD]
  obtain ⟨g, hg2⟩ : ∃ g : Int → Int → Int, (fun x y => signP (atP C (wrap64 (X + x)) (wrap64 (Y + y)))) = g := ⟨_, rfl⟩
  rw [if_pos rfl, if_pos rfl, hg, hg2] at hp
  refine ⟨_, hp _ rfl, ?_⟩
  refine (he.bind (f := fun k t139 => (if t139 = 0 then (if (wrap64 ((h : Int) * (wrap64 ((w : Int) + 1)))) > 1048576 then (some ((⟨#[]⟩ : ByteArray), 3)) else (vivariumref23_Write.l0 k C ([] : List Int) 0 X Y w h)) else (some ((⟨#[]⟩ : ByteArray), t139)))) ?_)
  by_cases cb : 1048576 < (w + 1) * h
  ·have hd : drawnP g w h = (⟨#[]⟩, 3) := by
    unfold drawnP
    rw [if_pos (by omega)]
   rw [hd]
   refine (Evn.const).congr (fun k => ?_)
   rw [if_pos rfl, e1, e2, if_pos (by omega)]
  ·have hrl := rowsB_len g w h 0
   have hb1 : h * (4 * w + 1) = 4 * (w * h) + h := by rw [Nat.mul_add, Nat.mul_one, Nat.mul_left_comm, Nat.mul_comm h w]
   have hb2 : w * h ≤ 3000 := by omega
   have hd : drawnP g w h = (if 1048576 < (([] : List UInt8) ++ rowsB g w h ((0 : Nat) : Int)).length then (⟨#[]⟩, 3) else (⟨(([] : List UInt8) ++ rowsB g w h ((0 : Nat) : Int)).toArray⟩, 0)) := by
    unfold drawnP
    rw [if_neg (by omega), Int.toNat_natCast, Int.toNat_natCast]
    rfl
   rw [hd]
   refine (rows_ref C hC hl X Y w h (by omega) (by omega) g (fun x y => by rw [← hg2]) h 0 [] (by omega) (by rw [List.length_nil]; omega)).congr (fun k => ?_)
   rw [if_pos rfl, e1, e2, if_neg (by omega)]
   rfl
 ·rw [if_neg c, if_neg c] at hp
  refine ⟨_, hp _ rfl, ?_⟩
  refine (he.bind (f := fun k t139 => (if t139 = 0 then (if (wrap64 (H * (wrap64 (W + 1)))) > 1048576 then (some ((⟨#[]⟩ : ByteArray), 3)) else (vivariumref23_Write.l0 k C ([] : List Int) 0 X Y W H)) else (some ((⟨#[]⟩ : ByteArray), t139)))) ?_)
  refine (Evn.const).congr (fun k => ?_)
  rw [if_neg c]
end Go.Proofs.Ytfgonglcmgahkab.L

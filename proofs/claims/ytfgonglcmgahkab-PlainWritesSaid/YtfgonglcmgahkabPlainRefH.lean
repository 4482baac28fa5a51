/- The document's halves are the program's. -/
import Derived.Test.YtfgonglcmgahkabPlainRefW
set_option linter.unusedVariables false
namespace Go.Proofs.Ytfgonglcmgahkab.L
open Go.RowKit Go.Maps Go.Proofs.Ytfgonglcmgahkab.P Go.Proofs.YtfgonglcmgahkabW.PrintWords Go.Proofs.YtfgonglcmgahkabW.PrintLast Go.Proofs.YtfgonglcmgahkabW.PrintMore
/-- The sign of two places. -/
def pairP (up down : Bool) : Int := if (up && down) = true then 9608 else if up = true then 9600 else if down = true then 9604 else 32
theorem pair_small (u d : Bool) : 0 ≤ pairP u d ∧ pairP u d ≤ 50000 := by cases u <;> cases d <;> decide
theorem half_pair (D : DataW Unit) (C : List Cl) (hC : ∀ c ∈ C, okC c) (X Y H : Int) (hD : ∀ x y, mapAt D (wrap64 x) (wrap64 y) = atP C (wrap64 x) (wrap64 y)) (x : Int) (y : Nat) (hy : y ≤ 100000) : halfP D X Y H x y = pairP (decide (atP C (wrap64 (X + x)) (wrap64 (Y + ((2 * y : Nat) : Int))) > 0)) (if wrap64 (((2 * y : Nat) : Int) + 1) < H then decide (atP C (wrap64 (X + x)) (wrap64 (wrap64 (Y + ((2 * y : Nat) : Int)) + 1)) > 0) else false) := by
 have e : wrap64 (2 * (y : Int)) = ((2 * y : Nat) : Int) := by
  have : (2 * (y : Int)) = ((2 * y : Nat) : Int) := by omega
  rw [this]
  exact w64 (by omega) (by omega)
 have r1 := atP_range C (wrap64 (X + x)) (wrap64 (Y + ((2 * y : Nat) : Int))) hC
 have r2 := atP_range C (wrap64 (X + x)) (wrap64 (wrap64 (Y + ((2 * y : Nat) : Int)) + 1)) hC
 unfold halfP
 rw [e, hD, hD]
 obtain ⟨a, ha⟩ : ∃ a, atP C (wrap64 (X + x)) (wrap64 (Y + ((2 * y : Nat) : Int))) = a := ⟨_, rfl⟩
 obtain ⟨b, hb⟩ : ∃ b, atP C (wrap64 (X + x)) (wrap64 (wrap64 (Y + ((2 * y : Nat) : Int)) + 1)) = b := ⟨_, rfl⟩
 rw [ha] at r1 ⊢
 rw [hb] at r2 ⊢
 clear ha hb e
 by_cases c0 : a = 0
 ·rw [if_pos c0, decide_eq_false (show ¬ a > 0 by omega)]
  by_cases c1 : wrap64 (((2 * y : Nat) : Int) + 1) < H
  ·rw [if_pos c1, if_pos c1]
   by_cases c2 : b = 0
   ·rw [if_pos c2, decide_eq_false (show ¬ b > 0 by omega)]; rfl
   ·rw [if_neg c2, decide_eq_true (show b > 0 by omega)]; rfl
  ·rw [if_neg c1, if_neg c1]; rfl
 ·rw [if_neg c0, decide_eq_true (show a > 0 by omega)]
  by_cases c1 : wrap64 (((2 * y : Nat) : Int) + 1) < H
  ·rw [if_pos c1, if_pos c1]
   by_cases c2 : b = 0
   ·rw [if_pos c2, decide_eq_false (show ¬ b > 0 by omega)]; rfl
   ·rw [if_neg c2, decide_eq_true (show b > 0 by omega)]; rfl
  ·rw [if_neg c1, if_neg c1]; rfl
theorem j3_ev (C : List Cl) (X Y W H : Int) (acc : List UInt8) (hacc : acc.length ≤ 1000000000) (x8 x9 : Int) (u d b : Bool) (hb : b = (u && d)) (p : ByteArray × Int) (h : Evn (fun k => vivariumref23_Halves.l1 k C (ints (acc ++ Lib.encodeRune (pairP u d))) x8 (wrap64 (x9 + 1)) X Y W H) p) :
  Evn (fun k => vivariumref23_Halves.j3 k C (ints acc) x8 x9 u d 32 b X Y W H) p := by
 subst hb
 have hr := pair_small u d
 have hle := encode_len (pairP u d)
 have hz : ∀ r, 0 ≤ r → r ≤ 50000 → (runesOfNums [r]).size = (Lib.encodeRune r).length := fun r h0 h1 => by
  rw [← bytesOf_length, runes_one _ h0 h1, List.length_map]
 have hk : ∀ (k : Nat), (if (ints acc).length + (runesOfNums [pairP u d]).size < 140737488355328 then (vivariumref23_Halves.l1 k C (ints acc ++ bytesOf (runesOfNums [pairP u d])) x8 (wrap64 (x9 + 1)) X Y W H) else none) = vivariumref23_Halves.l1 k C (ints (acc ++ Lib.encodeRune (pairP u d))) x8 (wrap64 (x9 + 1)) X Y W H := fun k => by
  rw [if_pos (by rw [ints_len, hz _ hr.1 hr.2]; omega), runes_one _ hr.1 hr.2, ints_app]
  rfl
 refine h.step (fun k => ?_)
 rw [← hk]
 simp only [vivariumref23_Halves.j3]
 cases u <;> cases d <;> rfl
theorem hrow_ref (C : List Cl) (hC : ∀ c ∈ C, okC c) (hl : C.length ≤ 1000000) (X Y : Int) (W : Nat) (H : Int) (hW : W ≤ 65536) (g : Int → Int → Int) (y : Nat) (hy : y ≤ 100000) (hg : ∀ x, g x y = pairP (decide (atP C (wrap64 (X + x)) (wrap64 (Y + ((2 * y : Nat) : Int))) > 0)) (if wrap64 (((2 * y : Nat) : Int) + 1) < H then decide (atP C (wrap64 (X + x)) (wrap64 (wrap64 (Y + ((2 * y : Nat) : Int)) + 1)) > 0) else false)) (p : ByteArray × Int) : ∀ (n i : Nat) (acc : List UInt8), i + n = W → acc.length + 4 * n + 1 ≤ 1000000000 →
  Evn (fun k => vivariumref23_Halves.l0 k C (ints (acc ++ rowB g y n i ++ [10])) ((2 * (y + 1) : Nat) : Int) X Y W H) p → Evn (fun k => vivariumref23_Halves.l1 k C (ints acc) ((2 * y : Nat) : Int) (i : Int) X Y W H) p
 | 0, i, acc, h, hb, hp => by
  rw [rowB_zero, List.append_nil] at hp
  have e : wrap64 (((2 * y : Nat) : Int) + 2) = ((2 * (y + 1) : Nat) : Int) := w64 (by omega) (by omega)
  refine hp.step (fun k => ?_)
  simp only [vivariumref23_Halves.l1]
  rw [if_neg (by omega), if_pos (by rw [ints_len]; omega), e, ints_app]
  rfl
 | n + 1, i, acc, h, hb, hp => by
  have e : wrap64 ((i : Int) + 1) = ((i + 1 : Nat) : Int) := w64 (by omega) (by omega)
  have hle := encode_len (g i y)
  rw [rowB_succ, ← List.append_assoc] at hp
  have ih := hrow_ref C hC hl X Y W H hW g y hy hg p n (i + 1) (acc ++ Lib.encodeRune (g i y)) (by omega) (by rw [List.length_append]; omega) hp
  obtain ⟨u, hu⟩ : ∃ u, decide (atP C (wrap64 (X + i)) (wrap64 (Y + ((2 * y : Nat) : Int))) > 0) = u := ⟨_, rfl⟩
  have hgi := hg i
  rw [hu] at hgi
  have hj2 : ∀ d : Bool, g i y = pairP u d → Evn (fun k => vivariumref23_Halves.j2 k C (ints acc) ((2 * y : Nat) : Int) (i : Int) u d X Y W H) p := fun d hd => by
   rw [hd] at ih
   have e3 := j3_ev C X Y W H acc (by omega) ((2 * y : Nat) : Int) (i : Int) u d (if u = true then d else false) (by cases u <;> cases d <;> rfl) p (by rw [e]; exact ih)
   refine e3.step (fun k => ?_)
   simp only [vivariumref23_Halves.j2]
   cases u <;> rfl
  refine ((at_ev C hl (wrap64 (X + i)) (wrap64 (Y + ((2 * y : Nat) : Int)))).bind (f := fun k t156 => (if (wrap64 (((2 * y : Nat) : Int) + 1)) < H then ((vivariumref23_At.f k C (wrap64 (X + i)) (wrap64 ((wrap64 (Y + ((2 * y : Nat) : Int))) + 1))).bind fun t157 => (vivariumref23_Halves.j2 k C (ints acc) ((2 * y : Nat) : Int) (i : Int) (decide (t156 > 0)) (decide (t157 > 0)) X Y W H)) else (vivariumref23_Halves.j2 k C (ints acc) ((2 * y : Nat) : Int) (i : Int) (decide (t156 > 0)) false X Y W H))) ?_).step (fun k => ?_)
  ·rw [hu]
   by_cases c : wrap64 (((2 * y : Nat) : Int) + 1) < H
   ·rw [if_pos c] at hgi
    refine ((at_ev C hl (wrap64 (X + i)) (wrap64 (wrap64 (Y + ((2 * y : Nat) : Int)) + 1))).bind (f := fun k t157 => vivariumref23_Halves.j2 k C (ints acc) ((2 * y : Nat) : Int) (i : Int) u (decide (t157 > 0)) X Y W H) (hj2 _ hgi)).congr (fun k => ?_)
    rw [if_pos c]
   ·rw [if_neg c] at hgi
    refine (hj2 _ hgi).congr (fun k => ?_)
    rw [if_neg c]
  ·simp only [vivariumref23_Halves.l1]
   rw [if_pos (by omega)]
theorem hrows_ref (C : List Cl) (hC : ∀ c ∈ C, okC c) (hl : C.length ≤ 1000000) (X Y : Int) (W H : Nat) (hW : W ≤ 65536) (hH : H ≤ 65536) (g : Int → Int → Int) (hg : ∀ (x : Int) (y : Nat), y ≤ 100000 → g x y = pairP (decide (atP C (wrap64 (X + x)) (wrap64 (Y + ((2 * y : Nat) : Int))) > 0)) (if wrap64 (((2 * y : Nat) : Int) + 1) < (H : Int) then decide (atP C (wrap64 (X + x)) (wrap64 (wrap64 (Y + ((2 * y : Nat) : Int)) + 1)) > 0) else false)) : ∀ (n y : Nat) (acc : List UInt8), y + n = (H + 1) / 2 → acc.length + n * (4 * W + 1) ≤ 900000000 →
  Evn (fun k => vivariumref23_Halves.l0 k C (ints acc) ((2 * y : Nat) : Int) X Y W H) (if 1048576 < (acc ++ rowsB g W n y).length then (⟨#[]⟩, 3) else (⟨(acc ++ rowsB g W n y).toArray⟩, 0))
 | 0, y, acc, h, hb => by
  rw [rowsB_zero, List.append_nil]
  refine Evn.const.step (g' := fun _ => some _) (fun k => ?_)
  simp only [vivariumref23_Halves.l0]
  rw [if_neg (by omega), ints_len]
  by_cases c : 1048576 < acc.length
  ·rw [if_pos c, if_pos (by omega)]
  ·rw [if_neg c, if_neg (by omega), strOf_ints]
 | n + 1, y, acc, h, hb => by
  have hle := rowB_len g y W 0
  rw [Nat.succ_mul] at hb
  have ih := hrows_ref C hC hl X Y W H hW hH g hg n (y + 1) (acc ++ rowB g y W 0 ++ [10]) (by omega) (by rw [List.length_append, List.length_append, List.length_singleton]; omega)
  have e2 : acc ++ rowsB g W (n + 1) y = acc ++ rowB g y W 0 ++ [10] ++ rowsB g W n ((y + 1 : Nat) : Int) := by
   rw [rowsB_succ, List.append_assoc, List.append_assoc]
   rfl
  rw [e2]
  refine (hrow_ref C hC hl X Y W H hW g y (by omega) (fun x => hg x y (by omega)) _ W 0 acc (by omega) (by omega) ih).step (fun k => ?_)
  simp only [vivariumref23_Halves.l0]
  rw [if_pos (by omega)]
  rfl
theorem halves_ev (C : List ClS) (hC : ∀ c ∈ C, okC c) (hl : C.length ≤ 1000000) (hwf : (C.all fun x => (Lit.int .i64 x.f0).wf && ((Lit.int .i64 x.f1).wf && (Lit.int .u8 x.f2).wf)) = true) (X Y W H : Int) (hX : (Lit.int .i64 X).wf = true) (hY : (Lit.int .i64 Y).wf = true) (hW : (Lit.int .i64 W).wf = true) (hH : (Lit.int .i64 H).wf = true) (hs : fewP W H) :
  ∃ p, plain_Halves.f C X Y W H = some p ∧ Evn (fun k => vivariumref23_Halves.f k C X Y W H) p := by
 have hp : ∀ p, (if stE (stD C (.map []) 0) X Y W H = 0 then (drawnP (halfP (stD C (.map []) 0).1 X Y H) W ((H + 1) / 2)).1 else ⟨#[]⟩, if stE (stD C (.map []) 0) X Y W H = 0 then (drawnP (halfP (stD C (.map []) 0).1 X Y H) W ((H + 1) / 2)).2 else stE (stD C (.map []) 0) X Y W H) = p → plain_Halves.f C X Y W H = some p := fun p h => by
  unfold plain_Halves.f
  rw [if_pos ⟨by omega, hwf, hX, hY, hW, hH⟩, h]
 obtain ⟨E, he, ha⟩ := asked_ev C hl X Y W H
 have hE := asked_eq (stE_asked C X Y W H hC) ha
 rw [hE] at hp
 by_cases c : E = 0
 ·subst c
  obtain ⟨hN, hD, hr, hnr⟩ := asked_ok ha
  obtain ⟨w, rfl⟩ : ∃ w : Nat, W = w := ⟨W.toNat, by omega⟩
  obtain ⟨h, rfl⟩ : ∃ h : Nat, H = h := ⟨H.toNat, by omega⟩
  have hf := hs w h rfl rfl (by omega) (by omega)
  obtain ⟨q, hq⟩ : ∃ q : Nat, (h + 1) / 2 = q := ⟨_, rfl⟩
  have hqh : 2 * q ≤ h + 1 ∧ h ≤ 2 * q := by omega
  have hm : (w + 1) * q ≤ 65537 * 65536 := Nat.mul_le_mul (by omega) (by omega)
  have hm2 : (w + 1) * q = w * q + q := Nat.succ_mul w q
  have hwh : w * h ≤ w * (2 * q) := Nat.mul_le_mul (Nat.le_refl _) hqh.2
  have hwq : w * (2 * q) = 2 * (w * q) := by rw [Nat.mul_left_comm]
  have hwq2 : w * (2 * q) ≤ w * (h + 1) := Nat.mul_le_mul (Nat.le_refl _) hqh.1
  have hwq3 : w * (h + 1) = w * h + w := Nat.mul_succ w h
  have hcast : (((w + 1) * q : Nat) : Int) = ((w : Int) + 1) * (q : Int) := by rw [Int.natCast_mul, Int.natCast_add]; rfl
  have e3 : ((h : Int) + 1) / 2 = (q : Int) := by omega
  have E0 : Aside0 (wrap64 ((h : Int) + 1) = ((h + 1 : Nat) : Int)) := ⟨w64 (by omega) (by omega)⟩
  have E0b : Aside0 (Int.tdiv ((h + 1 : Nat) : Int) 2 = (q : Int)) := ⟨by
   rw [Int.tdiv_eq_ediv_of_nonneg (by omega)]
   omega⟩
  have E0c : Aside0 (wrap64 (q : Int) = (q : Int)) := ⟨w64 (by omega) (by omega)⟩
  have E1 : Aside0 (wrap64 ((w : Int) + 1) = ((w + 1 : Nat) : Int)) := ⟨w64 (by omega) (by omega)⟩
  have E2 : Aside0 (wrap64 ((q : Int) * ((w + 1 : Nat) : Int)) = (((w + 1) * q : Nat) : Int)) := ⟨by
   rw [← Int.natCast_mul, Nat.mul_comm q (w + 1)]
   exact w64 (by omega) (by omega)⟩
  have hmap : ∀ x y, mapAt (stD C (.map []) 0).1 (wrap64 x) (wrap64 y) = atP C (wrap64 x) (wrap64 y) := fun x y => mapAt_atP C _ _ (wrap64_wf _) (wrap64_wf _) hC hN hD
  have hg : ∀ (x : Int) (y : Nat), y ≤ 100000 → halfP (stD C (.map []) 0).1 X Y h x y = pairP (decide (atP C (wrap64 (X + x)) (wrap64 (Y + ((2 * y : Nat) : Int))) > 0)) (if wrap64 (((2 * y : Nat) : Int) + 1) < (h : Int) then decide (atP C (wrap64 (X + x)) (wrap64 (wrap64 (Y + ((2 * y : Nat) : Int)) + 1)) > 0) else false) := fun x y hy => half_pair _ C hC X Y h hmap x y hy
  obtain ⟨g, hg2⟩ : ∃ g : Int → Int → Int, halfP (stD C (.map []) 0).1 X Y h = g := ⟨_, rfl⟩
  rw [hg2] at hg
  rw [if_pos rfl, if_pos rfl, hg2, e3] at hp
  refine ⟨_, hp _ rfl, ?_⟩
  refine (he.bind (f := fun k t152 => (if t152 = 0 then (if (wrap64 ((wrap64 (Int.tdiv (wrap64 ((h : Int) + 1)) 2)) * (wrap64 ((w : Int) + 1)))) > 1048576 then (some ((⟨#[]⟩ : ByteArray), 3)) else (vivariumref23_Halves.l0 k C ([] : List Int) 0 X Y w h)) else (some ((⟨#[]⟩ : ByteArray), t152)))) ?_)
  by_cases cb : 1048576 < (w + 1) * q
  ·have hd : drawnP g w q = (⟨#[]⟩, 3) := by
    unfold drawnP
    rw [if_pos (by omega)]
   rw [hd]
   refine (Evn.const).congr (fun k => ?_)
   rw [if_pos rfl, E0.out, E0b.out, E0c.out, E1.out, E2.out, if_pos (by omega)]
  ·have hrl := rowsB_len g w q 0
   have hb1 : q * (4 * w + 1) = 4 * (w * q) + q := by rw [Nat.mul_add, Nat.mul_one, Nat.mul_left_comm, Nat.mul_comm q w]
   have hb2 : w * h ≤ 3000 := by omega
   have hd : drawnP g w q = (if 1048576 < (([] : List UInt8) ++ rowsB g w q ((0 : Nat) : Int)).length then (⟨#[]⟩, 3) else (⟨(([] : List UInt8) ++ rowsB g w q ((0 : Nat) : Int)).toArray⟩, 0)) := by
    unfold drawnP
    rw [if_neg (by omega), Int.toNat_natCast, Int.toNat_natCast]
    rfl
   rw [hd]
   refine (hrows_ref C hC hl X Y w h (by omega) (by omega) g hg q 0 [] (by omega) (by rw [List.length_nil]; omega)).congr (fun k => ?_)
   rw [if_pos rfl, E0.out, E0b.out, E0c.out, E1.out, E2.out, if_neg (by omega)]
   rfl
 ·rw [if_neg c, if_neg c] at hp
  refine ⟨_, hp _ rfl, ?_⟩
  refine (he.bind (f := fun k t152 => (if t152 = 0 then (if (wrap64 ((wrap64 (Int.tdiv (wrap64 (H + 1)) 2)) * (wrap64 (W + 1)))) > 1048576 then (some ((⟨#[]⟩ : ByteArray), 3)) else (vivariumref23_Halves.l0 k C ([] : List Int) 0 X Y W H)) else (some ((⟨#[]⟩ : ByteArray), t152)))) ?_)
  refine (Evn.const).congr (fun k => ?_)
  rw [if_neg c]
end Go.Proofs.Ytfgonglcmgahkab.L

-- Written by a program of this session (wip/tools/shake.py): texts of this claim, of each what the claim names.
import Derived.Test.YtajhfkcmfmhnaaaDoorC0
import Derived.Test.YtajhfkcmfmhnaaaDoorC2
import Derived.Test.YtajhfkcmfmhnaaaDoorC3
import Derived.Test.YtajhfkcmfmhnaaaDoorC5
import Derived.Test.YtajhfkcmfmhnaaaDoorC8
import Derived.Test.YtajhfkcmfmhnaaaDoorC9
import Derived.Test.YtajhfkcmfmhnaaaDoorC10
import Derived.Test.YtajhfkcmfmhnaaaDoorC11
import Derived.Deep.DeepMust
import Derived.Deep.Slices
import Derived.SizedLaws
section
namespace Go.Proofs.YtajhfkcmfmhnaaaDoor.P
open Go.RowKit Go.Proofs.YtajhfkcmfmhnaaaDoorW.PrintWords Go.Proofs.YtajhfkcmfmhnaaaDoorW.PrintLast Go.Proofs.YtajhfkcmfmhnaaaDoorW.PrintMore
attribute [local go_sem] max2_int min2_int max_two min_two max_three min_three max_four min_four   -- for this text's walks alone
set_option linter.unusedVariables false
set_option linter.unusedSimpArgs false
open Go.Proofs.YtajhfkcmfmhnaaaDoor.L
def bytesI (l : List UInt8) : List Int := l.map fun b => (b.toNat : Int)
theorem bytesI_app (l : List UInt8) (y : ByteArray) : bytesI l ++ bytesOf y = bytesI (l ++ y.data.toList) := by simp [bytesI, bytesOf]
theorem bytesI_len (l : List UInt8) : (bytesI l).length = l.length := by simp [bytesI]
theorem str_bytesI (l : List UInt8) : strOfNums (bytesI l) = ⟨l.toArray⟩ := by
 unfold strOfNums bytesI
 have e : ((fun n : Int => UInt8.ofNat n.toNat) ∘ fun b : UInt8 => (b.toNat : Int)) = id := by funext b; simp
 simp [e]
/-- What the walk of Print keeps: the bytes, and the table's box. -/
structure RC (w : World) (cs : Array Value) (v : Value) (l : List UInt8) (W : World) : Prop where
 bel : Below w.heap.size w W
 own : W.ownsRow w.heap.size 5 1 v (bytesI l).length (nums .u8 (bytesI l))
 box : W.heap[w.heap.size]? = some (.cells cs 25 (0, 0))
theorem RC.below {w : World} {cs : Array Value} {v : Value} {l : List UInt8} {W W' : World} (h : RC w cs v l W) (hb : Below W.heap.size W W') : RC w cs v l W' := ⟨below_step h.bel hb, pw_own_below h.own hb, blk_below h.box hb⟩
theorem RC.alloc {w : World} {cs : Array Value} {v : Value} {l : List UInt8} {W : World} (h : RC w cs v l W) (o : Obj) : RC w cs v l (W.alloc o) := h.below (below_alloc (Below.refl _ _) o)
theorem RC.text {w : World} {cs : Array Value} {v : Value} {l l' : List UInt8} {W : World} (h : RC w cs v l W) (e : l = l') : RC w cs v l' W := e ▸ h
/-- Blocks of no bytes lie as they lay. -/
def KeptT (w w' : World) : Prop := ∀ (k : Nat) (cs : Array Value) (t : TypeId) (fr : Nat × Nat), w.heap[k]? = some (.cells cs t fr) → t ≠ 5 → w'.heap[k]? = some (.cells cs t fr)
theorem keptT_grown {b0 : Nat} {w w1 : World} {v : Value} {n : Nat} {xs : List Value} (hown : w.ownsRow b0 5 1 v n xs) (h : w.grownBy w1 v.ownBlock) : KeptT w w1 := fun k cs t fr a b =>
 (h.block k (Array.getElem?_eq_some_iff.1 a).1 (fun e => Lib.ownBlock_ne hown a (fun e2 => b e2) e.symm)).trans a
theorem app_str {ops : Array Oper} {rest : List Oper} {o : Oper} {a : Act} {Q : Exit → Act → World → Prop} (hgd : o.guard = none) (s x : Operand) (ho : o.op = .call { callee := .builtin .append, args := #[s, x], argTypes := #[46, 9] })
  {w : World} {cs : Array Value} {v : Value} {l : List UInt8} {W : World} (HP : RC w cs v l W) (y : ByteArray) (hs : a.eval s = v) (hx : a.eval x = .string y) (hl : l.length + y.size ≤ 140737488355328)
  (h : ∀ v1 w1, RC w cs v1 (l ++ y.data.toList) w1 → KeptT W w1 → wpList Tryd.prog ops Q rest (a.put o.dst v1) w1) : wpList Tryd.prog ops Q (o :: rest) a W := by
 refine print_append_str (w0 := w) w.heap.size hgd s x 46 9 5 ho Tryd.underlying46 Tryd.underlying9 info5 v (bytesI l) y hs hx HP.own HP.bel HP.bel.size (by rw [bytesI_len]; exact hl) ?_
 intro v1 w1 ho1 hb hg
 rw [bytesI_app] at ho1
 have hk := keptT_grown HP.own hg
 exact h v1 w1 ⟨hb, ho1, hk _ _ _ _ HP.box (by decide)⟩ hk
theorem app_step {ops : Array Oper} {o : Oper} {a : Act} {Q : Exit → Act → World → Prop} {Kc : Act → World → Prop} (hw : Region.wanted o (yielded ops a.tmps) = true) (s x : Operand) (ho : o.op = .call { callee := .builtin .append, args := #[s, x], argTypes := #[46, 9] })
  {w : World} {cs : Array Value} {v : Value} {l : List UInt8} {W : World} (HP : RC w cs v l W) (y : ByteArray) (hs : a.eval s = v) (hx : a.eval x = .string y) (hl : l.length + y.size ≤ 140737488355328)
  (h : ∀ v1 w1, RC w cs v1 (l ++ y.data.toList) w1 → KeptT W w1 → Kc (a.put o.dst v1) w1) :
  if Region.wanted o (yielded ops a.tmps) = true then Oper.wp Tryd.prog o a W Kc Q else Kc (a.put o.dst undef) W := by
 obtain ⟨i0, hi, hzz⟩ := Option.map_eq_some_iff.1 info5
 simp only [Prod.mk.injEq] at hzz
 obtain ⟨hz0, hz1, hz2⟩ := hzz
 obtain ⟨v1, w1, hr, h2, h3, _⟩ := Lib.run_append_own_string (P := Tryd.prog) (w := W) w.heap.size 46 9 o.type 5 i0 Tryd.underlying46 Tryd.underlying9 hi hz0 hz1 hz2 v (bytesI l).length (nums .u8 (bytesI l)) HP.own y (by rw [bytesI_len]; simp only [maxLen]; omega) (by rw [bytesI_len]; exact hl) HP.bel.size
 have hk := keptT_grown HP.own h3
 have hl2 : (bytesI (l ++ y.data.toList)).length = (bytesI l).length + y.size := by rw [← bytesI_app, List.length_append, bytesOf_length]
 have hc : nums .u8 (bytesI (l ++ y.data.toList)) = nums .u8 (bytesI l) ++ Lib.strCells y := by rw [← bytesI_app]; simp [nums, bytesOf, Lib.strCells]
 have h2' : w1.ownsRow w.heap.size 5 1 v1 (bytesI (l ++ y.data.toList)).length (nums .u8 (bytesI (l ++ y.data.toList))) := by rw [hl2, hc]; exact h2
 refine event_step hw ?_ (h v1 w1 ⟨HP.bel.grown h3 HP.bel.size (fun k hk => (HP.own.lt k hk).1), h2', hk _ _ _ _ HP.box (by decide)⟩ hk)
 unfold execOp
 simp only [ho, resolve, invoke, builtin, Sem.run_bind, Sem.run_pure, Result.andThen_ok, List.map_toArray, List.map_cons, List.map_nil, hs, hx, hr]
theorem rtext_all : ∀ m : Nat, m < 257 → vivariumref01_Text.f 20 (m : Int) = some (decS m) := by decide +kernel
theorem rtext_is (n : Int) (h0 : 0 ≤ n) (h1 : n ≤ 256) : vivariumref01_Text.f 20 n = some (decS n) := by
 obtain ⟨m, rfl⟩ : ∃ m : Nat, n = m := ⟨n.toNat, by omega⟩
 exact rtext_all m (by omega)
theorem told_is (st hd sy : Int) (vs : List Vr) (rs : List Rw) (x : Tm) (h : okTm vs x = true) : vivariumref10_told.f 20 st hd sy vs rs x.f0 x.f1 = some (tellS vs x) := by
 unfold okTm at h
 simp only [Bool.and_eq_true, decide_eq_true_eq] at h
 unfold vivariumref10_told.f tellS
 by_cases c : x.f1 ≥ 0
 ·rw [if_pos c, if_pos c, if_pos h.1, if_pos (show 0 ≤ x.f1 from c)]
 ·have hw : wrap64 x.f0 = x.f0 := by unfold wrap64; omega
  rw [if_neg c, if_neg (show ¬ 0 ≤ x.f1 from c), hw, rtext_is _ h.2.1 (by omega)]
  rfl
theorem tellS_len (vs : List Vr) (x : Tm) : (tellS vs x).size = (tellL vs x).length := by unfold tellL; rw [Array.length_toList]; rfl
set_option maxHeartbeats 16000000 in
set_option maxRecDepth 100000 in
theorem rprint_walk (k : Nat) (st hd sy : Int) (A3 : Option Addr) (c3 : Nat) (vs : List Vr) (A4 : Option Addr) (c4 : Nat) (rs : List Rw) (w : World) (hr3 : Kd.C k49 w A3 vs.length vs) (hc3 : vs.length ≤ c3) (hr4 : Kd.C k41 w A4 rs.length rs) (hc4 : rs.length ≤ c4)
  (h : vivariumref10_Check.f k st hd sy vs rs = some 0) (hok : okTb st hd sy vs rs = true) :
  Calls Tryd.prog 5 #[.agg #[.int .i64 st, .int .u8 hd, .int .u8 sy, .slice A3 vs.length c3, .slice A4 rs.length c4]] w fun e w' => e = .returned (resS (textL st hd sy vs rs)) ∧ Below w.heap.size w w' := by
 have HV := Aside0.mk hr3
 have HVc := Aside0.mk hc3
 have HR := Aside0.mk hr4
 have HRc := Aside0.mk hc4
 have HE := Aside0.mk h
 have HPL := Aside0.mk (fun i j => pre_len hok i j)
 unfold okTb at hok
 simp only [Bool.and_eq_true, decide_eq_true_eq] at hok
 obtain ⟨⟨⟨⟨⟨⟨g1, g2⟩, g3⟩, g4⟩, g5⟩, g6⟩, g7⟩ := hok
 have HVR := Aside0.mk (And.intro g6 (List.all_eq_true.1 g7))
 obtain ⟨S, hS⟩ : ∃ S, decS st = S := ⟨_, rfl⟩
 obtain ⟨Hh, hH⟩ : ∃ Hh : ByteArray, (⟨(hoodL hd).toArray⟩ : ByteArray) = Hh := ⟨_, rfl⟩
 obtain ⟨Yy, hY⟩ : ∃ Yy : ByteArray, (⟨(symL sy).toArray⟩ : ByteArray) = Yy := ⟨_, rfl⟩
 have HXT : Aside0 (vivariumref01_Text.f 20 st = some S) := ⟨by rw [← hS]; exact rtext_is st g1.1 g1.2⟩
 have zS : S.size ≤ 3 := by rw [← hS, decS_size]; exact dec_len st g1.1 g1.2
 have zH : Hh.size ≤ 10 := by rw [← hH]; exact hoodL_len hd
 have zY : Yy.size ≤ 18 := by rw [← hY]; exact symL_len sy
 have HHD : Aside0 ((((((((⟨#[110, 95, 115, 116, 97, 116, 101, 115, 58]⟩ : ByteArray) ++ S) ++ (⟨#[10, 110, 101, 105, 103, 104, 98, 111, 114, 104, 111, 111, 100, 58]⟩ : ByteArray)) ++ Hh) ++ (⟨#[10, 115, 121, 109, 109, 101, 116, 114, 105, 101, 115, 58]⟩ : ByteArray)) ++ Yy) ++ (⟨#[10]⟩ : ByteArray)).data.toList = headL st hd sy) := ⟨by
  rw [← hS, ← hH, ← hY]
  unfold headL decS decL
  simp⟩
 have z1 : (9223372036854775807 < 9 + S.size) = False := eq_false (by omega)
 have z2 : (9223372036854775807 < 9 + S.size + 14) = False := eq_false (by omega)
 have z3 : (9223372036854775807 < 9 + S.size + 14 + Hh.size) = False := eq_false (by omega)
 have z4 : (9223372036854775807 < 9 + S.size + 14 + Hh.size + 12) = False := eq_false (by omega)
 have z5 : (9223372036854775807 < 9 + S.size + 14 + Hh.size + 12 + Yy.size) = False := eq_false (by omega)
 have z6 : (9223372036854775807 < 9 + S.size + 14 + Hh.size + 12 + Yy.size + 1) = False := eq_false (by omega)
 have HL0 : Aside0 (([] : List UInt8).length + (((((((⟨#[110, 95, 115, 116, 97, 116, 101, 115, 58]⟩ : ByteArray) ++ S) ++ (⟨#[10, 110, 101, 105, 103, 104, 98, 111, 114, 104, 111, 111, 100, 58]⟩ : ByteArray)) ++ Hh) ++ (⟨#[10, 115, 121, 109, 109, 101, 116, 114, 105, 101, 115, 58]⟩ : ByteArray)) ++ Yy) ++ (⟨#[10]⟩ : ByteArray)).size ≤ 140737488355328) := ⟨by
  simp only [ByteArray.size_append, List.length_nil]
  have e1 : (⟨#[110, 95, 115, 116, 97, 116, 101, 115, 58]⟩ : ByteArray).size = 9 := rfl
  have e2 : (⟨#[10, 110, 101, 105, 103, 104, 98, 111, 114, 104, 111, 111, 100, 58]⟩ : ByteArray).size = 14 := rfl
  have e3 : (⟨#[10, 115, 121, 109, 109, 101, 116, 114, 105, 101, 115, 58]⟩ : ByteArray).size = 12 := rfl
  have e4 : (⟨#[10]⟩ : ByteArray).size = 1 := rfl
  omega⟩
 have HQH : Aside0 (∀ xs, vivariumref10_hoods.f = some xs → xs.length = 4 ∧ xs.getD hd.toNat ⟨#[]⟩ = Hh) := ⟨fun xs hx => by
  unfold vivariumref10_hoods.f at hx
  obtain rfl := Option.some.inj hx
  refine ⟨rfl, ?_⟩
  rw [← hH]
  obtain h | h | h : hd = 1 ∨ hd = 2 ∨ hd = 3 := by omega
  all_goals subst h; rfl⟩
 have HQS : Aside0 (∀ xs, vivariumref10_words.f = some xs → xs.length = 11 ∧ xs.getD sy.toNat ⟨#[]⟩ = Yy) := ⟨fun xs hx => by
  unfold vivariumref10_words.f at hx
  obtain rfl := Option.some.inj hx
  refine ⟨rfl, ?_⟩
  rw [← hY]
  obtain h | h | h | h | h | h | h | h | h | h | h : sy = 0 ∨ sy = 1 ∨ sy = 2 ∨ sy = 3 ∨ sy = 4 ∨ sy = 5 ∨ sy = 6 ∨ sy = 7 ∨ sy = 8 ∨ sy = 9 ∨ sy = 10 := by omega
  all_goals subst h; rfl⟩
 obtain ⟨xh, hxh⟩ : ∃ xs, vivariumref10_hoods.f = some xs := ⟨_, rfl⟩
 obtain ⟨xw, hxw⟩ : ∃ xs, vivariumref10_words.f = some xs := ⟨_, rfl⟩
 obtain ⟨lh, eh⟩ := HQH.out xh hxh
 obtain ⟨lw, ew⟩ := HQS.out xw hxw
 have HXH := Aside0.mk hxh
 have HXW := Aside0.mk hxw
 have HEH := Aside0.mk eh
 have HEW := Aside0.mk ew
 have hd0 : 0 ≤ hd := by omega
 have hd4 : hd < 4 := by omega
 have sy0 : 0 ≤ sy := by omega
 have sy11 : sy < 11 := by omega
 have HLH := Aside0.mk lh
 have HLW := Aside0.mk lw
 clear hr3 hc3 hr4 hc4 h hS hH hY g1 g2 g3 g6 g7 zS zH zY HQH HQS hxh hxw lh eh lw ew
 go_enter Tryd.func5, Tryd.ntmps5
 go_wp2_with (first | (go_at_call 4; go_must ((with_reducible refine (vivariumref10_Check.calls k st hd sy A3 c3 vs A4 c4 rs 0 _ (Kd.C_alloc HV.out _) HVc.out (Kd.C_alloc HR.out _) HRc.out HE.out).mono ?_); rintro e' w1 ⟨rfl, hb1⟩; have ht1 := blk_below (blk_new w _) hb1; have HB1 := Aside0.mk (below_step (below_alloc (Below.refl w.heap.size w) (Obj.cells #[.int .i64 st, .int .u8 hd, .int .u8 sy, .slice A3 vs.length c3, .slice A4 rs.length c4] 25)) hb1); have HT1 := Aside0.mk ht1; clear ht1 hb1)) | (go_at_call 15; go_must (refine (vivariumref10_hoods.calls xh _ HXH.out).mono ?_; rintro e w2 ⟨v2, rfl, hr2, hb2⟩; obtain ⟨Ah, ch, rfl⟩ := Kd.R_slice hr2; have HRH := Aside0.mk (Kd.R_reads' hr2).2.2; have HB2 := Aside0.mk (below_step HB1.out hb2); have HT2 := Aside0.mk (blk_below HT1.out hb2); clear hr2 hb2)) | (go_at_call 16; go_must (refine (vivariumref10_words.calls xw _ HXW.out).mono ?_; rintro e w3 ⟨v3, rfl, hr3, hb3⟩; obtain ⟨Aw, cw, rfl⟩ := Kd.R_slice hr3; have HRW := Aside0.mk (Kd.R_reads' hr3).2.2; have HRH3 := Aside0.mk (Kd.C_below HRH.out hb3); have HB3 := Aside0.mk (below_step HB2.out hb3); have HT3 := Aside0.mk (blk_below HT2.out hb3); clear hr3 hb3)))
 have HP6 : Aside0 (RC w #[.int .i64 st, .int .u8 hd, .int .u8 sy, .slice A3 vs.length c3, .slice A4 rs.length c4] (.slice none 0 0) [] w3.drew) := ⟨⟨below_drew1 HB3.out, World.ownsRow_nil _ _ _ _, HT3.out⟩⟩
 have hdl : hd < (xh.length : Int) := by rw [HLH.out]; exact hd4
 have syl : sy < (xw.length : Int) := by rw [HLW.out]; exact sy11
 obtain ⟨adh, rfl, ch0⟩ := Kd.at_string HRH3.out hd hd0 hdl
 obtain ⟨adw, rfl, cw0⟩ := Kd.at_string HRW.out sy sy0 syl
 rw [show rdOf ByteArray.empty xh hd = Hh from HEH.out] at ch0
 rw [show rdOf ByteArray.empty xw sy = Yy from HEW.out] at cw0
 refine start_ (n := 22) (S := fun w' => w'.cell? ⟨w.heap.size, 0, none⟩ = some (.int .i64 st) ∧ w'.cell? ⟨w.heap.size, 1, none⟩ = some (.int .u8 hd) ∧ w'.cell? ⟨w.heap.size, 2, none⟩ = some (.int .u8 sy) ∧ w'.cell? (adh.add hd.toNat) = some (.string Hh) ∧ w'.cell? (adw.add sy.toNat) = some (.string Yy)) (ds := [20]) #[false, false, false, false, false, false, false, false, false, false, false, false, false, false, false, false, false, false, false, false, false, false] (by kernel_rfl) rfl rfl ⟨blk_cell HP6.out.box 0, blk_cell HP6.out.box 1, blk_cell HP6.out.box 2, ch0, cw0⟩ (fun hHeld => ?_)
 refine pure_ (i := 0) (N := some 21) (v := ?_) (a' := ?_) #[true, false, false, false, false, false, false, false, false, false, false, false, false, false, false, false, false, false, false, false, false, false] rfl rfl (by kernel_rfl) (fun _ _ _ h => h) (Or.inl ⟨by rfl, ?_⟩) ?_ ?_
 rotate_left
 ·intro w'
  go_simp
  with_reducible rfl
 rotate_left
 ·simp only [Act.put, List.setIfInBounds_toArray, List.set_cons_zero, List.set_cons_succ, i64_w, i32_w]
  rfl
 refine pure_ (i := 1) (N := some 22) (v := ?_) (a' := ?_) #[true, true, false, false, false, false, false, false, false, false, false, false, false, false, false, false, false, false, false, false, false, false] rfl rfl (by kernel_rfl) (fun _ _ _ h => h) (Or.inl ⟨by rfl, ?_⟩) ?_ ?_
 rotate_left
 ·intro w'
  go_simp
  with_reducible rfl
 rotate_left
 ·simp only [Act.put, List.setIfInBounds_toArray, List.set_cons_zero, List.set_cons_succ, i64_w, i32_w]
  rfl
 refine pure_ (i := 6) (N := some 27) (v := ?_) (a' := ?_) #[true, true, false, false, false, false, true, false, false, false, false, false, false, false, false, false, false, false, false, false, false, false] rfl rfl (by kernel_rfl) (fun _ _ _ h => h) (Or.inl ⟨by rfl, ?_⟩) ?_ ?_
 rotate_left
 ·intro w'
  go_simp
  with_reducible rfl
 rotate_left
 ·simp only [Act.put, List.setIfInBounds_toArray, List.set_cons_zero, List.set_cons_succ, i64_w, i32_w]
  rfl
 refine pure_ (i := 7) (N := some 28) (v := ?_) (a' := ?_) #[true, true, false, false, false, false, true, true, false, false, false, false, false, false, false, false, false, false, false, false, false, false] rfl rfl (by kernel_rfl) (fun _ _ _ h => h) (Or.inl ⟨by rfl, ?_⟩) ?_ ?_
 rotate_left
 ·intro w'
  go_simp
  with_reducible rfl
 rotate_left
 ·simp only [Act.put, List.setIfInBounds_toArray, List.set_cons_zero, List.set_cons_succ, i64_w, i32_w]
  rfl
 refine pure_ (i := 13) (N := some 34) (v := ?_) (a' := ?_) #[true, true, false, false, false, false, true, true, false, false, false, false, false, true, false, false, false, false, false, false, false, false] rfl rfl (by kernel_rfl) (fun _ _ _ h => h) (Or.inl ⟨by rfl, ?_⟩) ?_ ?_
 rotate_left
 ·intro w'
  go_simp
  with_reducible rfl
 rotate_left
 ·simp only [Act.put, List.setIfInBounds_toArray, List.set_cons_zero, List.set_cons_succ, i64_w, i32_w]
  rfl
 refine pure_ (i := 14) (N := some 35) (v := ?_) (a' := ?_) #[true, true, false, false, false, false, true, true, false, false, false, false, false, true, true, false, false, false, false, false, false, false] rfl rfl (by kernel_rfl) (fun _ _ _ h => h) (Or.inl ⟨by rfl, ?_⟩) ?_ ?_
 rotate_left
 ·intro w'
  go_simp
  with_reducible rfl
 rotate_left
 ·simp only [Act.put, List.setIfInBounds_toArray, List.set_cons_zero, List.set_cons_succ, i64_w, i32_w]
  rfl
 refine take_ (i := 2) (N := some 23) (v := ?_) (a' := ?_) #[true, true, true, false, false, false, true, true, false, false, false, false, false, true, true, false, false, false, false, false, false, false] rfl rfl (by kernel_rfl) (fun _ _ _ h => h) (Or.inl ⟨by rfl, ?_⟩) hHeld ?_ ?_
 rotate_left
 ·rintro w' ⟨s0, s1, s2, s3, s4⟩
  go_simp
  with_reducible rfl
 rotate_left
 ·simp only [Act.put, List.setIfInBounds_toArray, List.set_cons_zero, List.set_cons_succ, i64_w, i32_w]
  rfl
 refine take_ (i := 8) (N := some 29) (v := ?_) (a' := ?_) #[true, true, true, false, false, false, true, true, true, false, false, false, false, true, true, false, false, false, false, false, false, false] rfl rfl (by kernel_rfl) (fun _ _ _ h => h) (Or.inl ⟨by rfl, ?_⟩) hHeld ?_ ?_
 rotate_left
 ·rintro w' ⟨s0, s1, s2, s3, s4⟩
  go_simp
  with_reducible rfl
 rotate_left
 ·simp only [Act.put, List.setIfInBounds_toArray, List.set_cons_zero, List.set_cons_succ, i64_w, i32_w]
  rfl
 refine pure_ (i := 9) (N := some 30) (v := ?_) (a' := ?_) #[true, true, true, false, false, false, true, true, true, true, false, false, false, true, true, false, false, false, false, false, false, false] rfl rfl (by kernel_rfl) (fun _ _ _ h => h) (Or.inl ⟨by rfl, ?_⟩) ?_ ?_
 rotate_left
 ·intro w'
  go_simp
  with_reducible rfl
 rotate_left
 ·simp only [Act.put, List.setIfInBounds_toArray, List.set_cons_zero, List.set_cons_succ, i64_w, i32_w]
  rfl
 refine take_ (i := 10) (N := some 31) (v := ?_) (a' := ?_) #[true, true, true, false, false, false, true, true, true, true, true, false, false, true, true, false, false, false, false, false, false, false] rfl rfl (by kernel_rfl) (fun _ _ _ h => h) (Or.inl ⟨by rfl, ?_⟩) hHeld ?_ ?_
 rotate_left
 ·rintro w' ⟨s0, s1, s2, s3, s4⟩
  go_simp
  with_reducible rfl
 rotate_left
 ·simp only [Act.put, List.setIfInBounds_toArray, List.set_cons_zero, List.set_cons_succ, i64_w, i32_w]
  rfl
 refine take_ (i := 15) (N := some 36) (v := ?_) (a' := ?_) #[true, true, true, false, false, false, true, true, true, true, true, false, false, true, true, true, false, false, false, false, false, false] rfl rfl (by kernel_rfl) (fun _ _ _ h => h) (Or.inl ⟨by rfl, ?_⟩) hHeld ?_ ?_
 rotate_left
 ·rintro w' ⟨s0, s1, s2, s3, s4⟩
  go_simp
  with_reducible rfl
 rotate_left
 ·simp only [Act.put, List.setIfInBounds_toArray, List.set_cons_zero, List.set_cons_succ, i64_w, i32_w]
  rfl
 refine pure_ (i := 16) (N := some 37) (v := ?_) (a' := ?_) #[true, true, true, false, false, false, true, true, true, true, true, false, false, true, true, true, true, false, false, false, false, false] rfl rfl (by kernel_rfl) (fun _ _ _ h => h) (Or.inl ⟨by rfl, ?_⟩) ?_ ?_
 rotate_left
 ·intro w'
  go_simp
  with_reducible rfl
 rotate_left
 ·simp only [Act.put, List.setIfInBounds_toArray, List.set_cons_zero, List.set_cons_succ, i64_w, i32_w]
  rfl
 refine take_ (i := 17) (N := some 38) (v := ?_) (a' := ?_) #[true, true, true, false, false, false, true, true, true, true, true, false, false, true, true, true, true, true, false, false, false, false] rfl rfl (by kernel_rfl) (fun _ _ _ h => h) (Or.inl ⟨by rfl, ?_⟩) hHeld ?_ ?_
 rotate_left
 ·rintro w' ⟨s0, s1, s2, s3, s4⟩
  go_simp
  with_reducible rfl
 rotate_left
 ·simp only [Act.put, List.setIfInBounds_toArray, List.set_cons_zero, List.set_cons_succ, i64_w, i32_w]
  rfl
 refine one_ (i := 3) (N := some 24) #[true, true, true, true, false, false, true, true, true, true, true, false, false, true, true, true, true, true, false, false, false, false] rfl rfl (by kernel_rfl) (by decide) (fun K hK => ?_)
 refine goes_ Tryd.func17 (by kernel_rfl) rfl #[.int .i64 st] (by rfl) rfl rfl (by simp only [List.map_toArray, List.map_cons, List.map_nil]; rfl) ?_
 with_reducible refine (vivariumref01_Text.calls 20 st S _ HXT.out).mono ?_
 rintro e w9 ⟨rfl, hb⟩
 have HP9 := Aside0.mk (RC.below HP6.out hb)
 have HB9 := Aside0.mk hb
 clear hb
 refine ⟨_, rfl, ?_⟩
 refine hK.out _ _ ⟨blk_cell HP9.out.box 0, blk_cell HP9.out.box 1, blk_cell HP9.out.box 2, pw_cell_below (w := w3.drew) HB9.out ch0, pw_cell_below (w := w3.drew) HB9.out cw0⟩ (fun hHeld => ?_)
 clear hK K
 refine norm_ (a' := ?_) ?_ ?_
 rotate_left
 ·show Act.put _ (some 24) _ = _
  simp only [Act.put, List.setIfInBounds_toArray, List.set_cons_zero, List.set_cons_succ, i64_w, i32_w]
  rfl
 refine pure_ (i := 4) (N := some 25) (v := ?_) (a' := ?_) #[true, true, true, true, true, false, true, true, true, true, true, false, false, true, true, true, true, true, false, false, false, false] rfl rfl (by kernel_rfl) (fun _ _ _ h => h) (Or.inl ⟨by rfl, ?_⟩) ?_ ?_
 rotate_left
 ·intro w'
  go_simp
  with_reducible rfl
 rotate_left
 ·simp only [Act.put, List.setIfInBounds_toArray, List.set_cons_zero, List.set_cons_succ, i64_w, i32_w]
  rfl
 refine pure_ (i := 5) (N := some 26) (v := ?_) (a' := ?_) #[true, true, true, true, true, true, true, true, true, true, true, false, false, true, true, true, true, true, false, false, false, false] rfl rfl (by kernel_rfl) (fun _ _ _ h => h) (Or.inl ⟨by rfl, ?_⟩) ?_ ?_
 rotate_left
 ·intro w'
  go_simp
  with_reducible rfl
 rotate_left
 ·simp only [Act.put, List.setIfInBounds_toArray, List.set_cons_zero, List.set_cons_succ, i64_w, i32_w]
  rfl
 refine pure_ (i := 11) (N := some 32) (v := ?_) (a' := ?_) #[true, true, true, true, true, true, true, true, true, true, true, true, false, true, true, true, true, true, false, false, false, false] rfl rfl (by kernel_rfl) (fun _ _ _ h => h) (Or.inl ⟨by rfl, ?_⟩) ?_ ?_
 rotate_left
 ·intro w'
  go_simp
  with_reducible rfl
 rotate_left
 ·simp only [Act.put, List.setIfInBounds_toArray, List.set_cons_zero, List.set_cons_succ, i64_w, i32_w]
  rfl
 refine pure_ (i := 12) (N := some 33) (v := ?_) (a' := ?_) #[true, true, true, true, true, true, true, true, true, true, true, true, true, true, true, true, true, true, false, false, false, false] rfl rfl (by kernel_rfl) (fun _ _ _ h => h) (Or.inl ⟨by rfl, ?_⟩) ?_ ?_
 rotate_left
 ·intro w'
  go_simp
  with_reducible rfl
 rotate_left
 ·simp only [Act.put, List.setIfInBounds_toArray, List.set_cons_zero, List.set_cons_succ, i64_w, i32_w]
  rfl
 refine pure_ (i := 18) (N := some 39) (v := ?_) (a' := ?_) #[true, true, true, true, true, true, true, true, true, true, true, true, true, true, true, true, true, true, true, false, false, false] rfl rfl (by kernel_rfl) (fun _ _ _ h => h) (Or.inl ⟨by rfl, ?_⟩) ?_ ?_
 rotate_left
 ·intro w'
  go_simp
  with_reducible rfl
 rotate_left
 ·simp only [Act.put, List.setIfInBounds_toArray, List.set_cons_zero, List.set_cons_succ, i64_w, i32_w]
  rfl
 refine pure_ (i := 19) (N := some 40) (v := ?_) (a' := ?_) #[true, true, true, true, true, true, true, true, true, true, true, true, true, true, true, true, true, true, true, true, false, false] rfl rfl (by kernel_rfl) (fun _ _ _ h => h) (Or.inl ⟨by rfl, ?_⟩) ?_ ?_
 rotate_left
 ·intro w'
  go_simp
  with_reducible rfl
 rotate_left
 ·simp only [Act.put, List.setIfInBounds_toArray, List.set_cons_zero, List.set_cons_succ, i64_w, i32_w]
  rfl
 refine last_ (i := 20) (N := some 41) #[true, true, true, true, true, true, true, true, true, true, true, true, true, true, true, true, true, true, true, true, true, false] rfl rfl (by kernel_rfl) (by decide) (fun K hK => ?_)
 refine app_step (by rfl) (.tmp 21) (.tmp 40) rfl HP9.out (((((((⟨#[110, 95, 115, 116, 97, 116, 101, 115, 58]⟩ : ByteArray) ++ S) ++ (⟨#[10, 110, 101, 105, 103, 104, 98, 111, 114, 104, 111, 111, 100, 58]⟩ : ByteArray)) ++ Hh) ++ (⟨#[10, 115, 121, 109, 109, 101, 116, 114, 105, 101, 115, 58]⟩ : ByteArray)) ++ Yy) ++ (⟨#[10]⟩ : ByteArray)) rfl rfl HL0.out ?_
 intro v10 w10 h1 h2
 have HP10 := Aside0.mk (RC.text h1 (show [] ++ (((((((⟨#[110, 95, 115, 116, 97, 116, 101, 115, 58]⟩ : ByteArray) ++ S) ++ (⟨#[10, 110, 101, 105, 103, 104, 98, 111, 114, 104, 111, 111, 100, 58]⟩ : ByteArray)) ++ Hh) ++ (⟨#[10, 115, 121, 109, 109, 101, 116, 114, 105, 101, 115, 58]⟩ : ByteArray)) ++ Yy) ++ (⟨#[10]⟩ : ByteArray)).data.toList = preL st hd sy vs rs 0 0 from by rw [HHD.out]; simp [preL]))
 clear h1 h2
 refine hK.out _ _ ?_
 clear hK K
 refine norm_ (a' := ?_) ?_ ?_
 rotate_left
 ·show Act.put _ (some 41) _ = _
  simp only [Act.put, List.setIfInBounds_toArray, List.set_cons_zero, List.set_cons_succ, i64_w, i32_w]
  rfl
 refine pure_ (i := 21) (N := some 7) (v := ?_) (a' := ?_) #[true, true, true, true, true, true, true, true, true, true, true, true, true, true, true, true, true, true, true, true, true, true] rfl rfl (by kernel_rfl) (fun _ _ _ h => h) (Or.inl ⟨by rfl, ?_⟩) ?_ ?_
 rotate_left
 ·intro w'
  go_simp
  with_reducible rfl
 rotate_left
 ·simp only [Act.put, List.setIfInBounds_toArray, List.set_cons_zero, List.set_cons_succ, i64_w, i32_w]
  rfl
 refine done_ (by kernel_rfl) ?_
 clear ch0 cw0 z1 z2 z3 z4 z5 z6
 have t3 : w10.cell? ⟨w.heap.size, 3, none⟩ = some (.slice A3 vs.length c3) := blk_cell HP10.out.box 3
 go_wp2
 clear t3
 go_loopw [7, 8] (fun vb v wr => ∃ i : Nat, i ≤ vs.length ∧ v = .int .i64 i ∧ Aside0 (RC w #[.int .i64 st, .int .u8 hd, .int .u8 sy, .slice A3 vs.length c3, .slice A4 rs.length c4] vb (preL st hd sy vs rs i 0) wr)) (fun vb v wr => vs.length - (intOf v).toNat)
 case atStart => exact ⟨0, Nat.zero_le _, rfl, HP10⟩
 case round =>
  rename World => wr
  clear HP10
  obtain ⟨i, hi, rfl, HP⟩ := hrel
  by_cases hlt : i < vs.length
  ·have q0 : (0 : Int) ≤ (i : Int) := by omega
   have q1 : (i : Int) < vs.length := by omega
   have q2 : (i : Int) ≤ 9223372036854775806 := by have := HV.out.2.1; omega
   obtain ⟨ad, A1, c1, rfl, x0, x1, xl, xc⟩ := at_T49 HV.out (i : Int) q0 q1
   rw [Int.toNat_natCast] at x0 x1
   have hrd := rd_65 vs i hlt
   have hpv := pre_v st hd sy vs rs i hlt
   have hvok := List.all_eq_true.1 HVR.out.1 _ (List.getElem_mem hlt)
   obtain ⟨v, hv⟩ : ∃ v, vs[i] = v := ⟨_, rfl⟩
   rw [hv] at hrd hpv hvok
   rw [hrd] at x0 x1 xl xc
   have hvl := vpre_len hvok
   have hall : (preL st hd sy vs rs i 0).length ≤ 46000000 := HPL.out i 0
   unfold okVr at hvok
   simp only [Bool.and_eq_true, decide_eq_true_eq, List.all_eq_true] at hvok
   obtain ⟨⟨hnm, hs1, hsl⟩, hst⟩ := hvok
   unfold varL at hpv
   obtain ⟨nm, hnmm⟩ : ∃ nm, v.f0 = nm := ⟨_, rfl⟩
   rw [hnmm] at x0 hnm hpv hvl
   obtain ⟨ss, hss⟩ : ∃ ss, v.f1 = ss := ⟨_, rfl⟩
   rw [hss] at x1 xl xc hsl hs1 hst hpv hvl
   have HPV := Aside0.mk hpv
   have HVL := Aside0.mk hvl
   have HST := Aside0.mk hst
   have HXC := Aside0.mk xc
   have HAL := Aside0.mk hall
   have HX0 := Aside0.mk x0
   have HX1 := Aside0.mk x1
   have HS1 := Aside0.mk hs1
   have z1 : (9223372036854775807 < 4 + nm.size) = False := eq_false (by omega)
   have z2 : (9223372036854775807 < 4 + nm.size + 1) = False := eq_false (by omega)
   have HL2 : Aside0 ((preL st hd sy vs rs i 0).length + (((⟨#[118, 97, 114, 32]⟩ : ByteArray) ++ nm) ++ (⟨#[61]⟩ : ByteArray)).size ≤ 140737488355328) := ⟨by
    simp only [ByteArray.size_append]
    have e1 : (⟨#[118, 97, 114, 32]⟩ : ByteArray).size = 4 := rfl
    have e2 : (⟨#[61]⟩ : ByteArray).size = 1 := rfl
    omega⟩
   replace x0 := pw_cell_below HP.out.bel x0
   have hsl2 : (ss.length : Int) ≤ 256 := by omega
   have t3 : wr.cell? ⟨w.heap.size, 3, none⟩ = some (.slice (some ad) vs.length c3) := blk_cell HP.out.box 3
   clear hv hrd hpv hvl hall hnmm hss hnm xc xl hst hsl x1 hs1
   go_wp2_with ((with_reducible refine gate_builtin (b := .append) (xs := #[.tmp 49, .tmp 57]) rfl ?_); at_builtin; go_must (refine app_str rfl (.tmp 49) (.tmp 57) rfl HP.out (((⟨#[118, 97, 114, 32]⟩ : ByteArray) ++ nm) ++ (⟨#[61]⟩ : ByteArray)) rfl rfl HL2.out ?_; intro vb3 w3 h1 h2; have HP3 := Aside0.mk h1; clear h1 h2))
   have HP3t := Aside0.mk (HP3.out.text (show preL st hd sy vs rs i 0 ++ (((⟨#[118, 97, 114, 32]⟩ : ByteArray) ++ nm) ++ (⟨#[61]⟩ : ByteArray)).data.toList = preL st hd sy vs rs i 0 ++ ([118, 97, 114, 32] ++ nm.data.toList ++ [61] ++ (if (0 : Nat) = 0 then [] else 123 :: stL true (ss.take 0))) from by simp))
   clear x0 z1 z2 HP3 HL2 t3
   go_loopw [7, 9] (fun vb v wq => ∃ j : Nat, j ≤ ss.length ∧ v = .int .i64 j ∧ Aside0 (RC w #[.int .i64 st, .int .u8 hd, .int .u8 sy, .slice (some ad) vs.length c3, .slice A4 rs.length c4] vb (preL st hd sy vs rs i 0 ++ ([118, 97, 114, 32] ++ nm.data.toList ++ [61] ++ (if j = 0 then [] else 123 :: stL true (ss.take j)))) wq)) (fun vb v wq => ss.length - (intOf v).toNat)
   case atStart => exact ⟨0, Nat.zero_le _, rfl, HP3t⟩
   case round =>
    rename World => wq
    clear HP3t HP
    obtain ⟨j, hj, rfl, HP⟩ := hrel
    have hvl := HVL.out j
    have hal := HAL.out
    have hlq : (preL st hd sy vs rs i 0 ++ ([118, 97, 114, 32] ++ nm.data.toList ++ [61] ++ (if j = 0 then [] else 123 :: stL true (ss.take j)))).length ≤ 47000000 := by
     simp only [List.length_append, List.length_cons, List.length_nil] at hvl ⊢
     split
     ·simp only [List.length_nil]; omega
     ·simp only [List.length_cons]; omega
    have x0 := pw_cell_below HP.out.bel HX0.out
    have x1 := pw_cell_below HP.out.bel HX1.out
    have t3 : wq.cell? ⟨w.heap.size, 3, none⟩ = some (.slice (some ad) vs.length c3) := blk_cell HP.out.box 3
    by_cases hjl : j < ss.length
    ·have r0 : (0 : Int) ≤ (j : Int) := by omega
     have r1 : (j : Int) < ss.length := by omega
     obtain ⟨aB, rfl, b0⟩ := Kd.at_int (Kd.C_below HXC.out HP.out.bel) (j : Int) r0 r1
     rw [Int.toNat_natCast] at b0
     have hs2 := HST.out ss[j] (List.getElem_mem hjl)
     have hrs : rd ss (j : Int) = ss[j] := by unfold rd; rw [Int.toNat_natCast, List.getD_eq_getElem?_getD, List.getElem?_eq_getElem hjl]; rfl
     have hsn : stL true (ss.take (j + 1)) = stL true (ss.take j) ++ (if j = 0 then [] else [44]) ++ decL ss[j] := by
      rw [take_snoc ss j hjl, stL_snoc]
      congr 2
      cases j with
      | zero => simp
      | succ j => cases ss with
       | nil => simp at hjl
       | cons a l => simp
     rw [hrs] at b0
     obtain ⟨s, hs⟩ : ∃ s, ss[j] = s := ⟨_, rfl⟩
     rw [hs] at b0 hs2 hsn
     obtain ⟨n, rfl⟩ : ∃ n : Nat, s = n := ⟨s.toNat, by omega⟩
     obtain ⟨n0, n1⟩ := hs2
     have HSN := Aside0.mk hsn
     have HXT : Aside0 (vivariumref01_Text.f 20 (n : Int) = some (decS n)) := ⟨rtext_is _ n0 (by omega)⟩
     have hds : (decS (n : Int)).size ≤ 3 := by rw [decS_size]; exact dec_len _ n0 (by omega)
     have hdd : (decS (n : Int)).data.toList = decL (n : Int) := by simp [decS, decL]
     obtain ⟨S, hS⟩ : ∃ S, decS (n : Int) = S := ⟨_, rfl⟩
     rw [hS] at HXT hds hdd
     have HDD := Aside0.mk hdd
     have z1 : (9223372036854775807 < 1 + S.size) = False := eq_false (by omega)
     clear hs hsn hS hdd hrs hvl hal
     by_cases hj0 : j = 0
     ·have hj1 : ((j : Int) == 0) = true := by rw [hj0]; rfl
      have hj2 : (j == 0) = true := by rw [hj0]; rfl
      have HJ := Aside0.mk hj0
      have HLa : Aside0 ((preL st hd sy vs rs i 0 ++ ([118, 97, 114, 32] ++ nm.data.toList ++ [61] ++ (if j = 0 then [] else 123 :: stL true (ss.take j)))).length + ((⟨#[123]⟩ : ByteArray) ++ S).size ≤ 140737488355328) := ⟨by
       rw [ByteArray.size_append, show (⟨#[123]⟩ : ByteArray).size = 1 from rfl]; omega⟩
      clear hj0 hlq hds
      go_wp2_with (first | (go_at_call 17; go_must (refine (vivariumref01_Text.calls 20 n S _ HXT.out).mono ?_; rintro e w4 ⟨rfl, hb⟩; have HP4 := Aside0.mk (RC.below HP.out hb); clear hb)) | ((with_reducible refine gate_builtin (b := .append) (xs := #[.tmp 72, .tmp 85]) rfl ?_); at_builtin; go_must (refine app_str rfl (.tmp 72) (.tmp 85) rfl HP4.out ((⟨#[123]⟩ : ByteArray) ++ S) rfl rfl HLa.out ?_; intro vb5 w5 h1 h2; have HP5 := Aside0.mk h1; clear h1 h2)))
      go_roundw
      case rel => exact ⟨j + 1, by omega, by go_num, ⟨HP5.out.text (by rw [HSN.out, if_pos HJ.out, if_pos HJ.out, if_neg (Nat.succ_ne_zero j), HJ.out]; simp [HDD.out, stL])⟩⟩
      case measure => simp [intOf]; omega
     ·have hj1 : ((j : Int) == 0) = false := by rw [beq_eq_false_iff_ne]; omega
      have hj2 : (j == 0) = false := by rw [beq_eq_false_iff_ne]; omega
      have HJ := Aside0.mk hj0
      have HLa : Aside0 ((preL st hd sy vs rs i 0 ++ ([118, 97, 114, 32] ++ nm.data.toList ++ [61] ++ (if j = 0 then [] else 123 :: stL true (ss.take j)))).length + ((⟨#[44]⟩ : ByteArray) ++ S).size ≤ 140737488355328) := ⟨by
       rw [ByteArray.size_append, show (⟨#[44]⟩ : ByteArray).size = 1 from rfl]; omega⟩
      clear hj0 hlq hds
      go_wp2_with (first | (go_at_call 17; go_must (refine (vivariumref01_Text.calls 20 n S _ HXT.out).mono ?_; rintro e w4 ⟨rfl, hb⟩; have HP4 := Aside0.mk (RC.below HP.out hb); clear hb)) | ((with_reducible refine gate_builtin (b := .append) (xs := #[.tmp 72, .tmp 85]) rfl ?_); at_builtin; go_must (refine app_str rfl (.tmp 72) (.tmp 85) rfl HP4.out ((⟨#[44]⟩ : ByteArray) ++ S) rfl rfl HLa.out ?_; intro vb5 w5 h1 h2; have HP5 := Aside0.mk h1; clear h1 h2)))
      go_roundw
      case rel => exact ⟨j + 1, by omega, by go_num, ⟨HP5.out.text (by rw [HSN.out, if_neg HJ.out, if_neg HJ.out, if_neg (Nat.succ_ne_zero j)]; simp [HDD.out])⟩⟩
      case measure => simp [intOf]; omega
    ·obtain rfl : j = ss.length := by omega
     have HLe : Aside0 ((preL st hd sy vs rs i 0 ++ ([118, 97, 114, 32] ++ nm.data.toList ++ [61] ++ (if ss.length = 0 then [] else 123 :: stL true (ss.take ss.length)))).length + (⟨#[125, 10]⟩ : ByteArray).size ≤ 140737488355328) := ⟨by
      have e1 : (⟨#[125, 10]⟩ : ByteArray).size = 2 := rfl
      omega⟩
     have HN0 : Aside0 (ss.length ≠ 0) := ⟨by have := HS1.out; omega⟩
     clear hvl hal hlq hjl hj
     go_wp2_with ((with_reducible refine gate_builtin (b := .append) (xs := #[.tmp 87, .const (.string ⟨#[125, 10]⟩)]) rfl ?_); at_builtin; go_must (refine app_str rfl (.tmp 87) (.const (.string ⟨#[125, 10]⟩)) rfl HP.out ((⟨#[125, 10]⟩ : ByteArray)) rfl rfl HLe.out ?_; intro vb4 w4 h1 h2; have HP4 := Aside0.mk h1; clear h1 h2))
     go_roundw
     case rel => exact ⟨i + 1, by omega, by go_num, ⟨HP4.out.text (by rw [HPV.out, if_neg HN0.out, List.take_length]; simp)⟩⟩
     case measure => simp [intOf]; omega
  ·obtain rfl : i = vs.length := by omega
   have t3 : wr.cell? ⟨w.heap.size, 3, none⟩ = some (.slice A3 vs.length c3) := blk_cell HP.out.box 3
   have t4 : wr.cell? ⟨w.heap.size, 4, none⟩ = some (.slice A4 rs.length c4) := blk_cell HP.out.box 4
   clear hlt hi
   go_wp2
   clear t3 t4
   go_loopw [7, 11] (fun vb v wr => ∃ j : Nat, j ≤ rs.length ∧ v = .int .i64 j ∧ Aside0 (RC w #[.int .i64 st, .int .u8 hd, .int .u8 sy, .slice A3 vs.length c3, .slice A4 rs.length c4] vb (preL st hd sy vs rs vs.length j) wr)) (fun vb v wr => rs.length - (intOf v).toNat)
   case atStart => exact ⟨0, Nat.zero_le _, rfl, HP⟩
   case round =>
    rename World => wr
    clear HP
    obtain ⟨j, hj, rfl, HP⟩ := hrel
    by_cases hlt : j < rs.length
    ·have q0 : (0 : Int) ≤ (j : Int) := by omega
     have q1 : (j : Int) < rs.length := by omega
     have q2 : (j : Int) ≤ 9223372036854775806 := by have := HR.out.2.1; omega
     obtain ⟨ad, AT, cT, rfl, x0, x1, x2, x3, x4, hcT, hCT⟩ := at_T41 HR.out (j : Int) q0 q1
     rw [Int.toNat_natCast] at x0 x1 x2 x3 x4
     have hrd := rd_62 rs j hlt
     have hpr := pre_r st hd sy vs rs vs.length j hlt
     have hrok := HVR.out.2 _ (List.getElem_mem hlt)
     obtain ⟨r, hr⟩ : ∃ r, rs[j] = r := ⟨_, rfl⟩
     rw [hr] at hrd hpr hrok
     rw [hrd] at x0 x1 x2 x3 x4 hCT
     have hrl := rpre_len HVR.out.1 hrok
     have hall : (preL st hd sy vs rs vs.length j).length ≤ 46000000 := HPL.out vs.length j
     unfold okRw at hrok
     simp only [Bool.and_eq_true, decide_eq_true_eq, List.all_eq_true] at hrok
     obtain ⟨⟨⟨hx0, hx2⟩, hr8⟩, hxa⟩ := hrok
     have HX0 : Aside0 (vivariumref10_told.f 20 st hd sy vs rs r.f0.f0 r.f0.f1 = some (tellS vs r.f0)) := ⟨told_is _ _ _ _ _ _ hx0⟩
     have HX2 : Aside0 (vivariumref10_told.f 20 st hd sy vs rs r.f2.f0 r.f2.f1 = some (tellS vs r.f2)) := ⟨told_is _ _ _ _ _ _ hx2⟩
     have hl2 := tell_len HVR.out.1 hx2
     rw [← tellS_len] at hl2
     have hl0 := tell_len HVR.out.1 hx0
     rw [← tellS_len] at hl0
     have HXA := Aside0.mk hxa
     have HPR := Aside0.mk hpr
     have HRL := Aside0.mk hrl
     have HCT := Aside0.mk hCT
     have HAL := Aside0.mk hall
     have HLa : Aside0 ((preL st hd sy vs rs vs.length j).length + (tellS vs r.f0).size ≤ 140737488355328) := ⟨by omega⟩
     have HT2 := Aside0.mk hl2
     have htl0 : (tellS vs r.f0).data.toList = tellL vs r.f0 := rfl
     have htl2 : (tellS vs r.f2).data.toList = tellL vs r.f2 := rfl
     have HTL := Aside0.mk (And.intro htl0 htl2)
     obtain ⟨S0, hS0⟩ : ∃ S, tellS vs r.f0 = S := ⟨_, rfl⟩
     obtain ⟨S2, hS2⟩ : ∃ S, tellS vs r.f2 = S := ⟨_, rfl⟩
     rw [hS0] at HX0 HLa HTL
     rw [hS2] at HX2 HT2 HTL
     replace x0 := pw_cell_below HP.out.bel x0
     replace x1 := pw_cell_below HP.out.bel x1
     replace x2 := pw_cell_below HP.out.bel x2
     replace x3 := pw_cell_below HP.out.bel x3
     replace x4 := pw_cell_below HP.out.bel x4
     have HPa := Aside0.mk (HP.out.alloc (Obj.cells #[.int .u8 r.f0.f0, .int .i64 r.f0.f1, .slice AT r.f1.length cT, .int .u8 r.f2.f0, .int .i64 r.f2.f1] 41))
     have HXa : Aside0 ((wr.alloc (Obj.cells #[.int .u8 r.f0.f0, .int .i64 r.f0.f1, .slice AT r.f1.length cT, .int .u8 r.f2.f0, .int .i64 r.f2.f1] 41)).heap[wr.heap.size]? = some (.cells #[.int .u8 r.f0.f0, .int .i64 r.f0.f1, .slice AT r.f1.length cT, .int .u8 r.f2.f0, .int .i64 r.f2.f1] 41 (0, 0))) := ⟨blk_new _ _⟩
     have hbx := blk_lt HP.out.box
     have t0 : wr.cell? ⟨w.heap.size, 0, none⟩ = some (.int .i64 st) := blk_cell HP.out.box 0
     have t1 : wr.cell? ⟨w.heap.size, 1, none⟩ = some (.int .u8 hd) := blk_cell HP.out.box 1
     have t2 : wr.cell? ⟨w.heap.size, 2, none⟩ = some (.int .u8 sy) := blk_cell HP.out.box 2
     have t3 : wr.cell? ⟨w.heap.size, 3, none⟩ = some (.slice A3 vs.length c3) := blk_cell HP.out.box 3
     have t4 : wr.cell? ⟨w.heap.size, 4, none⟩ = some (.slice (some ad) rs.length c4) := blk_cell HP.out.box 4
     clear hr hrd hpr hall hx0 hx2 hxa hrl hCT hcT hl0 hl2 htl0 htl2 hS0 hS2
     go_wp2_with (first | (go_at_call 18; go_must (refine (vivariumref10_told.calls 20 st hd sy A3 c3 vs (some ad) c4 rs r.f0.f0 r.f0.f1 S0 _ (Kd.C_below HV.out HPa.out.bel) HVc.out (Kd.C_below HR.out HPa.out.bel) HRc.out HX0.out).mono ?_; rintro e w4 ⟨rfl, hb⟩; have HP4 := Aside0.mk (RC.below HPa.out hb); have HX4 := Aside0.mk (blk_below HXa.out hb); clear hb)) | ((with_reducible refine gate_builtin (b := .append) (xs := #[.tmp 101, .tmp 105]) rfl ?_); at_builtin; go_must (refine app_str rfl (.tmp 101) (.tmp 105) rfl HP4.out (S0) rfl rfl HLa.out ?_; intro vb5 w5 h1 h2; have HP5 := Aside0.mk h1; have HX5 := Aside0.mk (h2 _ _ _ _ HX4.out (by decide)); clear h1 h2)))
     clear x0 x1 x2 x3 x4 t0 t1 t2 t3 t4
     have HP5t := Aside0.mk (HP5.out.text (show preL st hd sy vs rs vs.length j ++ S0.data.toList = preL st hd sy vs rs vs.length j ++ (tellL vs r.f0 ++ (r.f1.take 0).flatMap fun x => 44 :: tellL vs x) from by rw [HTL.out.1]; simp))
     clear HP5 HPa HXa HP4 HX4
     go_loopw [7, 13] (fun vb v wq => ∃ m : Nat, m ≤ r.f1.length ∧ v = .int .i64 m ∧ Aside0 (RC w #[.int .i64 st, .int .u8 hd, .int .u8 sy, .slice A3 vs.length c3, .slice (some ad) rs.length c4] vb (preL st hd sy vs rs vs.length j ++ (tellL vs r.f0 ++ (r.f1.take m).flatMap fun x => 44 :: tellL vs x)) wq) ∧ Aside0 (wq.heap[wr.heap.size]? = some (.cells #[.int .u8 r.f0.f0, .int .i64 r.f0.f1, .slice AT r.f1.length cT, .int .u8 r.f2.f0, .int .i64 r.f2.f1] 41 (0, 0)))) (fun vb v wq => r.f1.length - (intOf v).toNat)
     case atStart => exact ⟨0, Nat.zero_le _, rfl, HP5t, HX5⟩
     case round =>
      rename World => wq
      clear HP5t HX5 HP HLa
      obtain ⟨m, hm, rfl, HP, HX⟩ := hrel
      have hrl := HRL.out m
      have hal := HAL.out
      have ht2 := HT2.out
      have hlq : (preL st hd sy vs rs vs.length j ++ (tellL vs r.f0 ++ (r.f1.take m).flatMap fun x => 44 :: tellL vs x)).length ≤ 47000000 := by rw [List.length_append]; omega
      have y2 : wq.cell? ⟨wr.heap.size, 2, none⟩ = some (.slice AT r.f1.length cT) := blk_cell HX.out 2
      have t0 : wq.cell? ⟨w.heap.size, 0, none⟩ = some (.int .i64 st) := blk_cell HP.out.box 0
      have t1 : wq.cell? ⟨w.heap.size, 1, none⟩ = some (.int .u8 hd) := blk_cell HP.out.box 1
      have t2 : wq.cell? ⟨w.heap.size, 2, none⟩ = some (.int .u8 sy) := blk_cell HP.out.box 2
      have t3 : wq.cell? ⟨w.heap.size, 3, none⟩ = some (.slice A3 vs.length c3) := blk_cell HP.out.box 3
      have t4 : wq.cell? ⟨w.heap.size, 4, none⟩ = some (.slice (some ad) rs.length c4) := blk_cell HP.out.box 4
      by_cases hml : m < r.f1.length
      ·have r0 : (0 : Int) ≤ (m : Int) := by omega
       have r1 : (m : Int) < r.f1.length := by omega
       have r2 : (m : Int) ≤ 9223372036854775806 := by omega
       obtain ⟨aT, rfl, m0, m1⟩ := at_T38 (Kd.C_below HCT.out HP.out.bel) (m : Int) r0 r1
       rw [Int.toNat_natCast] at m0 m1
       have hrx := rd_59 r.f1 m hml
       have hxo := HXA.out _ (List.getElem_mem hml)
       have htk := take_snoc r.f1 m hml
       obtain ⟨x, hx⟩ : ∃ x, r.f1[m] = x := ⟨_, rfl⟩
       rw [hx] at hrx hxo htk
       rw [hrx] at m0 m1
       have HXO : Aside0 (vivariumref10_told.f 20 st hd sy vs rs x.f0 x.f1 = some (tellS vs x)) := ⟨told_is _ _ _ _ _ _ hxo⟩
       have hlx := tell_len HVR.out.1 hxo
       rw [← tellS_len] at hlx
       have htx : (tellS vs x).data.toList = tellL vs x := rfl
       obtain ⟨Sx, hSx⟩ : ∃ S, tellS vs x = S := ⟨_, rfl⟩
       rw [hSx] at HXO hlx htx
       have HTX := Aside0.mk htx
       have HTK := Aside0.mk htk
       have z1 : (9223372036854775807 < 1 + Sx.size) = False := eq_false (by omega)
       have HLb : Aside0 ((preL st hd sy vs rs vs.length j ++ (tellL vs r.f0 ++ (r.f1.take m).flatMap fun x => 44 :: tellL vs x)).length + ((⟨#[44]⟩ : ByteArray) ++ Sx).size ≤ 140737488355328) := ⟨by
        rw [ByteArray.size_append, show (⟨#[44]⟩ : ByteArray).size = 1 from rfl]; omega⟩
       have HPd : Aside0 (RC w #[.int .i64 st, .int .u8 hd, .int .u8 sy, .slice A3 vs.length c3, .slice (some ad) rs.length c4] _ (preL st hd sy vs rs vs.length j ++ (tellL vs r.f0 ++ (r.f1.take m).flatMap fun x => 44 :: tellL vs x)) wq.drew) := ⟨HP.out.below (below_drew1 (Below.refl _ _))⟩
       have HXd : Aside0 (wq.drew.heap[wr.heap.size]? = some (.cells #[.int .u8 r.f0.f0, .int .i64 r.f0.f1, .slice (some aT) r.f1.length cT, .int .u8 r.f2.f0, .int .i64 r.f2.f1] 41 (0, 0))) := ⟨HX.out⟩
       clear hx hrx hxo htk hrl hal hlq hSx hlx htx ht2
       go_wp2
       refine start_ (n := 11) (S := fun w' => w'.cell? ⟨w.heap.size, 0, none⟩ = some (.int .i64 st) ∧ w'.cell? ⟨w.heap.size, 1, none⟩ = some (.int .u8 hd) ∧ w'.cell? ⟨w.heap.size, 2, none⟩ = some (.int .u8 sy) ∧ w'.cell? ⟨w.heap.size, 3, none⟩ = some (.slice A3 vs.length c3) ∧ w'.cell? ⟨w.heap.size, 4, none⟩ = some (.slice (some ad) rs.length c4) ∧ w'.cell? ⟨wr.heap.size, 2, none⟩ = some (.slice (some aT) r.f1.length cT) ∧ w'.cell? (aT.add (m * 2)) = some (.int .u8 x.f0) ∧ w'.cell? ⟨(aT.add (m * 2)).block, (aT.add (m * 2)).off + 1, none⟩ = some (.int .i64 x.f1)) (ds := [9]) #[false, false, false, false, false, false, false, false, false, false, false] (by kernel_rfl) rfl rfl ⟨t0, t1, t2, t3, t4, y2, m0, m1⟩ (fun hHeld => ?_)
       refine pure_ (i := 0) (N := some 114) (v := ?_) (a' := ?_) #[true, false, false, false, false, false, false, false, false, false, false] rfl rfl (by kernel_rfl) (fun _ _ _ h => h) (Or.inl ⟨by rfl, ?_⟩) ?_ ?_
       rotate_left
       ·intro w'
        go_simp
        with_reducible rfl
       rotate_left
       ·simp only [Act.put, List.setIfInBounds_toArray, List.set_cons_zero, List.set_cons_succ, i64_w, i32_w]
        rfl
       refine pure_ (i := 2) (N := some 116) (v := ?_) (a' := ?_) #[true, false, true, false, false, false, false, false, false, false, false] rfl rfl (by kernel_rfl) (fun _ _ _ h => h) (Or.inl ⟨by rfl, ?_⟩) ?_ ?_
       rotate_left
       ·intro w'
        go_simp
        with_reducible rfl
       rotate_left
       ·simp only [Act.put, List.setIfInBounds_toArray, List.set_cons_zero, List.set_cons_succ, i64_w, i32_w]
        rfl
       refine pure_ (i := 4) (N := some 118) (v := ?_) (a' := ?_) #[true, false, true, false, true, false, false, false, false, false, false] rfl rfl (by kernel_rfl) (fun _ _ _ h => h) (Or.inl ⟨by rfl, ?_⟩) ?_ ?_
       rotate_left
       ·intro w'
        go_simp
        with_reducible rfl
       rotate_left
       ·simp only [Act.put, List.setIfInBounds_toArray, List.set_cons_zero, List.set_cons_succ, i64_w, i32_w]
        rfl
       refine take_ (i := 1) (N := some 115) (v := ?_) (a' := ?_) #[true, true, true, false, true, false, false, false, false, false, false] rfl rfl (by kernel_rfl) (fun _ _ _ h => h) (Or.inl ⟨by rfl, ?_⟩) hHeld ?_ ?_
       rotate_left
       ·rintro w' ⟨s0, s1, s2, s3, s4, s5, s6, s7⟩
        go_simp
        with_reducible rfl
       rotate_left
       ·simp only [Act.put, List.setIfInBounds_toArray, List.set_cons_zero, List.set_cons_succ, i64_w, i32_w]
        rfl
       refine take_ (i := 3) (N := some 117) (v := ?_) (a' := ?_) #[true, true, true, true, true, false, false, false, false, false, false] rfl rfl (by kernel_rfl) (fun _ _ _ h => h) (Or.inl ⟨by rfl, ?_⟩) hHeld ?_ ?_
       rotate_left
       ·rintro w' ⟨s0, s1, s2, s3, s4, s5, s6, s7⟩
        go_simp
        with_reducible rfl
       rotate_left
       ·simp only [Act.put, List.setIfInBounds_toArray, List.set_cons_zero, List.set_cons_succ, i64_w, i32_w]
        rfl
       refine pure_ (i := 5) (N := some 119) (v := ?_) (a' := ?_) #[true, true, true, true, true, true, false, false, false, false, false] rfl rfl (by kernel_rfl) (fun _ _ _ h => h) (Or.inl ⟨by rfl, ?_⟩) ?_ ?_
       rotate_left
       ·intro w'
        go_simp
        with_reducible rfl
       rotate_left
       ·simp only [Act.put, List.setIfInBounds_toArray, List.set_cons_zero, List.set_cons_succ, i64_w, i32_w]
        rfl
       refine take_ (i := 6) (N := some 120) (v := ?_) (a' := ?_) #[true, true, true, true, true, true, true, false, false, false, false] rfl rfl (by kernel_rfl) (fun _ _ _ h => h) (Or.inl ⟨by rfl, ?_⟩) hHeld ?_ ?_
       rotate_left
       ·rintro w' ⟨s0, s1, s2, s3, s4, s5, s6, s7⟩
        go_simp
        with_reducible rfl
       rotate_left
       ·simp only [Act.put, List.setIfInBounds_toArray, List.set_cons_zero, List.set_cons_succ, i64_w, i32_w]
        rfl
       refine one_ (i := 7) (N := some 121) #[true, true, true, true, true, true, true, true, false, false, false] rfl rfl (by kernel_rfl) (by decide) (fun K hK => ?_)
       refine goes_ Tryd.func18 (by kernel_rfl) rfl #[.agg #[.int .i64 st, .int .u8 hd, .int .u8 sy, .slice A3 vs.length c3, .slice (some ad) rs.length c4], .agg #[.int .u8 x.f0, .int .i64 x.f1]] (by rfl) rfl rfl (by simp only [List.map_toArray, List.map_cons, List.map_nil]; rfl) ?_
       with_reducible refine (vivariumref10_told.calls 20 st hd sy A3 c3 vs (some ad) c4 rs x.f0 x.f1 Sx _ (Kd.C_below HV.out HPd.out.bel) HVc.out (Kd.C_below HR.out HPd.out.bel) HRc.out HXO.out).mono ?_
       rintro e w4 ⟨rfl, hb⟩
       have HP4 := Aside0.mk (RC.below HPd.out hb)
       have HX4 := Aside0.mk (blk_below HXd.out hb)
       have HB4 := Aside0.mk hb
       clear hb
       refine ⟨_, rfl, ?_⟩
       refine hK.out _ _ ⟨blk_cell HP4.out.box 0, blk_cell HP4.out.box 1, blk_cell HP4.out.box 2, blk_cell HP4.out.box 3, blk_cell HP4.out.box 4, blk_cell HX4.out 2, pw_cell_below (w := wq.drew) HB4.out m0, pw_cell_below (w := wq.drew) HB4.out m1⟩ (fun hHeld => ?_)
       clear hK K
       refine norm_ (a' := ?_) ?_ ?_
       rotate_left
       ·show Act.put _ (some 121) _ = _
        simp only [Act.put, List.setIfInBounds_toArray, List.set_cons_zero, List.set_cons_succ, i64_w, i32_w]
        rfl
       refine pure_ (i := 8) (N := some 122) (v := ?_) (a' := ?_) #[true, true, true, true, true, true, true, true, true, false, false] rfl rfl (by kernel_rfl) (fun _ _ _ h => h) (Or.inl ⟨by rfl, ?_⟩) ?_ ?_
       rotate_left
       ·intro w'
        go_simp
        with_reducible rfl
       rotate_left
       ·simp only [Act.put, List.setIfInBounds_toArray, List.set_cons_zero, List.set_cons_succ, i64_w, i32_w]
        rfl
       refine last_ (i := 9) (N := some 123) #[true, true, true, true, true, true, true, true, true, true, false] rfl rfl (by kernel_rfl) (by decide) (fun K hK => ?_)
       refine app_step (by rfl) (.tmp 114) (.tmp 122) rfl HP4.out ((⟨#[44]⟩ : ByteArray) ++ Sx) rfl rfl HLb.out ?_
       intro v5 w5 h1 h2
       have HP5 := Aside0.mk h1
       have HX5 := Aside0.mk (h2 _ _ _ _ HX4.out (by decide))
       clear h1 h2
       refine hK.out _ _ ?_
       clear hK K
       refine norm_ (a' := ?_) ?_ ?_
       rotate_left
       ·show Act.put _ (some 123) _ = _
        simp only [Act.put, List.setIfInBounds_toArray, List.set_cons_zero, List.set_cons_succ, i64_w, i32_w]
        rfl
       refine pure_ (i := 10) (N := some 7) (v := ?_) (a' := ?_) #[true, true, true, true, true, true, true, true, true, true, true] rfl rfl (by kernel_rfl) (fun _ _ _ h => h) (Or.inl ⟨by rfl, ?_⟩) ?_ ?_
       rotate_left
       ·intro w'
        go_simp
        with_reducible rfl
       rotate_left
       ·simp only [Act.put, List.setIfInBounds_toArray, List.set_cons_zero, List.set_cons_succ, i64_w, i32_w]
        rfl
       refine done_ (by kernel_rfl) ?_
       clear t0 t1 t2 t3 t4 y2 m0 m1 z1
       go_wp2
       go_roundw
       case rel => exact ⟨m + 1, by omega, by go_num, ⟨HP5.out.text (by rw [HTK.out]; simp [HTX.out])⟩, HX5⟩
       case measure => simp [intOf]; omega
      ·obtain rfl : m = r.f1.length := by omega
       have y3 : wq.cell? ⟨wr.heap.size, 3, none⟩ = some (.int .u8 r.f2.f0) := blk_cell HX.out 3
       have y4 : wq.cell? ⟨wr.heap.size, 4, none⟩ = some (.int .i64 r.f2.f1) := blk_cell HX.out 4
       have z1 : (9223372036854775807 < 1 + S2.size) = False := eq_false (by omega)
       have z2 : (9223372036854775807 < 1 + S2.size + 1) = False := eq_false (by omega)
       have HLd : Aside0 ((preL st hd sy vs rs vs.length j ++ (tellL vs r.f0 ++ (r.f1.take r.f1.length).flatMap fun x => 44 :: tellL vs x)).length + (((⟨#[44]⟩ : ByteArray) ++ S2) ++ (⟨#[10]⟩ : ByteArray)).size ≤ 140737488355328) := ⟨by
        rw [ByteArray.size_append, ByteArray.size_append, show (⟨#[44]⟩ : ByteArray).size = 1 from rfl, show (⟨#[10]⟩ : ByteArray).size = 1 from rfl]; omega⟩
       clear hrl hal hlq hml hm ht2
       go_wp2_with (first | (go_at_call 18; go_must (refine (vivariumref10_told.calls 20 st hd sy A3 c3 vs (some ad) c4 rs r.f2.f0 r.f2.f1 S2 _ (Kd.C_below HV.out HP.out.bel) HVc.out (Kd.C_below HR.out HP.out.bel) HRc.out HX2.out).mono ?_; rintro e w4 ⟨rfl, hb⟩; have HP4 := Aside0.mk (RC.below HP.out hb); clear hb)) | ((with_reducible refine gate_builtin (b := .append) (xs := #[.tmp 124, .tmp 130]) rfl ?_); at_builtin; go_must (refine app_str rfl (.tmp 124) (.tmp 130) rfl HP4.out (((⟨#[44]⟩ : ByteArray) ++ S2) ++ (⟨#[10]⟩ : ByteArray)) rfl rfl HLd.out ?_; intro vb5 w5 h1 h2; have HP5 := Aside0.mk h1; clear h1 h2)))
       go_roundw
       case rel => exact ⟨j + 1, by omega, by go_num, ⟨HP5.out.text (by rw [HPR.out, List.take_length]; simp [rowL, HTL.out.2])⟩⟩
       case measure => simp [intOf]; omega
    ·obtain rfl : j = rs.length := by omega
     have ht : preL st hd sy vs rs vs.length rs.length = textL st hd sy vs rs := by unfold preL textL; rw [List.take_length, List.take_length]
     have t4 : wr.cell? ⟨w.heap.size, 4, none⟩ = some (.slice A4 rs.length c4) := blk_cell HP.out.box 4
     rw [ht] at HP
     obtain ⟨X, hX⟩ : ∃ X, textL st hd sy vs rs = X := ⟨_, rfl⟩
     rw [hX] at HP
     have HXX := Aside0.mk hX
     have hxl : X.length ≤ 46000000 := by rw [← hX, ← ht]; exact HPL.out vs.length rs.length
     obtain ⟨Ax, cx, hvb⟩ := own_slice HP.out.own
     subst hvb
     have hcv := own_string (P := Tryd.prog) Tryd.underlying46 Tryd.underlying5 Tryd.underlying9 HP.out.own
     rw [str_bytesI] at hcv
     clear ht hX hlt hj
     by_cases hc : X.length ≤ 1048576
     ·have hc1 : ¬ (1048576 : Int) < ((bytesI X).length : Int) := by rw [bytesI_len]; omega
      have hc2 : decide (1048576 < (bytesI X).length) = false := decide_eq_false (by rw [bytesI_len]; omega)
      have HC := Aside0.mk hc
      clear hc
      go_wp2
      go_ret2
      exact ⟨by rw [HXX.out]; unfold resS; rw [if_pos HC.out]; rfl, HP.out.bel⟩
     ·have hc1 : (1048576 : Int) < ((bytesI X).length : Int) := by rw [bytesI_len]; omega
      have hc2 : decide (1048576 < (bytesI X).length) = true := decide_eq_true (by rw [bytesI_len]; omega)
      have HC := Aside0.mk hc
      clear hc
      go_wp2
      go_ret2
      exact ⟨by rw [HXX.out]; unfold resS; rw [if_neg HC.out]; rfl, HP.out.bel⟩
def vivariumref10_Print.f (k : Nat) (st hd sy : Int) (vs : List Vr) (rs : List Rw) : Option (ByteArray × Int) :=
 (vivariumref10_Check.f k st hd sy vs rs).bind fun e => if e = 0 then (if okTb st hd sy vs rs = true then some (if (textL st hd sy vs rs).length ≤ 1048576 then (⟨(textL st hd sy vs rs).toArray⟩, 0) else (⟨#[]⟩, 3)) else none) else some (⟨#[]⟩, e)
set_option maxHeartbeats 4000000 in
set_option maxRecDepth 100000 in
theorem vivariumref10_Print.calls (k : Nat) (st hd sy : Int) (A3 : Option Addr) (c3 : Nat) (vs : List Vr) (A4 : Option Addr) (c4 : Nat) (rs : List Rw) (r1 : ByteArray) (r2 : Int) (w : World) (hr3 : Kd.C k49 w A3 vs.length vs) (hc3 : vs.length ≤ c3) (hr4 : Kd.C k41 w A4 rs.length rs) (hc4 : rs.length ≤ c4)
  (h : vivariumref10_Print.f k st hd sy vs rs = some (r1, r2)) :
  Calls Tryd.prog 5 #[.agg #[.int .i64 st, .int .u8 hd, .int .u8 sy, .slice A3 vs.length c3, .slice A4 rs.length c4]] w fun e w' => e = .returned (.tuple #[.string r1, .int .i64 r2]) ∧ Below w.heap.size w w' := by
 unfold vivariumref10_Print.f at h
 replace h := Option.bind_eq_some_iff.1 h
 obtain ⟨e, he, h⟩ := h
 by_cases h0 : e = 0
 ·subst h0
  rw [if_pos rfl] at h
  by_cases hok : okTb st hd sy vs rs = true
  ·rw [if_pos hok] at h
   refine (rprint_walk k st hd sy A3 c3 vs A4 c4 rs w hr3 hc3 hr4 hc4 he hok).mono ?_
   rintro e w' ⟨rfl, hb⟩
   refine ⟨?_, hb⟩
   unfold resS
   by_cases hl : (textL st hd sy vs rs).length ≤ 1048576
   ·rw [if_pos hl] at h ⊢
    obtain ⟨rfl, rfl⟩ := Prod.mk.inj (Option.some.inj h)
    rfl
   ·rw [if_neg hl] at h ⊢
    obtain ⟨rfl, rfl⟩ := Prod.mk.inj (Option.some.inj h)
    rfl
  ·rw [if_neg hok] at h; cases h
 ·rw [if_neg h0] at h
  obtain ⟨rfl, rfl⟩ := Prod.mk.inj (Option.some.inj h)
  have HV := Aside0.mk hr3
  have HVc := Aside0.mk hc3
  have HR := Aside0.mk hr4
  have HRc := Aside0.mk hc4
  have HE := Aside0.mk he
  have h2b : (e == 0) = false := by rw [beq_eq_false_iff_ne]; exact h0
  have h2c : (e != 0) = true := bne_iff_ne.mpr h0
  clear hr3 hc3 hr4 hc4 he h0 h
  go_enter Tryd.func5, Tryd.ntmps5
  go_wp2_with (go_at_call 4; go_must ((with_reducible refine (vivariumref10_Check.calls k st hd sy A3 c3 vs A4 c4 rs e _ (Kd.C_alloc HV.out _) HVc.out (Kd.C_alloc HR.out _) HRc.out HE.out).mono ?_); rintro e' w1 ⟨rfl, hb1⟩; have ht1 := blk_below (blk_new w _) hb1; have HB1 := Aside0.mk (below_step (below_alloc (Below.refl w.heap.size w) (Obj.cells #[.int .i64 st, .int .u8 hd, .int .u8 sy, .slice A3 vs.length c3, .slice A4 rs.length c4] 25)) hb1); have HT1 := Aside0.mk ht1; clear ht1 hb1))
  go_ret2
  exact ⟨rfl, HB1.out⟩
end Go.Proofs.YtajhfkcmfmhnaaaDoor.P
end
section
set_option linter.unusedVariables false
namespace Go.Proofs.YtajhfkcmfmhnaaaDoor.L
open Go.RowKit Go.Proofs.YtajhfkcmfmhnaaaDoor.P Go.Proofs.YtajhfkcmfmhnaaaDoorW.PrintWords Go.Proofs.YtajhfkcmfmhnaaaDoorW.PrintLast Go.Proofs.YtajhfkcmfmhnaaaDoorW.PrintMore
theorem prints_both (nm : ByteArray → Bool) (hnm : ∀ s : ByteArray, s.size ≤ B47 → Evn (fun k => vivariumref10_isName.f k s) (nm s) ∧ Evn (fun k => table_named.f k s) (nm s && (s.toList != ([118, 97, 114] : List UInt8)))) (st hd sy : Int) (vs : List Vr) (rs : List Rw) (hw : WfTb st hd sy vs rs) (hv : vs.length ≤ B47) (hr : rs.length ≤ B47) :
  ∃ (e : Int) (q : ByteArray × Int), Evn (fun k => table_Check.f k st hd sy vs rs) e ∧ Evn (fun k => vivariumref10_Check.f k st hd sy vs rs) e ∧ Evn (fun k => table_Print.f k st hd sy vs rs) q ∧ Evn (fun k => vivariumref10_Print.f k st hd sy vs rs) q := by
 obtain ⟨e, e1, e2, e3⟩ := check_ev nm hnm st hd sy vs rs hw.sy0 hv hr (fun v h => ⟨(hw.vs_ v h).1, (hw.vs_ v h).2.1⟩) (fun r h => (hw.rs_ r h).2.2.1)
 by_cases c : e = 0
 ·have hok := ok_of (fun s h => (hnm s h).1) (e3.1 c) hw
  subst c
  refine ⟨0, (if (textL st hd sy vs rs).length ≤ 1048576 then (⟨(textL st hd sy vs rs).toArray⟩, 0) else (⟨#[]⟩, 3)), e1, e2, ?_, ?_⟩
  rotate_left
  ·unfold vivariumref10_Print.f
   refine Evn.bind e2 ?_
   exact Evn.congr (g' := fun _ => some (if (textL st hd sy vs rs).length ≤ 1048576 then (⟨(textL st hd sy vs rs).toArray⟩, 0) else (⟨#[]⟩, 3))) Evn.const (fun k => by rw [if_pos rfl, if_pos hok])
  ·unfold table_Print.f
   refine Evn.bind e1 ?_
   exact Evn.congr (g' := fun _ => some (if (textL st hd sy vs rs).length ≤ 1048576 then (⟨(textL st hd sy vs rs).toArray⟩, 0) else (⟨#[]⟩, 3))) Evn.const (fun k => by rw [if_pos rfl, if_pos hok])
 ·refine ⟨e, (⟨#[]⟩, e), e1, e2, ?_, ?_⟩
  ·unfold table_Print.f
   refine Evn.bind e1 ?_
   exact Evn.congr (g' := fun _ => some _) Evn.const (fun k => if_neg c)
  ·unfold vivariumref10_Print.f
   refine Evn.bind e2 ?_
   exact Evn.congr (g' := fun _ => some _) Evn.const (fun k => if_neg c)
set_option maxHeartbeats 8000000 in
set_option maxRecDepth 100000 in
theorem prints_law (k : Nat) (st hd sy : Int) (A0_3 : Option Addr) (c0_3 : Nat) (vs : List Vr) (A0_4 : Option Addr) (c0_4 : Nat) (rs : List Rw) (e0 : Int) (q1 : ByteArray) (q2 : Int) (w : World)
  (hr0_3 : Kd.C k49 w A0_3 vs.length vs) (hc0_3 : vs.length ≤ c0_3) (hr0_4 : Kd.C k41 w A0_4 rs.length rs) (hc0_4 : rs.length ≤ c0_4) (HTb_ : TabsOk w)
  (hC : vivariumref10_Check.f k st hd sy vs rs = some e0) (hD : table_Check.f k st hd sy vs rs = some e0) (hP : vivariumref10_Print.f k st hd sy vs rs = some (q1, q2)) (hQ : table_Print.f k st hd sy vs rs = some (q1, q2)) (hT : vivariumref10_Twin.f k st hd sy vs rs = some (st, hd, sy, vs, rs)) :
  Calls Tryd.prog 3 #[.agg #[.int .i64 st, .int .u8 hd, .int .u8 sy, .slice A0_3 vs.length c0_3, .slice A0_4 rs.length c0_4]] w fun e w' => e = .returned (.bool true) ∧ Below w.heap.size w w' := by
 have HV := Aside0.mk hr0_3
 have HVc := Aside0.mk hc0_3
 have HR := Aside0.mk hr0_4
 have HRc := Aside0.mk hc0_4
 have HTb := Aside0.mk HTb_
 have HC := Aside0.mk hC
 have HD := Aside0.mk hD
 have HP := Aside0.mk hP
 have HQ := Aside0.mk hQ
 have HT := Aside0.mk hT
 clear hr0_3 hc0_3 hr0_4 hc0_4 HTb_ hC hD hP hQ hT
 go_enter Tryd.func3, Tryd.ntmps3
 go_wp2_with fail
 obtain ⟨W0, hW0⟩ : ∃ W0, w.alloc (Obj.cells #[.int .i64 st, .int .u8 hd, .int .u8 sy, .slice A0_3 vs.length c0_3, .slice A0_4 rs.length c0_4] 25) = W0 := ⟨_, rfl⟩
 have HB0 : Aside0 (Below w.heap.size w W0) := ⟨by rw [← hW0]; exact below_alloc (Below.refl _ _) _⟩
 have HT0 : Aside0 (W0.heap[w.heap.size]? = some (.cells #[.int .i64 st, .int .u8 hd, .int .u8 sy, .slice A0_3 vs.length c0_3, .slice A0_4 rs.length c0_4] 25 (0, 0))) := ⟨by rw [← hW0]; exact blk_new _ _⟩
 rw [hW0]
 clear hW0
 go_at_call 4
 refine (vivariumref10_Check.calls k st hd sy A0_3 c0_3 vs A0_4 c0_4 rs e0 W0 (Kd.C_below HV.out HB0.out) HVc.out (Kd.C_below HR.out HB0.out) HRc.out HC.out).mono ?_
 rintro e w1 ⟨rfl, hb1⟩
 have HB1 := Aside0.mk (below_step HB0.out hb1)
 have HT1 := Aside0.mk (blk_below HT0.out hb1)
 clear hb1 HT0 HB0
 have t0 : w1.cell? ⟨w.heap.size, 0, none⟩ = some (.int .i64 st) := blk_cell HT1.out 0
 have t1 : w1.cell? ⟨w.heap.size, 1, none⟩ = some (.int .u8 hd) := blk_cell HT1.out 1
 have t2 : w1.cell? ⟨w.heap.size, 2, none⟩ = some (.int .u8 sy) := blk_cell HT1.out 2
 have t3 : w1.cell? ⟨w.heap.size, 3, none⟩ = some (.slice A0_3 vs.length c0_3) := blk_cell HT1.out 3
 have t4 : w1.cell? ⟨w.heap.size, 4, none⟩ = some (.slice A0_4 rs.length c0_4) := blk_cell HT1.out 4
 go_wp2_with fail
 refine (vivariumref10_Print.calls k st hd sy A0_3 c0_3 vs A0_4 c0_4 rs q1 q2 w1 (Kd.C_below HV.out HB1.out) HVc.out (Kd.C_below HR.out HB1.out) HRc.out HP.out).mono ?_
 rintro e w2 ⟨rfl, hb2⟩
 have HB2 := Aside0.mk (below_step HB1.out hb2)
 have HT2 := Aside0.mk (blk_below HT1.out hb2)
 clear t0 t1 t2 t3 t4 hb2 HT1 HB1
 have t0 : w2.cell? ⟨w.heap.size, 0, none⟩ = some (.int .i64 st) := blk_cell HT2.out 0
 have t1 : w2.cell? ⟨w.heap.size, 1, none⟩ = some (.int .u8 hd) := blk_cell HT2.out 1
 have t2 : w2.cell? ⟨w.heap.size, 2, none⟩ = some (.int .u8 sy) := blk_cell HT2.out 2
 have t3 : w2.cell? ⟨w.heap.size, 3, none⟩ = some (.slice A0_3 vs.length c0_3) := blk_cell HT2.out 3
 have t4 : w2.cell? ⟨w.heap.size, 4, none⟩ = some (.slice A0_4 rs.length c0_4) := blk_cell HT2.out 4
 go_wp2_with fail
 refine (vivariumref10_Twin.calls k st hd sy A0_3 c0_3 vs A0_4 c0_4 rs st hd sy vs rs w2 (Kd.C_below HV.out HB2.out) HVc.out (Kd.C_below HR.out HB2.out) HRc.out HT.out).mono ?_
 rintro e w3 ⟨v3, v4, rfl, hs3, hs4, hb3⟩
 obtain ⟨A1_3, c1_3, rfl⟩ := Kd.R_slice (Kd.S_R hs3)
 obtain ⟨A1_4, c1_4, rfl⟩ := Kd.R_slice (Kd.S_R hs4)
 have g3 := Kd.R_reads' (Kd.S_R hs3)
 have g4 := Kd.R_reads' (Kd.S_R hs4)
 have HB3 := Aside0.mk (below_step HB2.out hb3)
 have HT3 := Aside0.mk (blk_below HT2.out hb3)
 have HU3 := Aside0.mk g3.2.2
 have HU3c := Aside0.mk g3.2.1
 have HU4 := Aside0.mk g4.2.2
 have HU4c := Aside0.mk g4.2.1
 clear t0 t1 t2 t3 t4 hb3 HT2 HB2 hs3 hs4 g3 g4
 go_wp2_with fail
 obtain ⟨W4, hW4⟩ : ∃ W4, w3.alloc (Obj.cells #[.int .i64 st, .int .u8 hd, .int .u8 sy, .slice A1_3 vs.length c1_3, .slice A1_4 rs.length c1_4] 25) = W4 := ⟨_, rfl⟩
 have HB4 : Aside0 (Below w.heap.size w W4) := ⟨by rw [← hW4]; exact below_alloc HB3.out _⟩
 have HB34 : Aside0 (Below w3.heap.size w3 W4) := ⟨by rw [← hW4]; exact below_alloc (Below.refl _ _) _⟩
 have HT4 := Aside0.mk (blk_below HT3.out HB34.out)
 have HX4 : Aside0 (W4.heap[w3.heap.size]? = some (.cells #[.int .i64 st, .int .u8 hd, .int .u8 sy, .slice A1_3 vs.length c1_3, .slice A1_4 rs.length c1_4] 25 (0, 0))) := ⟨by rw [← hW4]; exact blk_new _ _⟩
 have HU34 := Aside0.mk (Kd.C_below HU3.out HB34.out)
 have HU44 := Aside0.mk (Kd.C_below HU4.out HB34.out)
 rw [hW4]
 clear hW4 HB34 HT3 HB3 HU3 HU4
 refine (table_Check.calls k st hd sy A1_3 c1_3 vs A1_4 c1_4 rs e0 W4 HU34.out HU3c.out HU44.out HU4c.out HD.out).mono ?_
 rintro e w6 ⟨rfl, hb6⟩
 have HB6 := Aside0.mk (below_step HB4.out hb6)
 have HT6 := Aside0.mk (blk_below HT4.out hb6)
 have HX6 := Aside0.mk (blk_below HX4.out hb6)
 have HU36 := Aside0.mk (Kd.C_below HU34.out hb6)
 have HU46 := Aside0.mk (Kd.C_below HU44.out hb6)
 clear hb6 HT4 HX4 HB4 HU34 HU44
 have x0 : w6.cell? ⟨w3.heap.size, 0, none⟩ = some (.int .i64 st) := blk_cell HX6.out 0
 have x1 : w6.cell? ⟨w3.heap.size, 1, none⟩ = some (.int .u8 hd) := blk_cell HX6.out 1
 have x2 : w6.cell? ⟨w3.heap.size, 2, none⟩ = some (.int .u8 sy) := blk_cell HX6.out 2
 have x3 : w6.cell? ⟨w3.heap.size, 3, none⟩ = some (.slice A1_3 vs.length c1_3) := blk_cell HX6.out 3
 have x4 : w6.cell? ⟨w3.heap.size, 4, none⟩ = some (.slice A1_4 rs.length c1_4) := blk_cell HX6.out 4
 go_wp2_with fail
 refine (table_Print.calls k st hd sy A1_3 c1_3 vs A1_4 c1_4 rs q1 q2 w6 HU36.out HU3c.out HU46.out HU4c.out HQ.out (tabs_below HTb.out HB6.out)).mono ?_
 rintro e w8 ⟨rfl, hb8⟩
 have HB8 := Aside0.mk (below_step HB6.out hb8)
 have HT8 := Aside0.mk (blk_below HT6.out hb8)
 have HX8 := Aside0.mk (blk_below HX6.out hb8)
 have HU38 := Aside0.mk (Kd.C_below HU36.out hb8)
 have HU48 := Aside0.mk (Kd.C_below HU46.out hb8)
 clear x0 x1 x2 x3 x4 hb8 HT6 HX6 HB6 HU36 HU46
 have x0 : w8.cell? ⟨w3.heap.size, 0, none⟩ = some (.int .i64 st) := blk_cell HX8.out 0
 have x1 : w8.cell? ⟨w3.heap.size, 1, none⟩ = some (.int .u8 hd) := blk_cell HX8.out 1
 have x2 : w8.cell? ⟨w3.heap.size, 2, none⟩ = some (.int .u8 sy) := blk_cell HX8.out 2
 have x3 : w8.cell? ⟨w3.heap.size, 3, none⟩ = some (.slice A1_3 vs.length c1_3) := blk_cell HX8.out 3
 have x4 : w8.cell? ⟨w3.heap.size, 4, none⟩ = some (.slice A1_4 rs.length c1_4) := blk_cell HX8.out 4
 have t0 : w8.cell? ⟨w.heap.size, 0, none⟩ = some (.int .i64 st) := blk_cell HT8.out 0
 have t1 : w8.cell? ⟨w.heap.size, 1, none⟩ = some (.int .u8 hd) := blk_cell HT8.out 1
 have t2 : w8.cell? ⟨w.heap.size, 2, none⟩ = some (.int .u8 sy) := blk_cell HT8.out 2
 have t3 : w8.cell? ⟨w.heap.size, 3, none⟩ = some (.slice A0_3 vs.length c0_3) := blk_cell HT8.out 3
 have t4 : w8.cell? ⟨w.heap.size, 4, none⟩ = some (.slice A0_4 rs.length c0_4) := blk_cell HT8.out 4
 go_wp2_with fail
 refine (vivariumref10_Same.calls st hd sy A1_3 c1_3 vs A1_4 c1_4 rs st hd sy A0_3 c0_3 vs A0_4 c0_4 rs true w8 HU38.out HU3c.out HU48.out HU4c.out (Kd.C_below HV.out HB8.out) HVc.out (Kd.C_below HR.out HB8.out) HRc.out (same_is _ _ _ _ _)).mono ?_
 rintro e w9 ⟨rfl, hb9⟩
 have HB9 := Aside0.mk (below_step HB8.out hb9)
 clear hb9 x0 x1 x2 x3 x4 t0 t1 t2 t3 t4
 go_wp2
 go_ret
 exact ⟨rfl, HB9.out⟩
end Go.Proofs.YtajhfkcmfmhnaaaDoor.L
end
section
namespace Go.Proofs.YtajhfkcmfmhnaaaDoor.L
open Go Go.RowKit Go.ChangeShapes Go.WideShapes Go.Deep Go.Proofs.YtajhfkcmfmhnaaaDoorW.PrintWords
section
variable {H : Type} {enc : TypeId × Value → H} {P : Program} {w : World} {base : Nat} {spare : Nat → Bool} {held : Bool}
def light (l : List Nat) : Prop := l.all (· ≤ reachBytes) = true
theorem light_app {a b : List Nat} (h : light (a ++ b)) : light a ∧ light b := by
 unfold light at h ⊢
 rw [List.all_append, Bool.and_eq_true] at h
 exact h
theorem light_cons {a : Nat} {b : List Nat} (h : light (a :: b)) : a ≤ reachBytes ∧ light b := by
 unfold light at h ⊢
 rw [List.all_cons, Bool.and_eq_true, decide_eq_true_eq] at h
 exact h
/-- Values of type t read as kind d, with Q. -/
def Opens {α : Type} (enc : TypeId × Value → H) (P : Program) (w : World) (base : Nat) (spare : Nat → Bool) (held : Bool) (t : TypeId) (d : Kd α) (Q : α → Prop) : Prop :=
 ∀ (n : Nat) (cs : List Value) (x : DataW H × List MemPlace), DataW.trod enc P w base spare held n t cs = some x → light (x.1.weights P t) → ∃ a, d.K w a cs ∧ Q a
theorem opens_int {t : TypeId} {k : IntKind} (ht : P.underlying t = some (.int k)) : Opens enc P w base spare held t (Kd.int k) (fun n => (Lit.int k n).wf = true) := by
 intro n cs x h _
 obtain ⟨a, rfl, rfl, hw⟩ := DataW.trod_int ht h
 exact ⟨a, rfl, hw⟩
theorem opens_string {t : TypeId} (ht : P.underlying t = some .string) : Opens enc P w base spare held t Kd.string (fun s => s.size ≤ 140737488351232) := by
 intro n cs x h hl
 obtain ⟨s, rfl, rfl, _⟩ := DataW.trod_string ht h
 refine ⟨s, rfl, ?_⟩
 have := (light_cons (show light [s.data.toList.length] from hl)).1
 rw [Array.length_toList] at this
 exact this
theorem opens_iso {α β : Type} {t : TypeId} {d : Kd α} {Q : α → Prop} (f : β → α) (g : α → β) (hfg : ∀ a, f (g a) = a) (h : Opens enc P w base spare held t d Q) : Opens enc P w base spare held t (Kd.iso d f) (fun b => Q (f b)) := by
 intro n cs x hx hl
 obtain ⟨a, hk, hq⟩ := h n cs x hx hl
 refine ⟨g a, ?_, ?_⟩
 ·show d.K w (f (g a)) cs
  rw [hfg]
  exact hk
 ·show Q (f (g a))
  rw [hfg]
  exact hq
theorem light_all {e : TypeId} : ∀ {l : List (DataW H)}, light (DataW.weightsAll P e l) → ∀ d ∈ l, light (d.weights P e)
 | [], _, d, hd => by simp at hd
 | a :: l, h, d, hd => by
  rw [DataW.weightsAll] at h
  obtain ⟨h1, h2⟩ := light_app h
  rcases List.mem_cons.1 hd with rfl | hd
  ·exact h1
  ·exact light_all h2 d hd
/-- A row, opened. -/
theorem opens_row {α : Type} {t e : TypeId} {d : Kd α} {Q : α → Prop} {B : Nat} (ht : P.underlying t = some (.slice e)) (hsz : P.cellsOf e = d.sz) (hB : P.bytesOf e = B) (hd : Opens enc P w base spare held e d Q) {n : Nat} {cs : List Value} {x : DataW H × List MemPlace} (h : DataW.trod enc P w base spare held n t cs = some x) (hl : light (x.1.weights P t)) :
  ∃ (A : Option Addr) (c : Nat) (xs : List α), cs = [.slice A xs.length c] ∧ xs.length ≤ c ∧ d.C w A xs.length xs ∧ (∀ a ∈ xs, Q a) ∧ xs.length * B ≤ 140737488351232 := by
 rcases open_slice ht h with ⟨rfl, rfl⟩ | ⟨a, len, cap, m, n', D, Pl, rfl, hb, hlc, hcm, hm, rfl, hi⟩
 ·exact ⟨none, 0, [], rfl, Nat.le_refl _, ⟨rfl, by rw [List.length_nil]; omega, fun h0 => absurd h0 (by simp)⟩, by simp, by simp⟩
 ·have hw : light ((((List.range len).map D).length + ((List.range (m - len)).map fun j => D (len + j)).length) * P.bytesOf e :: (DataW.weightsAll P e ((List.range len).map D) ++ DataW.weightsAll P e ((List.range (m - len)).map fun j => D (len + j)))) := by
   have hl2 := hl
   simp only [DataW.weights, ht] at hl2
   exact hl2
  obtain ⟨hw0, hw1⟩ := light_cons hw
  obtain ⟨hw2, _⟩ := light_app hw1
  have hlm : len ≤ m := by rw [hm]; split <;> omega
  have hel : ∀ i, i < len → ∃ a', ∃ cs', w.cells? base (a.add (i * P.cellsOf e)) (P.cellsOf e) = some cs' ∧ d.K w a' cs' ∧ Q a' := fun i hil => by
   obtain ⟨cs', h1, h2⟩ := hi i (by omega)
   obtain ⟨a', h3, h4⟩ := hd _ _ _ h2 (light_all hw2 _ (List.mem_map.2 ⟨i, List.mem_range.2 hil, rfl⟩))
   exact ⟨a', cs', h1, h3, h4⟩
  have hxs : ∀ k, k ≤ len → ∃ xs : List α, xs.length = k ∧ ∀ i p, xs[i]? = some p → ∃ cs', w.cells? base (a.add (i * P.cellsOf e)) (P.cellsOf e) = some cs' ∧ d.K w p cs' ∧ Q p := by
   intro k
   induction k with
   | zero => exact fun _ => ⟨[], rfl, fun i p hp => by simp at hp⟩
   | succ k ih =>
    intro hk
    obtain ⟨xs, h1, h2⟩ := ih (by omega)
    obtain ⟨a', cs', h3⟩ := hel k (by omega)
    refine ⟨xs ++ [a'], by rw [List.length_append, List.length_singleton, h1], fun i p hp => ?_⟩
    by_cases c : i < xs.length
    ·rw [List.getElem?_append_left c] at hp
     exact h2 i p hp
    ·rw [List.getElem?_append_right (by omega)] at hp
     have hi0 : i - xs.length = 0 := by
      by_cases c0 : i - xs.length = 0
      ·exact c0
      ·rw [List.getElem?_eq_none (by rw [List.length_singleton]; omega)] at hp
       cases hp
     rw [hi0] at hp
     have : i = k := by omega
     subst this
     cases hp
     exact ⟨cs', h3⟩
  obtain ⟨xs, hx1, hx2⟩ := hxs len (Nat.le_refl _)
  subst hx1
  refine ⟨some a, cap, xs, rfl, hlc, ⟨rfl, by unfold maxLen at hcm; omega, fun _ => ⟨a, rfl, fun j p hp => ?_⟩⟩, fun p hp => ?_, ?_⟩
  ·obtain ⟨cs', h1, h2, _⟩ := hx2 j p hp
   obtain ⟨_, h4, h5⟩ := World.cells?_some h1
   refine ⟨cs', by rw [h4, hsz], h2, fun i u hu => ?_⟩
   have hil : i < P.cellsOf e := by rw [← h4]; exact (List.getElem?_eq_some_iff.1 hu).1
   have := h5 i hil
   rw [hu] at this
   rw [← hsz, ← Go.Deep.add_add, this]
  ·obtain ⟨i, hil, rfl⟩ := List.getElem_of_mem hp
   obtain ⟨_, _, _, hq⟩ := hx2 i _ (List.getElem?_eq_getElem hil)
   exact hq
  ·rw [List.length_map, List.length_range, hB] at hw0
   have : xs.length * B ≤ (xs.length + ((List.range (m - xs.length)).map fun j => D (xs.length + j)).length) * B := Nat.mul_le_mul (Nat.le_add_right _ _) (Nat.le_refl _)
   exact Nat.le_trans this hw0
theorem opens_slice {α : Type} {t e : TypeId} {d : Kd α} {Q : α → Prop} {B : Nat} (ht : P.underlying t = some (.slice e)) (hsz : P.cellsOf e = d.sz) (hB : P.bytesOf e = B) (hd : Opens enc P w base spare held e d Q) : Opens enc P w base spare held t (Kd.slice e d) (fun xs => (∀ a ∈ xs, Q a) ∧ xs.length * B ≤ 140737488351232) := by
 intro n cs x h hl
 obtain ⟨A, c, xs, h1, h2, h3, h4, h5⟩ := opens_row ht hsz hB hd h hl
 exact ⟨xs, ⟨A, c, h1, h2, h3⟩, h4, h5⟩
/-- The cells of fields that follow one another from a place on, read as kind d. -/
def OpensF {α : Type} (enc : TypeId × Value → H) (P : Program) (w : World) (base : Nat) (spare : Nat → Bool) (held : Bool) (fs : List Field) (off : Nat) (d : Kd α) (Q : α → Prop) : Prop :=
 ∀ (n : Nat) (cs : List Value) (xs : List (DataW H × List MemPlace)), cs.length = off + d.sz → xs.length = fs.length → (∀ (i : Nat) (f : Field), fs[i]? = some f → DataW.trod enc P w base spare held n f.type ((cs.drop f.offset).take (P.cellsOf f.type)) = xs[i]?) → light (DataW.weightsEach P (fs.map (·.type)) (xs.map (·.1))) → ∃ a, d.K w a (cs.drop off) ∧ Q a
theorem opensF_one {α : Type} {f : Field} {off : Nat} {d : Kd α} {Q : α → Prop} (ho : f.offset = off) (hs : P.cellsOf f.type = d.sz) (h : Opens enc P w base spare held f.type d Q) : OpensF enc P w base spare held [f] off d Q := by
 intro n cs xs hc hx ht hl
 match xs, hx with
 | [x], _ =>
  have h0 := ht 0 f rfl
  rw [ho, hs, List.take_of_length_le (by rw [List.length_drop]; omega)] at h0
  simp only [List.map_cons, List.map_nil, DataW.weightsEach, List.append_nil] at hl
  exact h n _ x h0 hl
theorem opensF_cons {α β : Type} {f : Field} {fs : List Field} {off : Nat} {d : Kd α} {d2 : Kd β} {Q : α → Prop} {Q2 : β → Prop} (ho : f.offset = off) (hs : P.cellsOf f.type = d.sz) (h : Opens enc P w base spare held f.type d Q) (h2 : OpensF enc P w base spare held fs (off + d.sz) d2 Q2) : OpensF enc P w base spare held (f :: fs) off (Kd.pair d d2) (fun x => Q x.1 ∧ Q2 x.2) := by
 intro n cs xs hc hx ht hl
 have hc' : cs.length = off + (d.sz + d2.sz) := hc
 match xs, hx with
 | x :: xs, hx =>
  have h0 := ht 0 f rfl
  rw [ho, hs] at h0
  simp only [List.map_cons, DataW.weightsEach] at hl
  obtain ⟨l1, l2⟩ := light_app hl
  obtain ⟨a, hk, hq⟩ := h n _ x h0 l1
  obtain ⟨b, hk2, hq2⟩ := h2 n cs xs (by omega) (by simpa using hx) (fun i g hg => ht (i + 1) g (by simpa using hg)) l2
  refine ⟨(a, b), ⟨_, _, ?_, hk, hk2⟩, hq, hq2⟩
  rw [← List.drop_drop, List.take_append_drop]
theorem opens_struct {α : Type} {t : TypeId} {fs : Array Field} {d : Kd α} {Q : α → Prop} (ht : P.underlying t = some (.struct fs)) (hs : P.cellsOf t = d.sz) (h : OpensF enc P w base spare held fs.toList 0 d Q) : Opens enc P w base spare held t d Q := by
 intro n cs x hx hl
 obtain ⟨xs, n', _, rfl, hlen, hxl, hf⟩ := DataW.trod_struct ht hx
 have hw : light (DataW.weightsEach P (fs.toList.map (·.type)) (xs.map (·.1))) := by
  have hl2 := hl
  simp only [DataW.weights, ht] at hl2
  exact hl2
 obtain ⟨a, hk, hq⟩ := h n' cs xs (by rw [hlen, hs, Nat.zero_add]) (by rw [hxl, Array.length_toList]) (fun i f hf' => hf i f (by rw [← Array.getElem?_toList]; exact hf')) hw
 rw [List.drop_zero] at hk
 exact ⟨a, hk, hq⟩
/-- A parameter's weights. -/
theorem light_at {ts : List TypeId} {ds : List (DataW H)} (h : (DataW.weightsEach P ts ds).all (· ≤ reachBytes) = true) {j : Nat} {t : TypeId} {d : DataW H} (ht : ts[j]? = some t) (hd : ds[j]? = some d) : light (d.weights P t) :=
 List.all_eq_true.2 fun n hn => List.all_eq_true.1 h n (DataW.weights_mem_each ht hd n hn)
/-- A struct by value, opened. -/
theorem open_agg {r : Reach} {b0 : Nat} {α : Type} {t : TypeId} {fs : Array Field} {k : Kd α} {Q : α → Prop} {v : Value} {d : DataW H} {p : List MemPlace} (enc : TypeId × Value → H) (hs : P.underlying t = some (.struct fs)) (hO : Opens (H := H) enc P w base spare held t k Q) (hv : Value.okWide P w r b0 t v) (h : DataW.Trod enc P w base spare held t v d p) (hl : light (d.weights P t)) :
  ∃ (a : α) (cs : List Value), v = .agg cs.toArray ∧ k.K w a cs ∧ Q a := by
 obtain ⟨cs, rfl, _⟩ := okWide_struct hs hv
 obtain ⟨fuel, hf⟩ := h
 obtain ⟨a, hk, hq⟩ := hO fuel _ _ hf hl
 exact ⟨a, cs.toList, rfl, by simpa [Value.cells] using hk, hq⟩
end
end Go.Proofs.YtajhfkcmfmhnaaaDoor.L
end
section
namespace Go.Proofs.YtajhfkcmfmhnaaaDoor.L
open Go Go.RowKit Go.ChangeShapes Go.WideShapes Go.Proofs.YtajhfkcmfmhnaaaDoor.P Go.Proofs.YtajhfkcmfmhnaaaDoorW.PrintWords
theorem cellsTb : Tryd.prog.cellsOf 25 = 5 := by kernel_rfl
theorem cellsVr : Tryd.prog.cellsOf 49 = 2 := by kernel_rfl
theorem cellsTm : Tryd.prog.cellsOf 38 = 2 := by kernel_rfl
theorem cellsRw : Tryd.prog.cellsOf 41 = 5 := by kernel_rfl
theorem bytesVr : Tryd.prog.bytesOf 49 = 40 := by kernel_rfl
theorem bytesTm : Tryd.prog.bytesOf 38 = 16 := by kernel_rfl
theorem bytesRw : Tryd.prog.bytesOf 41 = 56 := by kernel_rfl
theorem bytesU8 : Tryd.prog.bytesOf 5 = 1 := by kernel_rfl
theorem cellsI : Tryd.prog.cellsOf 3 = 1 := by kernel_rfl
theorem cellsU : Tryd.prog.cellsOf 5 = 1 := by kernel_rfl
theorem cellsS : Tryd.prog.cellsOf 9 = 1 := by kernel_rfl
theorem cellsB : Tryd.prog.cellsOf 46 = 1 := by kernel_rfl
theorem cellsVs : Tryd.prog.cellsOf 22 = 1 := by kernel_rfl
theorem cellsRs : Tryd.prog.cellsOf 23 = 1 := by kernel_rfl
theorem cellsTs : Tryd.prog.cellsOf 39 = 1 := by kernel_rfl
section
variable {H : Type} {enc : TypeId × Value → H} {w : World} {base : Nat} {spare : Nat → Bool} {held : Bool}
def wfT (x : Tm) : Prop := (Lit.int .u8 x.f0).wf = true ∧ (Lit.int .i64 x.f1).wf = true
def wfV (v : Vr) : Prop := v.f0.size ≤ 140737488351232 ∧ (∀ s ∈ v.f1, (Lit.int .u8 s).wf = true) ∧ v.f1.length * 1 ≤ 140737488351232
def wfR (r : Rw) : Prop := wfT r.f0 ∧ ((∀ x ∈ r.f1, wfT x) ∧ r.f1.length * 16 ≤ 140737488351232) ∧ wfT r.f2
theorem opens_term : Opens enc Tryd.prog w base spare held 38 k38 wfT := by
 have h3 := opensF_cons (enc := enc) (w := w) (base := base) (spare := spare) (held := held) (f := ⟨"State", 5, 0, false, "", "", 0⟩) rfl cellsU (opens_int Tryd.underlying5) (opensF_one (off := 1) (f := ⟨"Var", 3, 1, false, "", "", 8⟩) rfl cellsI (opens_int Tryd.underlying3))
 exact opens_iso (fun x : Tm => (x.f0, x.f1)) (fun a => ⟨a.1, a.2⟩) (fun _ => rfl) (opens_struct Tryd.underlying38 cellsTm h3)
theorem opens_var : Opens enc Tryd.prog w base spare held 49 k49 wfV := by
 have h3 := opensF_cons (enc := enc) (w := w) (base := base) (spare := spare) (held := held) (f := ⟨"Name", 9, 0, false, "", "", 0⟩) rfl cellsS (opens_string Tryd.underlying9) (opensF_one (off := 1) (f := ⟨"States", 46, 1, false, "", "", 16⟩) rfl cellsB (opens_slice Tryd.underlying46 cellsU bytesU8 (opens_int Tryd.underlying5)))
 exact opens_iso (fun x : Vr => (x.f0, x.f1)) (fun a => ⟨a.1, a.2⟩) (fun _ => rfl) (opens_struct Tryd.underlying49 cellsVr h3)
theorem opens_trans : Opens enc Tryd.prog w base spare held 41 k41 wfR := by
 have h3 := opensF_cons (enc := enc) (w := w) (base := base) (spare := spare) (held := held) (f := ⟨"Centre", 38, 0, false, "", "", 0⟩) rfl cellsTm opens_term (opensF_cons (off := 2) (f := ⟨"Around", 39, 2, false, "", "", 16⟩) rfl cellsTs (opens_slice Tryd.underlying39 cellsTm bytesTm opens_term) (opensF_one (off := 3) (f := ⟨"Out", 38, 3, false, "", "", 40⟩) rfl cellsTm opens_term))
 exact opens_iso (fun x : Rw => (x.f0, x.f1, x.f2)) (fun a => ⟨a.1, a.2.1, a.2.2⟩) (fun _ => rfl) (opens_struct Tryd.underlying41 cellsRw h3)
/-- A table's parts. -/
structure Tb where
 st : Int
 hd : Int
 sy : Int
 vs : List Vr
 rs : List Rw
def kTb : Kd Tb := Kd.iso (Kd.pair (Kd.int .i64) (Kd.pair (Kd.int .u8) (Kd.pair (Kd.int .u8) (Kd.pair (Kd.slice 49 k49) (Kd.slice 41 k41))))) (fun x : Tb => (x.st, x.hd, x.sy, x.vs, x.rs))
def wfTb (t : Tb) : Prop := (Lit.int .i64 t.st).wf = true ∧ (Lit.int .u8 t.hd).wf = true ∧ (Lit.int .u8 t.sy).wf = true ∧ ((∀ v ∈ t.vs, wfV v) ∧ t.vs.length * 40 ≤ 140737488351232) ∧ ((∀ r ∈ t.rs, wfR r) ∧ t.rs.length * 56 ≤ 140737488351232)
theorem opens_table : Opens enc Tryd.prog w base spare held 25 kTb wfTb := by
 have h3 := opensF_cons (enc := enc) (w := w) (base := base) (spare := spare) (held := held) (f := ⟨"States", 3, 0, false, "", "", 0⟩) rfl cellsI (opens_int Tryd.underlying3) (opensF_cons (off := 1) (f := ⟨"Hood", 5, 1, false, "", "", 8⟩) rfl cellsU (opens_int Tryd.underlying5) (opensF_cons (off := 2) (f := ⟨"Symmetry", 5, 2, false, "", "", 9⟩) rfl cellsU (opens_int Tryd.underlying5) (opensF_cons (off := 3) (f := ⟨"Vars", 22, 3, false, "", "", 16⟩) rfl cellsVs (opens_slice Tryd.underlying22 cellsVr bytesVr opens_var) (opensF_one (off := 4) (f := ⟨"Rows", 23, 4, false, "", "", 40⟩) rfl cellsRs (opens_slice Tryd.underlying23 cellsRw bytesRw opens_trans)))))
 exact opens_iso (fun x : Tb => (x.st, x.hd, x.sy, x.vs, x.rs)) (fun a => ⟨a.1, a.2.1, a.2.2.1, a.2.2.2.1, a.2.2.2.2⟩) (fun _ => rfl) (opens_struct Tryd.underlying25 cellsTb h3)
set_option maxRecDepth 100000 in
/-- A table by value, opened. -/
theorem open_table {r : Reach} {b0 : Nat} {v : Value} {d : DataW H} {p : List MemPlace} (hv : Value.okWide Tryd.prog w r b0 25 v) (h : DataW.Trod enc Tryd.prog w base spare held 25 v d p) (hl : light (d.weights Tryd.prog 25)) :
  ∃ (t : Tb) (A3 : Option Addr) (c3 : Nat) (A4 : Option Addr) (c4 : Nat), v = .agg #[.int .i64 t.st, .int .u8 t.hd, .int .u8 t.sy, .slice A3 t.vs.length c3, .slice A4 t.rs.length c4] ∧ t.vs.length ≤ c3 ∧ t.rs.length ≤ c4 ∧ Kd.C k49 w A3 t.vs.length t.vs ∧ Kd.C k41 w A4 t.rs.length t.rs ∧ wfTb t := by
 obtain ⟨t, cs, rfl, hk, hq⟩ := open_agg enc Tryd.underlying25 opens_table hv h hl
 have HQ := Aside0.mk hq
 clear hq hl h hv
 obtain ⟨_, _, rfl, rfl, _, _, rfl, rfl, _, _, rfl, rfl, _, _, rfl, ⟨A3, c3, rfl, h3, h3c⟩, ⟨A4, c4, rfl, h4, h4c⟩⟩ := hk
 exact ⟨t, A3, c3, A4, c4, rfl, h3, h4, h3c, h4c, HQ.out⟩
end
end Go.Proofs.YtajhfkcmfmhnaaaDoor.L
end

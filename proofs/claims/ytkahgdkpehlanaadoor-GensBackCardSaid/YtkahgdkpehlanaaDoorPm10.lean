-- Written by a program of this session (wip/tools/mk.py) that runs the kit's printer; several functions' texts in one.
import Derived.Test.YtkahgdkpehlanaaDoorP0
import Derived.Test.YtkahgdkpehlanaaDoorPm9
import Derived.Test.YtkahgdkpehlanaaDoorExtLib
import Derived.Lib.SlBytesConst
import Derived.Deep.DeepMust
namespace Go.Proofs.YtkahgdkpehlanaaDoor.P
open Go.RowKit Go.Proofs.YtkahgdkpehlanaaDoorW.PrintWords Go.Proofs.YtkahgdkpehlanaaDoorW.PrintLast Go.Proofs.YtkahgdkpehlanaaDoorW.PrintMore
attribute [local go_sem] max2_int min2_int max_two min_two   -- for this text's walks alone
set_option linter.unusedVariables false
set_option linter.unusedSimpArgs false

/-! ### life_Print: function 42 -/
-- EXT Derived.Test.@NExtLib Derived.Lib.SlBytesConst Derived.Deep.DeepMust Derived.Test.@NP@F{vivarium/life.Check} Derived.Test.@NP@F{vivarium/life.digits}
open Go.Proofs.YtkahgdkpehlanaaDoor.L
def life_Print.tail (h : Int) (l : List Int) : List Int := if h = 2 then l ++ [86] else if h = 3 then l ++ [72] else l
def life_Print.f (k : Nat) (a0_0 : Int) (a0_1 : Int) (a0_2 : Int) : Option (ByteArray × Int) :=
 (life_Check.f a0_0 a0_1 a0_2).bind fun e => if e = 0 then (life_digits.f k [66] a0_1).bind fun d1 => if d1.length ≤ 1000 then (life_digits.f k (d1 ++ bytesOf ⟨#[47, 83]⟩) a0_2).bind fun d2 => if d2.length ≤ 1000 then some (strOfNums (life_Print.tail a0_0 d2), 0) else none else none else some (⟨#[]⟩, e)
theorem life_Print.mono : ∀ a0_0 a0_1 a0_2 k, LeO (life_Print.f k a0_0 a0_1 a0_2) (life_Print.f (k + 1) a0_0 a0_1 a0_2) := by
 intro a b c k
 unfold life_Print.f
 refine LeO.bind (LeO.refl _) (fun e => LeO.ite ?_ (LeO.refl _))
 refine LeO.bind (life_digits.mono _ _ _) (fun d1 => LeO.ite ?_ (LeO.refl _))
 exact LeO.bind (life_digits.mono _ _ _) (fun d2 => LeO.refl _)
theorem reads_of {W : World} {base e : Nat} {ok : Nat → Prop} {v : Value} {xs : List Int} (h : Kd.R (Kd.int .u8) e W base ok v xs) : ∃ A c, v = .slice A xs.length c ∧ xs.length ≤ c ∧ (Kd.int .u8).C W A xs.length xs := Kd.R_reads h
/-- The first digits are appended to a literal's row, which is full: it is handed back as it is, or copied. -/
def FirstRow (W : World) (base g : Nat) (v : Value) (l : List Int) : Prop := (v = .slice (some ⟨g, 0, none⟩) 1 1 ∧ l = [66] ∧ g < W.heap.size ∧ W.cell? ⟨g, 0, none⟩ = some (.int .u8 66)) ∨ (Kd.R (Kd.int .u8) 5 W base (fun _ => True) v l)
set_option maxHeartbeats 8000000 in
set_option maxRecDepth 100000 in
theorem digits_first (k : Nat) (g : Nat) (a1 : Int) (r : List Int) (w : World) (hg : g < w.heap.size) (hc : w.cell? ⟨g, 0, none⟩ = some (.int .u8 66)) (h : life_digits.f k [66] a1 = some r) :
  Calls Tryd.prog 69 #[.slice (some ⟨g, 0, none⟩) 1 1, .int .u16 a1] w fun e w' => ∃ v0, e = .returned v0 ∧ FirstRow w' w.heap.size g v0 r ∧ Below w.heap.size w w' := by
 have H' := Aside0.mk (show life_digits.l0 k [66] a1 0 = some r from h)
 have HG := Aside0.mk hg
 have HCC := Aside0.mk hc
 clear h hg hc
 go_enter Tryd.func69, Tryd.ntmps69
 go_wp2
 go_loopg [0, 1, 5] k (fun kq v0 v1 v5 w' => ∃ (x0 : List Int) (x1 : Int) (x5 : Int), v1 = .int .u16 x1 ∧ v5 = .int .u8 x5 ∧ Aside0 (life_digits.l0 kq x0 x1 x5 = some r) ∧ Aside0 (kq ≤ k) ∧ Aside0 (FirstRow w' w.heap.size g v0 x0) ∧ Aside0 (Below w.heap.size w w'))
 case atStart => exact ⟨[66], a1, 0, rfl, rfl, H', ⟨Nat.le_refl _⟩, ⟨.inl ⟨rfl, rfl, HG.out, HCC.out⟩⟩, ⟨Below.refl _ _⟩⟩
 case round =>
  clear H'
  obtain ⟨x0, x1, x5, rfl, rfl, HA, HK1, HF, HB⟩ := hrel
  cases gk with
  | zero => exact absurd HA.out (by simp [life_digits.l0])
  | succ k1 =>
   have H := HA.out
   clear HA
   simp only [life_digits.l0] at H
   by_cases c3 : x1 = 0
   ·rw [if_pos c3] at H
    have c3b0 : (x1 == 0) = true := beq_iff_eq.mpr c3
    have c3b1 : (x1 != 0) = false := bne_eq_false_iff_eq.mpr c3
    clear c3
    obtain rfl := Option.some.inj H
    go_wp2
    go_ret
    exact ⟨_, rfl, HF.out, HB.out⟩
   ·rw [if_neg c3] at H
    have c3b0 : (x1 == 0) = false := beq_eq_false_iff_ne.mpr c3
    have c3b1 : (x1 != 0) = true := bne_iff_ne.mpr c3
    by_cases c4 : (Go.bits .and .u16 x1 1) = 1
    ·rw [if_pos c4] at H
     have c4b0 : ((Go.bits .and .u16 x1 1) == 1) = true := beq_iff_eq.mpr c4
     have c4b1 : ((Go.bits .and .u16 x1 1) != 1) = false := bne_eq_false_iff_eq.mpr c4
     clear c4
     by_cases c5 : x0.length < 140737488355328
     ·rw [if_pos c5] at H
      have LM := Aside0.mk c5
      have H' := Aside0.mk H
      clear H c5
      rcases HF.out with ⟨rfl, rfl, hg2, hc2⟩ | hR
      ·have HG2 := Aside0.mk hg2
       have HC2 := Aside0.mk hc2
       clear hg2 hc2 HF
       obtain ⟨i0, hi0, hz0⟩ := Option.map_eq_some_iff.1 info5
       simp only [Prod.mk.injEq] at hz0
       have HI := Aside0.mk hi0
       have HZ := Aside0.mk hz0
       clear hi0 hz0
       go_wp2_with (((with_reducible refine gate_builtin (b := .append) (xs := #[.tmp 13, .tmp 16]) rfl ?_); at_builtin; go_must (refine wpList_append_grows _ rfl (.tmp 13) (.tmp 16) 106 rfl 5 i0 (.int .u8 0) 1 1 Tryd.underlying106 HI.out HZ.out.1 HZ.out.2.1 HZ.out.2.2 rfl (by decide) (some ⟨g, 0, none⟩) 1 1 [.int .u8 66] rfl (by simp) rfl ?aO ⟨wr.heap.size, 0, none⟩ 1 1 [.int .u8 ((48 + x5) % 256)] rfl rfl ?aN (by simp [Value.oneCell']) (by omega) (by simp [maxLen]) (by omega) ?_); (case aN => intro j u hj; cases j with | zero => (simp at hj; subst hj; exact blk_cell (blk_new _ _) 0) | succ j => simp at hj); (case aO => intro b hb j u hj; cases hb; cases j with | zero => (simp at hj; subst hj; exact (World.cell?_alloc_lt _ _ _ HG2.out).trans HC2.out) | succ j => simp at hj); intro v1 w1 ho hg; have n0 := Aside0.mk (Kd.R_of_own (enc := Value.int .u8) (h1 := fun _ => rfl) (xs := [66, (48 + x5) % 256]) (e := 5) (base := w.heap.size) (ok := fun _ => True) (own_less ho (by have := HB.out.size; simp; omega)) (fun _ _ => trivial)); have n1 := Aside0.mk ((below_alloc HB.out _).grown hg (by have := HB.out.size; simp; omega) (fun k e => by cases e)); clear HB ho hg))
       go_roundg k1
       case measure => have := HK1.out; omega
       case rel => exact ⟨_, _, _, rfl, rfl, H', ⟨by have := HK1.out; omega⟩, ⟨.inr n0.out⟩, n1⟩
      ·have HO := Aside0.mk hR
       clear hR HF
       go_wp2_with (((with_reducible refine gate_builtin (b := .append) (xs := #[.tmp 13, .tmp 16]) rfl ?_); at_builtin; go_must (refine Kd.R_append (Kd.int .u8) (w0 := w) w.heap.size rfl (.tmp 13) (.tmp 16) 106 5 (.int .u8 0) 1 rfl Tryd.underlying106 info5 rfl (by decide) (by omega) u0 x0 ((48 + x5) % 256) [.int .u8 ((48 + x5) % 256)] (fun _ => True) (fun _ => False) rfl rfl ?aP (fun _ hk => hk.elim) (fun _ _ => trivial) ?aO ?aB ?aS ?aL ?_); (case aP => exact rfl); (case aO => exact HO.out); (case aB => exact HB.out); (case aS => exact HB.out.size); (case aL => have := LM.out; omega); intro v1 w1 ho hb hg hat; have n0 := Aside0.mk ho; have n1 := Aside0.mk hb; clear HB HO ho hb hg hat))
       go_roundg k1
       case measure => have := HK1.out; omega
       case rel => exact ⟨_, _, _, rfl, rfl, H', ⟨by have := HK1.out; omega⟩, ⟨.inr n0.out⟩, n1⟩
     ·rw [if_neg c5] at H
      exact absurd H (by simp)
    ·rw [if_neg c4] at H
     have c4b0 : ((Go.bits .and .u16 x1 1) == 1) = false := beq_eq_false_iff_ne.mpr c4
     have c4b1 : ((Go.bits .and .u16 x1 1) != 1) = true := bne_iff_ne.mpr c4
     have H' := Aside0.mk H
     clear H
     go_wp2
     go_roundg k1
     case measure => have := HK1.out; omega
     case rel => exact ⟨_, _, _, rfl, rfl, H', ⟨by have := HK1.out; omega⟩, HF, HB⟩
theorem first_drew {W : World} {base g : Nat} {v : Value} {l : List Int} (h : FirstRow W base g v l) : FirstRow W.drew base g v l := by
 rcases h with ⟨a, b, c, d⟩ | h
 ·exact .inl ⟨a, b, c, d⟩
 ·exact .inr (Kd.R_drew h)
theorem first_str_step {P : Program} {ops : Array Oper} {o : Oper} {a : Act} {Q : Exit → Act → World → Prop} {Kc : Act → World → Prop} {w0 W : World} (base : Nat) (hw : Region.wanted o (yielded ops a.tmps) = true) (s x : Operand) (t u : TypeId)
  (ho : o.op = .call { callee := .builtin .append, args := #[s, x], argTypes := #[t, u] })
  (ht : P.underlying t = some (.slice 5)) (hu : P.underlying u = some .string) (hinfo : (P.info? 5).map (fun i => (i.zero, i.size, i.bytes)) = some (some (.int .u8 0), 1, 1))
  (v : Value) (xs : List Int) (gl g : Nat) (te : TypeId) (cs : Array Value) (hg : W.heap[g]? = some (.cells cs te (0, 0))) (hne : 5 ≠ te) (hs : a.eval s = v) (hx : a.eval x = .string ⟨#[47, 83]⟩)
  (HF : FirstRow W base gl v xs) (HB : Below base w0 W) (hbase : base ≤ W.heap.size) (hl : xs.length ≤ 1000)
  (h : ∀ v1 w1, Kd.R (Kd.int .u8) 5 w1 base (fun k => k ≠ g) v1 (xs ++ bytesOf ⟨#[47, 83]⟩) → Below base w0 w1 → w1.heap[g]? = some (.cells cs te (0, 0)) → W.heap.size ≤ w1.heap.size → Kc (a.put o.dst v1) w1) :
  if Region.wanted o (yielded ops a.tmps) = true then Oper.wp P o a W Kc Q else Kc (a.put o.dst undef) W := by
 rcases HF with ⟨rfl, rfl, hg2, hc2⟩ | hR
 ·obtain ⟨i0, hi, hzz⟩ := Option.map_eq_some_iff.1 hinfo
  simp only [Prod.mk.injEq] at hzz
  obtain ⟨hz0, hz1, hz2⟩ := hzz
  have hr := Lib.run_append_grow_string (P := P) W t u o.type 5 i0 (.int .u8 0) ht hu hi hz0 ⟨gl, 0, none⟩ 1 1 [.int .u8 66] (by rw [hz1]; rfl) (fun j v hj => by cases j with | zero => (simp at hj; subst hj; exact hc2) | succ j => simp at hj) ⟨#[47, 83]⟩ (by decide) (by decide) (by rw [hz2]; decide)
  generalize hv1 : Value.slice (some ⟨W.heap.size, 0, none⟩) (1 + (⟨#[47, 83]⟩ : ByteArray).size) (grownCap W (1 + (⟨#[47, 83]⟩ : ByteArray).size) 1 5) = v1 at hr
  generalize hw1 : W.drew.alloc (.cells ([Value.int .u8 66].toArray ++ (Lib.strCells ⟨#[47, 83]⟩).toArray ++ Builtin.zeroCells (Value.int IntKind.u8 0).cells (grownCap W (1 + (⟨#[47, 83]⟩ : ByteArray).size) 1 5 - (1 + (⟨#[47, 83]⟩ : ByteArray).size))) 5) = w1 at hr
  have hge := grownCap_ge W 3 1 5
  have hcm : grownCap W 3 1 5 ≤ maxLen := grownCap_le_maxLen W 3 1 5 (by simp [maxLen])
  have hown : w1.ownsRow base 5 1 v1 ([66] ++ bytesOf ⟨#[47, 83]⟩).length (encs (Value.int .u8) ([66] ++ bytesOf ⟨#[47, 83]⟩)) := by
   rw [← hv1, ← hw1]
   refine ⟨rfl, .inr ⟨W.heap.size, _, _, rfl, hbase, heap_alloc_new W.drew _, hge, hcm, ?_, ?_⟩⟩
   ·have hz1 : (Value.int IntKind.u8 0).cells.size = 1 := rfl
    have h2 : (Lib.strCells ⟨#[47, 83]⟩).length = 2 := rfl
    have h3 : (⟨#[47, 83]⟩ : ByteArray).size = 2 := rfl
    have e3 : grownCap W (1 + 2) 1 5 = grownCap W 3 1 5 := rfl
    simp only [Array.size_append, List.size_toArray, size_zeroCells, hz1, h2, h3, e3, List.length_cons, List.length_nil]
    omega
   ·simp only [Array.toList_append, List.append_assoc]
    rfl
  have hg1 : w1.heap[g]? = some (.cells cs te (0, 0)) := by rw [← hw1]; exact blk_alloc (w := W.drew) hg _
  refine event_step hw ?_ (h v1 w1 (Kd.R_of_own (enc := Value.int .u8) (h1 := fun _ => rfl) hown (fun k hk e => own_ne hown hg1 hne (by rw [← e]; exact hk.symm))) (by rw [← hw1]; exact HB.drew.alloc hbase _) hg1 (by rw [← hw1]; simp))
  unfold execOp
  simp only [ho, resolve, invoke, builtin, Sem.run_bind, Sem.run_pure, Result.andThen_ok, List.map_toArray, List.map_cons, List.map_nil, hs, hx, hr]
 ·have hown := Kd.own_of_R (enc := Value.int .u8) (h1 := fun _ => rfl) hR
  exact append_str_step base hw s x t u 5 ho ht hu hinfo v xs ⟨#[47, 83]⟩ g te cs hg hne hs hx (Kd.R_of_own (enc := Value.int .u8) (h1 := fun _ => rfl) hown (fun k hk e => own_ne hown hg hne (by rw [← e]; exact hk.symm))) HB hbase (by have : (⟨#[47, 83]⟩ : ByteArray).size = 2 := rfl; omega) h
set_option maxHeartbeats 8000000 in
set_option maxRecDepth 100000 in
theorem life_Print.calls_no (a0_0 a0_1 a0_2 : Int) (e : Int) (w : World) (h : life_Check.f a0_0 a0_1 a0_2 = some e) (he : (e != 0) = true) :
  Calls Tryd.prog 42 #[.agg #[.int .u8 a0_0, .int .u16 a0_1, .int .u16 a0_2]] w fun e' w' => e' = .returned (.tuple #[.string ⟨#[]⟩, .int .i64 e]) ∧ Below w.heap.size w w' := by
 have HC := Aside0.mk h
 clear h
 go_enter Tryd.func42, Tryd.ntmps42
 go_wp2_with (go_at_call 45; refine (life_Check.calls a0_0 a0_1 a0_2 e _ HC.out).mono ?_; rintro e1 w1 ⟨rfl, hb⟩; have HB := Aside0.mk hb; clear hb)
 go_ret2
 exact ⟨rfl, below_step (below_alloc (Below.refl _ _) _) HB.out⟩
set_option maxHeartbeats 8000000 in
set_option maxRecDepth 100000 in
theorem life_Print.calls_yes (k : Nat) (a0_0 a0_1 a0_2 : Int) (d1 d2 : List Int) (w : World) (h : life_Check.f a0_0 a0_1 a0_2 = some 0) (h1 : life_digits.f k [66] a0_1 = some d1) (hl1 : d1.length ≤ 1000) (h2 : life_digits.f k (d1 ++ bytesOf ⟨#[47, 83]⟩) a0_2 = some d2) (hl2 : d2.length ≤ 1000) :
  Calls Tryd.prog 42 #[.agg #[.int .u8 a0_0, .int .u16 a0_1, .int .u16 a0_2]] w fun e' w' => e' = .returned (.tuple #[.string (strOfNums (life_Print.tail a0_0 d2)), .int .i64 0]) ∧ Below w.heap.size w w' := by
 have HC := Aside0.mk h
 have H1 := Aside0.mk h1
 have H2 := Aside0.mk h2
 have HL1 := Aside0.mk hl1
 have HL2 := Aside0.mk hl2
 clear h h1 h2 hl1 hl2
 have kc := fun (w : World) (C : Array Value) (n c : Nat) => Lib.run_convert_bytes_const (P := Tryd.prog) w 106 5 C n c Tryd.underlying106 Tryd.underlying5
 go_enter Tryd.func42, Tryd.ntmps42
 go_wp2_with (first | (go_at_call 45; refine (life_Check.calls a0_0 a0_1 a0_2 0 _ HC.out).mono ?_; rintro e1 w1 ⟨rfl, hb⟩; have HB := Aside0.mk (below_step (below_alloc (Below.refl w.heap.size w) _) hb); have hk : w1.heap[w.heap.size]? = some (.cells #[.int .u8 a0_0, .int .u16 a0_1, .int .u16 a0_2] 40 (0, 0)) := blk_below (blk_new w _) hb; have HG := Aside0.mk hk; have k1 : ∀ o : Obj, (w1.alloc o).cell? ⟨w.heap.size, 1, none⟩ = some (.int .u16 a0_1) := fun o => blk_cell (blk_alloc hk o) 1; clear hb hk) | (go_at_call 69; go_must (refine (digits_first k _ a0_1 d1 _ ?g1 ?g2 H1.out).mono ?_); (case g1 => simp); (case g2 => exact cell_of_row _ _ 0 _ _ _ (blk_new _ _)); rintro e2 w2 ⟨v0, rfl, hF, hb⟩; have HF := Aside0.mk hF; have HB2 := Aside0.mk (below_step (below_alloc HB.out _) hb); have hg2 := blk_below (blk_alloc HG.out _) hb; have HG2 := Aside0.mk hg2; have j0 := blk_cell hg2 0; have j2 := blk_cell hg2 2; have HBA := Aside0.mk hb; clear hF hb hg2 k1))
 obtain ⟨W0, hW0⟩ : ∃ W0, w1.alloc (Obj.cells #[.int .u8 66] 5 (1, 2)) = W0 := ⟨_, rfl⟩
 have HF2 : Aside0 (FirstRow w2.drew W0.heap.size w1.heap.size v0 d1) := ⟨by rw [← hW0]; exact first_drew HF.out⟩
 have HBA2 : Aside0 (Below W0.heap.size W0 w2.drew) := ⟨by rw [← hW0]; exact HBA.out.drew⟩
 have HW0 : Aside0 (Below w.heap.size w W0) := ⟨by rw [← hW0]; exact below_alloc HB.out _⟩
 clear HF HBA hW0 j0
 refine start_ (n := 6) (S := fun w' => w'.cell? ⟨w.heap.size, 2, none⟩ = some (.int .u16 a0_2)) (ds := [4]) #[false, false, false, false, false, false] (by kernel_rfl) rfl rfl (j2) (fun hHeld => ?_)
 refine pure_ (i := 0) (N := some 16) (v := ?_) (a' := ?_) #[true, false, false, false, false, false] rfl rfl (by kernel_rfl) (fun _ _ _ h => h) (Or.inl ⟨by rfl, ?_⟩) ?_ ?_
 rotate_left
 ·intro w'
  go_simp
  with_reducible rfl
 rotate_left
 ·simp only [Act.put, List.setIfInBounds_toArray, List.set_cons_zero, List.set_cons_succ, i64_w, i32_w]
  rfl
 refine pure_ (i := 2) (N := some 18) (v := ?_) (a' := ?_) #[true, false, true, false, false, false] rfl rfl (by kernel_rfl) (fun _ _ _ h => h) (Or.inl ⟨by rfl, ?_⟩) ?_ ?_
 rotate_left
 ·intro w'
  go_simp
  with_reducible rfl
 rotate_left
 ·simp only [Act.put, List.setIfInBounds_toArray, List.set_cons_zero, List.set_cons_succ, i64_w, i32_w]
  rfl
 refine take_ (i := 3) (N := some 19) (v := ?_) (a' := ?_) #[true, false, true, true, false, false] rfl rfl (by kernel_rfl) (fun _ _ _ h => h) (Or.inl ⟨by rfl, ?_⟩) hHeld ?_ ?_
 rotate_left
 ·intro w' s0
  go_simp
  with_reducible rfl
 rotate_left
 ·simp only [Act.put, List.setIfInBounds_toArray, List.set_cons_zero, List.set_cons_succ, i64_w, i32_w]
  rfl
 refine one_ (i := 1) (N := some 17) #[true, true, true, true, false, false] rfl rfl (by kernel_rfl) (by decide) (fun K hK => ?_)
 refine first_str_step (w0 := W0) W0.heap.size (by rfl) (.tmp 16) (.const (.string ⟨#[47, 83]⟩)) 106 9 rfl Tryd.underlying106 Tryd.underlying9 info5 v0 d1 w1.heap.size w.heap.size 40 _ HG2.out (by decide) rfl rfl HF2.out HBA2.out HBA2.out.size HL1.out ?_
 intro v1 w3 ho hb hg hsz
 have HO3 := Aside0.mk ho
 have HB3 := Aside0.mk hb
 have HG3 := Aside0.mk hg
 have HSZ3 := Aside0.mk hsz
 clear ho hb hg hsz
 refine hK.out _ _ (blk_cell HG3.out 2) (fun hHeld => ?_)
 clear hK K
 refine norm_ (a' := ?_) ?_ ?_
 rotate_left
 ·show Act.put _ (some 17) _ = _
  simp only [Act.put, List.setIfInBounds_toArray, List.set_cons_zero, List.set_cons_succ, i64_w, i32_w]
  rfl
 refine last_ (i := 4) (N := some 20) #[true, true, true, true, true, false] rfl rfl (by kernel_rfl) (by decide) (fun K hK => ?_)
 refine goes_ Tryd.func69 (by kernel_rfl) rfl #[v1, .int .u16 a0_2] (by rfl) rfl rfl (by simp only [List.map_toArray, List.map_cons, List.map_nil]; rfl) ?_
 with_reducible refine (life_digits.calls k (fun k => k ≠ w.heap.size) v1 (d1 ++ bytesOf ⟨#[47, 83]⟩) a0_2 d2 W0 w3 HB3.out HO3.out H2.out).mono ?_
 rintro e w4 ⟨v2, rfl, ho, hb, hk⟩
 have hg4 := blk_kept HG3.out hk (fun h => h rfl)
 have HG4 := Aside0.mk hg4
 have j4 := blk_cell hg4 0
 have HO4 := Aside0.mk (Kd.R_mono (ok' := fun _ => True) ho (fun _ _ => trivial))
 have HB4 := Aside0.mk (HW0.out.trans (hb.mono HW0.out.size))
 have HS4 : Aside0 (W0.heap.size ≤ w4.heap.size) := ⟨hb.size⟩
 have HB5 := Aside0.mk hb
 clear ho hb hk hg4
 refine ⟨_, rfl, ?_⟩
 refine hK.out _ _ ?_
 clear hK K
 refine norm_ (a' := ?_) ?_ ?_
 rotate_left
 ·show Act.put _ (some 20) _ = _
  simp only [Act.put, List.setIfInBounds_toArray, List.set_cons_zero, List.set_cons_succ, i64_w, i32_w]
  rfl
 refine pure_ (i := 5) (N := some 5) (v := ?_) (a' := ?_) #[true, true, true, true, true, true] rfl rfl (by kernel_rfl) (fun _ _ _ h => h) (Or.inl ⟨by rfl, ?_⟩) ?_ ?_
 rotate_left
 ·intro w'
  go_simp
  with_reducible rfl
 rotate_left
 ·simp only [Act.put, List.setIfInBounds_toArray, List.set_cons_zero, List.set_cons_succ, i64_w, i32_w]
  rfl
 refine done_ (by kernel_rfl) ?_
 have hL2 := HL2.out
 by_cases c2 : a0_0 = 2
 ·subst c2
  have HT : Aside0 (life_Print.tail 2 d2 = d2 ++ [86]) := ⟨rfl⟩
  go_wp2_with (((with_reducible refine gate_builtin (b := .append) (xs := #[.tmp 25, .tmp 26]) rfl ?_); at_builtin; go_must (refine Kd.R_append (Kd.int .u8) (w0 := W0) W0.heap.size rfl (.tmp 25) (.tmp 26) 106 5 (.int .u8 0) 1 rfl Tryd.underlying106 info5 rfl (by decide) (by omega) v2 d2 86 [.int .u8 86] (fun _ => True) (fun _ => False) rfl rfl ?aP (fun _ hk => hk.elim) (fun _ _ => trivial) ?aO ?aB ?aS ?aL ?_); (case aP => exact rfl); (case aO => exact HO4.out); (case aB => exact HB5.out); (case aS => exact HS4.out); (case aL => omega); intro v3 w5 ho hb hg hat; obtain ⟨A, c, rfl, hlc, hC⟩ := reads_of ho; have HC5 := Kd.C_string (P := Tryd.prog) (c := c) Tryd.underlying106 Tryd.underlying5 Tryd.underlying9 hC; generalize (d2 ++ [86]).length = n5 at HC5 ⊢; have HB6 := Aside0.mk hb; clear ho hb hg hat hlc hC))
  go_ret2
  exact ⟨by rw [HT.out]; rfl, HW0.out.trans (HB6.out.mono HW0.out.size)⟩
 ·have c2b : (a0_0 == 2) = false := beq_eq_false_iff_ne.mpr c2
  by_cases c3 : a0_0 = 3
  ·subst c3
   have HT : Aside0 (life_Print.tail 3 d2 = d2 ++ [72]) := ⟨rfl⟩
   go_wp2_with (((with_reducible refine gate_builtin (b := .append) (xs := #[.tmp 30, .tmp 31]) rfl ?_); at_builtin; go_must (refine Kd.R_append (Kd.int .u8) (w0 := W0) W0.heap.size rfl (.tmp 30) (.tmp 31) 106 5 (.int .u8 0) 1 rfl Tryd.underlying106 info5 rfl (by decide) (by omega) v2 d2 72 [.int .u8 72] (fun _ => True) (fun _ => False) rfl rfl ?aP (fun _ hk => hk.elim) (fun _ _ => trivial) ?aO ?aB ?aS ?aL ?_); (case aP => exact rfl); (case aO => exact HO4.out); (case aB => exact HB5.out); (case aS => exact HS4.out); (case aL => omega); intro v3 w5 ho hb hg hat; obtain ⟨A, c, rfl, hlc, hC⟩ := reads_of ho; have HC5 := Kd.C_string (P := Tryd.prog) (c := c) Tryd.underlying106 Tryd.underlying5 Tryd.underlying9 hC; generalize (d2 ++ [72]).length = n5 at HC5 ⊢; have HB6 := Aside0.mk hb; clear ho hb hg hat hlc hC))
   go_ret2
   exact ⟨by rw [HT.out]; rfl, HW0.out.trans (HB6.out.mono HW0.out.size)⟩
  ·have c3b : (a0_0 == 3) = false := beq_eq_false_iff_ne.mpr c3
   have HT : Aside0 (life_Print.tail a0_0 d2 = d2) := ⟨by unfold life_Print.tail; rw [if_neg c2, if_neg c3]⟩
   obtain ⟨A, c, rfl, hlc, hC⟩ := reads_of HO4.out
   have HC5 := Kd.C_string (P := Tryd.prog) (c := c) Tryd.underlying106 Tryd.underlying5 Tryd.underlying9 hC
   clear hlc hC c2 c3
   go_wp2
   go_ret2
   exact ⟨by rw [HT.out]; rfl, HB4.out⟩
theorem life_Print.calls (k : Nat) (a0_0 a0_1 a0_2 : Int) (r1 : ByteArray) (r2 : Int) (w : World) (h : life_Print.f k a0_0 a0_1 a0_2 = some (r1, r2)) :
  Calls Tryd.prog 42 #[.agg #[.int .u8 a0_0, .int .u16 a0_1, .int .u16 a0_2]] w fun e w' => e = .returned (.tuple #[.string r1, .int .i64 r2]) ∧ Below w.heap.size w w' := by
 unfold life_Print.f at h
 obtain ⟨e, he, h⟩ := Option.bind_eq_some_iff.mp h
 by_cases h0 : e = 0
 ·rw [if_pos h0] at h
  subst h0
  obtain ⟨d1, h1, h⟩ := Option.bind_eq_some_iff.mp h
  by_cases hl : d1.length ≤ 1000
  ·rw [if_pos hl] at h
   obtain ⟨d2, h2, h⟩ := Option.bind_eq_some_iff.mp h
   by_cases hl2 : d2.length ≤ 1000
   ·rw [if_pos hl2] at h
    obtain ⟨rfl, rfl⟩ := Prod.mk.inj (Option.some.inj h)
    exact life_Print.calls_yes k a0_0 a0_1 a0_2 d1 d2 w he h1 hl h2 hl2
   ·rw [if_neg hl2] at h
    exact absurd h (by simp)
  ·rw [if_neg hl] at h
   exact absurd h (by simp)
 ·rw [if_neg h0] at h
  obtain ⟨rfl, rfl⟩ := Prod.mk.inj (Option.some.inj h)
  exact life_Print.calls_no a0_0 a0_1 a0_2 e w he (bne_iff_ne.2 h0)

end Go.Proofs.YtkahgdkpehlanaaDoor.P

namespace Go.Proofs.YtkahgdkpehlanaaDoor.P
open Go.RowKit Go.Proofs.YtkahgdkpehlanaaDoorW.PrintWords Go.Proofs.YtkahgdkpehlanaaDoorW.PrintLast Go.Proofs.YtkahgdkpehlanaaDoorW.PrintMore
attribute [local go_sem] max2_int min2_int max_two min_two   -- for this text's walks alone
set_option linter.unusedVariables false
set_option linter.unusedSimpArgs false

/-! ### gens_Print: function 16 -/
def gens_Print.f (k : Nat) (a0_0 : Int) (a0_1 : Int) (a0_2 : Int) (a0_3 : Int) : Option (ByteArray × Int) := (gens_Check.f a0_0 a0_1 a0_2 a0_3).bind fun t207 => (if t207 = 0 then ((life_Print.f k a0_0 a0_1 a0_2).bind fun bt208 => (if bt208.1.size + 2 ≤ 9223372036854775807 then ((strconv_Itoa.f a0_3).bind fun t210 => (if bt208.1.size + 2 + t210.size ≤ 9223372036854775807 then (some ((bt208.1 ++ (⟨#[47, 67]⟩ : ByteArray)) ++ t210, bt208.2)) else (none))) else (none))) else (some ((⟨#[]⟩ : ByteArray), t207)))
theorem gens_Print.mono : ∀ a0 a1 a2 a3 k, LeO (gens_Print.f k a0 a1 a2 a3) (gens_Print.f (k + 1) a0 a1 a2 a3) := by
 intro a0 a1 a2 a3 k
 unfold gens_Print.f
 repeat' first
   | (with_reducible exact life_Print.mono _ _ _ _)
   | (with_reducible exact LeO.refl _)
   | (with_reducible exact LeO.none _)
   | (with_reducible refine LeO.ite ?_ ?_)
   | (with_reducible refine LeO.bind ?_ (fun _ => ?_))
   | exact life_Print.mono _ _ _ _
   | exact LeO.none _
   | refine LeO.ite ?_ ?_
   | refine LeO.bind ?_ (fun _ => ?_)
set_option maxHeartbeats 8000000 in
set_option maxRecDepth 100000 in
theorem gens_Print.calls (k : Nat) (a0_0 : Int) (a0_1 : Int) (a0_2 : Int) (a0_3 : Int) (r1 : ByteArray) (r2 : Int) (w : World) (h : gens_Print.f k a0_0 a0_1 a0_2 a0_3 = some (r1, r2)) (HTb_ : TabsOk w) :
  Calls Tryd.prog 16 #[.agg #[.int .u8 a0_0, .int .u16 a0_1, .int .u16 a0_2, .int .i64 a0_3]] w fun e w' => e = .returned (.tuple #[.string r1, .int .i64 r2]) ∧ Below w.heap.size w w' := by
 have HTb := Aside0.mk HTb_
 clear HTb_
 have hu42 := Tryd.underlying42
 have hu40 := Tryd.underlying40
 have HB := Aside0.mk (Below.refl w.heap.size w)
 have H : ((gens_Check.f a0_0 a0_1 a0_2 a0_3).bind fun t207 => (if t207 = 0 then ((life_Print.f k a0_0 a0_1 a0_2).bind fun bt208 => (if bt208.1.size + 2 ≤ 9223372036854775807 then ((strconv_Itoa.f a0_3).bind fun t210 => (if bt208.1.size + 2 + t210.size ≤ 9223372036854775807 then (some ((bt208.1 ++ (⟨#[47, 67]⟩ : ByteArray)) ++ t210, bt208.2)) else (none))) else (none))) else (some ((⟨#[]⟩ : ByteArray), t207)))) = some (r1, r2) := h
 clear h
 replace H := Option.bind_eq_some_iff.mp H
 obtain ⟨t207, A20, H⟩ := H
 replace H : (if t207 = 0 then ((life_Print.f k a0_0 a0_1 a0_2).bind fun bt208 => (if bt208.1.size + 2 ≤ 9223372036854775807 then ((strconv_Itoa.f a0_3).bind fun t210 => (if bt208.1.size + 2 + t210.size ≤ 9223372036854775807 then (some ((bt208.1 ++ (⟨#[47, 67]⟩ : ByteArray)) ++ t210, bt208.2)) else (none))) else (none))) else (some ((⟨#[]⟩ : ByteArray), t207))) = some (r1, r2) := H
 have A2 := Aside0.mk A20
 clear A20
 by_cases c3 : t207 = 0
 ·rw [if_pos c3] at H
  have c3b0 : (t207 == 0) = true := beq_iff_eq.mpr c3
  have c3b1 : (t207 != 0) = false := bne_eq_false_iff_eq.mpr c3
  clear c3
  replace H := Option.bind_eq_some_iff.mp H
  obtain ⟨⟨t208, t209⟩, A40, H⟩ := H
  replace H : (if t208.size + 2 ≤ 9223372036854775807 then ((strconv_Itoa.f a0_3).bind fun t210 => (if t208.size + 2 + t210.size ≤ 9223372036854775807 then (some ((t208 ++ (⟨#[47, 67]⟩ : ByteArray)) ++ t210, t209)) else (none))) else (none)) = some (r1, r2) := H
  have A4 := Aside0.mk A40
  clear A40
  by_cases c5 : t208.size + 2 ≤ 9223372036854775807
  ·rw [if_pos c5] at H
   have c5b0 := eq_true c5
   have c5b1 : decide (t208.size + 2 ≤ 9223372036854775807) = true := decide_eq_true c5
   try have c5b2 : (9223372036854775807 < t208.size + 2) = False := eq_false (Nat.not_lt.2 c5)
   replace H := Option.bind_eq_some_iff.mp H
   obtain ⟨t210, A60, H⟩ := H
   replace H : (if t208.size + 2 + t210.size ≤ 9223372036854775807 then (some ((t208 ++ (⟨#[47, 67]⟩ : ByteArray)) ++ t210, t209)) else (none)) = some (r1, r2) := H
   have A6 := Aside0.mk A60
   clear A60
   by_cases c7 : t208.size + 2 + t210.size ≤ 9223372036854775807
   ·rw [if_pos c7] at H
    have c7b0 := eq_true c7
    have c7b1 : decide (t208.size + 2 + t210.size ≤ 9223372036854775807) = true := decide_eq_true c7
    try have c7b2 : (9223372036854775807 < t208.size + 2 + t210.size) = False := eq_false (Nat.not_lt.2 c7)
    simp only [Option.some.injEq, Prod.mk.injEq] at H
    obtain ⟨rfl, rfl⟩ := H
    go_enter Tryd.func16, Tryd.ntmps16
    go_wp2_with (first | ((with_reducible refine gate_dst (N := 1) rfl ?_); refine box_event ?hg (N := 1) ?hd (cs := #[.int .u8 a0_0, .int .u16 a0_1, .int .u16 a0_2, .int .i64 a0_3]) (t := 42) ?hr ?_; (case hd => rfl); (case hg => rfl); (case hr => first | (go_simp; done) | (go_simp; rfl)); intro gb206 hg w8 hbox hb; have n0_ := Aside0.mk (below_step (by repeat (first | (with_reducible first | exact HB.out | apply below_alloc | apply pw_below_drewN | apply below_drew1) | exact HB.out)) hb); have n1_ := Aside0.mk (hbox); have n2_ := Aside0.mk ((by rw [hg]; exact (below_size (by repeat (first | (with_reducible first | exact HB.out | apply below_alloc | apply pw_below_drewN | apply below_drew1) | exact HB.out))) : w.heap.size ≤ gb206)); have n3_ := Aside0.mk ((by rw [hg]; exact (below_size (by repeat (first | (with_reducible first | exact HB.out | apply below_alloc | apply pw_below_drewN | apply below_drew1) | exact HB.out))) : w.heap.size ≤ gb206)); clear HB; have HB := n0_; have BK206 := n1_; have GW206 := n2_; have GE206 := n3_; clear n0_ n1_ n2_ n3_; clear hb hbox hg; have hcz9_0 : w8.cell? ⟨gb206, 0, none⟩ = some (.int .u8 a0_0) := (blk_cell BK206.out 0).trans rfl; have hcz9_1 : w8.cell? ⟨gb206, 1, none⟩ = some (.int .u16 a0_1) := (blk_cell BK206.out 1).trans rfl; have hcz9_2 : w8.cell? ⟨gb206, 2, none⟩ = some (.int .u16 a0_2) := (blk_cell BK206.out 2).trans rfl; have hcz9_3 : w8.cell? ⟨gb206, 3, none⟩ = some (.int .i64 a0_3) := (blk_cell BK206.out 3).trans rfl; have hfz9_0 := blk_frozen BK206.out 0; have hfz9_1 := blk_frozen BK206.out 1; have hfz9_2 := blk_frozen BK206.out 2; have hfz9_3 := blk_frozen BK206.out 3) | ((with_reducible refine gate_callee (f := 18) rfl ?_); refine goesL_ (some 8) rfl rfl Tryd.func18 (by kernel_rfl) rfl #[.agg #[.int .u8 a0_0, .int .u16 a0_1, .int .u16 a0_2, .int .i64 a0_3]] rfl (by (try simp only [List.map_toArray, List.map_cons, List.map_nil]); first | done | rfl | (simp only [List.length_drop, List.length_take]; rfl)) ?_; (with_reducible refine (gens_Check.calls a0_0 a0_1 a0_2 a0_3 t207 _ A2.out).mono ?_); rintro e w10 ⟨rfl, hb⟩; refine ⟨_, rfl, ?_⟩; have n0_ := Aside0.mk (blk_below (g := gb206) (o := .cells #[.int .u8 a0_0, .int .u16 a0_1, .int .u16 a0_2, .int .i64 a0_3] 42 (0, 0)) (by (with_reducible repeat (first | refine blk_drewN ?_ _ | refine blk_drew ?_ | refine blk_alloc ?_ _)); exact BK206.out) hb); have n1_ := Aside0.mk (below_step (by repeat (first | (with_reducible first | exact HB.out | apply below_alloc | apply pw_below_drewN | apply below_drew1 | refine below_set ?_ GE206.out) | exact HB.out)) hb); clear BK206; clear HB; have BK206 := n0_; have HB := n1_; clear n0_ n1_; (try clear hb); (try clear hb2); (try clear hk); (try clear hi); have hcz11_0 : w10.cell? ⟨gb206, 0, none⟩ = some (.int .u8 a0_0) := (blk_cell BK206.out 0).trans rfl; have hcz11_1 : w10.cell? ⟨gb206, 1, none⟩ = some (.int .u16 a0_1) := (blk_cell BK206.out 1).trans rfl; have hcz11_2 : w10.cell? ⟨gb206, 2, none⟩ = some (.int .u16 a0_2) := (blk_cell BK206.out 2).trans rfl; have hcz11_3 : w10.cell? ⟨gb206, 3, none⟩ = some (.int .i64 a0_3) := (blk_cell BK206.out 3).trans rfl; have hfz11_0 := blk_frozen BK206.out 0; have hfz11_1 := blk_frozen BK206.out 1; have hfz11_2 := blk_frozen BK206.out 2; have hfz11_3 := blk_frozen BK206.out 3) | ((with_reducible refine gate_callee (f := 42) rfl ?_); refine goesL_ (some 15) rfl rfl Tryd.func42 (by kernel_rfl) rfl #[.agg #[.int .u8 a0_0, .int .u16 a0_1, .int .u16 a0_2]] rfl (by (try simp only [List.map_toArray, List.map_cons, List.map_nil]); first | done | rfl | (simp only [List.length_drop, List.length_take]; rfl)) ?_; (with_reducible refine (life_Print.calls k a0_0 a0_1 a0_2 t208 t209 _ A4.out).mono ?_); rintro e w12 ⟨rfl, hb⟩; refine ⟨_, rfl, ?_⟩; have n0_ := Aside0.mk (blk_below (g := gb206) (o := .cells #[.int .u8 a0_0, .int .u16 a0_1, .int .u16 a0_2, .int .i64 a0_3] 42 (0, 0)) (by (with_reducible repeat (first | refine blk_drewN ?_ _ | refine blk_drew ?_ | refine blk_alloc ?_ _)); exact BK206.out) hb); have n1_ := Aside0.mk (below_step (by repeat (first | (with_reducible first | exact HB.out | apply below_alloc | apply pw_below_drewN | apply below_drew1 | refine below_set ?_ GE206.out) | exact HB.out)) hb); clear BK206; clear HB; have BK206 := n0_; have HB := n1_; clear n0_ n1_; (try clear hb); (try clear hb2); (try clear hk); (try clear hi); have hcz13_0 : w12.cell? ⟨gb206, 0, none⟩ = some (.int .u8 a0_0) := (blk_cell BK206.out 0).trans rfl; have hcz13_1 : w12.cell? ⟨gb206, 1, none⟩ = some (.int .u16 a0_1) := (blk_cell BK206.out 1).trans rfl; have hcz13_2 : w12.cell? ⟨gb206, 2, none⟩ = some (.int .u16 a0_2) := (blk_cell BK206.out 2).trans rfl; have hcz13_3 : w12.cell? ⟨gb206, 3, none⟩ = some (.int .i64 a0_3) := (blk_cell BK206.out 3).trans rfl; have hfz13_0 := blk_frozen BK206.out 0; have hfz13_1 := blk_frozen BK206.out 1; have hfz13_2 := blk_frozen BK206.out 2; have hfz13_3 := blk_frozen BK206.out 3) | ((with_reducible refine gate_callee (f := 10) rfl ?_); refine goesL_ (some 22) rfl rfl Tryd.func10 (by kernel_rfl) rfl #[.int .i64 a0_3] rfl (by (try simp only [List.map_toArray, List.map_cons, List.map_nil]); first | done | rfl | (simp only [List.length_drop, List.length_take]; rfl)) ?_; (with_reducible refine (strconv_Itoa.calls a0_3 t210 _ A6.out ?sidet).mono ?_); (case sidet => exact tabs_below HTb.out (by repeat (first | (with_reducible first | exact HB.out | apply below_alloc | apply pw_below_drewN | apply below_drew1 | refine below_set ?_ (Aside0.out (by assumption))) | exact HB.out))); rintro e w14 ⟨rfl, hb⟩; refine ⟨_, rfl, ?_⟩; have n0_ := Aside0.mk (blk_below (g := gb206) (o := .cells #[.int .u8 a0_0, .int .u16 a0_1, .int .u16 a0_2, .int .i64 a0_3] 42 (0, 0)) (by (with_reducible repeat (first | refine blk_drewN ?_ _ | refine blk_drew ?_ | refine blk_alloc ?_ _)); exact BK206.out) hb); have n1_ := Aside0.mk (below_step (by repeat (first | (with_reducible first | exact HB.out | apply below_alloc | apply pw_below_drewN | apply below_drew1 | refine below_set ?_ GE206.out) | exact HB.out)) hb); clear BK206; clear HB; have BK206 := n0_; have HB := n1_; clear n0_ n1_; (try clear hb); (try clear hb2); (try clear hk); (try clear hi)))
    go_ret2
    exact ⟨by first | rfl | (simp [errW_none, errW_some] <;> rfl) | (simp [*, errW_none, errW_some] <;> rfl), by repeat (first | (with_reducible first | exact HB.out | apply below_alloc | apply pw_below_drewN | apply below_drew1 | refine below_set ?_ GE206.out) | exact HB.out)⟩
   ·rw [if_neg c7] at H
    exact absurd H (by simp)
  ·rw [if_neg c5] at H
   exact absurd H (by simp)
 ·rw [if_neg c3] at H
  have c3b0 : (t207 == 0) = false := beq_eq_false_iff_ne.mpr c3
  have c3b1 : (t207 != 0) = true := bne_iff_ne.mpr c3
  simp only [Option.some.injEq, Prod.mk.injEq] at H
  obtain ⟨rfl, rfl⟩ := H
  go_enter Tryd.func16, Tryd.ntmps16
  go_wp2_with (first | ((with_reducible refine gate_dst (N := 1) rfl ?_); refine box_event ?hg (N := 1) ?hd (cs := #[.int .u8 a0_0, .int .u16 a0_1, .int .u16 a0_2, .int .i64 a0_3]) (t := 42) ?hr ?_; (case hd => rfl); (case hg => rfl); (case hr => first | (go_simp; done) | (go_simp; rfl)); intro gb206 hg w15 hbox hb; have n0_ := Aside0.mk (below_step (by repeat (first | (with_reducible first | exact HB.out | apply below_alloc | apply pw_below_drewN | apply below_drew1) | exact HB.out)) hb); have n1_ := Aside0.mk (hbox); have n2_ := Aside0.mk ((by rw [hg]; exact (below_size (by repeat (first | (with_reducible first | exact HB.out | apply below_alloc | apply pw_below_drewN | apply below_drew1) | exact HB.out))) : w.heap.size ≤ gb206)); have n3_ := Aside0.mk ((by rw [hg]; exact (below_size (by repeat (first | (with_reducible first | exact HB.out | apply below_alloc | apply pw_below_drewN | apply below_drew1) | exact HB.out))) : w.heap.size ≤ gb206)); clear HB; have HB := n0_; have BK206 := n1_; have GW206 := n2_; have GE206 := n3_; clear n0_ n1_ n2_ n3_; clear hb hbox hg; have hcz16_0 : w15.cell? ⟨gb206, 0, none⟩ = some (.int .u8 a0_0) := (blk_cell BK206.out 0).trans rfl; have hcz16_1 : w15.cell? ⟨gb206, 1, none⟩ = some (.int .u16 a0_1) := (blk_cell BK206.out 1).trans rfl; have hcz16_2 : w15.cell? ⟨gb206, 2, none⟩ = some (.int .u16 a0_2) := (blk_cell BK206.out 2).trans rfl; have hcz16_3 : w15.cell? ⟨gb206, 3, none⟩ = some (.int .i64 a0_3) := (blk_cell BK206.out 3).trans rfl; have hfz16_0 := blk_frozen BK206.out 0; have hfz16_1 := blk_frozen BK206.out 1; have hfz16_2 := blk_frozen BK206.out 2; have hfz16_3 := blk_frozen BK206.out 3) | ((with_reducible refine gate_callee (f := 18) rfl ?_); refine goesL_ (some 8) rfl rfl Tryd.func18 (by kernel_rfl) rfl #[.agg #[.int .u8 a0_0, .int .u16 a0_1, .int .u16 a0_2, .int .i64 a0_3]] rfl (by (try simp only [List.map_toArray, List.map_cons, List.map_nil]); first | done | rfl | (simp only [List.length_drop, List.length_take]; rfl)) ?_; (with_reducible refine (gens_Check.calls a0_0 a0_1 a0_2 a0_3 t207 _ A2.out).mono ?_); rintro e w17 ⟨rfl, hb⟩; refine ⟨_, rfl, ?_⟩; have n0_ := Aside0.mk (blk_below (g := gb206) (o := .cells #[.int .u8 a0_0, .int .u16 a0_1, .int .u16 a0_2, .int .i64 a0_3] 42 (0, 0)) (by (with_reducible repeat (first | refine blk_drewN ?_ _ | refine blk_drew ?_ | refine blk_alloc ?_ _)); exact BK206.out) hb); have n1_ := Aside0.mk (below_step (by repeat (first | (with_reducible first | exact HB.out | apply below_alloc | apply pw_below_drewN | apply below_drew1 | refine below_set ?_ GE206.out) | exact HB.out)) hb); clear BK206; clear HB; have BK206 := n0_; have HB := n1_; clear n0_ n1_; (try clear hb); (try clear hb2); (try clear hk); (try clear hi)))
  go_ret2
  exact ⟨by first | rfl | (simp [errW_none, errW_some] <;> rfl) | (simp [*, errW_none, errW_some] <;> rfl), by repeat (first | (with_reducible first | exact HB.out | apply below_alloc | apply pw_below_drewN | apply below_drew1 | refine below_set ?_ GE206.out) | exact HB.out)⟩

end Go.Proofs.YtkahgdkpehlanaaDoor.P

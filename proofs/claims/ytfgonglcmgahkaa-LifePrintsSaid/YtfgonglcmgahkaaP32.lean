-- Written by a program of this session (wip/tools/mk.py) that runs the kit's printer.
import Derived.Test.YtfgonglcmgahkaaP0
import Derived.Test.YtfgonglcmgahkaaP61
import Derived.Test.YtfgonglcmgahkaaP63
import Derived.Test.YtfgonglcmgahkaaP34
import Derived.Great.BuildSlice
import Derived.Deep.DeepMust
import Derived.Laws.CopyOwn
import Derived.Laws.BitsAllLaws
import Derived.Test.YtfgonglcmgahkaaExtLib
import Derived.Test.YtfgonglcmgahkaaP34
import Derived.Test.YtfgonglcmgahkaaP61
import Derived.Test.YtfgonglcmgahkaaP63
namespace Go.Proofs.Ytfgonglcmgahkaa.P
open Go.RowKit Go.Proofs.YtfgonglcmgahkaaW.PrintWords Go.Proofs.YtfgonglcmgahkaaW.PrintLast Go.Proofs.YtfgonglcmgahkaaW.PrintMore
attribute [local go_sem] max2_int min2_int max_two min_two max_three min_three max_four min_four   -- for this text's walks alone
set_option linter.unusedVariables false
set_option linter.unusedSimpArgs false

/-! ### vivariumref08_Turned: function 32 -/
-- EXT Derived.Great.BuildSlice Derived.Deep.DeepMust Derived.Laws.CopyOwn Derived.Laws.BitsAllLaws Derived.Test.@NExtLib Derived.Test.@NP@F{vivarium/vivariumref08.Check} Derived.Test.@NP@F{vivarium/vivariumref08.Greatest} Derived.Test.@NP@F{vivarium/vivariumref08.Bit}
open Go.Proofs.Ytfgonglcmgahkaa.L
def boolsT (m : Nat) : Array Value := #[.bool (m.testBit 0), .bool (m.testBit 1), .bool (m.testBit 2), .bool (m.testBit 3), .bool (m.testBit 4), .bool (m.testBit 5), .bool (m.testBit 6), .bool (m.testBit 7), .bool (m.testBit 8), .bool (m.testBit 9)]
theorem boolsT_at (m d : Nat) (hd : d ≤ 9) : (boolsT m)[d]? = some (.bool (m.testBit d)) := by
  obtain rfl | rfl | rfl | rfl | rfl | rfl | rfl | rfl | rfl | rfl : d = 0 ∨ d = 1 ∨ d = 2 ∨ d = 3 ∨ d = 4 ∨ d = 5 ∨ d = 6 ∨ d = 7 ∨ d = 8 ∨ d = 9 := by omega
  all_goals rfl
theorem boolsT_set (m d : Nat) (hd : d ≤ 9) : (boolsT m).setIfInBounds d (.bool true) = boolsT (m ||| 2 ^ d) := by
  unfold boolsT
  simp only [Nat.testBit_or, Nat.testBit_two_pow]
  obtain rfl | rfl | rfl | rfl | rfl | rfl | rfl | rfl | rfl | rfl : d = 0 ∨ d = 1 ∨ d = 2 ∨ d = 3 ∨ d = 4 ∨ d = 5 ∨ d = 6 ∨ d = 7 ∨ d = 8 ∨ d = 9 := by omega
  all_goals simp
theorem boolsT_one (m : Nat) : (boolsT m).all (·.oneCell') = true := by simp [boolsT, Value.oneCell']
theorem boolsT_info (m : Nat) : (Try.prog.info? 93).map (·.size) = some (boolsT m).size := by show _ = some 10; kernel_rfl
theorem boolsT_size (m m' : Nat) : (boolsT m).size = (boolsT m').size := by
  have h : ∀ n, (boolsT n).size = 10 := fun n => rfl
  rw [h, h]
theorem boolsT_zero : boolsT 0 = #[.bool false, .bool false, .bool false, .bool false, .bool false, .bool false, .bool false, .bool false, .bool false, .bool false] := by unfold boolsT; simp only [Nat.zero_testBit]
theorem boolsT_unset (m d : Nat) (hd : d ≤ 9) (h : m.testBit d = false) : (boolsT m).setIfInBounds d (.bool false) = boolsT m := by
  unfold boolsT
  obtain rfl | rfl | rfl | rfl | rfl | rfl | rfl | rfl | rfl | rfl : d = 0 ∨ d = 1 ∨ d = 2 ∨ d = 3 ∨ d = 4 ∨ d = 5 ∨ d = 6 ∨ d = 7 ∨ d = 8 ∨ d = 9 := by omega
  all_goals simp [h]
attribute [irreducible] boolsT
set_option maxHeartbeats 8000000 in
set_option maxRecDepth 100000 in
theorem number_callsT (m : Nat) (hm : m < 1024) (w : World) :
    Calls Try.prog 60 #[.agg (boolsT m)] w fun e w' => e = .returned (.int .u16 m) ∧ Below w.heap.size w w' := by
  go_enter Try.func60, Try.ntmps60
  go_wp2
  go_loopg [3, 4, 5] 10 (fun k t3 t4 t5 wi => ∃ i : Nat, i ≤ 10 ∧ Aside0 (k = 10 - i) ∧ t3 = .int .u16 ((m % 2 ^ i : Nat) : Int) ∧ t4 = .int .u16 ((2 ^ i : Nat) : Int) ∧ t5 = .int .i64 i ∧ Aside0 (Below w.heap.size w wi) ∧ Aside0 (wi.heap[w.heap.size]? = some (.cells (boolsT m) 93 (0, 0))))
  case atStart => exact ⟨0, by omega, ⟨rfl⟩, by rw [Nat.pow_zero, Nat.mod_one]; rfl, rfl, rfl, ⟨(Below.refl _ _).alloc (Nat.le_refl _) _⟩, ⟨blk_new _ _⟩⟩
  case round =>
    obtain ⟨i, hi, HK, rfl, rfl, rfl, HB, HL⟩ := hrel
    have i0 : (0 : Int) ≤ (i : Int) := by omega
    by_cases h : i < 10
    · have h' : (i : Int) < 10 := by omega
      have ki : wr.cell? ⟨w.heap.size, i, none⟩ = some (.bool (m.testBit i)) := (blk_cell HL.out _).trans (boolsT_at m _ (by omega))
      have hmod : m % 2 ^ (i + 1) = m % 2 ^ i + 2 ^ i * (m / 2 ^ i % 2) := Nat.mod_pow_succ
      have hpw : 2 ^ i < 2 ^ 10 := Nat.pow_lt_pow_right (by decide) h
      have hp2 : 2 ^ (i + 1) = 2 * 2 ^ i := by rw [Nat.pow_succ]; omega
      have hml : m % 2 ^ i < 2 ^ i := Nat.mod_lt _ (Nat.two_pow_pos i)
      have htb := Nat.testBit_eq_decide_div_mod_eq (x := m) (i := i)
      obtain ⟨z, hz⟩ : ∃ z, 2 ^ i = z := ⟨_, rfl⟩
      rw [hz] at hmod hpw hp2 hml htb ⊢
      obtain ⟨y, hy⟩ : ∃ y, m % z = y := ⟨_, rfl⟩
      rw [hy] at hmod hml ⊢
      have w1 : IntKind.u16.wrap ((y : Int) + (z : Int)) = ((y + z : Nat) : Int) := by rw [IntKind.wrap_u16]; omega
      have w2 : IntKind.u16.wrap (2 * (z : Int)) = ((2 * z : Nat) : Int) := by rw [IntKind.wrap_u16]; omega
      have w1' : ((y : Int) + (z : Int)) % 65536 = ((y + z : Nat) : Int) := by omega
      have w2' : (2 * (z : Int)) % 65536 = ((2 * z : Nat) : Int) := by omega
      have HMOD := Aside0.mk hmod
      have HP2 := Aside0.mk hp2
      clear hmod hp2 hml hz hy
      cases ht : m.testBit i with
      | true =>
        rw [ht] at ki
        have hd : m / z % 2 = 1 := of_decide_eq_true (htb.symm.trans ht)
        clear htb ht
        go_wp2
        go_roundg (9 - i)
        case measure => have := HK.out; omega
        case rel => exact ⟨i + 1, by omega, ⟨by omega⟩, by rw [HMOD.out, hd, Nat.mul_one]; rfl, by rw [HP2.out]; rfl, by go_num, HB, HL⟩
      | false =>
        rw [ht] at ki
        have hd : m / z % 2 = 0 := by
          have := of_decide_eq_false (htb.symm.trans ht)
          omega
        clear htb ht
        go_wp2
        go_roundg (9 - i)
        case measure => have := HK.out; omega
        case rel => exact ⟨i + 1, by omega, ⟨by omega⟩, by rw [HMOD.out, hd, Nat.mul_zero, Nat.add_zero], by rw [HP2.out]; rfl, by go_num, HB, HL⟩
    · obtain rfl : i = 10 := by omega
      have hmm : m % 2 ^ 10 = m := Nat.mod_eq_of_lt (by omega)
      rw [hmm]
      go_wp2
      go_ret
      exact ⟨rfl, HB.out⟩
theorem load_row_runT {P : Program} {o : Oper} {a : Act} {W : World} {ty : TypeId} {x : Operand} {g : Nat} {t : TypeId} {cs : Array Value} {fr : Nat × Nat} {d : TypeDesc} (ho : o.op = .load ty x) (hx : a.eval x = .pointer (some ⟨g, 0, none⟩)) (hg : W.heap[g]? = some (.cells cs t fr))
    (hu : P.underlying ty = some d) (hd : (match d with | .struct _ | .array _ _ => true | _ => false) = true) (hi : (P.info? ty).map (·.size) = some cs.size) : (execOp a.eval o).run P W = .ok (.value (.agg cs)) W := by
  unfold execOp
  simp only [ho, hx, Instr.loadAt, Instr.sureAddr, Sem.run_bind, Sem.run_pure, Result.andThen_ok, run_loadVar_row W g t ty cs fr d hg hu hd hi]
theorem store_row_stepT {P : Program} {ops : Array Oper} {o : Oper} {a : Act} {Q : Exit → Act → World → Prop} {Kc : Act → World → Prop} {W : World} (hw : Region.wanted o (yielded ops a.tmps) = true) (ty : TypeId) (x y : Operand) (ho : o.op = .store ty x y)
    (g : Nat) (cells : Array Value) (hx : a.eval x = .pointer (some ⟨g, 0, none⟩)) (hy : a.eval y = .agg cells) (t : TypeId) (old : Array Value) (hg : W.heap[g]? = some (.cells old t (0, 0))) (hi : (P.info? ty).map (·.size) = some cells.size)
    (hold : old.size = cells.size) (h1 : cells.all (·.oneCell') = true) (h : Kc (a.put o.dst undef) (W.setRow g cells)) : if Region.wanted o (yielded ops a.tmps) = true then Oper.wp P o a W Kc Q else Kc (a.put o.dst undef) W := by
  rw [if_pos hw]
  exact wp_store_row ty x y ho g cells hx hy t old hg hi hold h1 h
theorem blk_drawnT {w w' : World} {g : Nat} {o : Obj} (h : w.heap[g]? = some o) (hd : Drawn0 w w') : w'.heap[g]? = some o := by
  obtain ⟨n, rfl⟩ := hd
  exact h

def updT (m n : Nat) (t : Bool) : Nat := if t = true then m else m ||| 2 ^ n
theorem updT_put (m n : Nat) (t : Bool) (hn : n ≤ 9) (hm : m < 2 ^ n) : (boolsT m).setIfInBounds n (.bool (!t)) = boolsT (updT m n t) := by
  unfold updT
  cases t with
  | true => rw [if_pos rfl]; exact boolsT_unset m n hn (Nat.testBit_lt_two_pow hm)
  | false => rw [if_neg (by decide)]; exact boolsT_set m n hn
theorem updT_lt (m n : Nat) (t : Bool) (hm : m < 2 ^ n) : updT m n t < 2 ^ (n + 1) := by
  have h : 2 ^ (n + 1) = 2 * 2 ^ n := by rw [Nat.pow_succ]; omega
  unfold updT
  cases t with
  | true => rw [if_pos rfl]; omega
  | false =>
    rw [if_neg (by decide)]
    exact Nat.or_lt_two_pow (by omega) (by rw [h]; have := Nat.two_pow_pos n; omega)
/-- The bits from a number on, each the turned one of the bit as far from the other end. -/
def bitsT (k : Nat) (v : Int) (g : Nat) : Nat → Nat → Nat → Option Nat
  | 0, _, m => some m
  | d + 1, n, m => (vivariumref08_Bit.f k v ((g : Int) - (n : Int))).bind fun t => bitsT k v g d (n + 1) (updT m n t)
theorem bitsT.mono (v : Int) (g k : Nat) : ∀ d n m, LeO (bitsT k v g d n m) (bitsT (k + 1) v g d n m)
  | 0, _, _ => LeO.refl _
  | d + 1, n, m => LeO.bind (vivariumref08_Bit.mono _ _ _) fun t => bitsT.mono v g k d (n + 1) (updT m n t)
theorem bitsT_lt (k : Nat) (v : Int) (g : Nat) : ∀ d n m r, m < 2 ^ n → bitsT k v g d n m = some r → r < 2 ^ (n + d)
  | 0, n, m, r, hm, h => by cases h; exact hm
  | d + 1, n, m, r, hm, h => by
    obtain ⟨t, _, h2⟩ := Option.bind_eq_some_iff.mp h
    have := bitsT_lt k v g d (n + 1) _ r (updT_lt m n t hm) h2
    rwa [show n + 1 + d = n + (d + 1) from by omega] at this
def vivariumref08_Turned.f (k : Nat) (a0 : Int) (a1 : Int) (a2 : Int) : Option (Int × Int × Int × Int) :=
  (vivariumref08_Check.f k a0 a1 a2).bind fun e => if e = 0 then (vivariumref08_Greatest.f a0).bind fun g => if 0 ≤ g ∧ g ≤ 8 then (bitsT k a2 g.toNat (g.toNat + 1) 0 0).bind fun rb => (bitsT k a1 g.toNat (g.toNat + 1) 0 0).bind fun rs => some (a0, (rb : Int), (rs : Int), 0) else none else some (0, 0, 0, e)
theorem vivariumref08_Turned.mono : ∀ a0 a1 a2 k, LeO (vivariumref08_Turned.f k a0 a1 a2) (vivariumref08_Turned.f (k + 1) a0 a1 a2) := by
  intro a b c k
  unfold vivariumref08_Turned.f
  refine LeO.bind (vivariumref08_Check.mono _ _ _ _) (fun e => LeO.ite ?_ (LeO.refl _))
  refine LeO.bind (LeO.refl _) (fun g => LeO.ite ?_ (LeO.refl _))
  exact LeO.bind (bitsT.mono _ _ _ _ _ _) (fun rb => LeO.bind (bitsT.mono _ _ _ _ _ _) (fun rs => LeO.refl _))
set_option maxHeartbeats 16000000 in
set_option maxRecDepth 100000 in
theorem Turned_bad (k : Nat) (a0 a1 a2 e0 : Int) (w : World) (A1 : Aside0 (vivariumref08_Check.f k a0 a1 a2 = some e0)) (he : (e0 != 0) = true) (he2 : e0 ≠ 0) :
    Calls Try.prog 32 #[.agg #[.int .u8 a0, .int .u16 a1, .int .u16 a2]] w fun e w' => e = .returned (.tuple #[.agg #[.int .u8 0, .int .u16 0, .int .u16 0], .int .i64 e0]) ∧ Below w.heap.size w w' := by
  go_enter Try.func32, Try.ntmps32
  go_wp2_with (first | ((with_reducible refine gate_dst (N := 1) rfl ?_); go_must (refine box_event ?hg (N := 1) ?hd (cs := #[.int .u8 a0, .int .u16 a1, .int .u16 a2]) (t := 37) ?hr ?_; (case hd => rfl); (case hg => rfl); (case hr => first | (go_simp; done) | (go_simp; rfl)); intro gx hg w1 hbox hb; have HX1 := Aside0.mk hbox; have egx : w.heap.size ≤ gx := (by subst hg; exact below_size (Below.refl w.heap.size w)); have HB1 := Aside0.mk (below_step (Below.refl w.heap.size w) hb); clear hb hbox hg)) | ((with_reducible refine gate_dst (N := 2) rfl ?_); go_must (refine box_event ?hg (N := 2) ?hd (cs := #[.int .u8 0, .int .u16 0, .int .u16 0]) (t := 37) ?hr ?_; (case hd => rfl); (case hg => rfl); (case hr => first | (go_simp; done) | (go_simp; rfl)); intro gr hg w2 hbox hb; have HX2 := Aside0.mk (blk_below HX1.out hb); have ngxgr : gx ≠ gr := (by subst hg; exact Nat.ne_of_lt (blk_lt HX1.out)); have ngrgx : gr ≠ gx := Ne.symm ngxgr; have HR2 := Aside0.mk hbox; have egr : w.heap.size ≤ gr := (by subst hg; exact below_size HB1.out); have HB2 := Aside0.mk (below_step HB1.out hb); clear hb hbox hg; have x0 : w2.cell? ⟨gx, 0, none⟩ = some (.int .u8 a0) := blk_cell HX2.out 0; have xz0 := blk_frozen HX2.out 0; have x1 : w2.cell? ⟨gx, 1, none⟩ = some (.int .u16 a1) := blk_cell HX2.out 1; have xz1 := blk_frozen HX2.out 1; have x2 : w2.cell? ⟨gx, 2, none⟩ = some (.int .u16 a2) := blk_cell HX2.out 2; have xz2 := blk_frozen HX2.out 2)) | (go_at_call 34; go_must (refine (vivariumref08_Check.calls k a0 a1 a2 _ _ A1.out).mono ?_; rintro e w3 ⟨rfl, hb⟩; have HX3 := Aside0.mk (blk_below HX2.out hb); have HR3 := Aside0.mk (blk_below HR2.out hb); have HB3 := Aside0.mk (below_step HB2.out hb); clear hb; clear x0 xz0 x1 xz1 x2 xz2; have r0 : w3.cell? ⟨gr, 0, none⟩ = some (.int .u8 0) := blk_cell HR3.out 0; have rz0 := blk_frozen HR3.out 0; have r1 : w3.cell? ⟨gr, 1, none⟩ = some (.int .u16 0) := blk_cell HR3.out 1; have rz1 := blk_frozen HR3.out 1; have r2 : w3.cell? ⟨gr, 2, none⟩ = some (.int .u16 0) := blk_cell HR3.out 2; have rz2 := blk_frozen HR3.out 2)))
  try rw [Exit.noGoto_ret]
  refine bodyPost_ret (v := .tuple #[.agg #[.int .u8 0, .int .u16 0, .int .u16 0], .int .i64 e0]) (by simp [results, Try.results32, go_sem, *]) rfl ⟨rfl, ?_⟩
  repeat (first | exact HB3.out | apply below_alloc | apply pw_below_drewN | apply below_drew1 | refine below_set ?_ egr)
set_option maxHeartbeats 16000000 in
set_option maxRecDepth 100000 in
theorem Turned_good (k : Nat) (a0 a1 a2 : Int) (g rb rs : Nat) (w : World) (hg8 : g ≤ 8) (A1 : Aside0 (vivariumref08_Check.f k a0 a1 a2 = some 0)) (A2 : Aside0 (vivariumref08_Greatest.f a0 = some (g : Int))) (A3 : Aside0 (bitsT k a2 g (g + 1) 0 0 = some rb)) (A4 : Aside0 (bitsT k a1 g (g + 1) 0 0 = some rs)) (hrb : rb < 1024) (hrs : rs < 1024) :
    Calls Try.prog 32 #[.agg #[.int .u8 a0, .int .u16 a1, .int .u16 a2]] w fun e w' => e = .returned (.tuple #[.agg #[.int .u8 a0, .int .u16 rb, .int .u16 rs], .int .i64 0]) ∧ Below w.heap.size w w' := by
  have g0 : (0 : Int) ≤ (g : Int) := by omega
  have g80 : (g : Int) ≤ 8 := by omega
  go_enter Try.func32, Try.ntmps32
  go_wp2_with (first | ((with_reducible refine gate_dst (N := 1) rfl ?_); go_must (refine box_event ?hg (N := 1) ?hd (cs := #[.int .u8 a0, .int .u16 a1, .int .u16 a2]) (t := 37) ?hr ?_; (case hd => rfl); (case hg => rfl); (case hr => first | (go_simp; done) | (go_simp; rfl)); intro gx hg w1 hbox hb; have HX1 := Aside0.mk hbox; have egx : w.heap.size ≤ gx := (by subst hg; exact below_size (Below.refl w.heap.size w)); have HB1 := Aside0.mk (below_step (Below.refl w.heap.size w) hb); clear hb hbox hg)) | ((with_reducible refine gate_dst (N := 2) rfl ?_); go_must (refine box_event ?hg (N := 2) ?hd (cs := #[.int .u8 0, .int .u16 0, .int .u16 0]) (t := 37) ?hr ?_; (case hd => rfl); (case hg => rfl); (case hr => first | (go_simp; done) | (go_simp; rfl)); intro gr hg w2 hbox hb; have HX2 := Aside0.mk (blk_below HX1.out hb); have ngxgr : gx ≠ gr := (by subst hg; exact Nat.ne_of_lt (blk_lt HX1.out)); have ngrgx : gr ≠ gx := Ne.symm ngxgr; have HR2 := Aside0.mk hbox; have egr : w.heap.size ≤ gr := (by subst hg; exact below_size HB1.out); have HB2 := Aside0.mk (below_step HB1.out hb); clear hb hbox hg; have x0 : w2.cell? ⟨gx, 0, none⟩ = some (.int .u8 a0) := blk_cell HX2.out 0; have xz0 := blk_frozen HX2.out 0; have x1 : w2.cell? ⟨gx, 1, none⟩ = some (.int .u16 a1) := blk_cell HX2.out 1; have xz1 := blk_frozen HX2.out 1; have x2 : w2.cell? ⟨gx, 2, none⟩ = some (.int .u16 a2) := blk_cell HX2.out 2; have xz2 := blk_frozen HX2.out 2)) | (go_at_call 34; go_must (refine (vivariumref08_Check.calls k a0 a1 a2 _ _ A1.out).mono ?_; rintro e w3 ⟨rfl, hb⟩; have HX3 := Aside0.mk (blk_below HX2.out hb); have HR3 := Aside0.mk (blk_below HR2.out hb); have HB3 := Aside0.mk (below_step HB2.out hb); clear hb; clear x0 xz0 x1 xz1 x2 xz2; have x0 : w3.cell? ⟨gx, 0, none⟩ = some (.int .u8 a0) := blk_cell HX3.out 0; have xz0 := blk_frozen HX3.out 0; have x1 : w3.cell? ⟨gx, 1, none⟩ = some (.int .u16 a1) := blk_cell HX3.out 1; have xz1 := blk_frozen HX3.out 1; have x2 : w3.cell? ⟨gx, 2, none⟩ = some (.int .u16 a2) := blk_cell HX3.out 2; have xz2 := blk_frozen HX3.out 2)) | (go_at_call 61; go_must (refine (vivariumref08_Greatest.calls a0 (g : Int) _ A2.out).mono ?_); rintro e w4 ⟨rfl, hd⟩; have HX4 := Aside0.mk (blk_drawnT HX3.out hd); have HR4 := Aside0.mk (blk_drawnT HR3.out hd); have HB4 := Aside0.mk (below_step HB3.out hd.below); clear hd; clear x0 xz0 x1 xz1 x2 xz2) | ((with_reducible refine gate_dst (N := 6) rfl ?_); go_must (refine box_event ?hg (N := 6) ?hd (cs := #[.bool false, .bool false, .bool false, .bool false, .bool false, .bool false, .bool false, .bool false, .bool false, .bool false]) (t := 93) ?hr ?_; (case hd => rfl); (case hg => rfl); (case hr => first | (go_simp; done) | (go_simp; rfl)); intro gp hg w5 hbox hb; have HX5 := Aside0.mk (blk_below HX4.out hb); have ngxgp : gx ≠ gp := (by subst hg; exact Nat.ne_of_lt (blk_lt HX4.out)); have ngpgx : gp ≠ gx := Ne.symm ngxgp; have HR5 := Aside0.mk (blk_below HR4.out hb); have ngrgp : gr ≠ gp := (by subst hg; exact Nat.ne_of_lt (blk_lt HR4.out)); have ngpgr : gp ≠ gr := Ne.symm ngrgp; have HP5 := Aside0.mk hbox; have egp : w.heap.size ≤ gp := (by subst hg; exact below_size HB4.out); have HB5 := Aside0.mk (below_step HB4.out hb); clear hb hbox hg)) | ((with_reducible refine gate_dst (N := 7) rfl ?_); go_must (refine box_event ?hg (N := 7) ?hd (cs := #[.bool false, .bool false, .bool false, .bool false, .bool false, .bool false, .bool false, .bool false, .bool false, .bool false]) (t := 93) ?hr ?_; (case hd => rfl); (case hg => rfl); (case hr => first | (go_simp; done) | (go_simp; rfl)); intro gq hg w6 hbox hb; have HX6 := Aside0.mk (blk_below HX5.out hb); have ngxgq : gx ≠ gq := (by subst hg; exact Nat.ne_of_lt (blk_lt HX5.out)); have ngqgx : gq ≠ gx := Ne.symm ngxgq; have HR6 := Aside0.mk (blk_below HR5.out hb); have ngrgq : gr ≠ gq := (by subst hg; exact Nat.ne_of_lt (blk_lt HR5.out)); have ngqgr : gq ≠ gr := Ne.symm ngrgq; have HP6 := Aside0.mk (blk_below HP5.out hb); have ngpgq : gp ≠ gq := (by subst hg; exact Nat.ne_of_lt (blk_lt HP5.out)); have ngqgp : gq ≠ gp := Ne.symm ngpgq; have HQ6 := Aside0.mk hbox; have egq : w.heap.size ≤ gq := (by subst hg; exact below_size HB5.out); have HB6 := Aside0.mk (below_step HB5.out hb); clear hb hbox hg)))
  go_loopg [8] (g + 1) (fun q t8 wi => ∃ (n mb ms : Nat), n ≤ g + 1 ∧ Aside0 (q = g + 1 - n) ∧ t8 = .int .i64 n ∧ Aside0 (bitsT k a2 g (g + 1 - n) n mb = some rb) ∧ Aside0 (bitsT k a1 g (g + 1 - n) n ms = some rs) ∧ Aside0 (mb < 2 ^ n) ∧ Aside0 (ms < 2 ^ n) ∧ Aside0 (Below w.heap.size w wi) ∧ Aside0 (wi.heap[gx]? = some (.cells #[.int .u8 a0, .int .u16 a1, .int .u16 a2] 37 (0, 0))) ∧ Aside0 (wi.heap[gr]? = some (.cells #[.int .u8 0, .int .u16 0, .int .u16 0] 37 (0, 0))) ∧ Aside0 (wi.heap[gp]? = some (.cells (boolsT mb) 93 (0, 0))) ∧ Aside0 (wi.heap[gq]? = some (.cells (boolsT ms) 93 (0, 0))))
  case atStart => exact ⟨0, 0, 0, by omega, ⟨rfl⟩, rfl, A3, A4, ⟨by decide⟩, ⟨by decide⟩, HB6, HX6, HR6, ⟨by rw [boolsT_zero]; exact HP6.out⟩, ⟨by rw [boolsT_zero]; exact HQ6.out⟩⟩
  case round =>
    clear A3 A4 A1 A2
    obtain ⟨n, mb, ms, hn, HK, rfl, A3, A4, HMB, HMS, HBr, HXr, HRr, HPr, HQr⟩ := hrel
    have n0 : (0 : Int) ≤ (n : Int) := by omega
    have x0 : wr.cell? ⟨gx, 0, none⟩ = some (.int .u8 a0) := blk_cell HXr.out 0
    have xz0 := blk_frozen HXr.out 0
    have x1 : wr.cell? ⟨gx, 1, none⟩ = some (.int .u16 a1) := blk_cell HXr.out 1
    have xz1 := blk_frozen HXr.out 1
    have x2 : wr.cell? ⟨gx, 2, none⟩ = some (.int .u16 a2) := blk_cell HXr.out 2
    have xz2 := blk_frozen HXr.out 2
    by_cases c : n ≤ g
    · have c' : (n : Int) ≤ (g : Int) := by omega
      have n10 : (n : Int) < 10 := by omega
      have n9 : n ≤ 9 := by omega
      obtain ⟨d, hd⟩ : ∃ d, g + 1 - n = d + 1 := ⟨g - n, by omega⟩
      have B3 := A3.out
      have B4 := A4.out
      rw [hd] at B3 B4
      obtain ⟨t1, C1, B3⟩ := Option.bind_eq_some_iff.mp B3
      obtain ⟨t2, C2, B4⟩ := Option.bind_eq_some_iff.mp B4
      have D1 := Aside0.mk C1
      have D2 := Aside0.mk C2
      have hd2 : g + 1 - (n + 1) = d := by omega
      rw [← hd2] at B3 B4
      have E3 := Aside0.mk B3
      have E4 := Aside0.mk B4
      have HU1 := Aside0.mk (updT_put mb n t1 n9 HMB.out)
      have HU2 := Aside0.mk (updT_put ms n t2 n9 HMS.out)
      have HL1 := Aside0.mk (updT_lt mb n t1 HMB.out)
      have HL2 := Aside0.mk (updT_lt ms n t2 HMS.out)
      have HD := Aside0.mk hd
      clear B3 B4 C1 C2 hd hd2 A3 A4
      go_wp2_with (first | (go_at_call_of 63 (Value.int .u16 a2); go_must (refine (vivariumref08_Bit.calls k a2 ((g : Int) - (n : Int)) t1 _ D1.out).mono ?_); rintro e w21 ⟨rfl, hd⟩; have HX21 := Aside0.mk (blk_drawnT HXr.out hd); have HR21 := Aside0.mk (blk_drawnT HRr.out hd); have HP21 := Aside0.mk (blk_drawnT HPr.out hd); have HQ21 := Aside0.mk (blk_drawnT HQr.out hd); have HB21 := Aside0.mk (below_step HBr.out hd.below); clear hd; clear x0 xz0 x1 xz1 x2 xz2; have x0 : w21.cell? ⟨gx, 0, none⟩ = some (.int .u8 a0) := blk_cell HX21.out 0; have xz0 := blk_frozen HX21.out 0; have x1 : w21.cell? ⟨gx, 1, none⟩ = some (.int .u16 a1) := blk_cell HX21.out 1; have xz1 := blk_frozen HX21.out 1; have x2 : w21.cell? ⟨gx, 2, none⟩ = some (.int .u16 a2) := blk_cell HX21.out 2; have xz2 := blk_frozen HX21.out 2; have p0 : w21.cell? ⟨gp, n, none⟩ = some (.bool (mb.testBit n)) := (blk_cell HP21.out _).trans (boolsT_at mb n n9); have pz0 := blk_frozen HP21.out n) | (go_at_call_of 63 (Value.int .u16 a1); go_must (refine (vivariumref08_Bit.calls k a1 ((g : Int) - (n : Int)) t2 _ D2.out).mono ?_); rintro e w22 ⟨rfl, hd⟩; have HX22 := Aside0.mk (blk_drawnT (blk_far HX21.out ngxgp _) hd); have HR22 := Aside0.mk (blk_drawnT (blk_far HR21.out ngrgp _) hd); have HP22 := Aside0.mk (blk_drawnT (blk_put HP21.out _ _ HU1.out) hd); have HQ22 := Aside0.mk (blk_drawnT (blk_far HQ21.out ngqgp _) hd); have HB22 := Aside0.mk (below_step (below_set HB21.out egp) hd.below); clear hd; clear x0 xz0 x1 xz1 x2 xz2; clear p0 pz0; have q0 : w22.cell? ⟨gq, n, none⟩ = some (.bool (ms.testBit n)) := (blk_cell HQ22.out _).trans (boolsT_at ms n n9); have qz0 := blk_frozen HQ22.out n))
      go_roundg d
      case measure => have := HK.out; have := HD.out; omega
      case rel => exact ⟨n + 1, _, _, by omega, ⟨by have := HD.out; omega⟩, by go_num, E3, E4, HL1, HL2, ⟨below_set HB22.out egq⟩, ⟨blk_far HX22.out ngxgq _⟩, ⟨blk_far HR22.out ngrgq _⟩, ⟨blk_far HP22.out ngpgq _⟩, ⟨blk_put HQ22.out _ _ HU2.out⟩⟩
    · have c' : ¬ (n : Int) ≤ (g : Int) := by omega
      obtain rfl : n = g + 1 := by omega
      have hr1 : mb = rb := by have := A3.out; rw [Nat.sub_self] at this; exact Option.some.inj this
      have hr2 : ms = rs := by have := A4.out; rw [Nat.sub_self] at this; exact Option.some.inj this
      subst hr1 hr2
      clear A3 A4 HMB HMS HK hn
      go_wp2_with fail
      refine start_ (n := 9) (S := fun w' => w'.heap[gp]? = some (.cells (boolsT mb) 93 (0, 0)) ∧ w'.heap[gq]? = some (.cells (boolsT ms) 93 (0, 0)) ∧ w'.cell? ⟨gx, 0, none⟩ = some (.int .u8 a0) ∧ w'.heap[gr]? = some (.cells #[.int .u8 0, .int .u16 0, .int .u16 0] 37 (0, 0))) (ds := [7]) #[false, false, false, false, false, false, false, false, false] (by kernel_rfl) rfl rfl ⟨HPr.out, HQr.out, (blk_cell HXr.out 0), HRr.out⟩ (fun hHeld => ?_)
      refine pure_ (i := 0) (N := some 41) (v := ?_) (a' := ?_) #[true, false, false, false, false, false, false, false, false] rfl rfl (by kernel_rfl) (fun _ _ _ h => h) (Or.inl ⟨by rfl, ?_⟩) ?_ ?_
      rotate_left
      · intro w'
        go_simp
        with_reducible rfl
      rotate_left
      · simp only [Act.put, List.setIfInBounds_toArray, List.set_cons_zero, List.set_cons_succ, i64_w, i32_w]
        rfl
      refine take_ (i := 1) (N := some 42) (v := ?_) (a' := ?_) #[true, true, false, false, false, false, false, false, false] rfl rfl (by kernel_rfl) (fun _ _ _ h => h) (Or.inl ⟨by rfl, ?_⟩) hHeld ?_ ?_
      rotate_left
      · rintro w' ⟨s0, s1, s2, s3⟩
        go_simp
        with_reducible rfl
      rotate_left
      · simp only [Act.put, List.setIfInBounds_toArray, List.set_cons_zero, List.set_cons_succ, i64_w, i32_w]
        rfl
      refine take_ (i := 2) (N := some 43) (v := ?_) (a' := ?_) #[true, true, true, false, false, false, false, false, false] rfl rfl (by kernel_rfl) (fun _ _ _ h => h) (Or.inl ⟨by rfl, ?_⟩) hHeld ?_ ?_
      rotate_left
      · rintro w' ⟨s0, s1, s2, s3⟩
        rw [load_row_runT (ty := 93) (x := .tmp 6) (hg := s0) (hu := Try.underlying93) (hd := rfl) (hi := boolsT_info _)] <;> rfl
      rotate_left
      · simp only [Act.put, List.setIfInBounds_toArray, List.set_cons_zero, List.set_cons_succ, i64_w, i32_w]
        rfl
      refine take_ (i := 4) (N := some 45) (v := ?_) (a' := ?_) #[true, true, true, false, true, false, false, false, false] rfl rfl (by kernel_rfl) (fun _ _ _ h => h) (Or.inl ⟨by rfl, ?_⟩) hHeld ?_ ?_
      rotate_left
      · rintro w' ⟨s0, s1, s2, s3⟩
        rw [load_row_runT (ty := 93) (x := .tmp 7) (hg := s1) (hu := Try.underlying93) (hd := rfl) (hi := boolsT_info _)] <;> rfl
      rotate_left
      · simp only [Act.put, List.setIfInBounds_toArray, List.set_cons_zero, List.set_cons_succ, i64_w, i32_w]
        rfl
      refine one_ (i := 3) (N := some 44) #[true, true, true, true, true, false, false, false, false] rfl rfl (by kernel_rfl) (by decide) (fun K hK => ?_)
      refine goes_ Try.func60 (by kernel_rfl) rfl #[.agg (boolsT mb)] (by rfl) rfl rfl (by simp only [List.map_toArray, List.map_cons, List.map_nil]; rfl) ?_
      with_reducible refine (number_callsT mb hrb _).mono ?_
      rintro e w8 ⟨rfl, hb⟩
      have HP8 := Aside0.mk (blk_below (w := wr.drew) HPr.out hb)
      have HQ8 := Aside0.mk (blk_below (w := wr.drew) HQr.out hb)
      have HX8 := Aside0.mk (blk_below (w := wr.drew) HXr.out hb)
      have HR8 := Aside0.mk (blk_below (w := wr.drew) HRr.out hb)
      have HB8 := Aside0.mk (below_step (below_drew1 HBr.out) hb)
      clear hb
      refine ⟨_, rfl, ?_⟩
      refine hK.out _ _ ⟨HP8.out, HQ8.out, (blk_cell HX8.out 0), HR8.out⟩ (fun hHeld => ?_)
      clear hK K
      refine norm_ (a' := ?_) ?_ ?_
      rotate_left
      · show Act.put _ (some 44) _ = _
        simp only [Act.put, List.setIfInBounds_toArray, List.set_cons_zero, List.set_cons_succ, i64_w, i32_w]
        rfl
      refine one_ (i := 5) (N := some 46) #[true, true, true, true, true, true, false, false, false] rfl rfl (by kernel_rfl) (by decide) (fun K hK => ?_)
      refine goes_ Try.func60 (by kernel_rfl) rfl #[.agg (boolsT ms)] (by rfl) rfl rfl (by simp only [List.map_toArray, List.map_cons, List.map_nil]; rfl) ?_
      with_reducible refine (number_callsT ms hrs _).mono ?_
      rintro e w9 ⟨rfl, hb⟩
      have HP9 := Aside0.mk (blk_below (w := w8) HP8.out hb)
      have HQ9 := Aside0.mk (blk_below (w := w8) HQ8.out hb)
      have HX9 := Aside0.mk (blk_below (w := w8) HX8.out hb)
      have HR9 := Aside0.mk (blk_below (w := w8) HR8.out hb)
      have HB9 := Aside0.mk (below_step (HB8.out) hb)
      clear hb
      refine ⟨_, rfl, ?_⟩
      refine hK.out _ _ ⟨HP9.out, HQ9.out, (blk_cell HX9.out 0), HR9.out⟩ (fun hHeld => ?_)
      clear hK K
      refine norm_ (a' := ?_) ?_ ?_
      rotate_left
      · show Act.put _ (some 46) _ = _
        simp only [Act.put, List.setIfInBounds_toArray, List.set_cons_zero, List.set_cons_succ, i64_w, i32_w]
        rfl
      refine pure_ (i := 6) (N := some 47) (v := ?_) (a' := ?_) #[true, true, true, true, true, true, true, false, false] rfl rfl (by kernel_rfl) (fun _ _ _ h => h) (Or.inl ⟨by rfl, ?_⟩) ?_ ?_
      rotate_left
      · intro w'
        go_simp
        with_reducible rfl
      rotate_left
      · simp only [Act.put, List.setIfInBounds_toArray, List.set_cons_zero, List.set_cons_succ, i64_w, i32_w]
        rfl
      refine last_ (i := 7) (N := none) #[true, true, true, true, true, true, true, true, false] rfl rfl (by kernel_rfl) (by decide) (fun K hK => ?_)
      refine store_row_stepT (by rfl) 37 (.tmp 2) (.tmp 47) rfl gr #[.int .u8 a0, .int .u16 mb, .int .u16 ms] (by rfl) (by rfl) 37 #[.int .u8 0, .int .u16 0, .int .u16 0] HR9.out (by kernel_rfl) rfl (by simp [Value.oneCell']) ?_
      have HR10 := Aside0.mk (setRow_heap w9 gr _ #[.int .u8 a0, .int .u16 mb, .int .u16 ms] _ _ HR9.out)
      have HB10 := Aside0.mk (below_setRow HB9.out egr #[.int .u8 a0, .int .u16 mb, .int .u16 ms])
      generalize hw10 : World.setRow w9 gr #[.int .u8 a0, .int .u16 mb, .int .u16 ms] = w10 at HR10 HB10 ⊢
      clear hw10
      refine hK.out _ _ ?_
      clear hK K
      refine pure_ (i := 8) (N := some 3) (v := ?_) (a' := ?_) #[true, true, true, true, true, true, true, true, true] rfl rfl (by kernel_rfl) (fun _ _ _ h => h) (Or.inl ⟨by rfl, ?_⟩) ?_ ?_
      rotate_left
      · intro w'
        go_simp
        with_reducible rfl
      rotate_left
      · simp only [Act.put, List.setIfInBounds_toArray, List.set_cons_zero, List.set_cons_succ, i64_w, i32_w]
        rfl
      refine done_ (by kernel_rfl) ?_
      have r0 : w10.cell? ⟨gr, 0, none⟩ = some (.int .u8 a0) := blk_cell HR10.out 0
      have rz0 := blk_frozen HR10.out 0
      have r1 : w10.cell? ⟨gr, 1, none⟩ = some (.int .u16 mb) := blk_cell HR10.out 1
      have rz1 := blk_frozen HR10.out 1
      have r2 : w10.cell? ⟨gr, 2, none⟩ = some (.int .u16 ms) := blk_cell HR10.out 2
      have rz2 := blk_frozen HR10.out 2
      go_wp2
      try rw [Exit.noGoto_ret]
      refine bodyPost_ret (v := .tuple #[.agg #[.int .u8 a0, .int .u16 mb, .int .u16 ms], .int .i64 0]) (by simp [results, Try.results32, go_sem, *]) rfl ⟨rfl, ?_⟩
      repeat (first | exact HB10.out | apply below_alloc | apply pw_below_drewN | apply below_drew1 | refine below_set ?_ egr)
theorem vivariumref08_Turned.calls (k : Nat) (a0 a1 a2 : Int) (r1 r2 r3 r4 : Int) (w : World) (h : vivariumref08_Turned.f k a0 a1 a2 = some (r1, r2, r3, r4)) :
    Calls Try.prog 32 #[.agg #[.int .u8 a0, .int .u16 a1, .int .u16 a2]] w fun e w' => e = .returned (.tuple #[.agg #[.int .u8 r1, .int .u16 r2, .int .u16 r3], .int .i64 r4]) ∧ Below w.heap.size w w' := by
  unfold vivariumref08_Turned.f at h
  obtain ⟨e, h1, h⟩ := Option.bind_eq_some_iff.mp h
  by_cases c : e = 0
  · rw [if_pos c] at h
    subst c
    obtain ⟨g, h2, h⟩ := Option.bind_eq_some_iff.mp h
    by_cases c2 : 0 ≤ g ∧ g ≤ 8
    · rw [if_pos c2] at h
      obtain ⟨rb, h3, h⟩ := Option.bind_eq_some_iff.mp h
      obtain ⟨rs, h4, h⟩ := Option.bind_eq_some_iff.mp h
      simp only [Option.some.injEq, Prod.mk.injEq] at h
      obtain ⟨rfl, rfl, rfl, rfl⟩ := h
      obtain ⟨gn, rfl⟩ : ∃ gn : Nat, g = gn := ⟨g.toNat, by omega⟩
      rw [Int.toNat_natCast] at h3 h4
      have l3 := bitsT_lt k _ gn (gn + 1) 0 0 rb (by decide) h3
      have l4 := bitsT_lt k _ gn (gn + 1) 0 0 rs (by decide) h4
      have hp : 2 ^ (0 + (gn + 1)) ≤ 2 ^ 10 := Nat.pow_le_pow_right (by decide) (by omega)
      have hp2 : (2 : Nat) ^ 10 = 1024 := rfl
      exact Turned_good k _ _ _ gn rb rs w (by omega) ⟨h1⟩ ⟨h2⟩ ⟨h3⟩ ⟨h4⟩ (by omega) (by omega)
    · rw [if_neg c2] at h; cases h
  · rw [if_neg c] at h
    simp only [Option.some.injEq, Prod.mk.injEq] at h
    obtain ⟨rfl, rfl, rfl, rfl⟩ := h
    exact Turned_bad k _ _ _ _ w ⟨h1⟩ (bne_iff_ne.mpr c) c

end Go.Proofs.Ytfgonglcmgahkaa.P

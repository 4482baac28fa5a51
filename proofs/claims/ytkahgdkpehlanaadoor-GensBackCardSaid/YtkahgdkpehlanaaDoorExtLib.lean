/- Small lemmas on worlds for the functions that are walked by hand. -/
import Derived.Test.YtkahgdkpehlanaaDoorWMini
namespace Go.Proofs.YtkahgdkpehlanaaDoor.L
open Go.RowKit Go.Proofs.YtkahgdkpehlanaaDoorW.PrintWords
theorem blk_new' (w : World) (o : Obj) (n : Nat) (h : n = w.heap.size) : (w.alloc o).heap[n]? = some o := by subst h; exact blk_new w o
theorem cell_in {B : Nat} {W w : World} {g : Nat} {t : TypeId} {cs : Array Value} (h : W.heap[g]? = some (.cells cs t (0, 0))) (hb : Below B W w) (hg : g < B) (i : Nat) : w.cell? ⟨g, i, none⟩ = cs[i]? :=
  blk_cell ((hb.block g hg).trans h) i
/-- append of a string to bytes of one's own, as a step of a region that draws; the row is none of block g (by its type). -/
theorem append_str_step {P : Program} {ops : Array Oper} {o : Oper} {a : Act} {Q : Exit → Act → World → Prop} {Kc : Act → World → Prop} {w0 W : World} (base : Nat) (hw : Region.wanted o (yielded ops a.tmps) = true) (s x : Operand) (t u e : TypeId)
    (ho : o.op = .call { callee := .builtin .append, args := #[s, x], argTypes := #[t, u] })
    (ht : P.underlying t = some (.slice e)) (hu : P.underlying u = some .string) (hinfo : (P.info? e).map (fun i => (i.zero, i.size, i.bytes)) = some (some (.int .u8 0), 1, 1))
    (v : Value) (xs : List Int) (y : ByteArray) (g : Nat) (te : TypeId) (cs : Array Value) (hg : W.heap[g]? = some (.cells cs te (0, 0))) (hne : e ≠ te) (hs : a.eval s = v) (hx : a.eval x = .string y)
    (HO : Kd.R (Kd.int .u8) e W base (fun k => k ≠ g) v xs) (HB : Below base w0 W) (hbase : base ≤ W.heap.size) (hl : xs.length + y.size ≤ 140737488355328)
    (h : ∀ v1 w1, Kd.R (Kd.int .u8) e w1 base (fun k => k ≠ g) v1 (xs ++ bytesOf y) → Below base w0 w1 → w1.heap[g]? = some (.cells cs te (0, 0)) → W.heap.size ≤ w1.heap.size → Kc (a.put o.dst v1) w1) :
    if Region.wanted o (yielded ops a.tmps) = true then Oper.wp P o a W Kc Q else Kc (a.put o.dst undef) W := by
  obtain ⟨i0, hi, hzz⟩ := Option.map_eq_some_iff.1 hinfo
  simp only [Prod.mk.injEq] at hzz
  obtain ⟨hz0, hz1, hz2⟩ := hzz
  have hown := Kd.own_of_R (enc := Value.int .u8) (h1 := fun _ => rfl) HO
  obtain ⟨v1, w1, hr, h2, h3, _⟩ := Lib.run_append_own_string (P := P) (w := W) base t u o.type e i0 ht hu hi hz0 hz1 hz2 v xs.length (encs (Value.int .u8) xs) hown y (by simp only [maxLen]; omega) hl hbase
  have hgr : some g ≠ v.ownBlock := fun e => HO.1 g e.symm rfl
  have hg1 := blk_grown hg h3 hgr
  have hl2 : (xs ++ bytesOf y).length = xs.length + y.size := by rw [List.length_append, bytesOf_length]
  have hc : encs (Value.int .u8) (xs ++ bytesOf y) = encs (Value.int .u8) xs ++ Lib.strCells y := by simp [encs, bytesOf, Lib.strCells]
  have h2' : w1.ownsRow base e 1 v1 (xs ++ bytesOf y).length (encs (Value.int .u8) (xs ++ bytesOf y)) := by rw [hl2, hc]; exact h2
  refine event_step hw ?_ (h v1 w1 (Kd.R_of_own (enc := Value.int .u8) (h1 := fun _ => rfl) h2' (fun k hk e => own_ne h2' hg1 hne (by rw [← e]; exact hk.symm))) (HB.grown h3 hbase (own_base hown)) hg1 h3.size)
  unfold execOp
  simp only [ho, resolve, invoke, builtin, Sem.run_bind, Sem.run_pure, Result.andThen_ok, List.map_toArray, List.map_cons, List.map_nil, hs, hx, hr]
end Go.Proofs.YtkahgdkpehlanaaDoor.L

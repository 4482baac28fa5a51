/- The walk of the closed statement LifeNames: a text of as many bytes as there may be is read, one of more is not. -/
import Derived.Test.YtfgonglcmgahkaaLifeLib
import Derived.Test.YtfgonglcmgahkaaP22
import Derived.Deep.DeepMust
import Derived.Laws.MakeOwn
import Derived.Laws.OwnMore
import Derived.Laws.BytesArg
import Derived.Outline
import Derived.Deep.DeepFit
import Derived.WalkLawsBesides
namespace Go.Proofs.Ytfgonglcmgahkaa.P
open Go.RowKit Go.Proofs.YtfgonglcmgahkaaW.PrintWords Go.Proofs.YtfgonglcmgahkaaW.PrintLast Go.Proofs.YtfgonglcmgahkaaW.PrintMore Go.Proofs.Ytfgonglcmgahkaa.L
section
variable {P : Program} {ops : Array Oper} {Q : Exit → Act → World → Prop} {o : Oper} {rest : List Oper} {a : Act}
theorem make_event {W : World} (hgd : o.guard = none) (t e : TypeId) (x y : Operand) (ho : o.op = .makeSlice t x y) (m : Nat) (hx : a.eval x = .int .i64 m) (hy : a.eval y = .int .i64 m)
    (ht : P.underlying t = some (.slice e)) (z : Value) (hinfo : (P.info? e).map (fun i => (i.zero, i.size, i.bytes)) = some (some z, 1, 1)) (hz : z.cells = #[z]) (hm : m ≤ 281474976710656)
    (h : ∀ g, g = W.heap.size → ∀ w1, w1.heap[g]? = some (.cells (madeCells #[z] m) e (0, 0)) → Below W.heap.size W w1 → wpList P ops Q rest (a.put o.dst (.slice (some ⟨g, 0, none⟩) m m)) w1) : wpList P ops Q (o :: rest) a W := by
  obtain ⟨i0, hi, hzz⟩ := Option.map_eq_some_iff.1 hinfo
  simp only [Prod.mk.injEq] at hzz
  obtain ⟨hz0, hz1, hz2⟩ := hzz
  have hr := run_make (P := P) W t e i0 z ht hi hz0 .i64 .i64 (m : Int) (m : Int) (by omega) (by omega) (by rw [hz2]; omega) (by omega)
  simp only [Int.toNat_natCast] at hr
  rw [hz1, Nat.mul_one, hz] at hr
  exact Kd.event_run hgd (by simp [execOp, ho, hx, hy, hr]) (h _ rfl _ (blk_new W _) (below_alloc (Below.refl _ _) _))
theorem conv_event {W : World} (hgd : o.guard = none) (src dst e : TypeId) (x : Operand) (ho : o.op = .convert src dst x) (hs : P.underlying src = some (.slice e)) (he : P.underlying e = some (.int .u8)) (hd : P.underlying dst = some .string) (g len cap : Nat) (hx : a.eval x = .slice (some ⟨g, 0, none⟩) len cap)
    (xs : List Int) (hlen : xs.length = len) (hcell : ∀ i, i < len → W.cell? ⟨g, i, none⟩ = some (.int .u8 (xs.getD i 0))) (h : wpList P ops Q rest (a.put o.dst (.string (strOfNums xs))) W) : wpList P ops Q (o :: rest) a W := by
  have hr := run_convert_bytes_arg (P := P) W src e hs he g 0 len cap xs hlen (fun i hi => by rw [Nat.zero_add]; exact hcell i hi) dst hd
  exact Kd.event_run hgd (by simp [execOp, ho, hx, hr]) h
end
def longCells (n : Nat) : Array Value := (madeCells #[.int .u8 0] n).setIfInBounds 0 (.int .u8 66)
def longNums (n : Nat) : List Int := 66 :: List.replicate n 0
theorem longNums_length (n : Nat) : (longNums n).length = n + 1 := by unfold longNums; rw [List.length_cons, List.length_replicate]
theorem made_get (n i : Nat) (hi : i < n) : (madeCells #[.int .u8 0] n)[i]? = some (.int .u8 0) := by
  rw [← Array.getElem?_toList, toList_madeCells_one, List.getElem?_replicate, if_pos hi]
theorem longCells_get (n m i : Nat) (hi : i < n) (hm : i < m + 1) : (longCells n)[i]? = some (.int .u8 ((longNums m).getD i 0)) := by
  unfold longCells longNums
  rw [Array.getElem?_setIfInBounds]
  cases i with
  | zero => rw [if_pos rfl, if_pos (by rw [size_madeCells]; exact hi)]; rfl
  | succ j =>
    rw [if_neg (by omega), made_get n _ hi, List.getD_cons_succ, List.getD_eq_getElem?_getD, List.getElem?_replicate, if_pos (by omega)]
    rfl
theorem long_def (n : Nat) : (madeCells #[.int .u8 0] n).setIfInBounds 0 (.int .u8 66) = longCells n := rfl
attribute [irreducible] longCells longNums
attribute [local irreducible] madeCells
theorem parse_short (n : Nat) (hn : 1 ≤ n) (hn2 : n ≤ 1048575) : lifeParse (strOfNums (longNums n)) = (0, 0, 0, 1, 80) := by
  have hs : (strOfNums (longNums n)).size = n + 1 := by rw [strOfNums_size, longNums_length]
  have hg : ∀ i, i < n + 1 → bt (strOfNums (longNums n)) (i : Int) = (longNums n).getD i 0 := fun i hi => by
    rw [bt_eq _ i (by rw [hs]; exact hi)]
    simp only [strOfNums_data, List.getElem_map, List.getD_eq_getElem?_getD, List.getElem?_eq_getElem (show i < (longNums n).length by rw [longNums_length]; exact hi), Option.getD_some]
    unfold longNums
    cases i with
    | zero => rfl
    | succ j => rw [List.getElem_cons_succ, List.getElem_replicate]; rfl
  have b0 : bt (strOfNums (longNums n)) ((0 : Nat) : Int) = 66 := (hg 0 (by omega)).trans (by unfold longNums; rfl)
  have b1 : bt (strOfNums (longNums n)) ((1 : Nat) : Int) = 0 := (hg 1 (by omega)).trans (by
    unfold longNums
    rw [List.getD_cons_succ, List.getD_eq_getElem?_getD, List.getElem?_replicate, if_pos (by omega)]
    rfl)
  have d1 : digs (strOfNums (longNums n)) (strOfNums (longNums n)).size (0 + 1) 0 = (false, 1, 0) := by
    rw [hs, digs_succ, if_neg (fun e => by rw [b1] at e; omega)]
  unfold lifeParse
  rw [if_neg (by rw [hs]; omega)]
  unfold lifeStage
  rw [if_pos rfl]
  unfold st0
  rw [if_pos (show isL (strOfNums (longNums n)) 0 66 from ⟨by rw [hs]; omega, .inl b0⟩), d1]
  dsimp only
  unfold st1
  rw [if_neg (fun e => by rw [b1] at e; omega)]
  rfl
theorem parse_long (n : Nat) (hn : 1048576 ≤ n) : lifeParse (strOfNums (longNums n)) = (0, 0, 0, 0, 3) := by
  have hs : (strOfNums (longNums n)).size = n + 1 := by rw [strOfNums_size, longNums_length]
  unfold lifeParse
  rw [if_pos (by rw [hs]; omega)]
set_option maxHeartbeats 16000000 in
set_option maxRecDepth 100000 in
theorem vivariumlaw08_LifeNames.walk (w : World) :
    Calls Try.prog 5 #[] w fun e w' => e = .returned (.bool true) ∧ Below w.heap.size w w' := by
  have PF1 : Aside0 (life_Parse.f (strOfNums (longNums 1048575)) = some (0, 0, 0, 1, 80)) := ⟨congrArg some (parse_short _ (by omega) (by omega))⟩
  have PF2 : Aside0 (life_Parse.f (strOfNums (longNums 1048576)) = some (0, 0, 0, 0, 3)) := ⟨congrArg some (parse_long _ (by omega))⟩
  go_enter Try.func5, Try.ntmps5
  go_wp2_with (first | (go_at_call 21; go_must (refine (vivariumlaw08_alive.calls 100 true _ alive_true).mono ?_; rintro e w1 ⟨rfl, hb⟩; have HB1 := Aside0.mk (below_step (Below.refl w.heap.size w) hb); clear hb)) | ((with_reducible refine gate_dst (N := 10) rfl ?_); go_must (refine make_event rfl 34 5 _ _ rfl 1048577 rfl rfl Try.underlying34 (.int .u8 0) info5 rfl (by omega) ?_; intro gm hg w2 hm hb; have HM2 := Aside0.mk hm; have egm : w.heap.size ≤ gm := (by subst hg; exact below_size HB1.out); have HB2 := Aside0.mk (below_step HB1.out hb); clear hm hb hg; have k0 : w2.cell? ⟨gm, 0, none⟩ = some (.int .u8 0) := (blk_cell HM2.out 0).trans (made_get _ _ (by omega)); have z0 := blk_frozen HM2.out 0)) | ((with_reducible refine gate_dst (N := 16) rfl ?_); go_must (refine conv_event rfl 34 9 5 _ rfl Try.underlying34 Try.underlying5 Try.underlying9 gm 1048576 1048577 rfl (longNums 1048575) (longNums_length _) (fun i hi => (blk_cell ((blk_put HM2.out 0 (.int .u8 66) (long_def 1048577))) i).trans (longCells_get _ _ _ (by omega) (by omega))) ?_)) | (go_at_call_of 22 (Value.string (strOfNums (longNums 1048575))); go_must (refine (life_Parse.calls (strOfNums (longNums 1048575)) 0 0 0 1 80 _ PF1.out).mono ?_; rintro e w3 ⟨rfl, hb⟩; have HM3 := Aside0.mk (blk_below (blk_put HM2.out 0 (.int .u8 66) (long_def 1048577)) hb); have HB3 := Aside0.mk (below_step (below_set HB2.out egm) hb); clear hb)) | ((with_reducible refine gate_dst (N := 3) rfl ?_); go_must (refine box_event ?hg (N := 3) ?hd (cs := #[.int .u8 0, .int .u16 0, .int .u16 0]) (t := 37) ?hr ?_; (case hd => rfl); (case hg => rfl); (case hr => first | (go_simp; done) | (go_simp; rfl)); intro ga hg w4 hbox hb; have HM4 := Aside0.mk (blk_below HM3.out hb); have HX4 := Aside0.mk hbox; have nmga : gm ≠ ga := (by subst hg; exact Nat.ne_of_lt (blk_lt HM3.out)); have ega : w.heap.size ≤ ga := (by subst hg; exact below_size HB3.out); have HB4 := Aside0.mk (below_step HB3.out hb); clear hb hbox hg; have a0 : w4.cell? ⟨ga, 0, none⟩ = some (.int .u8 0) := blk_cell HX4.out 0; have az0 := blk_frozen HX4.out 0; have a1 : w4.cell? ⟨ga, 1, none⟩ = some (.int .u16 0) := blk_cell HX4.out 1; have az1 := blk_frozen HX4.out 1; have a2 : w4.cell? ⟨ga, 2, none⟩ = some (.int .u16 0) := blk_cell HX4.out 2; have az2 := blk_frozen HX4.out 2)) | ((with_reducible refine gate_dst (N := 23) rfl ?_); go_must (refine conv_event rfl 34 9 5 _ rfl Try.underlying34 Try.underlying5 Try.underlying9 gm 1048577 1048577 rfl (longNums 1048576) (longNums_length _) (fun i hi => (blk_cell ((blk_far (blk_far (blk_far HM4.out nmga _) nmga _) nmga _)) i).trans (longCells_get _ _ _ (by omega) (by omega))) ?_)) | (go_at_call_of 22 (Value.string (strOfNums (longNums 1048576))); go_must (refine (life_Parse.calls (strOfNums (longNums 1048576)) 0 0 0 0 3 _ PF2.out).mono ?_; rintro e w5 ⟨rfl, hb⟩; have HM5 := Aside0.mk (blk_below (blk_far (blk_far (blk_far HM4.out nmga _) nmga _) nmga _) hb); have HB5 := Aside0.mk (below_step (below_set (below_set (below_set HB4.out ega) ega) ega) hb); clear hb)) | ((with_reducible refine gate_dst (N := 6) rfl ?_); go_must (refine box_event ?hg (N := 6) ?hd (cs := #[.int .u8 0, .int .u16 0, .int .u16 0]) (t := 37) ?hr ?_; (case hd => rfl); (case hg => rfl); (case hr => first | (go_simp; done) | (go_simp; rfl)); intro gb hg w6 hbox hb; have HM6 := Aside0.mk (blk_below HM5.out hb); have HX6 := Aside0.mk hbox; have nmgb : gm ≠ gb := (by subst hg; exact Nat.ne_of_lt (blk_lt HM5.out)); have egb : w.heap.size ≤ gb := (by subst hg; exact below_size HB5.out); have HB6 := Aside0.mk (below_step HB5.out hb); clear hb hbox hg; have c0 : w6.cell? ⟨gb, 0, none⟩ = some (.int .u8 0) := blk_cell HX6.out 0; have cz0 := blk_frozen HX6.out 0; have c1 : w6.cell? ⟨gb, 1, none⟩ = some (.int .u16 0) := blk_cell HX6.out 1; have cz1 := blk_frozen HX6.out 1; have c2 : w6.cell? ⟨gb, 2, none⟩ = some (.int .u16 0) := blk_cell HX6.out 2; have cz2 := blk_frozen HX6.out 2)))
  go_ret
  exact ⟨rfl, by repeat (first | exact HB6.out | refine below_set ?_ egb)⟩
end Go.Proofs.Ytfgonglcmgahkaa.P

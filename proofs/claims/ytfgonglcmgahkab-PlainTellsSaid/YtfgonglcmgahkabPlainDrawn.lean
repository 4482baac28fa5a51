/- Lines of runes, the rune of each place asked for: the text that comes of it. -/
import Derived.Test.YtfgonglcmgahkabPlainBuild
import Derived.Test.YtfgonglcmgahkabPureLib
import Derived.Deep.DeepMust
namespace Go.Proofs.Ytfgonglcmgahkab.L
open Go.Shelf Go.RowKit Go.Proofs.YtfgonglcmgahkabW.PrintWords Go.Proofs.YtfgonglcmgahkabW.PrintLast Go.Proofs.YtfgonglcmgahkabW.PrintMore
/-- The bytes of a row, from a place on. -/
def rowB (g : Int → Int → Int) (y : Int) : Nat → Int → List UInt8
 | 0, _ => []
 | n + 1, x => Lib.encodeRune (g x y) ++ rowB g y n (x + 1)
def rowsB (g : Int → Int → Int) (w : Nat) : Nat → Int → List UInt8
 | 0, _ => []
 | n + 1, y => rowB g y w 0 ++ ([10] ++ rowsB g w n (y + 1))
theorem rowB_succ (g : Int → Int → Int) (y : Int) (n : Nat) (x : Int) : rowB g y (n + 1) x = Lib.encodeRune (g x y) ++ rowB g y n (x + 1) := rfl
theorem rowsB_succ (g : Int → Int → Int) (w n : Nat) (y : Int) : rowsB g w (n + 1) y = rowB g y w 0 ++ ([10] ++ rowsB g w n (y + 1)) := rfl
theorem rowB_zero (g : Int → Int → Int) (y x : Int) : rowB g y 0 x = [] := rfl
theorem rowsB_zero (g : Int → Int → Int) (w : Nat) (y : Int) : rowsB g w 0 y = [] := rfl
theorem encode_len (r : Int) : (Lib.encodeRune r).length ≤ 4 := by
 have h := congrArg List.length (Lib.byteCells_encodeRune r)
 rw [Lib.byteCells_length] at h
 rw [h]
 exact (Lib.runeCells_le r).2
theorem rowB_len (g : Int → Int → Int) (y : Int) : ∀ (n : Nat) (x : Int), (rowB g y n x).length ≤ 4 * n
 | 0, _ => Nat.le_refl _
 | n + 1, x => by
  unfold rowB
  rw [List.length_append]
  have := rowB_len g y n (x + 1)
  have := encode_len (g x y)
  omega
theorem rowsB_len (g : Int → Int → Int) (w : Nat) : ∀ (n : Nat) (y : Int), (rowsB g w n y).length ≤ n * (4 * w + 1)
 | 0, _ => by simp [rowsB]
 | n + 1, y => by
  unfold rowsB
  rw [List.length_append, List.length_append, Nat.succ_mul]
  have := rowsB_len g w n (y + 1)
  have := rowB_len g y w 0
  simp only [List.length_cons, List.length_nil]
  omega
theorem grown_none' {W W' : World} (h : Below W.heap.size W W') : W.grownBy W' none := ⟨h.os, h.tape, h.output, h.size, fun k hk _ => h.block k hk⟩
theorem bld_below {T e : TypeId} {B b : Nat} {bs : List Value} {W W' : World} (h : Lib.IsBuilder T e B b bs W) (hb : Below W.heap.size W W') : Lib.IsBuilder T e B b bs W' := by
 have one : ∀ p, Lib.BuilderAt T e B b p bs W → Lib.BuilderAt T e B b p bs W' := fun p h => by
  obtain ⟨h1, v, h2, h3, h4⟩ := h
  exact ⟨h1, v, (hb.block _ (Array.getElem?_eq_some_iff.1 h2).1).trans h2, h3.kept (grown_none' hb) (by
   rcases h3.2 with ⟨rfl, _⟩ | ⟨g, cap, cur, rfl, _⟩
   ·exact .inl rfl
   ·exact .inr (by simp [Value.ownBlock])), h4⟩
 rcases h with h | h
 ·exact .inl (one _ h)
 ·exact .inr (one _ h)
/-- The answer. -/
def drawnP (g : Int → Int → Int) (W H : Int) : ByteArray × Int := if 1048576 < (W + 1) * H then (⟨#[]⟩, 3) else if 1048576 < (rowsB g W.toNat H.toNat 0).length then (⟨#[]⟩, 3) else (⟨(rowsB g W.toNat H.toNat 0).toArray⟩, 0)
set_option maxRecDepth 100000 in
set_option maxHeartbeats 4000000 in
theorem drawn_calls (fn : Nat) (caps : Array Value) (efn : ∀ args w, (callFunc fn args).run Try.prog w = .ok (.enter fn args) w) (g : Int → Int → Int) (hg : ∀ x y, -2147483648 ≤ g x y ∧ g x y ≤ 2147483647) (W H : Nat) (hW : W ≤ 65536) (hH : H ≤ 65536) (w : World)
  (hf : ∀ (x y : Nat) (w1 : World), x < W → y < H → Below w.heap.size w w1 → Calls Try.prog fn (#[.int .i64 x, .int .i64 y] ++ caps) w1 fun e w' => e = .returned (.int .i32 (g x y)) ∧ Below w1.heap.size w1 w') :
  Calls Try.prog 25 #[.int .i64 W, .int .i64 H, .func (.func fn) #[] caps] w fun e w' => e = .returned (.tuple #[.string (drawnP g W H).1, .int .i64 (drawnP g W H).2]) ∧ Below w.heap.size w w' := by
 have hF := Aside0.mk hf
 have hG := Aside0.mk hg
 clear hf hg
 have hb : ((W : Int) + 1) * H ≤ 65537 * 65536 := Int.mul_le_mul (by omega) (by omega) (by omega) (by omega)
 have hb0 : 0 ≤ ((W : Int) + 1) * H := Int.mul_nonneg (by omega) (by omega)
 have hwr : wrap64 (((W : Int) + 1) * H) = ((W : Int) + 1) * H := by unfold wrap64; omega
 by_cases hs : 1048576 < ((W : Int) + 1) * H
 ·have z : decide (1048576 < wrap64 (((W : Int) + 1) * H)) = true := by rw [hwr]; exact decide_eq_true hs
  have hD := Aside0.mk (show drawnP g W H = (⟨#[]⟩, 3) from by unfold drawnP; rw [if_pos hs])
  clear hs hb hb0 hwr
  go_enter Try.func25, Try.ntmps25
  go_wp2
  go_ret2
  rw [hD.out]
  exact ⟨rfl, Below.refl _ _⟩
 ·have z : decide (1048576 < wrap64 (((W : Int) + 1) * H)) = false := by rw [hwr]; exact decide_eq_false hs
  have hD := Aside0.mk (show drawnP g W H = if 1048576 < (rowsB g W H 0).length then (⟨#[]⟩, 3) else (⟨(rowsB g W H 0).toArray⟩, 0) from by unfold drawnP; rw [if_neg hs, Int.toNat_natCast, Int.toNat_natCast])
  clear hs hb hb0 hwr
  go_enter Try.func25, Try.ntmps25
  go_wp2
  go_loopw [17] (fun v17 wr => ∃ (y : Nat) (ac : List UInt8), v17 = .int .i64 y ∧ (y ≤ H ∧ ac.length ≤ y * 262145) ∧ Aside0 (ac ++ rowsB g W (H - y) y = rowsB g W H 0) ∧ Aside0 (Lib.IsBuilder 67 5 w.heap.size w.heap.size (Lib.byteCells ac) wr) ∧ Aside0 (Below w.heap.size w wr))
   (fun v17 _ => H - (match v17 with | .int _ i => i.toNat | _ => 0))
  case atStart =>
   exact ⟨0, [], rfl, ⟨by omega, by simp⟩, ⟨rfl⟩, ⟨.inl ⟨Nat.le_refl _, _, blk_new w _, World.ownsRow_nil _ _ _ _, by simp [Value.ownBlock]⟩⟩, ⟨(Below.refl _ w).alloc (Nat.le_refl _) _⟩⟩
  case round =>
   obtain ⟨y, ac, rfl, ⟨hy0, hac⟩, HA, HX0, HB⟩ := hrel
   by_cases hy : y < H
   ·have hy2 : (y : Int) < (H : Int) := by omega
    go_wp2
    go_loopw [21] (fun v21 wx => ∃ (x : Nat) (ac2 : List UInt8), v21 = .int .i64 x ∧ (x ≤ W ∧ ac2.length ≤ ac.length + 4 * x) ∧ Aside0 (ac2 ++ rowB g y (W - x) x = ac ++ rowB g y W 0) ∧ Aside0 (Lib.IsBuilder 67 5 w.heap.size w.heap.size (Lib.byteCells ac2) wx) ∧ Aside0 (Below w.heap.size w wx))
     (fun v21 _ => W - (match v21 with | .int _ i => i.toNat | _ => 0))
    case atStart => exact ⟨0, ac, rfl, ⟨by omega, by omega⟩, ⟨rfl⟩, HX0, HB⟩
    case round =>
     obtain ⟨x, ac2, rfl, ⟨hx0, hac2⟩, HA2, HX, HB2⟩ := hrel
     by_cases hx : x < W
     ·have hx2 : (x : Int) < (W : Int) := by omega
      have hac3 : ac2.length ≤ 17180200000 := by omega
      go_wp2_with (first | (go_at_fn fn; refine (hF.out x y _ (by omega) (by omega) HB2.out).mono ?_; rintro e w2 ⟨rfl, hb2⟩; have HX2 := bld_below HX.out hb2; have HB3 := Aside0.mk (HB2.out.trans (hb2.mono HB2.out.size)); clear hb2) | (go_at_call 34; go_must (refine (write_rune w.heap.size w.heap.size (Lib.byteCells ac2) (g x y) (hG.out x y).1 (hG.out x y).2 _ HX2 (by rw [Lib.byteCells_length]; omega) HB3.out.size).mono ?_; rintro e w3 ⟨rfl, hx3, hb3⟩; have HX3 := Aside0.mk hx3; have HB4 := Aside0.mk (HB3.out.trans hb3); clear hx3 hb3)))
      go_roundw
      case rel =>
       refine ⟨x + 1, ac2 ++ Lib.encodeRune (g x y), rfl, ⟨by omega, by rw [List.length_append]; have := encode_len (g x y); omega⟩, ⟨?_⟩, ⟨.inr ?_⟩, HB4⟩
       ·have h := HA2.out
        rw [show W - x = (W - (x + 1)) + 1 from by omega, rowB_succ] at h
        rw [List.append_assoc]
        exact h
       ·rw [Lib.byteCells_append, Lib.byteCells_encodeRune]
        exact HX3.out
      case measure => simp; omega
     ·have hx2 : ¬ (x : Int) < (W : Int) := by omega
      have hac3 : ac2.length ≤ 17180200000 := by omega
      go_wp2_with (go_at_call 35; go_must (refine (write_byte w.heap.size w.heap.size (Lib.byteCells ac2) 10 _ HX.out (by rw [Lib.byteCells_length]; omega) HB2.out.size).mono ?_; rintro e w3 ⟨rfl, hx3, hb3⟩; have HX3 := Aside0.mk hx3; have HB4 := Aside0.mk (HB2.out.trans hb3); clear hx3 hb3))
      go_roundw
      case rel =>
       refine ⟨y + 1, ac2 ++ [10], rfl, ⟨by omega, by rw [List.length_append, List.length_singleton]; omega⟩, ⟨?_⟩, ⟨.inr ?_⟩, HB4⟩
       ·have h := HA.out
        have h2 := HA2.out
        rw [show H - y = (H - (y + 1)) + 1 from by omega, rowsB_succ] at h
        rw [show W - x = 0 from by omega, rowB_zero, List.append_nil] at h2
        rw [h2, List.append_assoc, List.append_assoc]
        exact h
       ·rw [Lib.byteCells_append]
        exact HX3.out
      case measure => simp; omega
   ·have hy2 : ¬ (y : Int) < (H : Int) := by omega
    have hA := HA.out
    rw [show H - y = 0 from by omega, rowsB_zero, List.append_nil] at hA
    have hD2 := hD.out
    rw [← hA] at hD2
    clear HA hA hD
    by_cases hz : 1048576 < ac.length
    ·have z2 : decide (1048576 < (ac.length : Int)) = true := decide_eq_true (by omega)
     rw [if_pos hz] at hD2
     have HD := Aside0.mk hD2
     clear hD2
     go_wp2_with (go_at_call 36; go_must (refine (Try.Builder_Len w.heap.size w.heap.size (Lib.byteCells ac) _ HX0.out).mono ?_; rintro e w2 ⟨rfl, rfl⟩; rw [Lib.byteCells_length]))
     go_ret2
     rw [HD.out]
     exact ⟨rfl, HB.out⟩
    ·have z2 : decide (1048576 < (ac.length : Int)) = false := decide_eq_false (by omega)
     rw [if_neg hz] at hD2
     have HD := Aside0.mk hD2
     clear hD2
     go_wp2_with (first | (go_at_call 36; go_must (refine (Try.Builder_Len w.heap.size w.heap.size (Lib.byteCells ac) _ HX0.out).mono ?_; rintro e w2 ⟨rfl, rfl⟩; rw [Lib.byteCells_length])) | (go_at_call 37; go_must (refine (Try.Builder_String_any w.heap.size w.heap.size ac _ HX0.out HB.out.size).mono ?_; rintro e w3 ⟨rfl, hb3⟩; have HB3 := Aside0.mk (HB.out.trans hb3); clear hb3)))
     go_ret2
     rw [HD.out]
     exact ⟨rfl, HB3.out⟩
end Go.Proofs.Ytfgonglcmgahkab.L

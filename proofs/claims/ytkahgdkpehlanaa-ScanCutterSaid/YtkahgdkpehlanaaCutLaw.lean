/- Any calls of two cutters in turns, and of one that is nil, and a zero one, between. -/
import Derived.Test.YtkahgdkpehlanaaCutNil
import Derived.Test.YtkahgdkpehlanaaScanLib
import Derived.Test.YtkahgdkpehlanaaPm4
import Derived.Test.YtkahgdkpehlanaaPm8
set_option linter.unusedVariables false
namespace Go.Proofs.Ytkahgdkpehlanaa.L
open Go.RowKit Go.Proofs.Ytkahgdkpehlanaa.P Go.Proofs.YtkahgdkpehlanaaW.PrintWords Go.Proofs.YtkahgdkpehlanaaW.PrintLast Go.Proofs.YtkahgdkpehlanaaW.PrintMore
theorem pair_frame {I F : World → Prop} {S : Nat → Prop} {f g : Nat} {ca ra : Array Value} {T : Value → Prop} (h : PairC I S f g ca ra T) (hF : ∀ w w', F w → StaysB S w w' → F w') : PairC (fun w => I w ∧ F w) S f g ca ra T := fun w ⟨hI, hf⟩ => by
  obtain ⟨r, M, hT, h1, h2⟩ := h w hI
  exact ⟨r, fun w' => M w' ∧ F w', hT, h1.mono (fun e w' ⟨a, b, c⟩ => ⟨a, ⟨b, hF _ _ hf c⟩, c⟩), fun w' ⟨hM, hf'⟩ => (h2 w' hM).mono (fun e w'' ⟨a, b, c⟩ => ⟨a, ⟨b, hF _ _ hf' c⟩, c⟩)⟩
theorem twins_frame {I F : World → Prop} {S : Nat → Prop} {c r : Value} (h : Twins I S c r) (hF : ∀ w w', F w → StaysB S w w' → F w') : Twins (fun w => I w ∧ F w) S c r where
  box := fun w o ⟨a, b⟩ => ⟨h.box w o a, hF _ _ b ((StaysB.refl S w).alloc o)⟩
  old := fun w k ⟨a, _⟩ hk => h.old w k a hk
  at_ := pair_frame h.at_ hF
  done := pair_frame h.done hF
  peek := pair_frame h.peek hF
  take := fun b => pair_frame (h.take b) hF
  blanks := pair_frame h.blanks hF
  number := pair_frame h.number hF
  name := pair_frame h.name hF
theorem pair_congr {I J : World → Prop} {S : Nat → Prop} {f g : Nat} {ca ra : Array Value} {T : Value → Prop} (h : PairC I S f g ca ra T) (hIJ : ∀ w, I w ↔ J w) : PairC J S f g ca ra T := fun w hJ => by
  obtain ⟨r, M, hT, h1, h2⟩ := h w ((hIJ w).2 hJ)
  exact ⟨r, M, hT, h1, fun w' hM => (h2 w' hM).mono (fun e w'' ⟨a, b, c⟩ => ⟨a, (hIJ w'').1 b, c⟩)⟩
theorem twins_congr {I J : World → Prop} {S : Nat → Prop} {c r : Value} (h : Twins I S c r) (hIJ : ∀ w, I w ↔ J w) : Twins J S c r where
  box := fun w o a => (hIJ _).1 (h.box w o ((hIJ w).2 a))
  old := fun w k a hk => h.old w k ((hIJ w).2 a) hk
  at_ := pair_congr h.at_ hIJ
  done := pair_congr h.done hIJ
  peek := pair_congr h.peek hIJ
  take := fun b => pair_congr (h.take b) hIJ
  blanks := pair_congr h.blanks hIJ
  number := pair_congr h.number hIJ
  name := pair_congr h.name hIJ
/-- Two cutters at one place, what else the world may be. -/
def At2 (w0 : World) (gc gr : Nat) (t : ByteArray) (w : World) : Prop := ∃ a : Nat, a ≤ t.size ∧ IsS43 w0 w gc t (a : Int) true ∧ IsS74 w0 w gr t (a : Int)
theorem At2.stays {w0 w w' : World} {gc gr : Nat} {t : ByteArray} {S : Nat → Prop} (h : At2 w0 gc gr t w) (hs : StaysB S w w') (h1 : ¬ S gc) (h2 : ¬ S gr) : At2 w0 gc gr t w' := by
  obtain ⟨a, ha, i1, i2⟩ := h
  exact ⟨a, ha, ⟨(hs.2 gc (Array.getElem?_eq_some_iff.1 i1.1).1 h1).trans i1.1, i1.2⟩, ⟨(hs.2 gr (Array.getElem?_eq_some_iff.1 i2.1).1 h2).trans i2.1, i2.2⟩⟩
theorem zero_stays {w0 w w' : World} {gz : Nat} {S : Nat → Prop} (h : IsS43 w0 w gz ⟨#[]⟩ 0 false) (hs : StaysB S w w') (h1 : ¬ S gz) : IsS43 w0 w' gz ⟨#[]⟩ 0 false := ⟨(hs.2 gz (Array.getElem?_eq_some_iff.1 h.1).1 h1).trans h.1, h.2⟩
structure Five (gc gr gd gs gz : Nat) : Prop where
  cd : gc ≠ gd
  cs : gc ≠ gs
  cz : gc ≠ gz
  rd : gr ≠ gd
  rs : gr ≠ gs
  rz : gr ≠ gz
  dz : gd ≠ gz
  sz : gs ≠ gz
/-- All five. -/
def InvC (w0 : World) (gc gr gd gs gz : Nat) (t o : ByteArray) (w : World) : Prop := At2 w0 gc gr t w ∧ At2 w0 gd gs o w ∧ IsS43 w0 w gz ⟨#[]⟩ 0 false ∧ Below w0.heap.size w0 w
theorem both_at2 {w0 w : World} {gc gr : Nat} {t : ByteArray} : Both2 w0 gc gr t w ↔ At2 w0 gc gr t w ∧ Below w0.heap.size w0 w :=
  ⟨fun ⟨a, b, c, d, e⟩ => ⟨⟨a, b, c, d⟩, e⟩, fun ⟨⟨a, b, c, d⟩, e⟩ => ⟨a, b, c, d, e⟩⟩
section
variable {w0 : World} {gc gr gd gs gz : Nat} {t o : ByteArray}
theorem twins1 (D : Five gc gr gd gs gz) (ht : t.size ≤ 140737488351232) : Twins (InvC w0 gc gr gd gs gz t o) (fun k => k = gc ∨ k = gr) (.pointer (some ⟨gc, 0, none⟩)) (.pointer (some ⟨gr, 0, none⟩)) := by
  refine twins_congr (twins_frame (F := fun w => At2 w0 gd gs o w ∧ IsS43 w0 w gz ⟨#[]⟩ 0 false) (twins_both w0 gc gr t ht) (fun w w' ⟨a, b⟩ hs => ⟨a.stays hs (fun e => e.elim (fun q => D.cd q.symm) (fun q => D.rd q.symm)) (fun e => e.elim (fun q => D.cs q.symm) (fun q => D.rs q.symm)), zero_stays b hs (fun e => e.elim (fun q => D.cz q.symm) (fun q => D.rz q.symm))⟩)) (fun w => ?_)
  unfold InvC
  rw [both_at2]
  exact ⟨fun ⟨⟨a, b⟩, c, d⟩ => ⟨a, c, d, b⟩, fun ⟨a, c, d, b⟩ => ⟨⟨a, b⟩, c, d⟩⟩
theorem twins2 (D : Five gc gr gd gs gz) (ho : o.size ≤ 140737488351232) : Twins (InvC w0 gc gr gd gs gz t o) (fun k => k = gd ∨ k = gs) (.pointer (some ⟨gd, 0, none⟩)) (.pointer (some ⟨gs, 0, none⟩)) := by
  refine twins_congr (twins_frame (F := fun w => At2 w0 gc gr t w ∧ IsS43 w0 w gz ⟨#[]⟩ 0 false) (twins_both w0 gd gs o ho) (fun w w' ⟨a, b⟩ hs => ⟨a.stays hs (fun e => e.elim (fun q => D.cd q) (fun q => D.cs q)) (fun e => e.elim (fun q => D.rd q) (fun q => D.rs q)), zero_stays b hs (fun e => e.elim (fun q => D.dz q.symm) (fun q => D.sz q.symm))⟩)) (fun w => ?_)
  unfold InvC
  rw [both_at2]
  exact ⟨fun ⟨⟨a, b⟩, c, d⟩ => ⟨c, a, d, b⟩, fun ⟨c, a, d, b⟩ => ⟨⟨a, b⟩, c, d⟩⟩
theorem twins3 : Twins (InvC w0 gc gr gd gs gz t o) (fun _ => False) (.pointer none) (.pointer none) := by
  refine twins_congr (twins_frame (F := fun w => At2 w0 gc gr t w ∧ At2 w0 gd gs o w ∧ IsS43 w0 w gz ⟨#[]⟩ 0 false) (twins_nil w0) (fun w w' ⟨a, b, c⟩ hs => ⟨a.stays hs id id, b.stays hs id id, zero_stays c hs id⟩)) (fun w => ?_)
  unfold InvC NilI
  exact ⟨fun ⟨b, a, c, d⟩ => ⟨a, c, d, b⟩, fun ⟨a, c, d, b⟩ => ⟨b, a, c, d⟩⟩
theorem twins4 (D : Five gc gr gd gs gz) : Twins (InvC w0 gc gr gd gs gz t o) (fun k => k = gz) (.pointer (some ⟨gz, 0, none⟩)) (.pointer none) := by
  refine twins_congr (twins_frame (F := fun w => At2 w0 gc gr t w ∧ At2 w0 gd gs o w) (twins_zero w0 gz) (fun w w' ⟨a, b⟩ hs => ⟨a.stays hs D.cz D.rz, b.stays hs D.dz D.sz⟩)) (fun w => ?_)
  unfold InvC ZeroI
  exact ⟨fun ⟨⟨d, b⟩, a, c⟩ => ⟨a, c, d, b⟩, fun ⟨a, c, d, b⟩ => ⟨⟨d, b⟩, a, c⟩⟩
end
theorem new_is (t : ByteArray) : scan_New.f t = some (t, 0, true) := rfl
theorem rnew_is (t : ByteArray) : vivariumref03_New.f t = some (t, 0) := rfl
theorem is43_of {w0 w1 w2 w : World} {g : Nat} {f0 : ByteArray} {f1 : Int} {f2 : Bool} (h : IsS43 w1 w2 g f0 f1 f2) (hb : Below w2.heap.size w2 w) (h0 : w0.heap.size ≤ w1.heap.size) : IsS43 w0 w g f0 f1 f2 := ⟨(hb.block g (Array.getElem?_eq_some_iff.1 h.1).1).trans h.1, Nat.le_trans h0 h.2⟩
theorem is74_of {w0 w1 w2 w : World} {g : Nat} {f0 : ByteArray} {f1 : Int} (h : IsS74 w1 w2 g f0 f1) (hb : Below w2.heap.size w2 w) (h0 : w0.heap.size ≤ w1.heap.size) : IsS74 w0 w g f0 f1 := ⟨(hb.block g (Array.getElem?_eq_some_iff.1 h.1).1).trans h.1, Nat.le_trans h0 h.2⟩
set_option maxHeartbeats 8000000 in
set_option maxRecDepth 100000 in
theorem cutter_calls (t o : ByteArray) (ht : t.size ≤ 140737488351232) (ho : o.size ≤ 140737488351232) (A : Option Addr) (c : Nat) (ops : List S45) (w : World) (hC : Kd.C k45 w A ops.length ops) (hc : ops.length ≤ c) :
    Calls Try.prog 6 #[.string t, .string o, .slice A ops.length c] w fun e w' => e = .returned (.bool true) ∧ Below w.heap.size w w' := by
  have HC := Aside0.mk hC
  have Hc := Aside0.mk hc
  have HT := Aside0.mk ht
  have HO := Aside0.mk ho
  have hlen : ops.length ≤ 9223372036854775807 := hC.2.1
  clear hC hc ht ho
  go_enter Try.func6, Try.ntmps6
  go_wp2_with (first | (go_at_call 10; (with_reducible refine (vivariumlaw03_awake.calls 1000 true _ (awake_true 1000 (Nat.le_refl _))).mono ?_); rintro e w1 ⟨rfl, hb⟩; have HB1 := Aside0.mk hb; clear hb) | (go_at_call 17; (with_reducible refine (scan_New.calls t t 0 true _ _ (Below.refl _ _) (new_is t)).mono ?_); rintro e w2 ⟨gc, rfl, hi, hb, _⟩; have HI2 := Aside0.mk hi; have HB2 := Aside0.mk hb; clear hi hb) | (go_at_call 17; (with_reducible refine (scan_New.calls o o 0 true _ _ (Below.refl _ _) (new_is o)).mono ?_); rintro e w3 ⟨gd, rfl, hi, hb, _⟩; have HI3 := Aside0.mk hi; have HB3 := Aside0.mk hb; clear hi hb) | (go_at_call 18; (with_reducible refine (vivariumref03_New.calls t t 0 _ _ (Below.refl _ _) (rnew_is t)).mono ?_); rintro e w4 ⟨gr, rfl, hi, hb, _⟩; have HI4 := Aside0.mk hi; have HB4 := Aside0.mk hb; clear hi hb) | (go_at_call 18; (with_reducible refine (vivariumref03_New.calls o o 0 _ _ (Below.refl _ _) (rnew_is o)).mono ?_); rintro e w5 ⟨gs, rfl, hi, hb, _⟩; have HI5 := Aside0.mk hi; have HB5 := Aside0.mk hb; clear hi hb))
  have l2 := (Array.getElem?_eq_some_iff.1 HI2.out.1).1
  have l3 := (Array.getElem?_eq_some_iff.1 HI3.out.1).1
  have l4 := (Array.getElem?_eq_some_iff.1 HI4.out.1).1
  have l5 := (Array.getElem?_eq_some_iff.1 HI5.out.1).1
  have g3 := HI3.out.2
  have g4 := HI4.out.2
  have g5 := HI5.out.2
  have z1 := HB1.out.size
  have z2 := HB2.out.size
  have z3 := HB3.out.size
  have z4 := HB4.out.size
  have z5 := HB5.out.size
  have HD : Aside0 (Five gc gr gd gs w5.heap.size) := ⟨⟨by omega, by omega, by omega, by omega, by omega, by omega, by omega, by omega⟩⟩
  have HV0 : Aside0 (InvC w gc gr gd gs w5.heap.size t o (w5.alloc (.cells #[.string ⟨#[]⟩, .int .i64 0, .bool false] 43))) := ⟨by
    have b5 : Below w5.heap.size w5 (w5.alloc (.cells #[.string ⟨#[]⟩, .int .i64 0, .bool false] 43)) := (Below.refl _ w5).alloc (Nat.le_refl _) _
    have b4 := HB5.out.trans (b5.mono z5)
    have b3 := HB4.out.trans (b4.mono z4)
    have b2 := HB3.out.trans (b3.mono z3)
    have b1 := HB2.out.trans (b2.mono z2)
    exact ⟨⟨0, Nat.zero_le _, is43_of HI2.out b2 (by omega), is74_of HI4.out b4 (by omega)⟩, ⟨0, Nat.zero_le _, is43_of HI3.out b3 (by omega), is74_of HI5.out b5 (by omega)⟩, ⟨blk_new w5 _, by omega⟩, HB1.out.trans (b1.mono z1)⟩⟩
  clear l2 l3 l4 l5 g3 g4 g5 z1 z2 z3 z4 z5
  clear HI2 HI3 HI4 HI5 HB1 HB2 HB3 HB4 HB5
  go_loopw [7, 13] (fun v7 v13 wq => ∃ i : Nat, v13 = .int .i64 i ∧ v7 = .bool true ∧ i ≤ ops.length ∧ Aside0 (InvC w gc gr gd gs w5.heap.size t o wq)) (fun _ v13 _ => ops.length - (match v13 with | .int _ n => n.toNat | _ => 0))
  case atStart => exact ⟨0, rfl, rfl, Nat.zero_le _, HV0⟩
  case round =>
    clear HV0
    obtain ⟨i, rfl, rfl, hi, HV⟩ := hrel
    by_cases hlt : i < ops.length
    · have p1 : 0 ≤ (i : Int) := by omega
      have q1 : (i : Int) < (ops.length : Int) := by omega
      obtain ⟨ad, eA, hx0, hx1, hx2⟩ := at_T45 (Kd.C_below HC.out HV.out.2.2.2) (i : Int) p1 q1
      cases eA
      obtain ⟨⟨K, Wh, b⟩, hop⟩ : ∃ x, rd_T45 ops (i : Int) = x := ⟨_, rfl⟩
      rw [hop] at hx0 hx1 hx2
      dsimp only at hx0 hx1 hx2
      clear hop
      rw [Int.toNat_natCast] at hx0 hx1 hx2
      have m1 := Int.tmod_lt_of_pos Wh (b := 4) (by decide)
      have m2 := Int.lt_tmod_of_pos Wh (b := 4) (by decide)
      obtain ⟨m, hm⟩ : ∃ m, Int.tmod Wh 4 = m := ⟨_, rfl⟩
      rw [hm] at m1 m2
      have HL := Aside0.mk hlt
      by_cases c0 : m = 0
      · have e0 : (m == 0) = true := beq_iff_eq.mpr c0
        clear c0
        go_wp2_with (first | (go_at_call 19; (with_reducible refine (one_any (twins1 HD.out HT.out) K Wh b _ HV.out).mono ?_); rintro e w6 ⟨rfl, hi, _⟩; have HV6 := Aside0.mk hi; clear hi; obtain ⟨v, M, ⟨rv, rfl⟩, h1, h2⟩ := (twins1 HD.out HT.out).at_ _ HV6.out; have H1 := Aside0.mk h1; have H2 := Aside0.mk h2; clear h1 h2) | (go_at_call 20; (with_reducible refine H1.out.mono ?_); rintro e w7 ⟨rfl, hm7, _⟩; have HM := Aside0.mk hm7; clear hm7) | (go_at_call 21; (with_reducible refine (H2.out _ HM.out).mono ?_); rintro e w8 ⟨rfl, hi, _⟩; have HV8 := Aside0.mk hi; clear hi; obtain ⟨v, M2, ⟨rv2, rfl⟩, h3, h4⟩ := (twins2 HD.out HO.out).at_ _ HV8.out; have H3 := Aside0.mk h3; have H4 := Aside0.mk h4; clear h3 h4) | (go_at_call 20; (with_reducible refine H3.out.mono ?_); rintro e w9 ⟨rfl, hm9, _⟩; have HM2 := Aside0.mk hm9; clear hm9) | (go_at_call 21; (with_reducible refine (H4.out _ HM2.out).mono ?_); rintro e w10 ⟨rfl, hi, _⟩; have HV10 := Aside0.mk hi; clear hi))
        go_roundw
        case rel => exact ⟨i + 1, by go_num, rfl, by omega, HV10⟩
        case measure => simp; omega
      · have e0 : (m == 0) = false := beq_eq_false_iff_ne.mpr c0
        by_cases c1 : m = 1
        · have e1 : (m == 1) = true := beq_iff_eq.mpr c1
          clear c1 c0
          go_wp2_with (first | (go_at_call 19; (with_reducible refine (one_any (twins2 HD.out HO.out) K Wh b _ HV.out).mono ?_); rintro e w6 ⟨rfl, hi, _⟩; have HV6 := Aside0.mk hi; clear hi; obtain ⟨v, M, ⟨rv, rfl⟩, h1, h2⟩ := (twins1 HD.out HT.out).at_ _ HV6.out; have H1 := Aside0.mk h1; have H2 := Aside0.mk h2; clear h1 h2) | (go_at_call 20; (with_reducible refine H1.out.mono ?_); rintro e w7 ⟨rfl, hm7, _⟩; have HM := Aside0.mk hm7; clear hm7) | (go_at_call 21; (with_reducible refine (H2.out _ HM.out).mono ?_); rintro e w8 ⟨rfl, hi, _⟩; have HV8 := Aside0.mk hi; clear hi; obtain ⟨v, M2, ⟨rv2, rfl⟩, h3, h4⟩ := (twins2 HD.out HO.out).at_ _ HV8.out; have H3 := Aside0.mk h3; have H4 := Aside0.mk h4; clear h3 h4) | (go_at_call 20; (with_reducible refine H3.out.mono ?_); rintro e w9 ⟨rfl, hm9, _⟩; have HM2 := Aside0.mk hm9; clear hm9) | (go_at_call 21; (with_reducible refine (H4.out _ HM2.out).mono ?_); rintro e w10 ⟨rfl, hi, _⟩; have HV10 := Aside0.mk hi; clear hi))
          go_roundw
          case rel => exact ⟨i + 1, by go_num, rfl, by omega, HV10⟩
          case measure => simp; omega
        · have e1 : (m == 1) = false := beq_eq_false_iff_ne.mpr c1
          by_cases c2 : m = 2
          · have e2 : (m == 2) = true := beq_iff_eq.mpr c2
            clear c2 c1 c0
            go_wp2_with (first | (go_at_call 19; (with_reducible refine (one_any (twins3) K Wh b _ HV.out).mono ?_); rintro e w6 ⟨rfl, hi, _⟩; have HV6 := Aside0.mk hi; clear hi; obtain ⟨v, M, ⟨rv, rfl⟩, h1, h2⟩ := (twins1 HD.out HT.out).at_ _ HV6.out; have H1 := Aside0.mk h1; have H2 := Aside0.mk h2; clear h1 h2) | (go_at_call 20; (with_reducible refine H1.out.mono ?_); rintro e w7 ⟨rfl, hm7, _⟩; have HM := Aside0.mk hm7; clear hm7) | (go_at_call 21; (with_reducible refine (H2.out _ HM.out).mono ?_); rintro e w8 ⟨rfl, hi, _⟩; have HV8 := Aside0.mk hi; clear hi; obtain ⟨v, M2, ⟨rv2, rfl⟩, h3, h4⟩ := (twins2 HD.out HO.out).at_ _ HV8.out; have H3 := Aside0.mk h3; have H4 := Aside0.mk h4; clear h3 h4) | (go_at_call 20; (with_reducible refine H3.out.mono ?_); rintro e w9 ⟨rfl, hm9, _⟩; have HM2 := Aside0.mk hm9; clear hm9) | (go_at_call 21; (with_reducible refine (H4.out _ HM2.out).mono ?_); rintro e w10 ⟨rfl, hi, _⟩; have HV10 := Aside0.mk hi; clear hi))
            go_roundw
            case rel => exact ⟨i + 1, by go_num, rfl, by omega, HV10⟩
            case measure => simp; omega
          · have e2 : (m == 2) = false := beq_eq_false_iff_ne.mpr c2
            clear c2 c1 c0
            go_wp2_with (first | (go_at_call 19; (with_reducible refine (one_any (twins4 HD.out) K Wh b _ HV.out).mono ?_); rintro e w6 ⟨rfl, hi, _⟩; have HV6 := Aside0.mk hi; clear hi; obtain ⟨v, M, ⟨rv, rfl⟩, h1, h2⟩ := (twins1 HD.out HT.out).at_ _ HV6.out; have H1 := Aside0.mk h1; have H2 := Aside0.mk h2; clear h1 h2) | (go_at_call 20; (with_reducible refine H1.out.mono ?_); rintro e w7 ⟨rfl, hm7, _⟩; have HM := Aside0.mk hm7; clear hm7) | (go_at_call 21; (with_reducible refine (H2.out _ HM.out).mono ?_); rintro e w8 ⟨rfl, hi, _⟩; have HV8 := Aside0.mk hi; clear hi; obtain ⟨v, M2, ⟨rv2, rfl⟩, h3, h4⟩ := (twins2 HD.out HO.out).at_ _ HV8.out; have H3 := Aside0.mk h3; have H4 := Aside0.mk h4; clear h3 h4) | (go_at_call 20; (with_reducible refine H3.out.mono ?_); rintro e w9 ⟨rfl, hm9, _⟩; have HM2 := Aside0.mk hm9; clear hm9) | (go_at_call 21; (with_reducible refine (H4.out _ HM2.out).mono ?_); rintro e w10 ⟨rfl, hi, _⟩; have HV10 := Aside0.mk hi; clear hi))
            go_roundw
            case rel => exact ⟨i + 1, by go_num, rfl, by omega, HV10⟩
            case measure => simp; omega
    · have q1 : decide ((i : Int) < (ops.length : Int)) = false := decide_eq_false (by omega)
      have q2 : decide (i < ops.length) = false := decide_eq_false hlt
      go_wp2
      go_ret
      exact ⟨rfl, HV.out.2.2.2⟩
end Go.Proofs.Ytkahgdkpehlanaa.L

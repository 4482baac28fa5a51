/- Any cells: what the map of them tells, and what is wrong with them, by the list alone. -/
import Derived.Test.YtfgonglcmgahkabPlainMap
set_option linter.unusedVariables false
namespace Go.Proofs.Ytfgonglcmgahkab.L
open Go.RowKit Go.Maps Go.Proofs.Ytfgonglcmgahkab.P Go.Proofs.YtfgonglcmgahkabW.PrintWords Go.Proofs.YtfgonglcmgahkabW.PrintLast Go.Proofs.YtfgonglcmgahkabW.PrintMore
/-- The state at a place: of the first living cell there. -/
def atP : List Cl → Int → Int → Int
 | [], _, _ => 0
 | c :: cs, x, y => if c.f2 > 0 ∧ c.f0 = x ∧ c.f1 = y then c.f2 else atP cs x y
/-- No two living cells at one place. -/
def DistC (C : List Cl) : Prop := C.Pairwise fun a b => ¬ (a.f2 > 0 ∧ b.f2 > 0 ∧ a.f0 = b.f0 ∧ a.f1 = b.f1)
def nearI (n : Int) : Prop := -1099511627776 ≤ n ∧ n ≤ 1099511627776
instance (n : Int) : Decidable (nearI n) := inferInstanceAs (Decidable (_ ∧ _))
def NearAll (C : List Cl) : Prop := ∀ c ∈ C, c.f2 > 0 → nearI c.f0 ∧ nearI c.f1
/-- Numbers such as Go has them. -/
def okC (c : Cl) : Prop := 0 ≤ c.f2 ∧ c.f2 ≤ 255
theorem far_iff (n : Int) : farI n = false ↔ nearI n := by
 unfold farI nearI
 rw [Bool.or_eq_false_iff, decide_eq_false_iff_not, decide_eq_false_iff_not]
 omega
theorem far_or (a b : Int) : (farI a || farI b) = true ↔ ¬ (nearI a ∧ nearI b) := by
 rw [← far_iff, ← far_iff]
 cases farI a <;> cases farI b <;> simp
theorem isKey2 {x y : Int} (hx : nearI x) (hy : nearI y) : WideAt.IsKeyLit (klP x y) := isKey hx hy
theorem stD_far : ∀ (C : List ClS) (D : DataW Unit) (n : Int), (∀ c ∈ C, okC c) → ((stD C D n).2.2 = false ↔ NearAll C)
 | [], D, n, _ => by simp [stD, NearAll]
 | c :: cs, D, n, h => by
  have hc := h c List.mem_cons_self
  have h2 : ∀ x ∈ cs, okC x := fun x hx => h x (List.mem_cons_of_mem _ hx)
  unfold okC at hc
  rw [stD_cons]
  by_cases c0 : c.f2 = 0
  ·rw [if_pos c0, stD_far cs D n h2]
   constructor
   ·intro hn x hx hp
    rcases List.mem_cons.1 hx with rfl | hx
    ·omega
    ·exact hn x hx hp
   ·intro hn x hx hp
    exact hn x (List.mem_cons_of_mem _ hx) hp
  ·rw [if_neg c0]
   by_cases c1 : (farI c.f0 || farI c.f1) = true
   ·rw [if_pos c1]
    constructor
    ·intro e; cases e
    ·intro hn
     exact absurd (hn c List.mem_cons_self (by omega)) ((far_or _ _).1 c1)
   ·rw [if_neg c1, stD_far cs _ _ h2]
    have c2 : nearI c.f0 ∧ nearI c.f1 := Classical.byContradiction fun e => c1 ((far_or _ _).2 e)
    constructor
    ·intro hn x hx hp
     rcases List.mem_cons.1 hx with rfl | hx
     ·exact c2
     ·exact hn x hx hp
    ·intro hn x hx hp
     exact hn x (List.mem_cons_of_mem _ hx) hp
/-- How many entries come to: as many as living cells, just if no place is told twice. -/
theorem stD_dist : ∀ (C : List ClS) (D : DataW Unit) (n : Int), Tidy D → (∀ c ∈ C, okC c) → NearAll C → ((Maps.size (stD C D n).1 : Int) - Maps.size D ≤ (stD C D n).2.1 - n ∧ ((stD C D n).2.1 - n ≤ (Maps.size (stD C D n).1 : Int) - Maps.size D ↔ (DistC C ∧ ∀ c ∈ C, c.f2 > 0 → Maps.has D (klP c.f0 c.f1) = false)))
 | [], D, n, hT, _, _ => by
  refine ⟨by simp [stD], ?_⟩
  simp [stD, DistC]
 | c :: cs, D, n, hT, h, hN => by
  have hc := h c List.mem_cons_self
  have h2 : ∀ x ∈ cs, okC x := fun x hx => h x (List.mem_cons_of_mem _ hx)
  have hN2 : NearAll cs := fun x hx => hN x (List.mem_cons_of_mem _ hx)
  unfold okC at hc
  rw [stD_cons]
  by_cases c0 : c.f2 = 0
  ·rw [if_pos c0]
   obtain ⟨a, b⟩ := stD_dist cs D n hT h2 hN2
   refine ⟨a, b.trans ?_⟩
   unfold DistC
   rw [List.pairwise_cons]
   constructor
   ·rintro ⟨p, q⟩
    refine ⟨⟨fun x hx => by omega, p⟩, fun x hx hp => ?_⟩
    rcases List.mem_cons.1 hx with rfl | hx
    ·omega
    ·exact q x hx hp
   ·rintro ⟨⟨_, p⟩, q⟩
    exact ⟨p, fun x hx hp => q x (List.mem_cons_of_mem _ hx) hp⟩
  ·rw [if_neg c0]
   have c2 := hN c List.mem_cons_self (by omega)
   have c1 : ¬ (farI c.f0 || farI c.f1) = true := fun e => ((far_or _ _).1 e) c2
   rw [if_neg c1]
   have hk := isKey2 c2.1 c2.2
   obtain ⟨a, b⟩ := stD_dist cs (putC D c) (n + 1) (hT.put hk _) h2 hN2
   have hs : Maps.size (putC D c) = if Maps.has D (klP c.f0 c.f1) = true then Maps.size D else Maps.size D + 1 := by
    unfold putC
    rw [size_put hT]
   have hhas : ∀ x ∈ cs, x.f2 > 0 → (Maps.has (putC D c) (klP x.f0 x.f1) = false ↔ (Maps.has D (klP x.f0 x.f1) = false ∧ ¬ (c.f0 = x.f0 ∧ c.f1 = x.f1))) := fun x hx hp => by
    have hx2 := hN2 x hx hp
    by_cases e : c.f0 = x.f0 ∧ c.f1 = x.f1
    ·rw [← e.1, ← e.2]
     unfold putC
     rw [has_put_same hT.isMap hk]
     constructor
     ·intro e; cases e
     ·rintro ⟨_, f⟩
      exact absurd ⟨rfl, rfl⟩ f
    ·unfold putC
     rw [has_put_other (kl_ne hx2.1 hx2.2 c2.1 c2.2 (fun g => e ⟨g.1.symm, g.2.symm⟩))]
     exact ⟨fun g => ⟨g, e⟩, fun g => g.1⟩
   have hrest : (DistC cs ∧ ∀ x ∈ cs, x.f2 > 0 → Maps.has (putC D c) (klP x.f0 x.f1) = false) ↔ (DistC (c :: cs) ∧ ∀ x ∈ cs, x.f2 > 0 → Maps.has D (klP x.f0 x.f1) = false) := by
    unfold DistC
    rw [List.pairwise_cons]
    constructor
    ·rintro ⟨p, q⟩
     refine ⟨⟨fun x hx e => ?_, p⟩, fun x hx hp => ((hhas x hx hp).1 (q x hx hp)).1⟩
     exact ((hhas x hx e.2.1).1 (q x hx e.2.1)).2 e.2.2
    ·rintro ⟨⟨p0, p⟩, q⟩
     exact ⟨p, fun x hx hp => (hhas x hx hp).2 ⟨q x hx hp, fun e => p0 x hx ⟨by omega, hp, e⟩⟩⟩
   by_cases hb : Maps.has D (klP c.f0 c.f1) = true
   ·rw [if_pos hb] at hs
    refine ⟨by omega, ?_⟩
    constructor
    ·intro e; omega
    ·rintro ⟨_, q⟩
     have := q c List.mem_cons_self (by omega)
     rw [hb] at this
     cases this
   ·rw [if_neg hb] at hs
    have hb2 : Maps.has D (klP c.f0 c.f1) = false := Bool.eq_false_iff.mpr hb
    refine ⟨by omega, ?_⟩
    constructor
    ·intro e
     obtain ⟨p, q⟩ := hrest.1 (b.1 (by omega))
     refine ⟨p, fun x hx hp => ?_⟩
     rcases List.mem_cons.1 hx with rfl | hx
     ·exact hb2
     ·exact q x hx hp
    ·rintro ⟨p, q⟩
     have := b.2 (hrest.2 ⟨p, fun x hx hp => q x (List.mem_cons_of_mem _ hx) hp⟩)
     omega
theorem atP_none : ∀ (C : List Cl) (x y : Int), (∀ c ∈ C, c.f2 > 0 → ¬ (c.f0 = x ∧ c.f1 = y)) → atP C x y = 0
 | [], _, _, _ => rfl
 | c :: cs, x, y, h => by
  unfold atP
  rw [if_neg (fun e => h c List.mem_cons_self e.1 e.2)]
  exact atP_none cs x y (fun d hd => h d (List.mem_cons_of_mem _ hd))
theorem kl_ne2 {x y x' y' : Int} (hx : (Lit.int .i64 x).wf = true) (hy : (Lit.int .i64 y).wf = true) (hx' : nearI x') (hy' : nearI y') (h : ¬ (x = x' ∧ y = y')) : klP x y ≠ klP x' y' := fun e => h (klP_inj hx hy (wfi (by unfold nearI at hx'; omega) (by unfold nearI at hx'; omega)) (wfi (by unfold nearI at hy'; omega) (by unfold nearI at hy'; omega)) e)
theorem stD_atP (x y : Int) (hx : (Lit.int .i64 x).wf = true) (hy : (Lit.int .i64 y).wf = true) : ∀ (C : List ClS) (D : DataW Unit) (n : Int), IsMap D → (∀ c ∈ C, okC c) → NearAll C → DistC C → (stD C D n).1.atKey (klP x y) (.lit (.int .u8 0)) = if atP C x y = 0 then D.atKey (klP x y) (.lit (.int .u8 0)) else .lit (.int .u8 (atP C x y))
 | [], D, n, _, _, _, _ => by simp [stD, atP]
 | c :: cs, D, n, hM, h, hN, hD => by
  obtain ⟨d0, hD2⟩ := List.pairwise_cons.1 hD
  have hc := h c List.mem_cons_self
  have h2 : ∀ x ∈ cs, okC x := fun x hx => h x (List.mem_cons_of_mem _ hx)
  have hN2 : NearAll cs := fun x hx => hN x (List.mem_cons_of_mem _ hx)
  unfold okC at hc
  rw [stD_cons]
  by_cases c0 : c.f2 = 0
  ·rw [if_pos c0, stD_atP x y hx hy cs D n hM h2 hN2 hD2]
   have e : atP (c :: cs) x y = atP cs x y := by
    rw [atP, if_neg (by omega)]
   rw [e]
  ·have c2 := hN c List.mem_cons_self (by omega)
   rw [if_neg c0, if_neg (fun e => ((far_or _ _).1 e) c2), stD_atP x y hx hy cs (putC D c) (n + 1) (hM.put _ _) h2 hN2 hD2]
   by_cases e : c.f0 = x ∧ c.f1 = y
   ·have e0 : atP cs x y = 0 := atP_none cs x y (fun d hd hp f => d0 d hd ⟨by omega, hp, by omega, by omega⟩)
    have e1 : atP (c :: cs) x y = c.f2 := by
     rw [atP, if_pos ⟨by omega, e.1, e.2⟩]
    rw [e0, e1, if_pos rfl, if_neg c0, ← e.1, ← e.2]
    unfold putC
    exact atKey_put_same hM (isKey2 c2.1 c2.2) _ _
   ·have e1 : atP (c :: cs) x y = atP cs x y := by
     rw [atP, if_neg (fun f => e f.2)]
    rw [e1]
    unfold putC
    rw [atKey_put_other (kl_ne2 hx hy c2.1 c2.2 (fun f => e ⟨f.1.symm, f.2.symm⟩))]
theorem atP_range : ∀ (C : List Cl) (x y : Int), (∀ c ∈ C, okC c) → 0 ≤ atP C x y ∧ atP C x y ≤ 255
 | [], _, _, _ => by simp [atP]
 | c :: cs, x, y, h => by
  unfold atP
  by_cases e : c.f2 > 0 ∧ c.f0 = x ∧ c.f1 = y
  ·rw [if_pos e]; exact h c List.mem_cons_self
  ·rw [if_neg e]; exact atP_range cs x y (fun d hd => h d (List.mem_cons_of_mem _ hd))
/-- What is wrong with cells and a rectangle. -/
def askedP (C : List Cl) (X Y W H : Int) (E : Int) : Prop :=
 (¬ NearAll C ∧ E = 5) ∨ (NearAll C ∧ ¬ DistC C ∧ E = 6) ∨ (NearAll C ∧ DistC C ∧ (W < 0 ∨ 65536 < W ∨ H < 0 ∨ 65536 < H) ∧ E = 231) ∨ (NearAll C ∧ DistC C ∧ ¬ (W < 0 ∨ 65536 < W ∨ H < 0 ∨ 65536 < H) ∧ ¬ (nearI X ∧ nearI Y) ∧ E = 5) ∨ (NearAll C ∧ DistC C ∧ ¬ (W < 0 ∨ 65536 < W ∨ H < 0 ∨ 65536 < H) ∧ (nearI X ∧ nearI Y) ∧ E = 0)
theorem stE_asked (C : List ClS) (X Y W H : Int) (h : ∀ c ∈ C, okC c) : askedP C X Y W H (stE (stD C (.map []) 0) X Y W H) := by
 have hf := stD_far C (.map []) 0 h
 unfold askedP stE
 by_cases c0 : NearAll C
 ·rw [if_neg (by rw [hf.2 c0]; decide)]
  obtain ⟨a, b⟩ := stD_dist C (.map []) 0 tidy_empty h c0
  have hz : Maps.size (.map [] : DataW Unit) = 0 := rfl
  rw [hz] at a b
  by_cases c1 : DistC C
  ·have := b.2 ⟨c1, fun c hc hp => rfl⟩
   rw [if_neg (by omega)]
   by_cases c2 : W < 0 ∨ 65536 < W ∨ H < 0 ∨ 65536 < H
   ·rw [if_pos c2]; exact .inr (.inr (.inl ⟨c0, c1, c2, rfl⟩))
   ·rw [if_neg c2]
    by_cases c3 : nearI X ∧ nearI Y
    ·rw [if_neg (fun e => ((far_or _ _).1 e) c3)]; exact .inr (.inr (.inr (.inr ⟨c0, c1, c2, c3, rfl⟩)))
    ·rw [if_pos ((far_or _ _).2 c3)]; exact .inr (.inr (.inr (.inl ⟨c0, c1, c2, c3, rfl⟩)))
  ·rw [if_pos (Classical.byContradiction fun e => c1 (b.1 (by omega)).1)]
   exact .inr (.inl ⟨c0, c1, rfl⟩)
 ·rw [if_pos (Bool.not_eq_false _ ▸ (fun e => c0 (hf.1 e) : ¬ (stD C (.map []) 0).2.2 = false))]
  exact .inl ⟨c0, rfl⟩
theorem asked_eq {C : List Cl} {X Y W H E E' : Int} (h : askedP C X Y W H E) (h' : askedP C X Y W H E') : E = E' := by
 unfold askedP at h h'
 rcases h with ⟨a, e⟩ | ⟨a, b, e⟩ | ⟨a, b, c, e⟩ | ⟨a, b, c, d, e⟩ | ⟨a, b, c, d, e⟩ <;> rcases h' with ⟨a', e'⟩ | ⟨a', b', e'⟩ | ⟨a', b', c', e'⟩ | ⟨a', b', c', d', e'⟩ | ⟨a', b', c', d', e'⟩ <;> first | (rw [e, e']; done) | contradiction
theorem asked_ok {C : List Cl} {X Y W H : Int} (h : askedP C X Y W H 0) : NearAll C ∧ DistC C ∧ ¬ (W < 0 ∨ 65536 < W ∨ H < 0 ∨ 65536 < H) ∧ (nearI X ∧ nearI Y) := by
 unfold askedP at h
 rcases h with ⟨a, e⟩ | ⟨a, b, e⟩ | ⟨a, b, c, e⟩ | ⟨a, b, c, d, e⟩ | ⟨a, b, c, d, e⟩
 ·cases e
 ·cases e
 ·cases e
 ·cases e
 ·exact ⟨a, b, c, d⟩
/-- What the map tells of a place. -/
theorem mapAt_atP (C : List ClS) (x y : Int) (hx : (Lit.int .i64 x).wf = true) (hy : (Lit.int .i64 y).wf = true) (h : ∀ c ∈ C, okC c) (hN : NearAll C) (hD : DistC C) : mapAt (stD C (.map []) 0).1 x y = atP C x y := by
 have hr := atP_range C x y h
 have hs := stD_atP x y hx hy C (.map []) 0 isMap_empty h hN hD
 refine mapAt_of (hs.trans ?_) hr
 by_cases e : atP C x y = 0
 ·rw [if_pos e, e]; rfl
 ·rw [if_neg e]
end Go.Proofs.Ytfgonglcmgahkab.L

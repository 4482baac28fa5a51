/- Cells by rows: the map of them tells each; drawn and read they are the living ones of the rectangle, moved. -/
import Derived.Test.YtfgonglcmgahkabPlainRound
set_option linter.unusedVariables false
namespace Go.Proofs.Ytfgonglcmgahkab.L
open Go.RowKit Go.Maps Go.Proofs.Ytfgonglcmgahkab.P Go.Proofs.YtfgonglcmgahkabW.PrintWords Go.Proofs.YtfgonglcmgahkabW.PrintLast Go.Proofs.YtfgonglcmgahkabW.PrintMore
/-- By rows. -/
def ltC (a b : Cl) : Prop := a.f1 < b.f1 ∨ (a.f1 = b.f1 ∧ a.f0 < b.f0)
theorem ltC_irr {a : Cl} : ¬ ltC a a := by unfold ltC; omega
theorem ltC_asy {a b : Cl} (h : ltC a b) : ¬ ltC b a := by unfold ltC at *; omega
theorem sorted_ext : ∀ (A B : List Cl), A.Pairwise ltC → B.Pairwise ltC → (∀ c, c ∈ A ↔ c ∈ B) → A = B
 | [], [], _, _, _ => rfl
 | [], b :: B, _, _, h => absurd ((h b).2 List.mem_cons_self) (by simp)
 | a :: A, [], _, _, h => absurd ((h a).1 List.mem_cons_self) (by simp)
 | a :: A, b :: B, hA, hB, h => by
  obtain ⟨ha, hA2⟩ := List.pairwise_cons.1 hA
  obtain ⟨hb, hB2⟩ := List.pairwise_cons.1 hB
  have e : a = b := by
   rcases List.mem_cons.1 ((h a).1 List.mem_cons_self) with e | e
   ·exact e
   ·rcases List.mem_cons.1 ((h b).2 List.mem_cons_self) with e2 | e2
    ·exact e2.symm
    ·exact absurd (ha b e2) (ltC_asy (hb a e))
  subst e
  have h2 : ∀ c, c ∈ A ↔ c ∈ B := fun c => by
   constructor
   ·intro hc
    rcases List.mem_cons.1 ((h c).1 (List.mem_cons_of_mem _ hc)) with e | e
    ·subst e; exact absurd (ha c hc) ltC_irr
    ·exact e
   ·intro hc
    rcases List.mem_cons.1 ((h c).2 (List.mem_cons_of_mem _ hc)) with e | e
    ·subst e; exact absurd (hb c hc) ltC_irr
    ·exact e
  rw [sorted_ext A B hA2 hB2 h2]
/-- A cell that lies near enough. -/
def nearC (c : Cl) : Prop := (-1099511627776 ≤ c.f0 ∧ c.f0 ≤ 1099511627776) ∧ (-1099511627776 ≤ c.f1 ∧ c.f1 ≤ 1099511627776) ∧ 0 ≤ c.f2 ∧ c.f2 ≤ 255
theorem wfi {n : Int} (h0 : -9223372036854775808 ≤ n) (h1 : n ≤ 9223372036854775807) : (Lit.int .i64 n).wf = true := by
 have : wrap64 n = n := w64 h0 h1
 rw [← this]
 exact wrap64_wf n
theorem near_far {n : Int} (h : -1099511627776 ≤ n ∧ n ≤ 1099511627776) : farI n = false := by
 unfold farI
 rw [decide_eq_false (by omega), decide_eq_false (by omega)]
 rfl
theorem isKey {x y : Int} (hx : -1099511627776 ≤ x ∧ x ≤ 1099511627776) (hy : -1099511627776 ≤ y ∧ y ≤ 1099511627776) : WideAt.IsKeyLit (klP x y) := pkey.key (key_of x y (wfi (by omega) (by omega)) (wfi (by omega) (by omega)))
theorem kl_ne {x y x' y' : Int} (hx : -1099511627776 ≤ x ∧ x ≤ 1099511627776) (hy : -1099511627776 ≤ y ∧ y ≤ 1099511627776) (hx' : -1099511627776 ≤ x' ∧ x' ≤ 1099511627776) (hy' : -1099511627776 ≤ y' ∧ y' ≤ 1099511627776) (h : ¬ (x = x' ∧ y = y')) : klP x y ≠ klP x' y' := fun e => h (klP_inj (wfi (by omega) (by omega)) (wfi (by omega) (by omega)) (wfi (by omega) (by omega)) (wfi (by omega) (by omega)) e)
theorem stD_cons (c : ClS) (cs : List ClS) (D : DataW Unit) (n : Int) : stD (c :: cs) D n = if c.f2 = 0 then stD cs D n else if (farI c.f0 || farI c.f1) = true then (D, n, true) else stD cs (putC D c) (n + 1) := rfl
theorem stD_live (c : ClS) (cs : List ClS) (D : DataW Unit) (n : Int) (hc : nearC c) (h : ¬ c.f2 = 0) : stD (c :: cs) D n = stD cs (putC D c) (n + 1) := by
 rw [stD_cons, if_neg h, near_far hc.1, near_far hc.2.1, if_neg (by decide)]
theorem stD_no : ∀ (C : List ClS) (D : DataW Unit) (n : Int), (∀ c ∈ C, nearC c) → (stD C D n).2.2 = false
 | [], _, _, _ => rfl
 | c :: cs, D, n, h => by
  by_cases h0 : c.f2 = 0
  ·rw [stD_cons, if_pos h0]; exact stD_no cs D n (fun x hx => h x (List.mem_cons_of_mem _ hx))
  ·rw [stD_live c cs D n (h c List.mem_cons_self) h0]; exact stD_no cs _ _ (fun x hx => h x (List.mem_cons_of_mem _ hx))
theorem stD_size : ∀ (C : List ClS) (D : DataW Unit) (n : Int), Tidy D → n ≤ (Maps.size D : Int) → (∀ c ∈ C, nearC c) → C.Pairwise ltC → (∀ c ∈ C, Maps.has D (klP c.f0 c.f1) = false) → (stD C D n).2.1 ≤ (Maps.size (stD C D n).1 : Int)
 | [], D, n, _, hn, _, _, _ => hn
 | c :: cs, D, n, hT, hn, hC, hP, hH => by
  obtain ⟨hp, hP2⟩ := List.pairwise_cons.1 hP
  have hc := hC c List.mem_cons_self
  have hC2 : ∀ x ∈ cs, nearC x := fun x hx => hC x (List.mem_cons_of_mem _ hx)
  by_cases h0 : c.f2 = 0
  ·rw [stD_cons, if_pos h0]
   exact stD_size cs D n hT hn hC2 hP2 (fun x hx => hH x (List.mem_cons_of_mem _ hx))
  ·rw [stD_live c cs D n hc h0]
   have hs : Maps.size (putC D c) = Maps.size D + 1 := by unfold putC; rw [size_put hT, hH c List.mem_cons_self, if_neg (by decide)]
   refine stD_size cs (putC D c) (n + 1) (hT.put (isKey hc.1 hc.2.1) _) (by omega) hC2 hP2 (fun x hx => ?_)
   have hx2 := hC2 x hx
   have hl := hp x hx
   unfold putC
   rw [has_put_other (kl_ne hx2.1 hx2.2.1 hc.1 hc.2.1 (by unfold ltC at hl; omega))]
   exact hH x (List.mem_cons_of_mem _ hx)
theorem stD_at0 (x y : Int) (hx : -1099511627776 ≤ x ∧ x ≤ 1099511627776) (hy : -1099511627776 ≤ y ∧ y ≤ 1099511627776) (z : DataW Unit) : ∀ (C : List ClS) (D : DataW Unit) (n : Int), (∀ c ∈ C, nearC c) → (∀ c ∈ C, c.f0 = x → c.f1 = y → c.f2 = 0) → (stD C D n).1.atKey (klP x y) z = D.atKey (klP x y) z
 | [], _, _, _, _ => rfl
 | c :: cs, D, n, hC, hN => by
  have hc := hC c List.mem_cons_self
  have hC2 : ∀ x ∈ cs, nearC x := fun x hx => hC x (List.mem_cons_of_mem _ hx)
  have hN2 : ∀ c ∈ cs, c.f0 = x → c.f1 = y → c.f2 = 0 := fun c hc => hN c (List.mem_cons_of_mem _ hc)
  by_cases h0 : c.f2 = 0
  ·rw [stD_cons, if_pos h0]; exact stD_at0 x y hx hy z cs D n hC2 hN2
  ·rw [stD_live c cs D n hc h0, stD_at0 x y hx hy z cs _ _ hC2 hN2]
   unfold putC
   exact atKey_put_other (kl_ne hx hy hc.1 hc.2.1 (fun e => h0 (hN c List.mem_cons_self e.1.symm e.2.symm))) _ _
theorem stD_at1 (z : DataW Unit) (d : ClS) (hd : ¬ d.f2 = 0) : ∀ (C : List ClS) (D : DataW Unit) (n : Int), IsMap D → (∀ c ∈ C, nearC c) → C.Pairwise ltC → d ∈ C → (stD C D n).1.atKey (klP d.f0 d.f1) z = .lit (.int .u8 d.f2)
 | [], _, _, _, _, _, h => absurd h (by simp)
 | c :: cs, D, n, hM, hC, hP, hm => by
  obtain ⟨hp, hP2⟩ := List.pairwise_cons.1 hP
  have hc := hC c List.mem_cons_self
  have hC2 : ∀ x ∈ cs, nearC x := fun x hx => hC x (List.mem_cons_of_mem _ hx)
  rcases List.mem_cons.1 hm with rfl | hm
  ·rw [stD_live d cs D n hc hd, stD_at0 d.f0 d.f1 hc.1 hc.2.1 z cs _ _ hC2 (fun c hc2 e1 e2 => by have := hp c hc2; unfold ltC at this; omega)]
   unfold putC
   exact atKey_put_same hM (isKey hc.1 hc.2.1) _ _
  ·by_cases h0 : c.f2 = 0
   ·rw [stD_cons, if_pos h0]; exact stD_at1 z d hd cs D n hM hC2 hP2 hm
   ·rw [stD_live c cs D n hc h0]; exact stD_at1 z d hd cs _ _ (hM.put _ _) hC2 hP2 hm
theorem mem_rowCells (st : Int → Int → Int) (y : Int) : ∀ (n : Nat) (x : Int) (c : Cl), c ∈ rowCells st y n x ↔ c.f1 = y ∧ (x ≤ c.f0 ∧ c.f0 < x + n) ∧ st c.f0 y = c.f2 ∧ ¬ c.f2 = 0
 | 0, x, c => by
  constructor
  ·intro h; simp [rowCells] at h
  ·rintro ⟨_, h, _⟩; omega
 | n + 1, x, c => by
  rw [rowCells_succ, List.mem_append, mem_rowCells st y n (x + 1) c]
  constructor
  ·rintro (h | ⟨h1, h2, h3, h4⟩)
   ·by_cases h0 : st x y = 0
    ·rw [if_pos h0] at h; simp at h
    ·rw [if_neg h0, List.mem_singleton] at h
     subst h
     exact ⟨rfl, by dsimp only; omega, rfl, h0⟩
   ·exact ⟨h1, by omega, h3, h4⟩
  ·rintro ⟨h1, h2, h3, h4⟩
   by_cases e : c.f0 = x
   ·left
    rw [e] at h3
    rw [if_neg (by rw [h3]; exact h4), List.mem_singleton]
    obtain ⟨a, b, s⟩ := c
    dsimp only at h1 h3 e
    rw [h3, e, h1]
   ·exact .inr ⟨h1, by omega, h3, h4⟩
theorem mem_gridCells (st : Int → Int → Int) (w : Nat) : ∀ (n : Nat) (y : Int) (c : Cl), c ∈ gridCells st w n y ↔ (y ≤ c.f1 ∧ c.f1 < y + n) ∧ (0 ≤ c.f0 ∧ c.f0 < w) ∧ st c.f0 c.f1 = c.f2 ∧ ¬ c.f2 = 0
 | 0, y, c => by
  constructor
  ·intro h; simp [gridCells] at h
  ·rintro ⟨h, _⟩; omega
 | n + 1, y, c => by
  rw [gridCells_succ, List.mem_append, mem_gridCells st w n (y + 1) c, mem_rowCells]
  constructor
  ·rintro (⟨h1, h2, h3, h4⟩ | ⟨h1, h2, h3, h4⟩)
   ·rw [← h1] at h3; exact ⟨by omega, by omega, h3, h4⟩
   ·exact ⟨by omega, h2, h3, h4⟩
  ·rintro ⟨h1, h2, h3, h4⟩
   by_cases e : c.f1 = y
   ·rw [e] at h3; exact .inl ⟨e, by omega, h3, h4⟩
   ·exact .inr ⟨by omega, h2, h3, h4⟩
theorem rowCells_sorted (st : Int → Int → Int) (y : Int) : ∀ (n : Nat) (x : Int), (rowCells st y n x).Pairwise ltC
 | 0, x => List.Pairwise.nil
 | n + 1, x => by
  rw [rowCells_succ]
  refine List.pairwise_append.2 ⟨?_, rowCells_sorted st y n (x + 1), ?_⟩
  ·by_cases h0 : st x y = 0
   ·rw [if_pos h0]; exact List.Pairwise.nil
   ·rw [if_neg h0]; exact List.pairwise_singleton _ _
  ·intro a ha b hb
   by_cases h0 : st x y = 0
   ·rw [if_pos h0] at ha; simp at ha
   ·rw [if_neg h0, List.mem_singleton] at ha
    have h := (mem_rowCells st y n (x + 1) b).1 hb
    subst ha
    unfold ltC
    dsimp only
    omega
theorem gridCells_sorted (st : Int → Int → Int) (w : Nat) : ∀ (n : Nat) (y : Int), (gridCells st w n y).Pairwise ltC
 | 0, y => List.Pairwise.nil
 | n + 1, y => by
  rw [gridCells_succ]
  refine List.pairwise_append.2 ⟨rowCells_sorted st y w 0, gridCells_sorted st w n (y + 1), ?_⟩
  intro a ha b hb
  have h1 := (mem_rowCells st y w 0 a).1 ha
  have h2 := (mem_gridCells st w n (y + 1) b).1 hb
  unfold ltC
  omega
/-- The state of a place of the rectangle. -/
def stOf (C : List ClS) (X Y x y : Int) : Int := mapAt (stD C (.map []) 0).1 (wrap64 (X + x)) (wrap64 (Y + y))
theorem stOf_range (C : List ClS) (X Y x y : Int) : 0 ≤ stOf C X Y x y ∧ stOf C X Y x y ≤ 255 := mapAt_range _ _ _
theorem stOf_one {C : List ClS} {X Y : Int} (hC : ∀ c ∈ C, nearC c) (hP : C.Pairwise ltC) {d : ClS} (hd : d ∈ C) (h0 : ¬ d.f2 = 0) {x y : Int} (ex : d.f0 = wrap64 (X + x)) (ey : d.f1 = wrap64 (Y + y)) : stOf C X Y x y = d.f2 := by
 unfold stOf
 rw [← ex, ← ey]
 exact mapAt_of (stD_at1 _ d h0 C _ 0 isMap_empty hC hP hd) (hC d hd).2.2
theorem stOf_none {C : List ClS} {X Y : Int} (hC : ∀ c ∈ C, nearC c) {x y : Int} (hx : -1099511627776 ≤ wrap64 (X + x) ∧ wrap64 (X + x) ≤ 1099511627776) (hy : -1099511627776 ≤ wrap64 (Y + y) ∧ wrap64 (Y + y) ≤ 1099511627776) (h : ∀ c ∈ C, c.f0 = wrap64 (X + x) → c.f1 = wrap64 (Y + y) → c.f2 = 0) : stOf C X Y x y = 0 := by
 unfold stOf mapAt
 rw [stD_at0 _ _ hx hy _ C _ 0 hC h]
 rfl
/-- The living cells of the rectangle, moved. -/
def inR (X Y W H : Int) (c : Cl) : Prop := 0 < c.f2 ∧ (0 ≤ c.f0 - X ∧ c.f0 - X < W) ∧ 0 ≤ c.f1 - Y ∧ c.f1 - Y < H
instance (X Y W H : Int) (c : Cl) : Decidable (inR X Y W H c) := by unfold inR; exact inferInstance
def wantOf (C : List Cl) (X Y W H : Int) : List Cl := C.filterMap fun c => if inR X Y W H c then some ⟨c.f0 - X, c.f1 - Y, c.f2⟩ else none
theorem mem_wantOf (C : List Cl) (X Y W H : Int) (c : Cl) : c ∈ wantOf C X Y W H ↔ ∃ d ∈ C, inR X Y W H d ∧ c = ⟨d.f0 - X, d.f1 - Y, d.f2⟩ := by
 unfold wantOf
 rw [List.mem_filterMap]
 constructor
 ·rintro ⟨d, hd, h⟩
  by_cases c0 : inR X Y W H d
  ·rw [if_pos c0] at h
   exact ⟨d, hd, c0, (Option.some.inj h).symm⟩
  ·rw [if_neg c0] at h; cases h
 ·rintro ⟨d, hd, h, rfl⟩
  exact ⟨d, hd, by rw [if_pos h]⟩
theorem wantOf_sorted (C : List Cl) (X Y W H : Int) (hP : C.Pairwise ltC) : (wantOf C X Y W H).Pairwise ltC := by
 unfold wantOf
 refine List.Pairwise.filterMap _ ?_ hP
 intro a b hab x hx y hy
 by_cases ca : inR X Y W H a
 ·rw [if_pos ca] at hx
  by_cases cb : inR X Y W H b
  ·rw [if_pos cb] at hy
   cases hx
   cases hy
   unfold ltC at *
   dsimp only
   omega
  ·rw [if_neg cb] at hy; cases hy
 ·rw [if_neg ca] at hx; cases hx
theorem grid_want (C : List Cl) (X Y : Int) (W H : Nat) (hW : W ≤ 65536) (hH : H ≤ 65536) (hX : -1099511000000 ≤ X ∧ X ≤ 1099511000000) (hY : -1099511000000 ≤ Y ∧ Y ≤ 1099511000000) (hC : ∀ c ∈ C, nearC c) (hP : C.Pairwise ltC) : gridCells (stOf C X Y) W H 0 = wantOf C X Y W H := by
 refine sorted_ext _ _ (gridCells_sorted _ W H 0) (wantOf_sorted C X Y W H hP) (fun c => ?_)
 rw [mem_gridCells, mem_wantOf]
 constructor
 ·rintro ⟨h1, h2, h3, h4⟩
  have ex : wrap64 (X + c.f0) = X + c.f0 := w64 (by omega) (by omega)
  have ey : wrap64 (Y + c.f1) = Y + c.f1 := w64 (by omega) (by omega)
  have hnot : ¬ ∀ d ∈ C, d.f0 = wrap64 (X + c.f0) → d.f1 = wrap64 (Y + c.f1) → d.f2 = 0 := fun h => by
   have hh := stOf_none hC (by rw [ex]; clear ex ey; omega) (by rw [ey]; clear ex ey; omega) h
   rw [hh] at h3
   exact h4 h3.symm
  have : ∃ d ∈ C, d.f0 = wrap64 (X + c.f0) ∧ d.f1 = wrap64 (Y + c.f1) ∧ ¬ d.f2 = 0 := Classical.byContradiction fun hn => hnot fun d hd e1 e2 => Classical.byContradiction fun e3 => hn ⟨d, hd, e1, e2, e3⟩
  obtain ⟨d, hd, e1, e2, e3⟩ := this
  have e4 := stOf_one hC hP hd e3 e1 e2
  rw [ex] at e1
  rw [ey] at e2
  clear ex ey
  have hn := (hC d hd).2.2
  refine ⟨d, hd, ⟨by omega, by omega, by omega⟩, ?_⟩
  obtain ⟨a, b, s⟩ := c
  dsimp only at *
  rw [← h3, e4, e1, e2]
  congr 1 <;> omega
 ·rintro ⟨d, hd, ⟨i1, i2, i3⟩, rfl⟩
  dsimp only
  have ex : d.f0 = wrap64 (X + (d.f0 - X)) := by rw [w64 (by omega) (by omega)]; omega
  have ey : d.f1 = wrap64 (Y + (d.f1 - Y)) := by rw [w64 (by omega) (by omega)]; omega
  have e4 := stOf_one hC hP hd (by omega) ex ey
  clear ex ey
  exact ⟨by omega, by omega, e4, by omega⟩
/-- WHAT IS WRITTEN IS READ: the living cells of the rectangle, moved. -/
theorem write_read (C : List Cl) (X Y : Int) (W H : Nat) (hl : C.length ≤ 1000000000) (hW : W ≤ 65536) (hH : H ≤ 65536) (hX : -1099511000000 ≤ X ∧ X ≤ 1099511000000) (hY : -1099511000000 ≤ Y ∧ Y ≤ 1099511000000) (hC : ∀ c ∈ C, nearC c) (hP : C.Pairwise ltC) (h1 : (W + 1) * H ≤ 1048576) (h2 : (rowsB (gOf (stOf C X Y)) W H 0).length ≤ 1048576) :
  plain_Write.f C X Y W H = some (⟨(rowsB (gOf (stOf C X Y)) W H 0).toArray⟩, 0) ∧ plain_Read.f ⟨(rowsB (gOf (stOf C X Y)) W H 0).toArray⟩ = some (wantOf C X Y W H, 0, 0) := by
 have hr := drawn_read (stOf C X Y) (stOf_range C X Y) W H h2
 rw [grid_want C X Y W H hW hH hX hY hC hP] at hr
 refine ⟨?_, hr⟩
 have hE : stE (stD C (.map []) 0) X Y W H = 0 := by
  have hno := stD_no C (.map []) 0 hC
  have hsz := stD_size C (.map []) 0 tidy_empty (by simp [Maps.size]) hC hP (fun c hc => by simp [Maps.has])
  unfold stE
  rw [if_neg (by rw [hno]; decide), if_neg (by omega), if_neg (by omega), near_far (by omega), near_far (by omega)]
  rfl
 have h1' : ¬ 1048576 < ((W : Int) + 1) * (H : Int) := by
  have : (((W + 1) * H : Nat) : Int) = ((W : Int) + 1) * (H : Int) := by rw [Int.natCast_mul, Int.natCast_add]; rfl
  omega
 have hD : drawnP (runeP (stD C (.map []) 0).1 X Y) W H = (⟨(rowsB (gOf (stOf C X Y)) W H 0).toArray⟩, 0) := by
  have hg : runeP (stD C (.map []) 0).1 X Y = gOf (stOf C X Y) := rfl
  unfold drawnP
  rw [if_neg h1', Int.toNat_natCast, Int.toNat_natCast, hg, if_neg (by omega)]
 have hall : (C.all fun x => (Lit.int .i64 x.f0).wf && ((Lit.int .i64 x.f1).wf && (Lit.int .u8 x.f2).wf)) = true := by
  rw [List.all_eq_true]
  intro c hc
  obtain ⟨⟨a1, a2⟩, ⟨b1, b2⟩, c1, c2⟩ := hC c hc
  have hu : (Lit.int .u8 c.f2).wf = true := by
   have : ∀ n : Nat, n < 256 → (Lit.int .u8 (n : Int)).wf = true := by decide +kernel
   have e := this c.f2.toNat (by omega)
   rwa [Int.toNat_of_nonneg c1] at e
  rw [wfi (by omega) (by omega), wfi (by omega) (by omega), hu]
  rfl
 unfold plain_Write.f
 rw [if_pos ⟨hl, hall, wfi (by omega) (by omega), wfi (by omega) (by omega), wfi (by omega) (by omega), wfi (by omega) (by omega)⟩, hE, if_pos rfl, if_pos rfl, hD]
end Go.Proofs.Ytfgonglcmgahkab.L

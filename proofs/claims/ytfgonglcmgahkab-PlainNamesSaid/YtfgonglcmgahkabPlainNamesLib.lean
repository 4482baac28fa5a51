/- Chapter 23's numbers: pictures of just so many bytes are read and written, longer ones are not; the longest side and one more. -/
import Derived.Test.YtfgonglcmgahkabPlainReadLib
import Derived.Test.YtfgonglcmgahkabPm4
set_option linter.unusedVariables false
namespace Go.Proofs.Ytfgonglcmgahkab.L
open Go.RowKit Go.Maps Go.Proofs.Ytfgonglcmgahkab.P Go.Proofs.YtfgonglcmgahkabW.PrintWords Go.Proofs.YtfgonglcmgahkabW.PrintLast Go.Proofs.YtfgonglcmgahkabW.PrintMore
/-! Lengths. -/
theorem rowB_const (g : Int → Int → Int) (c : Nat) (y : Int) : ∀ (n : Nat) (x : Int), (∀ z, x ≤ z → z < x + n → (Lib.encodeRune (g z y)).length = c) → (rowB g y n x).length = c * n
  | 0, _, _ => rfl
  | n + 1, x, h => by
    rw [rowB_succ, List.length_append, h x (by omega) (by omega), rowB_const g c y n (x + 1) (fun z h1 h2 => h z (by omega) (by omega)), Nat.mul_succ]
    omega
theorem rowsB_const (g : Int → Int → Int) (c w : Nat) : ∀ (n : Nat) (y : Int), (∀ x z : Int, 0 ≤ x → x < (w : Int) → y ≤ z → z < y + n → (Lib.encodeRune (g x z)).length = c) → (rowsB g w n y).length = n * (c * w + 1)
  | 0, _, _ => by rw [rowsB_zero]; simp
  | n + 1, y, h => by
    rw [rowsB_succ, List.length_append, List.length_append, rowB_const g c y w 0 (fun z h1 h2 => h z y (by omega) (by omega) (by omega) (by omega)), rowsB_const g c w n (y + 1) (fun x z h1 h2 h3 h4 => h x z h1 h2 (by omega) (by omega)), Nat.succ_mul, List.length_singleton]
    omega
theorem drawn_long (g : Int → Int → Int) (W H : Nat) (h : 1048576 < (W + 1) * H) : (drawnP g W H).2 = 3 := by
  have e : (((W + 1) * H : Nat) : Int) = ((W : Int) + 1) * (H : Int) := by rw [Int.natCast_mul, Int.natCast_add]; rfl
  unfold drawnP
  rw [if_pos (by omega)]
theorem drawn_len (g : Int → Int → Int) (c W H N : Nat) (hg : ∀ x z : Int, 0 ≤ x → x < (W : Int) → 0 ≤ z → z < (H : Int) → (Lib.encodeRune (g x z)).length = c) (h : (W + 1) * H ≤ 1048576) (hN : H * (c * W + 1) = N) (hN2 : N ≤ 1048576) : (drawnP g W H).2 = 0 ∧ (drawnP g W H).1.size = N := by
  have e : (((W + 1) * H : Nat) : Int) = ((W : Int) + 1) * (H : Int) := by rw [Int.natCast_mul, Int.natCast_add]; rfl
  have hl := rowsB_const g c W H 0 (fun x z h1 h2 h3 h4 => hg x z h1 h2 h3 (by omega))
  unfold drawnP
  rw [if_neg (by omega), Int.toNat_natCast, Int.toNat_natCast, hl, hN, if_neg (by omega)]
  refine ⟨rfl, ?_⟩
  show (rowsB g W H 0).toArray.size = N
  rw [List.size_toArray, hl, hN]
theorem drawn_more (g : Int → Int → Int) (c W H : Nat) (hg : ∀ x z : Int, 0 ≤ x → x < (W : Int) → 0 ≤ z → z < (H : Int) → (Lib.encodeRune (g x z)).length = c) (hN2 : 1048576 < H * (c * W + 1)) : (drawnP g W H).2 = 3 := by
  have hl := rowsB_const g c W H 0 (fun x z h1 h2 h3 h4 => hg x z h1 h2 h3 (by omega))
  unfold drawnP
  by_cases c1 : 1048576 < ((W : Int) + 1) * (H : Int)
  · rw [if_pos c1]
  · rw [if_neg c1, Int.toNat_natCast, Int.toNat_natCast, hl, if_pos hN2]
/-! No cells. -/
theorem mapAt_nil (x y : Int) : mapAt (.map []) x y = 0 := by unfold mapAt; rfl
theorem rune_nil (x y : Int) : runeP (.map []) 0 0 x y = 46 := by unfold runeP; rw [mapAt_nil]; rfl
theorem half_nil (H x y : Int) : halfP (.map []) 0 0 H x y = 32 := by
  unfold halfP
  rw [mapAt_nil, mapAt_nil, if_pos rfl, if_pos rfl]
  split <;> rfl
theorem stE_nil (W H : Nat) (hW : W ≤ 65536) (hH : H ≤ 65536) : stE (stD [] (.map []) 0) 0 0 W H = 0 := by
  have hs : Maps.size (stD [] (.map []) 0).1 = 0 := rfl
  unfold stE
  rw [if_neg (show ¬ (stD [] (.map []) 0).2.2 = true from Bool.false_ne_true), hs, if_neg (show ¬ ((0 : Nat) : Int) < (stD [] (.map []) 0).2.1 from by show ¬ ((0 : Nat) : Int) < 0; omega), if_neg (by omega)]
  rfl
theorem write_nil (W H : Nat) (hW : W ≤ 65536) (hH : H ≤ 65536) : plain_Write.f [] 0 0 W H = some ((drawnP (runeP (.map []) 0 0) W H).1, (drawnP (runeP (.map []) 0 0) W H).2) := by
  unfold plain_Write.f
  rw [if_pos ⟨by simp, rfl, wfi (by omega) (by omega), wfi (by omega) (by omega), wfi (by omega) (by omega), wfi (by omega) (by omega)⟩, stE_nil W H hW hH, if_pos rfl, if_pos rfl]
  rfl
theorem halves_nil (W H : Nat) (hW : W ≤ 65536) (hH : H ≤ 65536) : plain_Halves.f [] 0 0 W H = some ((drawnP (halfP (.map []) 0 0 H) W ((H + 1) / 2 : Nat)).1, (drawnP (halfP (.map []) 0 0 H) W ((H + 1) / 2 : Nat)).2) := by
  have e : ((H : Int) + 1) / 2 = (((H + 1) / 2 : Nat) : Int) := by omega
  unfold plain_Halves.f
  rw [if_pos ⟨by simp, rfl, wfi (by omega) (by omega), wfi (by omega) (by omega), wfi (by omega) (by omega), wfi (by omega) (by omega)⟩, stE_nil W H hW hH, if_pos rfl, if_pos rfl, e]
  rfl
theorem len_46 (x y : Int) : (Lib.encodeRune (runeP (.map []) 0 0 x y)).length = 1 := by rw [rune_nil]; rfl
theorem len_32 (H x y : Int) : (Lib.encodeRune (halfP (.map []) 0 0 H x y)).length = 1 := by rw [half_nil]; rfl
/-! Dots. -/
def dots (n : Nat) : List Cl := (List.range n).map fun j => ⟨((j % 600 : Nat) : Int), ((j / 600 : Nat) : Int), 2⟩
theorem dots_succ (n : Nat) : dots (n + 1) = dots n ++ [⟨((n % 600 : Nat) : Int), ((n / 600 : Nat) : Int), 2⟩] := by unfold dots; rw [List.range_succ, List.map_append]; rfl
theorem dots_len (n : Nat) : (dots n).length = n := by unfold dots; rw [List.length_map, List.length_range]
theorem dots_near (n : Nat) (hn : n ≤ 360000) : ∀ c ∈ dots n, nearC c := by
  intro c hc
  unfold dots at hc
  obtain ⟨j, hj, rfl⟩ := List.mem_map.1 hc
  have := List.mem_range.1 hj
  exact ⟨by dsimp only; omega, by dsimp only; omega, by dsimp only; omega⟩
theorem dots_sorted (n : Nat) : (dots n).Pairwise ltC := by
  unfold dots
  refine List.pairwise_map.2 (List.Pairwise.imp ?_ List.pairwise_lt_range)
  intro a b hab
  unfold ltC
  dsimp only
  omega
theorem dots_st (n : Nat) (hn : n = 360000) (x y : Int) (hx : 0 ≤ x ∧ x < 600) (hy : 0 ≤ y ∧ y < 600) : stOf (dots n) 0 0 x y = 2 := by
  have hm : (⟨x, y, 2⟩ : Cl) ∈ dots n := by
    unfold dots
    refine List.mem_map.2 ⟨600 * y.toNat + x.toNat, List.mem_range.2 (by omega), ?_⟩
    have e1 : (((600 * y.toNat + x.toNat) % 600 : Nat) : Int) = x := by omega
    have e2 : (((600 * y.toNat + x.toNat) / 600 : Nat) : Int) = y := by omega
    rw [e1, e2]
  have ex : x = wrap64 (0 + x) := by rw [w64 (by omega) (by omega)]; omega
  have ey : y = wrap64 (0 + y) := by rw [w64 (by omega) (by omega)]; omega
  exact stOf_one (d := ⟨x, y, 2⟩) (dots_near n (by omega)) (dots_sorted n) hm (show ¬ (2 : Int) = 0 by decide) ex ey
/-- Cells by rows, near: what is written of them. -/
theorem write_any (C : List Cl) (W H : Nat) (hl : C.length ≤ 1000000000) (hW : W ≤ 65536) (hH : H ≤ 65536) (hC : ∀ c ∈ C, nearC c) (hP : C.Pairwise ltC) : plain_Write.f C 0 0 W H = some ((drawnP (gOf (stOf C 0 0)) W H).1, (drawnP (gOf (stOf C 0 0)) W H).2) := by
  have hE : stE (stD C (.map []) 0) 0 0 W H = 0 := by
    have hno := stD_no C (.map []) 0 hC
    have hsz := stD_size C (.map []) 0 tidy_empty (by simp [Maps.size]) hC hP (fun c hc => by simp [Maps.has])
    unfold stE
    rw [if_neg (by rw [hno]; decide), if_neg (by omega), if_neg (by omega), near_far (by omega)]
    rfl
  have hall : (C.all fun x => (Lit.int .i64 x.f0).wf && ((Lit.int .i64 x.f1).wf && (Lit.int .u8 x.f2).wf)) = true := by
    rw [List.all_eq_true]
    intro c hc
    obtain ⟨⟨a1, a2⟩, ⟨b1, b2⟩, c1, c2⟩ := hC c hc
    have hu : (Lit.int .u8 c.f2).wf = true := by
      have : ∀ n : Nat, n < 256 → (Lit.int .u8 (n : Int)).wf = true := by decide +kernel
      have e := this c.f2.toNat (by omega)
      rwa [Int.toNat_of_nonneg c1] at e
    rw [wfi (by omega) (by omega), wfi (by omega) (by omega), hu]
    rfl
  have hg : runeP (stD C (.map []) 0).1 0 0 = gOf (stOf C 0 0) := rfl
  unfold plain_Write.f
  rw [if_pos ⟨hl, hall, wfi (by omega) (by omega), wfi (by omega) (by omega), wfi (by omega) (by omega), wfi (by omega) (by omega)⟩, hE, if_pos rfl, if_pos rfl, hg]
/-! Full stops. -/
theorem rowB_stops (y : Int) : ∀ (n : Nat) (x : Int), rowB (gOf fun _ _ => 0) y n x = List.replicate n 46
  | 0, _ => rfl
  | n + 1, x => by
    rw [rowB_succ, rowB_stops y n (x + 1), List.replicate_succ]
    rfl
theorem eol_none (s : ByteArray) (h : ∀ m, m < s.size → bt s (m : Int) ≠ 10) : ∀ n i, i + n = s.size → eol s n i = s.size
  | 0, i, e => by simp only [eol]; omega
  | n + 1, i, e => by
    rw [eol_succ, if_pos ⟨by omega, h i (by omega)⟩]
    exact eol_none s h n (i + 1) (by omega)
theorem read_stops (s : ByteArray) (n : Nat) (hs : s.data.toList = List.replicate n 46) (hn : n ≤ 1048576) (h0 : 0 < n) : ∃ l, plain_Read.f s = some (l, 0, 0) := by
  have hz : s.size = n := by
    have e : s.data.toList.length = s.size := Array.length_toList
    rw [← e, hs, List.length_replicate]
  have hb : ∀ m, m < s.size → bt s (m : Int) = 46 := fun m hm => (bt_of s m 46 (by rw [hs, List.getElem?_replicate, if_pos (by omega)])).2
  have he := eol_none s (fun m hm => by rw [hb m hm]; decide) s.size 0 (by omega)
  have hx : (ltext s 0 s.size).data.toList = List.replicate n 46 := by
    unfold ltext
    rw [if_neg (fun e => by rw [hb (s.size - 1) (by omega)] at e; exact absurd e.2 (by decide))]
    exact ext_list s [] (List.replicate n 46) [] 0 s.size rfl (by simp [hz]) (by rw [hs]; simp)
  obtain ⟨L, hL⟩ : ∃ L, ltext s 0 s.size = L := ⟨_, rfl⟩
  rw [hL] at hx
  have hl2 : lsp s s.size (s.size + 1) = [] := by
    cases h : s.size with
    | zero => rfl
    | succ m => unfold lsp; rw [if_neg (by omega)]
  have hl : lsp s (s.size + 1) 0 = [(⟨((0 : Nat) : Int), L⟩ : Ln)] := by
    have e0 : ∀ m, lsp s (m + 1) 0 = if 0 < s.size then (⟨((0 : Nat) : Int), ltext s 0 (eol s (s.size - 0) 0)⟩ : Ln) :: lsp s m (eol s (s.size - 0) 0 + 1) else [] := fun m => by cases m <;> rfl
    rw [e0, if_pos (by omega), Nat.sub_zero, he, hL, hl2]
  have hbang := bang_no L (fun b hb => by rw [hx] at hb; rw [List.eq_of_mem_replicate hb]; decide)
  have hrow := row_read (fun _ _ => 0) (fun _ _ => by decide) L 0 n 0 [] L.size [] (by rw [hx, rowB_stops, List.nil_append]) (by simp)
  refine ⟨[] ++ rowCells (fun _ _ => 0) 0 n 0, ?_⟩
  unfold plain_Read.f
  rw [if_neg (by omega), hl, readC_row _ _ 0 [] _ hbang hrow]
  rfl
end Go.Proofs.Ytfgonglcmgahkab.L

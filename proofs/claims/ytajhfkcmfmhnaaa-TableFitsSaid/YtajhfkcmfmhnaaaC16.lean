-- Written by a program of this session (wip/tools/shake.py): texts of this claim, of each what the claim names.
import Derived.Test.YtajhfkcmfmhnaaaC0
import Derived.Test.YtajhfkcmfmhnaaaC3
import Derived.Deep.Slices
import Derived.SizedLaws
section
namespace Go.Proofs.Ytajhfkcmfmhnaaa.L
open Go Go.RowKit Go.ChangeShapes Go.WideShapes Go.Deep Go.Proofs.YtajhfkcmfmhnaaaW.PrintWords
section
variable {H : Type} {enc : TypeId × Value → H} {P : Program} {w : World} {base : Nat} {spare : Nat → Bool} {held : Bool}
def light (l : List Nat) : Prop := l.all (· ≤ reachBytes) = true
theorem light_app {a b : List Nat} (h : light (a ++ b)) : light a ∧ light b := by
 unfold light at h ⊢
 rw [List.all_append, Bool.and_eq_true] at h
 exact h
theorem light_cons {a : Nat} {b : List Nat} (h : light (a :: b)) : a ≤ reachBytes ∧ light b := by
 unfold light at h ⊢
 rw [List.all_cons, Bool.and_eq_true, decide_eq_true_eq] at h
 exact h
/-- Values of type t read as kind d, with Q. -/
def Opens {α : Type} (enc : TypeId × Value → H) (P : Program) (w : World) (base : Nat) (spare : Nat → Bool) (held : Bool) (t : TypeId) (d : Kd α) (Q : α → Prop) : Prop :=
 ∀ (n : Nat) (cs : List Value) (x : DataW H × List MemPlace), DataW.trod enc P w base spare held n t cs = some x → light (x.1.weights P t) → ∃ a, d.K w a cs ∧ Q a
theorem opens_int {t : TypeId} {k : IntKind} (ht : P.underlying t = some (.int k)) : Opens enc P w base spare held t (Kd.int k) (fun n => (Lit.int k n).wf = true) := by
 intro n cs x h _
 obtain ⟨a, rfl, rfl, hw⟩ := DataW.trod_int ht h
 exact ⟨a, rfl, hw⟩
theorem opens_string {t : TypeId} (ht : P.underlying t = some .string) : Opens enc P w base spare held t Kd.string (fun s => s.size ≤ 140737488351232) := by
 intro n cs x h hl
 obtain ⟨s, rfl, rfl, _⟩ := DataW.trod_string ht h
 refine ⟨s, rfl, ?_⟩
 have := (light_cons (show light [s.data.toList.length] from hl)).1
 rw [Array.length_toList] at this
 exact this
theorem opens_iso {α β : Type} {t : TypeId} {d : Kd α} {Q : α → Prop} (f : β → α) (g : α → β) (hfg : ∀ a, f (g a) = a) (h : Opens enc P w base spare held t d Q) : Opens enc P w base spare held t (Kd.iso d f) (fun b => Q (f b)) := by
 intro n cs x hx hl
 obtain ⟨a, hk, hq⟩ := h n cs x hx hl
 refine ⟨g a, ?_, ?_⟩
 ·show d.K w (f (g a)) cs
  rw [hfg]
  exact hk
 ·show Q (f (g a))
  rw [hfg]
  exact hq
theorem light_all {e : TypeId} : ∀ {l : List (DataW H)}, light (DataW.weightsAll P e l) → ∀ d ∈ l, light (d.weights P e)
 | [], _, d, hd => by simp at hd
 | a :: l, h, d, hd => by
  rw [DataW.weightsAll] at h
  obtain ⟨h1, h2⟩ := light_app h
  rcases List.mem_cons.1 hd with rfl | hd
  ·exact h1
  ·exact light_all h2 d hd
/-- A row, opened. -/
theorem opens_row {α : Type} {t e : TypeId} {d : Kd α} {Q : α → Prop} {B : Nat} (ht : P.underlying t = some (.slice e)) (hsz : P.cellsOf e = d.sz) (hB : P.bytesOf e = B) (hd : Opens enc P w base spare held e d Q) {n : Nat} {cs : List Value} {x : DataW H × List MemPlace} (h : DataW.trod enc P w base spare held n t cs = some x) (hl : light (x.1.weights P t)) :
  ∃ (A : Option Addr) (c : Nat) (xs : List α), cs = [.slice A xs.length c] ∧ xs.length ≤ c ∧ d.C w A xs.length xs ∧ (∀ a ∈ xs, Q a) ∧ xs.length * B ≤ 140737488351232 := by
 rcases open_slice ht h with ⟨rfl, rfl⟩ | ⟨a, len, cap, m, n', D, Pl, rfl, hb, hlc, hcm, hm, rfl, hi⟩
 ·exact ⟨none, 0, [], rfl, Nat.le_refl _, ⟨rfl, by rw [List.length_nil]; omega, fun h0 => absurd h0 (by simp)⟩, by simp, by simp⟩
 ·have hw : light ((((List.range len).map D).length + ((List.range (m - len)).map fun j => D (len + j)).length) * P.bytesOf e :: (DataW.weightsAll P e ((List.range len).map D) ++ DataW.weightsAll P e ((List.range (m - len)).map fun j => D (len + j)))) := by
   have hl2 := hl
   simp only [DataW.weights, ht] at hl2
   exact hl2
  obtain ⟨hw0, hw1⟩ := light_cons hw
  obtain ⟨hw2, _⟩ := light_app hw1
  have hlm : len ≤ m := by rw [hm]; split <;> omega
  have hel : ∀ i, i < len → ∃ a', ∃ cs', w.cells? base (a.add (i * P.cellsOf e)) (P.cellsOf e) = some cs' ∧ d.K w a' cs' ∧ Q a' := fun i hil => by
   obtain ⟨cs', h1, h2⟩ := hi i (by omega)
   obtain ⟨a', h3, h4⟩ := hd _ _ _ h2 (light_all hw2 _ (List.mem_map.2 ⟨i, List.mem_range.2 hil, rfl⟩))
   exact ⟨a', cs', h1, h3, h4⟩
  have hxs : ∀ k, k ≤ len → ∃ xs : List α, xs.length = k ∧ ∀ i p, xs[i]? = some p → ∃ cs', w.cells? base (a.add (i * P.cellsOf e)) (P.cellsOf e) = some cs' ∧ d.K w p cs' ∧ Q p := by
   intro k
   induction k with
   | zero => exact fun _ => ⟨[], rfl, fun i p hp => by simp at hp⟩
   | succ k ih =>
    intro hk
    obtain ⟨xs, h1, h2⟩ := ih (by omega)
    obtain ⟨a', cs', h3⟩ := hel k (by omega)
    refine ⟨xs ++ [a'], by rw [List.length_append, List.length_singleton, h1], fun i p hp => ?_⟩
    by_cases c : i < xs.length
    ·rw [List.getElem?_append_left c] at hp
     exact h2 i p hp
    ·rw [List.getElem?_append_right (by omega)] at hp
     have hi0 : i - xs.length = 0 := by
      by_cases c0 : i - xs.length = 0
      ·exact c0
      ·rw [List.getElem?_eq_none (by rw [List.length_singleton]; omega)] at hp
       cases hp
     rw [hi0] at hp
     have : i = k := by omega
     subst this
     cases hp
     exact ⟨cs', h3⟩
  obtain ⟨xs, hx1, hx2⟩ := hxs len (Nat.le_refl _)
  subst hx1
  refine ⟨some a, cap, xs, rfl, hlc, ⟨rfl, by unfold maxLen at hcm; omega, fun _ => ⟨a, rfl, fun j p hp => ?_⟩⟩, fun p hp => ?_, ?_⟩
  ·obtain ⟨cs', h1, h2, _⟩ := hx2 j p hp
   obtain ⟨_, h4, h5⟩ := World.cells?_some h1
   refine ⟨cs', by rw [h4, hsz], h2, fun i u hu => ?_⟩
   have hil : i < P.cellsOf e := by rw [← h4]; exact (List.getElem?_eq_some_iff.1 hu).1
   have := h5 i hil
   rw [hu] at this
   rw [← hsz, ← Go.Deep.add_add, this]
  ·obtain ⟨i, hil, rfl⟩ := List.getElem_of_mem hp
   obtain ⟨_, _, _, hq⟩ := hx2 i _ (List.getElem?_eq_getElem hil)
   exact hq
  ·rw [List.length_map, List.length_range, hB] at hw0
   have : xs.length * B ≤ (xs.length + ((List.range (m - xs.length)).map fun j => D (xs.length + j)).length) * B := Nat.mul_le_mul (Nat.le_add_right _ _) (Nat.le_refl _)
   exact Nat.le_trans this hw0
theorem opens_slice {α : Type} {t e : TypeId} {d : Kd α} {Q : α → Prop} {B : Nat} (ht : P.underlying t = some (.slice e)) (hsz : P.cellsOf e = d.sz) (hB : P.bytesOf e = B) (hd : Opens enc P w base spare held e d Q) : Opens enc P w base spare held t (Kd.slice e d) (fun xs => (∀ a ∈ xs, Q a) ∧ xs.length * B ≤ 140737488351232) := by
 intro n cs x h hl
 obtain ⟨A, c, xs, h1, h2, h3, h4, h5⟩ := opens_row ht hsz hB hd h hl
 exact ⟨xs, ⟨A, c, h1, h2, h3⟩, h4, h5⟩
/-- The cells of fields that follow one another from a place on, read as kind d. -/
def OpensF {α : Type} (enc : TypeId × Value → H) (P : Program) (w : World) (base : Nat) (spare : Nat → Bool) (held : Bool) (fs : List Field) (off : Nat) (d : Kd α) (Q : α → Prop) : Prop :=
 ∀ (n : Nat) (cs : List Value) (xs : List (DataW H × List MemPlace)), cs.length = off + d.sz → xs.length = fs.length → (∀ (i : Nat) (f : Field), fs[i]? = some f → DataW.trod enc P w base spare held n f.type ((cs.drop f.offset).take (P.cellsOf f.type)) = xs[i]?) → light (DataW.weightsEach P (fs.map (·.type)) (xs.map (·.1))) → ∃ a, d.K w a (cs.drop off) ∧ Q a
theorem opensF_one {α : Type} {f : Field} {off : Nat} {d : Kd α} {Q : α → Prop} (ho : f.offset = off) (hs : P.cellsOf f.type = d.sz) (h : Opens enc P w base spare held f.type d Q) : OpensF enc P w base spare held [f] off d Q := by
 intro n cs xs hc hx ht hl
 match xs, hx with
 | [x], _ =>
  have h0 := ht 0 f rfl
  rw [ho, hs, List.take_of_length_le (by rw [List.length_drop]; omega)] at h0
  simp only [List.map_cons, List.map_nil, DataW.weightsEach, List.append_nil] at hl
  exact h n _ x h0 hl
theorem opensF_cons {α β : Type} {f : Field} {fs : List Field} {off : Nat} {d : Kd α} {d2 : Kd β} {Q : α → Prop} {Q2 : β → Prop} (ho : f.offset = off) (hs : P.cellsOf f.type = d.sz) (h : Opens enc P w base spare held f.type d Q) (h2 : OpensF enc P w base spare held fs (off + d.sz) d2 Q2) : OpensF enc P w base spare held (f :: fs) off (Kd.pair d d2) (fun x => Q x.1 ∧ Q2 x.2) := by
 intro n cs xs hc hx ht hl
 have hc' : cs.length = off + (d.sz + d2.sz) := hc
 match xs, hx with
 | x :: xs, hx =>
  have h0 := ht 0 f rfl
  rw [ho, hs] at h0
  simp only [List.map_cons, DataW.weightsEach] at hl
  obtain ⟨l1, l2⟩ := light_app hl
  obtain ⟨a, hk, hq⟩ := h n _ x h0 l1
  obtain ⟨b, hk2, hq2⟩ := h2 n cs xs (by omega) (by simpa using hx) (fun i g hg => ht (i + 1) g (by simpa using hg)) l2
  refine ⟨(a, b), ⟨_, _, ?_, hk, hk2⟩, hq, hq2⟩
  rw [← List.drop_drop, List.take_append_drop]
theorem opens_struct {α : Type} {t : TypeId} {fs : Array Field} {d : Kd α} {Q : α → Prop} (ht : P.underlying t = some (.struct fs)) (hs : P.cellsOf t = d.sz) (h : OpensF enc P w base spare held fs.toList 0 d Q) : Opens enc P w base spare held t d Q := by
 intro n cs x hx hl
 obtain ⟨xs, n', _, rfl, hlen, hxl, hf⟩ := DataW.trod_struct ht hx
 have hw : light (DataW.weightsEach P (fs.toList.map (·.type)) (xs.map (·.1))) := by
  have hl2 := hl
  simp only [DataW.weights, ht] at hl2
  exact hl2
 obtain ⟨a, hk, hq⟩ := h n' cs xs (by rw [hlen, hs, Nat.zero_add]) (by rw [hxl, Array.length_toList]) (fun i f hf' => hf i f (by rw [← Array.getElem?_toList]; exact hf')) hw
 rw [List.drop_zero] at hk
 exact ⟨a, hk, hq⟩
/-- A parameter's weights. -/
theorem light_at {ts : List TypeId} {ds : List (DataW H)} (h : (DataW.weightsEach P ts ds).all (· ≤ reachBytes) = true) {j : Nat} {t : TypeId} {d : DataW H} (ht : ts[j]? = some t) (hd : ds[j]? = some d) : light (d.weights P t) :=
 List.all_eq_true.2 fun n hn => List.all_eq_true.1 h n (DataW.weights_mem_each ht hd n hn)
/-- A struct by value, opened. -/
theorem open_agg {r : Reach} {b0 : Nat} {α : Type} {t : TypeId} {fs : Array Field} {k : Kd α} {Q : α → Prop} {v : Value} {d : DataW H} {p : List MemPlace} (enc : TypeId × Value → H) (hs : P.underlying t = some (.struct fs)) (hO : Opens (H := H) enc P w base spare held t k Q) (hv : Value.okWide P w r b0 t v) (h : DataW.Trod enc P w base spare held t v d p) (hl : light (d.weights P t)) :
  ∃ (a : α) (cs : List Value), v = .agg cs.toArray ∧ k.K w a cs ∧ Q a := by
 obtain ⟨cs, rfl, _⟩ := okWide_struct hs hv
 obtain ⟨fuel, hf⟩ := h
 obtain ⟨a, hk, hq⟩ := hO fuel _ _ hf hl
 exact ⟨a, cs.toList, rfl, by simpa [Value.cells] using hk, hq⟩
end
end Go.Proofs.Ytajhfkcmfmhnaaa.L
end
section
namespace Go.Proofs.Ytajhfkcmfmhnaaa.L
open Go Go.RowKit Go.ChangeShapes Go.WideShapes Go.Proofs.Ytajhfkcmfmhnaaa.P Go.Proofs.YtajhfkcmfmhnaaaW.PrintWords
theorem cellsTb : Try.prog.cellsOf 33 = 5 := by kernel_rfl
theorem cellsVr : Try.prog.cellsOf 65 = 2 := by kernel_rfl
theorem cellsTm : Try.prog.cellsOf 59 = 2 := by kernel_rfl
theorem cellsRw : Try.prog.cellsOf 62 = 5 := by kernel_rfl
theorem bytesVr : Try.prog.bytesOf 65 = 40 := by kernel_rfl
theorem bytesTm : Try.prog.bytesOf 59 = 16 := by kernel_rfl
theorem bytesRw : Try.prog.bytesOf 62 = 56 := by kernel_rfl
theorem bytesU8 : Try.prog.bytesOf 5 = 1 := by kernel_rfl
theorem cellsI : Try.prog.cellsOf 3 = 1 := by kernel_rfl
theorem cellsU : Try.prog.cellsOf 5 = 1 := by kernel_rfl
theorem cellsS : Try.prog.cellsOf 9 = 1 := by kernel_rfl
theorem cellsB : Try.prog.cellsOf 34 = 1 := by kernel_rfl
theorem cellsVs : Try.prog.cellsOf 30 = 1 := by kernel_rfl
theorem cellsRs : Try.prog.cellsOf 31 = 1 := by kernel_rfl
theorem cellsTs : Try.prog.cellsOf 60 = 1 := by kernel_rfl
section
variable {H : Type} {enc : TypeId × Value → H} {w : World} {base : Nat} {spare : Nat → Bool} {held : Bool}
def wfT (x : Tm) : Prop := (Lit.int .u8 x.f0).wf = true ∧ (Lit.int .i64 x.f1).wf = true
def wfV (v : Vr) : Prop := v.f0.size ≤ 140737488351232 ∧ (∀ s ∈ v.f1, (Lit.int .u8 s).wf = true) ∧ v.f1.length * 1 ≤ 140737488351232
def wfR (r : Rw) : Prop := wfT r.f0 ∧ ((∀ x ∈ r.f1, wfT x) ∧ r.f1.length * 16 ≤ 140737488351232) ∧ wfT r.f2
theorem opens_term : Opens enc Try.prog w base spare held 59 k59 wfT := by
 have h3 := opensF_cons (enc := enc) (w := w) (base := base) (spare := spare) (held := held) (f := ⟨"State", 5, 0, false, "", "", 0⟩) rfl cellsU (opens_int Try.underlying5) (opensF_one (off := 1) (f := ⟨"Var", 3, 1, false, "", "", 8⟩) rfl cellsI (opens_int Try.underlying3))
 exact opens_iso (fun x : Tm => (x.f0, x.f1)) (fun a => ⟨a.1, a.2⟩) (fun _ => rfl) (opens_struct Try.underlying59 cellsTm h3)
theorem opens_var : Opens enc Try.prog w base spare held 65 k65 wfV := by
 have h3 := opensF_cons (enc := enc) (w := w) (base := base) (spare := spare) (held := held) (f := ⟨"Name", 9, 0, false, "", "", 0⟩) rfl cellsS (opens_string Try.underlying9) (opensF_one (off := 1) (f := ⟨"States", 34, 1, false, "", "", 16⟩) rfl cellsB (opens_slice Try.underlying34 cellsU bytesU8 (opens_int Try.underlying5)))
 exact opens_iso (fun x : Vr => (x.f0, x.f1)) (fun a => ⟨a.1, a.2⟩) (fun _ => rfl) (opens_struct Try.underlying65 cellsVr h3)
theorem opens_trans : Opens enc Try.prog w base spare held 62 k62 wfR := by
 have h3 := opensF_cons (enc := enc) (w := w) (base := base) (spare := spare) (held := held) (f := ⟨"Centre", 59, 0, false, "", "", 0⟩) rfl cellsTm opens_term (opensF_cons (off := 2) (f := ⟨"Around", 60, 2, false, "", "", 16⟩) rfl cellsTs (opens_slice Try.underlying60 cellsTm bytesTm opens_term) (opensF_one (off := 3) (f := ⟨"Out", 59, 3, false, "", "", 40⟩) rfl cellsTm opens_term))
 exact opens_iso (fun x : Rw => (x.f0, x.f1, x.f2)) (fun a => ⟨a.1, a.2.1, a.2.2⟩) (fun _ => rfl) (opens_struct Try.underlying62 cellsRw h3)
/-- A table's parts. -/
structure Tb where
 st : Int
 hd : Int
 sy : Int
 vs : List Vr
 rs : List Rw
def kTb : Kd Tb := Kd.iso (Kd.pair (Kd.int .i64) (Kd.pair (Kd.int .u8) (Kd.pair (Kd.int .u8) (Kd.pair (Kd.slice 65 k65) (Kd.slice 62 k62))))) (fun x : Tb => (x.st, x.hd, x.sy, x.vs, x.rs))
def wfTb (t : Tb) : Prop := (Lit.int .i64 t.st).wf = true ∧ (Lit.int .u8 t.hd).wf = true ∧ (Lit.int .u8 t.sy).wf = true ∧ ((∀ v ∈ t.vs, wfV v) ∧ t.vs.length * 40 ≤ 140737488351232) ∧ ((∀ r ∈ t.rs, wfR r) ∧ t.rs.length * 56 ≤ 140737488351232)
theorem opens_table : Opens enc Try.prog w base spare held 33 kTb wfTb := by
 have h3 := opensF_cons (enc := enc) (w := w) (base := base) (spare := spare) (held := held) (f := ⟨"States", 3, 0, false, "", "", 0⟩) rfl cellsI (opens_int Try.underlying3) (opensF_cons (off := 1) (f := ⟨"Hood", 5, 1, false, "", "", 8⟩) rfl cellsU (opens_int Try.underlying5) (opensF_cons (off := 2) (f := ⟨"Symmetry", 5, 2, false, "", "", 9⟩) rfl cellsU (opens_int Try.underlying5) (opensF_cons (off := 3) (f := ⟨"Vars", 30, 3, false, "", "", 16⟩) rfl cellsVs (opens_slice Try.underlying30 cellsVr bytesVr opens_var) (opensF_one (off := 4) (f := ⟨"Rows", 31, 4, false, "", "", 40⟩) rfl cellsRs (opens_slice Try.underlying31 cellsRw bytesRw opens_trans)))))
 exact opens_iso (fun x : Tb => (x.st, x.hd, x.sy, x.vs, x.rs)) (fun a => ⟨a.1, a.2.1, a.2.2.1, a.2.2.2.1, a.2.2.2.2⟩) (fun _ => rfl) (opens_struct Try.underlying33 cellsTb h3)
set_option maxRecDepth 100000 in
/-- A table by value, opened. -/
theorem open_table {r : Reach} {b0 : Nat} {v : Value} {d : DataW H} {p : List MemPlace} (hv : Value.okWide Try.prog w r b0 33 v) (h : DataW.Trod enc Try.prog w base spare held 33 v d p) (hl : light (d.weights Try.prog 33)) :
  ∃ (t : Tb) (A3 : Option Addr) (c3 : Nat) (A4 : Option Addr) (c4 : Nat), v = .agg #[.int .i64 t.st, .int .u8 t.hd, .int .u8 t.sy, .slice A3 t.vs.length c3, .slice A4 t.rs.length c4] ∧ t.vs.length ≤ c3 ∧ t.rs.length ≤ c4 ∧ Kd.C k65 w A3 t.vs.length t.vs ∧ Kd.C k62 w A4 t.rs.length t.rs ∧ wfTb t := by
 obtain ⟨t, cs, rfl, hk, hq⟩ := open_agg enc Try.underlying33 opens_table hv h hl
 have HQ := Aside0.mk hq
 clear hq hl h hv
 obtain ⟨_, _, rfl, rfl, _, _, rfl, rfl, _, _, rfl, rfl, _, _, rfl, ⟨A3, c3, rfl, h3, h3c⟩, ⟨A4, c4, rfl, h4, h4c⟩⟩ := hk
 exact ⟨t, A3, c3, A4, c4, rfl, h3, h4, h3c, h4c, HQ.out⟩
end
end Go.Proofs.Ytajhfkcmfmhnaaa.L
end

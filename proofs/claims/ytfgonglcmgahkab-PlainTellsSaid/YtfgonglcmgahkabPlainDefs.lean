/- A picture's reading, as plain functions of lines. -/
import Derived.Test.YtfgonglcmgahkabLineSame
import Derived.Laws.RangeAny
import Derived.Laws.RangeString
import Derived.Test.YtfgonglcmgahkabPm1
import Derived.Test.YtfgonglcmgahkabPm2
namespace Go.Proofs.Ytfgonglcmgahkab.L
open Go.RowKit Go.Proofs.Ytfgonglcmgahkab.P Go.Proofs.YtfgonglcmgahkabW.PrintWords Go.Proofs.YtfgonglcmgahkabW.PrintLast Go.Proofs.YtfgonglcmgahkabW.PrintMore
abbrev Cl := S35
/-- The state of a rune. -/
def ofP (r : Int) : Int × Bool := if r = 46 ∨ r = 32 ∨ r = 95 then (0, true) else if r = 79 ∨ r = 111 ∨ r = 42 ∨ r = 35 then (1, true) else if 10242 ≤ r ∧ r ≤ 10495 then (r - 10240, true) else (0, false)
theorem ofP_range (r : Int) : 0 ≤ (ofP r).1 ∧ (ofP r).1 ≤ 255 := by
 unfold ofP
 by_cases c0 : r = 46 ∨ r = 32 ∨ r = 95
 ·rw [if_pos c0]; decide
 ·rw [if_neg c0]
  by_cases c1 : r = 79 ∨ r = 111 ∨ r = 42 ∨ r = 35
  ·rw [if_pos c1]; decide
  ·rw [if_neg c1]
   by_cases c2 : 10242 ≤ r ∧ r ≤ 10495
   ·rw [if_pos c2]; dsimp only; omega
   ·rw [if_neg c2]; decide
/-- A row's cells behind others, and where a rune stands that is no sign (-1: nowhere). -/
def rowC (s : ByteArray) (y : Int) : Nat → Nat → Int → List Cl → List Cl × Int
 | 0, _, _, acc => (acc, -1)
 | n + 1, pos, x, acc => if pos < s.size then (if (ofP (Utf8.decode s pos).1).2 = true then rowC s y n (pos + (Utf8.decode s pos).2) (x + 1) (if (ofP (Utf8.decode s pos).1).1 = 0 then acc else acc ++ [⟨x, y, (ofP (Utf8.decode s pos).1).1⟩]) else (acc, (pos : Int))) else (acc, -1)
theorem rowC_succ (s : ByteArray) (y : Int) (n pos : Nat) (x : Int) (acc : List Cl) : rowC s y (n + 1) pos x acc = if pos < s.size then (if (ofP (Utf8.decode s pos).1).2 = true then rowC s y n (pos + (Utf8.decode s pos).2) (x + 1) (if (ofP (Utf8.decode s pos).1).1 = 0 then acc else acc ++ [⟨x, y, (ofP (Utf8.decode s pos).1).1⟩]) else (acc, (pos : Int))) else (acc, -1) := rfl
theorem rowC_out (s : ByteArray) (y : Int) (n pos : Nat) (x : Int) (acc : List Cl) (h : ¬ pos < s.size) : rowC s y n pos x acc = (acc, -1) := by
 cases n with
 | zero => rfl
 | succ n => rw [rowC_succ, if_neg h]
theorem rowC_len (s : ByteArray) (y : Int) : ∀ (n pos : Nat) (x : Int) (acc : List Cl), (rowC s y n pos x acc).1.length ≤ acc.length + n
 | 0, _, _, acc => Nat.le_refl _
 | n + 1, pos, x, acc => by
  rw [rowC_succ]
  by_cases c : pos < s.size
  ·rw [if_pos c]
   by_cases c1 : (ofP (Utf8.decode s pos).1).2 = true
   ·rw [if_pos c1]
    refine Nat.le_trans (rowC_len s y n _ _ _) ?_
    by_cases c2 : (ofP (Utf8.decode s pos).1).1 = 0
    ·rw [if_pos c2]; omega
    ·rw [if_neg c2, List.length_append, List.length_singleton]; omega
   ·rw [if_neg c1]; dsimp only; omega
  ·rw [if_neg c]; dsimp only; omega
theorem width_pos (s : ByteArray) (pos : Nat) (h : pos < s.size) : 1 ≤ (Utf8.decode s pos).2 := by
 by_cases ha : (s[pos]'h).toNat < 128
 ·rw [decode_ascii s pos h ha]
  exact Nat.le_refl _
 ·exact (decode_high s pos h (by omega)).2
/-- A line that is passed over. -/
def bang (t : ByteArray) : Bool := decide (0 < t.size ∧ bt t 0 = 33)
/-- Lines read behind others: the cells, a fault's place, the fault. -/
def readC : List Ln → Int → List Cl → List Cl × Int × Int
 | [], _, acc => (acc, 0, 0)
 | l :: ls, y, acc => if bang l.f1 = true then readC ls y acc else match rowC l.f1 y l.f1.size 0 0 acc with
  | (acc', b) => if b = -1 then readC ls (y + 1) acc' else ([], l.f0 + b, 230)
theorem readC_bang (l : Ln) (ls : List Ln) (y : Int) (acc : List Cl) (h : bang l.f1 = true) : readC (l :: ls) y acc = readC ls y acc := by
 simp only [readC, if_pos h]
theorem readC_row (l : Ln) (ls : List Ln) (y : Int) (acc acc' : List Cl) (h : ¬ bang l.f1 = true) (h2 : rowC l.f1 y l.f1.size 0 0 acc = (acc', -1)) : readC (l :: ls) y acc = readC ls (y + 1) acc' := by
 simp only [readC, if_neg h, h2, if_true]
theorem readC_bad (l : Ln) (ls : List Ln) (y : Int) (acc acc' : List Cl) (b : Int) (h : ¬ bang l.f1 = true) (h2 : rowC l.f1 y l.f1.size 0 0 acc = (acc', b)) (hb : ¬ b = -1) : readC (l :: ls) y acc = ([], l.f0 + b, 230) := by
 simp only [readC, if_neg h, h2, if_neg hb]
theorem one_partP (s : ByteArray) (p : Nat) (hp : p < s.size) : ∃ a : UInt8, (s.extract p (p + 1)).data.toList = [a] ∧ (a.toNat : Int) = bt s (p : Int) := one_listL s p hp
theorem prefix_oneP (s : ByteArray) (c : UInt8) : strings_HasPrefix.f s ⟨#[c]⟩ = some (decide (0 < s.size ∧ bt s 0 = (c.toNat : Int))) := by
 have h1s : (⟨#[c]⟩ : ByteArray).size = 1 := rfl
 unfold strings_HasPrefix.f stringslite_HasPrefix.f
 rw [h1s]
 by_cases h : 0 < s.size
 ·obtain ⟨a, ha, hac⟩ := one_partP s 0 h
  rw [if_pos (by omega), if_pos (by omega), if_pos (by omega), Option.bind_some, ByteArray.toList_eq, ByteArray.toList_eq]
  rw [show (((1 : Nat) : Int)).toNat = 0 + 1 from rfl, ha]
  show some ([a] == [c]) = _
  congr 1
  rw [Bool.eq_iff_iff, beq_iff_eq, decide_eq_true_eq]
  constructor
  ·intro e
   have : a = c := by simpa using e
   exact ⟨h, by show bt s ((0 : Nat) : Int) = _; rw [← hac, this]⟩
  ·rintro ⟨_, e⟩
   have : a = c := by
    apply UInt8.toNat_inj.1
    have e2 : bt s ((0 : Nat) : Int) = (c.toNat : Int) := e
    omega
   rw [this]
 ·rw [if_neg (by omega), Option.bind_some, decide_eq_false (fun e => h e.1)]
theorem bang_is (t : ByteArray) : strings_HasPrefix.f t ⟨#[33]⟩ = some (bang t) := prefix_oneP t 33
theorem of_1 (r : Int) (h0 : -2147483648 ≤ r) (h1 : r ≤ 2147483647) (k : Nat) (b : Bool) (hb : b = decide (r = 79 ∨ r = 111 ∨ r = 42 ∨ r = 35)) (h : ¬ (r = 46 ∨ r = 32 ∨ r = 95)) : plain_Of.j1 (k + 1) r b = some (ofP r) := by
 subst hb
 simp only [plain_Of.j1]
 unfold ofP
 rw [if_neg h]
 by_cases c1 : r = 79 ∨ r = 111 ∨ r = 42 ∨ r = 35
 ·rw [if_pos c1, if_pos (decide_eq_true c1)]
 ·rw [if_neg c1, if_neg (by rw [decide_eq_false c1]; decide)]
  by_cases c2 : r ≥ 10242
  ·rw [if_pos c2]
   by_cases c3 : r ≤ 10495
   ·rw [if_pos c3, if_pos ⟨c2, c3⟩]
    have e : wrap32 (r - 10240) % 256 = r - 10240 := by unfold wrap32; omega
    rw [e]
   ·rw [if_neg c3, if_neg (fun e => c3 e.2)]
  ·rw [if_neg c2, if_neg (fun e => c2 e.1)]
theorem of_0 (r : Int) (h0 : -2147483648 ≤ r) (h1 : r ≤ 2147483647) (k : Nat) (b : Bool) (hb : b = decide (r = 46 ∨ r = 32 ∨ r = 95)) : plain_Of.j0 (k + 2) r r b = some (ofP r) := by
 subst hb
 simp only [plain_Of.j0]
 by_cases c : r = 46 ∨ r = 32 ∨ r = 95
 ·rw [if_pos (decide_eq_true c)]
  unfold ofP
  rw [if_pos c]
 ·rw [if_neg (by rw [decide_eq_false c]; decide)]
  by_cases c1 : r = 79
  ·rw [if_pos c1, of_1 r h0 h1 k _ (by rw [c1]; decide) c]
  ·rw [if_neg c1]
   by_cases c2 : r = 111
   ·rw [if_pos c2, of_1 r h0 h1 k _ (by rw [c2]; decide) c]
   ·rw [if_neg c2]
    by_cases c3 : r = 42
    ·rw [if_pos c3, of_1 r h0 h1 k _ (by rw [c3]; decide) c]
    ·rw [if_neg c3, of_1 r h0 h1 k _ (by rw [Bool.eq_iff_iff, beq_iff_eq, decide_eq_true_eq]; omega) c]
theorem of_is (r : Int) (h0 : -2147483648 ≤ r) (h1 : r ≤ 2147483647) (k : Nat) (hk : 5 ≤ k) : plain_Of.f k r = some (ofP r) := by
 obtain ⟨k, rfl⟩ : ∃ m, k = m + 2 := ⟨k - 2, by omega⟩
 unfold plain_Of.f
 by_cases c1 : r = 46
 ·rw [if_pos c1, of_0 r h0 h1 k _ (by rw [c1]; decide)]
 ·rw [if_neg c1]
  by_cases c2 : r = 32
  ·rw [if_pos c2, of_0 r h0 h1 k _ (by rw [c2]; decide)]
  ·rw [if_neg c2, of_0 r h0 h1 k _ (by rw [Bool.eq_iff_iff, beq_iff_eq, decide_eq_true_eq]; omega)]
/-- Each line of a text lies within it. -/
theorem lsp_in (s : ByteArray) : ∀ (n i : Nat) (x : Ln), x ∈ lsp s n i → 0 ≤ x.f0 ∧ x.f0 ≤ s.size ∧ x.f1.size ≤ s.size
 | 0, _, x, h => by simp [lsp] at h
 | n + 1, i, x, h => by
  unfold lsp at h
  by_cases c : i < s.size
  ·rw [if_pos c] at h
   rcases List.mem_cons.1 h with rfl | h
   ·refine ⟨by dsimp only; omega, by dsimp only; omega, ?_⟩
    dsimp only [ltext]
    split <;> rw [ByteArray.size_extract] <;> omega
   ·exact lsp_in s n _ x h
  ·rw [if_neg c] at h; simp at h
theorem lsp_lenP (s : ByteArray) : ∀ n i, (lsp s n i).length ≤ n
 | 0, _ => Nat.le_refl 0
 | n + 1, i => by
  unfold lsp
  by_cases c : i < s.size
  ·rw [if_pos c, List.length_cons]; have := lsp_lenP s n (eol s (s.size - i) i + 1); omega
  ·rw [if_neg c]; exact Nat.zero_le _
end Go.Proofs.Ytfgonglcmgahkab.L

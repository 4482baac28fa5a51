/- Answers that come with enough rounds. -/
import Derived.Test.YtkahgdkpehlanaaPureLib
namespace Go.Proofs.Ytkahgdkpehlanaa.L
/-- With enough rounds the answer is r. -/
def Evn {α : Type} (g : Nat → Option α) (r : α) : Prop := ∃ K, ∀ k, K ≤ k → g k = some r
namespace Evn
variable {α β : Type}
theorem const {r : α} : Evn (fun _ => some r) r := ⟨0, fun _ _ => rfl⟩
theorem of {g : Option α} {r : α} (h : g = some r) : Evn (fun _ => g) r := ⟨0, fun _ _ => h⟩
theorem step {g g' : Nat → Option α} {r : α} (h : Evn g' r) (e : ∀ k, g (k + 1) = g' k) : Evn g r := by
  obtain ⟨K, hK⟩ := h
  refine ⟨K + 1, fun k hk => ?_⟩
  obtain ⟨k, rfl⟩ : ∃ m, k = m + 1 := ⟨k - 1, by omega⟩
  rw [e]
  exact hK k (by omega)
theorem congr {g g' : Nat → Option α} {r : α} (h : Evn g' r) (e : ∀ k, g k = g' k) : Evn g r := by
  obtain ⟨K, hK⟩ := h
  exact ⟨K, fun k hk => (e k).trans (hK k hk)⟩
theorem bind {g : Nat → Option α} {f : Nat → α → Option β} {r : α} {s : β} (h : Evn g r) (h2 : Evn (fun k => f k r) s) : Evn (fun k => (g k).bind (f k)) s := by
  obtain ⟨K, hK⟩ := h
  obtain ⟨L, hL⟩ := h2
  refine ⟨K + L, fun k hk => ?_⟩
  show (g k).bind (f k) = some s
  rw [hK k (by omega), Option.bind_some]
  exact hL k (by omega)
theorem get {g : Nat → Option α} {r : α} (h : Evn g r) : ∃ k, g k = some r := by
  obtain ⟨K, hK⟩ := h
  exact ⟨K, hK K (Nat.le_refl _)⟩
theorem one {g : Nat → Option α} {r s : α} (h : Evn g r) (h2 : Evn g s) : r = s := by
  obtain ⟨K, hK⟩ := h
  obtain ⟨L, hL⟩ := h2
  have a := hK (K + L) (by omega)
  rw [hL (K + L) (by omega)] at a
  exact (Option.some.inj a).symm
end Evn
end Go.Proofs.Ytkahgdkpehlanaa.L

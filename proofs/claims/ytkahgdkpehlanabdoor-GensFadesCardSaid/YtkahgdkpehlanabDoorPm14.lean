-- Written by a program of this session (wip/tools/mk.py) that runs the kit's printer; several functions' texts in one.
import Derived.Test.YtkahgdkpehlanabDoorP0
import Derived.Test.YtkahgdkpehlanabDoorPm3
import Derived.Test.YtkahgdkpehlanabDoorPm1
import Derived.Test.YtkahgdkpehlanabDoorPm13
namespace Go.Proofs.YtkahgdkpehlanabDoor.P
open Go.RowKit Go.Proofs.YtkahgdkpehlanabDoorW.PrintWords Go.Proofs.YtkahgdkpehlanabDoorW.PrintLast Go.Proofs.YtkahgdkpehlanabDoorW.PrintMore
attribute [local go_sem] max2_int min2_int max_two min_two   -- for this text's walks alone
set_option linter.unusedVariables false
set_option linter.unusedSimpArgs false

/-! ### vivariumlaw09_GensFades: function 3 -/
mutual
def vivariumlaw09_GensFades.j0 : Nat → List Int → Bool → Int → Int → Int → Int → Int → Option (Bool)
  | 0, _, _, _, _, _, _, _ => none
  | k + 1, x1, x5, x6, x257000, x257001, x257002, x257003 => if x257000 = 3 then (vivariumlaw09_GensFades.j1 k x1 x5 6 x257000 x257001 x257002 x257003) else (vivariumlaw09_GensFades.j1 k x1 x5 x6 x257000 x257001 x257002 x257003)
def vivariumlaw09_GensFades.j1 : Nat → List Int → Bool → Int → Int → Int → Int → Int → Option (Bool)
  | 0, _, _, _, _, _, _, _ => none
  | k + 1, x1, x5, x6, x257000, x257001, x257002, x257003 => vivariumlaw09_GensFades.l0 k x1 x5 x6 0 x257000 x257001 x257002 x257003
def vivariumlaw09_GensFades.l0 : Nat → List Int → Bool → Int → Int → Int → Int → Int → Int → Option (Bool)
  | 0, _, _, _, _, _, _, _, _ => none
  | k + 1, x1, x5, x6, x7, x257000, x257001, x257002, x257003 => if x7 < 2 then (vivariumlaw09_GensFades.l1 k x1 x5 x6 x7 0 x257000 x257001 x257002 x257003) else (vivariumlaw09_GensFades.l2 k x1 x5 x6 2 2 x257000 x257001 x257002 x257003)
def vivariumlaw09_GensFades.l1 : Nat → List Int → Bool → Int → Int → Int → Int → Int → Int → Int → Option (Bool)
  | 0, _, _, _, _, _, _, _, _, _ => none
  | k + 1, x1, x5, x6, x7, x8, x257000, x257001, x257002, x257003 => if x8 ≤ x6 then ((gens_Next.f k x257000 x257001 x257002 x257003 ((x7) % 256) x8).bind fun bt259 => ((life_Next.f k x257000 x257001 x257002 ((x7) % 256) x8).bind fun bt261 => (if bt259.2 = 0 then (vivariumlaw09_GensFades.j4 k x1 x5 x6 x7 x8 bt259.1 bt261.1 (bt261.2 != 0) x257000 x257001 x257002 x257003) else (vivariumlaw09_GensFades.j4 k x1 x5 x6 x7 x8 bt259.1 bt261.1 true x257000 x257001 x257002 x257003)))) else (vivariumlaw09_GensFades.l0 k x1 x5 x6 (wrap64 (x7 + 1)) x257000 x257001 x257002 x257003)
def vivariumlaw09_GensFades.j4 : Nat → List Int → Bool → Int → Int → Int → Int → Int → Bool → Int → Int → Int → Int → Option (Bool)
  | 0, _, _, _, _, _, _, _, _, _, _, _, _ => none
  | k + 1, x1, x5, x6, x7, x8, x9, x11, x63, x257000, x257001, x257002, x257003 => if x63 = true then (some false) else (if x7 = 1 then (if x11 = 0 then (vivariumlaw09_GensFades.j5 k x1 x5 x6 x7 x8 x9 x11 (decide (x257003 > 2)) x257000 x257001 x257002 x257003) else (vivariumlaw09_GensFades.j5 k x1 x5 x6 x7 x8 x9 x11 false x257000 x257001 x257002 x257003)) else (vivariumlaw09_GensFades.j5 k x1 x5 x6 x7 x8 x9 x11 false x257000 x257001 x257002 x257003))
def vivariumlaw09_GensFades.j5 : Nat → List Int → Bool → Int → Int → Int → Int → Int → Bool → Int → Int → Int → Int → Option (Bool)
  | 0, _, _, _, _, _, _, _, _, _, _, _, _ => none
  | k + 1, x1, x5, x6, x7, x8, x9, x13, x75, x257000, x257001, x257002, x257003 => if x75 = true then (if x9 = 2 then (vivariumlaw09_GensFades.l1 k x1 x5 x6 x7 (wrap64 (x8 + 1)) x257000 x257001 x257002 x257003) else (some false)) else (if x9 = x13 then (vivariumlaw09_GensFades.l1 k x1 x5 x6 x7 (wrap64 (x8 + 1)) x257000 x257001 x257002 x257003) else (some false))
def vivariumlaw09_GensFades.l2 : Nat → List Int → Bool → Int → Int → Int → Int → Int → Int → Int → Option (Bool)
  | 0, _, _, _, _, _, _, _, _, _ => none
  | k + 1, x1, x5, x6, x14, x15, x257000, x257001, x257002, x257003 => if x15 < x257003 then (if x15 < (x1.length : Int) then (if 0 ≤ x15 then (if (wrap64 (x6 + 1)) = 0 then (none) else ((gens_Next.f k x257000 x257001 x257002 x257003 x14 (Int.tmod (wrap64 ((wrap64 ((Int.tmod (rd x1 x15) (wrap64 (x6 + 1))) + x6)) + 1)) (wrap64 (x6 + 1)))).bind fun bt264 => (if bt264.2 = 0 then (if x14 = 0 then (some false) else (if ((bt264.1 == 0) != (x15 == (wrap64 (x257003 - 1)))) = true then (some false) else (vivariumlaw09_GensFades.l2 k x1 x5 x6 bt264.1 (wrap64 (x15 + 1)) x257000 x257001 x257002 x257003))) else (some false)))) else (none)) else ((gens_Next.f k x257000 x257001 x257002 x257003 x14 0).bind fun bt266 => (if bt266.2 = 0 then (if x14 = 0 then (some false) else (if ((bt266.1 == 0) != (x15 == (wrap64 (x257003 - 1)))) = true then (some false) else (vivariumlaw09_GensFades.l2 k x1 x5 x6 bt266.1 (wrap64 (x15 + 1)) x257000 x257001 x257002 x257003))) else (some false)))) else (if x5 = true then (some ((x14 == 0) == (decide (x257003 > 2)))) else (some false))
end
def vivariumlaw09_GensFades.f (k : Nat) (a0_0 : Int) (a0_1 : Int) (a0_2 : Int) (a0_3 : Int) (l1 : List Int) : Option (Bool) := (vivariumlaw09_awake.f k).bind fun t257 => ((gens_Check.f a0_0 a0_1 a0_2 a0_3).bind fun t258 => (if t258 = 0 then (if a0_0 = 2 then (vivariumlaw09_GensFades.j0 k l1 t257 4 a0_0 a0_1 a0_2 a0_3) else (vivariumlaw09_GensFades.j0 k l1 t257 8 a0_0 a0_1 a0_2 a0_3)) else (some t257)))
theorem vivariumlaw09_GensFades.mono_l : ∀ k, (∀ y0 y1 y2 y3 y4 y5 y6, LeO (vivariumlaw09_GensFades.j0 k y0 y1 y2 y3 y4 y5 y6) (vivariumlaw09_GensFades.j0 (k + 1) y0 y1 y2 y3 y4 y5 y6)) ∧ (∀ y0 y1 y2 y3 y4 y5 y6, LeO (vivariumlaw09_GensFades.j1 k y0 y1 y2 y3 y4 y5 y6) (vivariumlaw09_GensFades.j1 (k + 1) y0 y1 y2 y3 y4 y5 y6)) ∧ (∀ y0 y1 y2 y3 y4 y5 y6 y7, LeO (vivariumlaw09_GensFades.l0 k y0 y1 y2 y3 y4 y5 y6 y7) (vivariumlaw09_GensFades.l0 (k + 1) y0 y1 y2 y3 y4 y5 y6 y7)) ∧ (∀ y0 y1 y2 y3 y4 y5 y6 y7 y8, LeO (vivariumlaw09_GensFades.l1 k y0 y1 y2 y3 y4 y5 y6 y7 y8) (vivariumlaw09_GensFades.l1 (k + 1) y0 y1 y2 y3 y4 y5 y6 y7 y8)) ∧ (∀ y0 y1 y2 y3 y4 y5 y6 y7 y8 y9 y10 y11, LeO (vivariumlaw09_GensFades.j4 k y0 y1 y2 y3 y4 y5 y6 y7 y8 y9 y10 y11) (vivariumlaw09_GensFades.j4 (k + 1) y0 y1 y2 y3 y4 y5 y6 y7 y8 y9 y10 y11)) ∧ (∀ y0 y1 y2 y3 y4 y5 y6 y7 y8 y9 y10 y11, LeO (vivariumlaw09_GensFades.j5 k y0 y1 y2 y3 y4 y5 y6 y7 y8 y9 y10 y11) (vivariumlaw09_GensFades.j5 (k + 1) y0 y1 y2 y3 y4 y5 y6 y7 y8 y9 y10 y11)) ∧ (∀ y0 y1 y2 y3 y4 y5 y6 y7 y8, LeO (vivariumlaw09_GensFades.l2 k y0 y1 y2 y3 y4 y5 y6 y7 y8) (vivariumlaw09_GensFades.l2 (k + 1) y0 y1 y2 y3 y4 y5 y6 y7 y8))
  | 0 => ⟨fun _ _ _ _ _ _ _ r h => by simp [vivariumlaw09_GensFades.j0] at h, fun _ _ _ _ _ _ _ r h => by simp [vivariumlaw09_GensFades.j1] at h, fun _ _ _ _ _ _ _ _ r h => by simp [vivariumlaw09_GensFades.l0] at h, fun _ _ _ _ _ _ _ _ _ r h => by simp [vivariumlaw09_GensFades.l1] at h, fun _ _ _ _ _ _ _ _ _ _ _ _ r h => by simp [vivariumlaw09_GensFades.j4] at h, fun _ _ _ _ _ _ _ _ _ _ _ _ r h => by simp [vivariumlaw09_GensFades.j5] at h, fun _ _ _ _ _ _ _ _ _ r h => by simp [vivariumlaw09_GensFades.l2] at h⟩
  | k + 1 => by
    obtain ⟨ih0, ih1, ih2, ih3, ih4, ih5, ih6⟩ := vivariumlaw09_GensFades.mono_l k
    refine ⟨?_, ?_, ?_, ?_, ?_, ?_, ?_⟩
    · intro y0 y1 y2 y3 y4 y5 y6
      unfold vivariumlaw09_GensFades.j0
      repeat' first
      | (with_reducible exact ih0 _ _ _ _ _ _ _)
      | (with_reducible exact ih1 _ _ _ _ _ _ _)
      | (with_reducible exact ih2 _ _ _ _ _ _ _ _)
      | (with_reducible exact ih3 _ _ _ _ _ _ _ _ _)
      | (with_reducible exact ih4 _ _ _ _ _ _ _ _ _ _ _ _)
      | (with_reducible exact ih5 _ _ _ _ _ _ _ _ _ _ _ _)
      | (with_reducible exact ih6 _ _ _ _ _ _ _ _ _)
      | (with_reducible exact gens_Next.mono _ _ _ _ _ _ _)
      | (with_reducible exact life_Next.mono _ _ _ _ _ _)
      | (with_reducible exact vivariumlaw09_awake.mono _)
      | (with_reducible exact LeO.refl _)
      | (with_reducible exact LeO.none _)
      | (with_reducible refine LeO.ite ?_ ?_)
      | (with_reducible refine LeO.bind ?_ (fun _ => ?_))
      | exact ih0 _ _ _ _ _ _ _
      | exact ih1 _ _ _ _ _ _ _
      | exact ih2 _ _ _ _ _ _ _ _
      | exact ih3 _ _ _ _ _ _ _ _ _
      | exact ih4 _ _ _ _ _ _ _ _ _ _ _ _
      | exact ih5 _ _ _ _ _ _ _ _ _ _ _ _
      | exact ih6 _ _ _ _ _ _ _ _ _
      | exact gens_Next.mono _ _ _ _ _ _ _
      | exact life_Next.mono _ _ _ _ _ _
      | exact vivariumlaw09_awake.mono _
      | exact LeO.none _
      | refine LeO.ite ?_ ?_
      | refine LeO.bind ?_ (fun _ => ?_)
    · intro y0 y1 y2 y3 y4 y5 y6
      unfold vivariumlaw09_GensFades.j1
      repeat' first
      | (with_reducible exact ih0 _ _ _ _ _ _ _)
      | (with_reducible exact ih1 _ _ _ _ _ _ _)
      | (with_reducible exact ih2 _ _ _ _ _ _ _ _)
      | (with_reducible exact ih3 _ _ _ _ _ _ _ _ _)
      | (with_reducible exact ih4 _ _ _ _ _ _ _ _ _ _ _ _)
      | (with_reducible exact ih5 _ _ _ _ _ _ _ _ _ _ _ _)
      | (with_reducible exact ih6 _ _ _ _ _ _ _ _ _)
      | (with_reducible exact gens_Next.mono _ _ _ _ _ _ _)
      | (with_reducible exact life_Next.mono _ _ _ _ _ _)
      | (with_reducible exact vivariumlaw09_awake.mono _)
      | (with_reducible exact LeO.refl _)
      | (with_reducible exact LeO.none _)
      | (with_reducible refine LeO.ite ?_ ?_)
      | (with_reducible refine LeO.bind ?_ (fun _ => ?_))
      | exact ih0 _ _ _ _ _ _ _
      | exact ih1 _ _ _ _ _ _ _
      | exact ih2 _ _ _ _ _ _ _ _
      | exact ih3 _ _ _ _ _ _ _ _ _
      | exact ih4 _ _ _ _ _ _ _ _ _ _ _ _
      | exact ih5 _ _ _ _ _ _ _ _ _ _ _ _
      | exact ih6 _ _ _ _ _ _ _ _ _
      | exact gens_Next.mono _ _ _ _ _ _ _
      | exact life_Next.mono _ _ _ _ _ _
      | exact vivariumlaw09_awake.mono _
      | exact LeO.none _
      | refine LeO.ite ?_ ?_
      | refine LeO.bind ?_ (fun _ => ?_)
    · intro y0 y1 y2 y3 y4 y5 y6 y7
      unfold vivariumlaw09_GensFades.l0
      repeat' first
      | (with_reducible exact ih0 _ _ _ _ _ _ _)
      | (with_reducible exact ih1 _ _ _ _ _ _ _)
      | (with_reducible exact ih2 _ _ _ _ _ _ _ _)
      | (with_reducible exact ih3 _ _ _ _ _ _ _ _ _)
      | (with_reducible exact ih4 _ _ _ _ _ _ _ _ _ _ _ _)
      | (with_reducible exact ih5 _ _ _ _ _ _ _ _ _ _ _ _)
      | (with_reducible exact ih6 _ _ _ _ _ _ _ _ _)
      | (with_reducible exact gens_Next.mono _ _ _ _ _ _ _)
      | (with_reducible exact life_Next.mono _ _ _ _ _ _)
      | (with_reducible exact vivariumlaw09_awake.mono _)
      | (with_reducible exact LeO.refl _)
      | (with_reducible exact LeO.none _)
      | (with_reducible refine LeO.ite ?_ ?_)
      | (with_reducible refine LeO.bind ?_ (fun _ => ?_))
      | exact ih0 _ _ _ _ _ _ _
      | exact ih1 _ _ _ _ _ _ _
      | exact ih2 _ _ _ _ _ _ _ _
      | exact ih3 _ _ _ _ _ _ _ _ _
      | exact ih4 _ _ _ _ _ _ _ _ _ _ _ _
      | exact ih5 _ _ _ _ _ _ _ _ _ _ _ _
      | exact ih6 _ _ _ _ _ _ _ _ _
      | exact gens_Next.mono _ _ _ _ _ _ _
      | exact life_Next.mono _ _ _ _ _ _
      | exact vivariumlaw09_awake.mono _
      | exact LeO.none _
      | refine LeO.ite ?_ ?_
      | refine LeO.bind ?_ (fun _ => ?_)
    · intro y0 y1 y2 y3 y4 y5 y6 y7 y8
      unfold vivariumlaw09_GensFades.l1
      repeat' first
      | (with_reducible exact ih0 _ _ _ _ _ _ _)
      | (with_reducible exact ih1 _ _ _ _ _ _ _)
      | (with_reducible exact ih2 _ _ _ _ _ _ _ _)
      | (with_reducible exact ih3 _ _ _ _ _ _ _ _ _)
      | (with_reducible exact ih4 _ _ _ _ _ _ _ _ _ _ _ _)
      | (with_reducible exact ih5 _ _ _ _ _ _ _ _ _ _ _ _)
      | (with_reducible exact ih6 _ _ _ _ _ _ _ _ _)
      | (with_reducible exact gens_Next.mono _ _ _ _ _ _ _)
      | (with_reducible exact life_Next.mono _ _ _ _ _ _)
      | (with_reducible exact vivariumlaw09_awake.mono _)
      | (with_reducible exact LeO.refl _)
      | (with_reducible exact LeO.none _)
      | (with_reducible refine LeO.ite ?_ ?_)
      | (with_reducible refine LeO.bind ?_ (fun _ => ?_))
      | exact ih0 _ _ _ _ _ _ _
      | exact ih1 _ _ _ _ _ _ _
      | exact ih2 _ _ _ _ _ _ _ _
      | exact ih3 _ _ _ _ _ _ _ _ _
      | exact ih4 _ _ _ _ _ _ _ _ _ _ _ _
      | exact ih5 _ _ _ _ _ _ _ _ _ _ _ _
      | exact ih6 _ _ _ _ _ _ _ _ _
      | exact gens_Next.mono _ _ _ _ _ _ _
      | exact life_Next.mono _ _ _ _ _ _
      | exact vivariumlaw09_awake.mono _
      | exact LeO.none _
      | refine LeO.ite ?_ ?_
      | refine LeO.bind ?_ (fun _ => ?_)
    · intro y0 y1 y2 y3 y4 y5 y6 y7 y8 y9 y10 y11
      unfold vivariumlaw09_GensFades.j4
      repeat' first
      | (with_reducible exact ih0 _ _ _ _ _ _ _)
      | (with_reducible exact ih1 _ _ _ _ _ _ _)
      | (with_reducible exact ih2 _ _ _ _ _ _ _ _)
      | (with_reducible exact ih3 _ _ _ _ _ _ _ _ _)
      | (with_reducible exact ih4 _ _ _ _ _ _ _ _ _ _ _ _)
      | (with_reducible exact ih5 _ _ _ _ _ _ _ _ _ _ _ _)
      | (with_reducible exact ih6 _ _ _ _ _ _ _ _ _)
      | (with_reducible exact gens_Next.mono _ _ _ _ _ _ _)
      | (with_reducible exact life_Next.mono _ _ _ _ _ _)
      | (with_reducible exact vivariumlaw09_awake.mono _)
      | (with_reducible exact LeO.refl _)
      | (with_reducible exact LeO.none _)
      | (with_reducible refine LeO.ite ?_ ?_)
      | (with_reducible refine LeO.bind ?_ (fun _ => ?_))
      | exact ih0 _ _ _ _ _ _ _
      | exact ih1 _ _ _ _ _ _ _
      | exact ih2 _ _ _ _ _ _ _ _
      | exact ih3 _ _ _ _ _ _ _ _ _
      | exact ih4 _ _ _ _ _ _ _ _ _ _ _ _
      | exact ih5 _ _ _ _ _ _ _ _ _ _ _ _
      | exact ih6 _ _ _ _ _ _ _ _ _
      | exact gens_Next.mono _ _ _ _ _ _ _
      | exact life_Next.mono _ _ _ _ _ _
      | exact vivariumlaw09_awake.mono _
      | exact LeO.none _
      | refine LeO.ite ?_ ?_
      | refine LeO.bind ?_ (fun _ => ?_)
    · intro y0 y1 y2 y3 y4 y5 y6 y7 y8 y9 y10 y11
      unfold vivariumlaw09_GensFades.j5
      repeat' first
      | (with_reducible exact ih0 _ _ _ _ _ _ _)
      | (with_reducible exact ih1 _ _ _ _ _ _ _)
      | (with_reducible exact ih2 _ _ _ _ _ _ _ _)
      | (with_reducible exact ih3 _ _ _ _ _ _ _ _ _)
      | (with_reducible exact ih4 _ _ _ _ _ _ _ _ _ _ _ _)
      | (with_reducible exact ih5 _ _ _ _ _ _ _ _ _ _ _ _)
      | (with_reducible exact ih6 _ _ _ _ _ _ _ _ _)
      | (with_reducible exact gens_Next.mono _ _ _ _ _ _ _)
      | (with_reducible exact life_Next.mono _ _ _ _ _ _)
      | (with_reducible exact vivariumlaw09_awake.mono _)
      | (with_reducible exact LeO.refl _)
      | (with_reducible exact LeO.none _)
      | (with_reducible refine LeO.ite ?_ ?_)
      | (with_reducible refine LeO.bind ?_ (fun _ => ?_))
      | exact ih0 _ _ _ _ _ _ _
      | exact ih1 _ _ _ _ _ _ _
      | exact ih2 _ _ _ _ _ _ _ _
      | exact ih3 _ _ _ _ _ _ _ _ _
      | exact ih4 _ _ _ _ _ _ _ _ _ _ _ _
      | exact ih5 _ _ _ _ _ _ _ _ _ _ _ _
      | exact ih6 _ _ _ _ _ _ _ _ _
      | exact gens_Next.mono _ _ _ _ _ _ _
      | exact life_Next.mono _ _ _ _ _ _
      | exact vivariumlaw09_awake.mono _
      | exact LeO.none _
      | refine LeO.ite ?_ ?_
      | refine LeO.bind ?_ (fun _ => ?_)
    · intro y0 y1 y2 y3 y4 y5 y6 y7 y8
      unfold vivariumlaw09_GensFades.l2
      repeat' first
      | (with_reducible exact ih0 _ _ _ _ _ _ _)
      | (with_reducible exact ih1 _ _ _ _ _ _ _)
      | (with_reducible exact ih2 _ _ _ _ _ _ _ _)
      | (with_reducible exact ih3 _ _ _ _ _ _ _ _ _)
      | (with_reducible exact ih4 _ _ _ _ _ _ _ _ _ _ _ _)
      | (with_reducible exact ih5 _ _ _ _ _ _ _ _ _ _ _ _)
      | (with_reducible exact ih6 _ _ _ _ _ _ _ _ _)
      | (with_reducible exact gens_Next.mono _ _ _ _ _ _ _)
      | (with_reducible exact life_Next.mono _ _ _ _ _ _)
      | (with_reducible exact vivariumlaw09_awake.mono _)
      | (with_reducible exact LeO.refl _)
      | (with_reducible exact LeO.none _)
      | (with_reducible refine LeO.ite ?_ ?_)
      | (with_reducible refine LeO.bind ?_ (fun _ => ?_))
      | exact ih0 _ _ _ _ _ _ _
      | exact ih1 _ _ _ _ _ _ _
      | exact ih2 _ _ _ _ _ _ _ _
      | exact ih3 _ _ _ _ _ _ _ _ _
      | exact ih4 _ _ _ _ _ _ _ _ _ _ _ _
      | exact ih5 _ _ _ _ _ _ _ _ _ _ _ _
      | exact ih6 _ _ _ _ _ _ _ _ _
      | exact gens_Next.mono _ _ _ _ _ _ _
      | exact life_Next.mono _ _ _ _ _ _
      | exact vivariumlaw09_awake.mono _
      | exact LeO.none _
      | refine LeO.ite ?_ ?_
      | refine LeO.bind ?_ (fun _ => ?_)
theorem vivariumlaw09_GensFades.mono : ∀ a0 a1 a2 a3 a4 k, LeO (vivariumlaw09_GensFades.f k a0 a1 a2 a3 a4) (vivariumlaw09_GensFades.f (k + 1) a0 a1 a2 a3 a4) := by
  intro a0 a1 a2 a3 a4 k
  obtain ⟨ih0, ih1, ih2, ih3, ih4, ih5, ih6⟩ := vivariumlaw09_GensFades.mono_l k
  unfold vivariumlaw09_GensFades.f
  repeat' first
      | (with_reducible exact ih0 _ _ _ _ _ _ _)
      | (with_reducible exact ih1 _ _ _ _ _ _ _)
      | (with_reducible exact ih2 _ _ _ _ _ _ _ _)
      | (with_reducible exact ih3 _ _ _ _ _ _ _ _ _)
      | (with_reducible exact ih4 _ _ _ _ _ _ _ _ _ _ _ _)
      | (with_reducible exact ih5 _ _ _ _ _ _ _ _ _ _ _ _)
      | (with_reducible exact ih6 _ _ _ _ _ _ _ _ _)
      | (with_reducible exact gens_Next.mono _ _ _ _ _ _ _)
      | (with_reducible exact life_Next.mono _ _ _ _ _ _)
      | (with_reducible exact vivariumlaw09_awake.mono _)
      | (with_reducible exact LeO.refl _)
      | (with_reducible exact LeO.none _)
      | (with_reducible refine LeO.ite ?_ ?_)
      | (with_reducible refine LeO.bind ?_ (fun _ => ?_))
      | exact ih0 _ _ _ _ _ _ _
      | exact ih1 _ _ _ _ _ _ _
      | exact ih2 _ _ _ _ _ _ _ _
      | exact ih3 _ _ _ _ _ _ _ _ _
      | exact ih4 _ _ _ _ _ _ _ _ _ _ _ _
      | exact ih5 _ _ _ _ _ _ _ _ _ _ _ _
      | exact ih6 _ _ _ _ _ _ _ _ _
      | exact gens_Next.mono _ _ _ _ _ _ _
      | exact life_Next.mono _ _ _ _ _ _
      | exact vivariumlaw09_awake.mono _
      | exact LeO.none _
      | refine LeO.ite ?_ ?_
      | refine LeO.bind ?_ (fun _ => ?_)
set_option maxHeartbeats 8000000 in
set_option maxRecDepth 100000 in
theorem vivariumlaw09_GensFades.calls (k : Nat) (a0_0 : Int) (a0_1 : Int) (a0_2 : Int) (a0_3 : Int) (A1 : Option Addr) (c1 : Nat) (l1 : List Int) (r : Bool) (w : World) (hr1 : Kd.C (Kd.int .i64) w A1 l1.length l1) (hc1 : l1.length ≤ c1) (h : vivariumlaw09_GensFades.f k a0_0 a0_1 a0_2 a0_3 l1 = some r) :
    Calls Tryd.prog 3 #[.agg #[.int .u8 a0_0, .int .u16 a0_1, .int .u16 a0_2, .int .i64 a0_3], .slice A1 l1.length c1] w fun e w' => e = .returned (.bool r) ∧ Below w.heap.size w w' := by
  have hu26 := Tryd.underlying26
  have hu24 := Tryd.underlying24
  have HR1 := Aside0.mk hr1
  have HC1 := Aside0.mk hc1
  clear hr1 hc1
  have HB := Aside0.mk (Below.refl w.heap.size w)
  have H : ((vivariumlaw09_awake.f k).bind fun t257 => ((gens_Check.f a0_0 a0_1 a0_2 a0_3).bind fun t258 => (if t258 = 0 then (if a0_0 = 2 then (vivariumlaw09_GensFades.j0 k l1 t257 4 a0_0 a0_1 a0_2 a0_3) else (vivariumlaw09_GensFades.j0 k l1 t257 8 a0_0 a0_1 a0_2 a0_3)) else (some t257)))) = some r := h
  clear h
  replace H := Option.bind_eq_some_iff.mp H
  obtain ⟨t257, A30, H⟩ := H
  replace H : ((gens_Check.f a0_0 a0_1 a0_2 a0_3).bind fun t258 => (if t258 = 0 then (if a0_0 = 2 then (vivariumlaw09_GensFades.j0 k l1 t257 4 a0_0 a0_1 a0_2 a0_3) else (vivariumlaw09_GensFades.j0 k l1 t257 8 a0_0 a0_1 a0_2 a0_3)) else (some t257))) = some r := H
  have A3 := Aside0.mk A30
  clear A30
  replace H := Option.bind_eq_some_iff.mp H
  obtain ⟨t258, A40, H⟩ := H
  replace H : (if t258 = 0 then (if a0_0 = 2 then (vivariumlaw09_GensFades.j0 k l1 t257 4 a0_0 a0_1 a0_2 a0_3) else (vivariumlaw09_GensFades.j0 k l1 t257 8 a0_0 a0_1 a0_2 a0_3)) else (some t257)) = some r := H
  have A4 := Aside0.mk A40
  clear A40
  by_cases c5 : t258 = 0
  · rw [if_pos c5] at H
    have c5b0 : (t258 == 0) = true := beq_iff_eq.mpr c5
    have c5b1 : (t258 != 0) = false := bne_eq_false_iff_eq.mpr c5
    clear c5
    have HC6 := Aside0.mk H
    clear H
    go_enter Tryd.func3, Tryd.ntmps3
    go_upto_if 27 with (first | ((with_reducible refine gate_dst (N := 2) rfl ?_); refine box_event ?hg (N := 2) ?hd (cs := #[.int .u8 a0_0, .int .u16 a0_1, .int .u16 a0_2, .int .i64 a0_3]) (t := 26) ?hr ?_; (case hd => rfl); (case hg => rfl); (case hr => first | (go_simp; done) | (go_simp; rfl)); intro gb256 hg w7 hbox hb; have n0_ := Aside0.mk (below_step (by repeat (first | (with_reducible first | exact HB.out | apply below_alloc | apply pw_below_drewN | apply below_drew1) | exact HB.out)) hb); have n1_ := Aside0.mk (hbox); have n2_ := Aside0.mk ((by rw [hg]; exact (below_size (by repeat (first | (with_reducible first | exact HB.out | apply below_alloc | apply pw_below_drewN | apply below_drew1) | exact HB.out))) : w.heap.size ≤ gb256)); have n3_ := Aside0.mk ((by rw [hg]; exact (below_size (by repeat (first | (with_reducible first | exact HB.out | apply below_alloc | apply pw_below_drewN | apply below_drew1) | exact HB.out))) : w.heap.size ≤ gb256)); clear HB; have HB := n0_; have BK256 := n1_; have GW256 := n2_; have GE256 := n3_; clear n0_ n1_ n2_ n3_; clear hb hbox hg) | ((with_reducible refine gate_callee (f := 4) rfl ?_); refine goesL_ (some 19) rfl rfl Tryd.func4 (by kernel_rfl) rfl #[] rfl (by (try simp only [List.map_toArray, List.map_cons, List.map_nil]); first | done | rfl | (simp only [List.length_drop, List.length_take]; rfl)) ?_; (with_reducible refine (vivariumlaw09_awake.calls k  t257 _ A3.out).mono ?_); rintro e w8 ⟨rfl, hb⟩; refine ⟨_, rfl, ?_⟩; have n0_ := Aside0.mk (blk_below (g := gb256) (o := .cells #[.int .u8 a0_0, .int .u16 a0_1, .int .u16 a0_2, .int .i64 a0_3] 26 (0, 0)) (by (with_reducible repeat (first | refine blk_drewN ?_ _ | refine blk_drew ?_ | refine blk_alloc ?_ _)); exact BK256.out) hb); have n1_ := Aside0.mk (below_step (by repeat (first | (with_reducible first | exact HB.out | apply below_alloc | apply pw_below_drewN | apply below_drew1 | refine below_set ?_ GE256.out) | exact HB.out)) hb); clear BK256; clear HB; have BK256 := n0_; have HB := n1_; clear n0_ n1_; (try clear hb); (try clear hb2); (try clear hk); (try clear hi); have hcz9_0 : w8.cell? ⟨gb256, 0, none⟩ = some (.int .u8 a0_0) := (blk_cell BK256.out 0).trans rfl; have hcz9_1 : w8.cell? ⟨gb256, 1, none⟩ = some (.int .u16 a0_1) := (blk_cell BK256.out 1).trans rfl; have hcz9_2 : w8.cell? ⟨gb256, 2, none⟩ = some (.int .u16 a0_2) := (blk_cell BK256.out 2).trans rfl; have hcz9_3 : w8.cell? ⟨gb256, 3, none⟩ = some (.int .i64 a0_3) := (blk_cell BK256.out 3).trans rfl; have hfz9_0 := blk_frozen BK256.out 0; have hfz9_1 := blk_frozen BK256.out 1; have hfz9_2 := blk_frozen BK256.out 2; have hfz9_3 := blk_frozen BK256.out 3) | ((with_reducible refine gate_callee (f := 5) rfl ?_); refine goesL_ (some 21) rfl rfl Tryd.func5 (by kernel_rfl) rfl #[.agg #[.int .u8 a0_0, .int .u16 a0_1, .int .u16 a0_2, .int .i64 a0_3]] rfl (by (try simp only [List.map_toArray, List.map_cons, List.map_nil]); first | done | rfl | (simp only [List.length_drop, List.length_take]; rfl)) ?_; (with_reducible refine (gens_Check.calls a0_0 a0_1 a0_2 a0_3 t258 _ A4.out).mono ?_); rintro e w10 ⟨rfl, hb⟩; refine ⟨_, rfl, ?_⟩; have n0_ := Aside0.mk (blk_below (g := gb256) (o := .cells #[.int .u8 a0_0, .int .u16 a0_1, .int .u16 a0_2, .int .i64 a0_3] 26 (0, 0)) (by (with_reducible repeat (first | refine blk_drewN ?_ _ | refine blk_drew ?_ | refine blk_alloc ?_ _)); exact BK256.out) hb); have n1_ := Aside0.mk (below_step (by repeat (first | (with_reducible first | exact HB.out | apply below_alloc | apply pw_below_drewN | apply below_drew1 | refine below_set ?_ GE256.out) | exact HB.out)) hb); clear BK256; clear HB; have BK256 := n0_; have HB := n1_; clear n0_ n1_; (try clear hb); (try clear hb2); (try clear hk); (try clear hi); have hcz11_0 : w10.cell? ⟨gb256, 0, none⟩ = some (.int .u8 a0_0) := (blk_cell BK256.out 0).trans rfl; have hcz11_1 : w10.cell? ⟨gb256, 1, none⟩ = some (.int .u16 a0_1) := (blk_cell BK256.out 1).trans rfl; have hcz11_2 : w10.cell? ⟨gb256, 2, none⟩ = some (.int .u16 a0_2) := (blk_cell BK256.out 2).trans rfl; have hcz11_3 : w10.cell? ⟨gb256, 3, none⟩ = some (.int .i64 a0_3) := (blk_cell BK256.out 3).trans rfl; have hfz11_0 := blk_frozen BK256.out 0; have hfz11_1 := blk_frozen BK256.out 1; have hfz11_2 := blk_frozen BK256.out 2; have hfz11_3 := blk_frozen BK256.out 3))
    (try simp only [Act.put, List.setIfInBounds_toArray, List.set_cons_zero, List.set_cons_succ])
    go_cut [6] (fun v6 wc => ∃ (kq : Nat) (x6_5 : Int), v6 = .int .i64 x6_5 ∧ Aside0 (vivariumlaw09_GensFades.j0 kq l1 t257 x6_5 a0_0 a0_1 a0_2 a0_3 = some r) ∧ Aside0 (kq ≤ k) ∧ Aside0 (wc.heap[gb256]? = some (.cells #[.int .u8 a0_0, .int .u16 a0_1, .int .u16 a0_2, .int .i64 a0_3] 26 (0, 0))) ∧ Aside0 (Below w.heap.size w wc))
    case first =>
      have H := HC6.out
      clear HC6
      by_cases c12 : a0_0 = 2
      · rw [if_pos c12] at H
        have c12b0 : (a0_0 == 2) = true := beq_iff_eq.mpr c12
        have c12b1 : (a0_0 != 2) = false := bne_eq_false_iff_eq.mpr c12
        clear c12
        (first | rw [c12b0] | (simp only [i64_w, i32_w]; rw [c12b0]) | skip)
        have H' := Aside0.mk H
        clear H
        go_wp2
        go_meet
        case rel => exact ⟨_, (4), (by first | rfl | (simp; done) | (simp [*]; done)), H', ⟨by first | omega | exact Nat.le_refl _⟩, ⟨by (with_reducible repeat (first | refine blk_drewN ?_ _ | refine blk_drew ?_ | refine blk_alloc ?_ _)); exact BK256.out⟩, ⟨by repeat (first | (with_reducible first | exact HB.out | apply below_alloc | apply pw_below_drewN | apply below_drew1 | refine below_set ?_ GE256.out) | exact HB.out)⟩⟩
      · rw [if_neg c12] at H
        have c12b0 : (a0_0 == 2) = false := beq_eq_false_iff_ne.mpr c12
        have c12b1 : (a0_0 != 2) = true := bne_iff_ne.mpr c12
        (first | rw [c12b0] | (simp only [i64_w, i32_w]; rw [c12b0]) | skip)
        have H' := Aside0.mk H
        clear H
        go_wp2
        go_meet
        case rel => exact ⟨_, (8), (by first | rfl | (simp; done) | (simp [*]; done)), H', ⟨by first | omega | exact Nat.le_refl _⟩, ⟨by (with_reducible repeat (first | refine blk_drewN ?_ _ | refine blk_drew ?_ | refine blk_alloc ?_ _)); exact BK256.out⟩, ⟨by repeat (first | (with_reducible first | exact HB.out | apply below_alloc | apply pw_below_drewN | apply below_drew1 | refine below_set ?_ GE256.out) | exact HB.out)⟩⟩
    case rest =>
      clear HC6
      try clear c1
      try clear p2
      try clear c3
      try clear c4
      try clear c5
      try clear c5b0
      try clear c5b1
      try clear c12
      try clear c12b0
      try clear c12b1
      try clear hcz11_0
      try clear hcz11_1
      try clear hcz11_2
      try clear hcz11_3
      try clear hcz9_0
      try clear hcz9_1
      try clear hcz9_2
      try clear hcz9_3
      try clear hfz11_0
      try clear hfz11_1
      try clear hfz11_2
      try clear hfz11_3
      try clear hfz9_0
      try clear hfz9_1
      try clear hfz9_2
      try clear hfz9_3
      obtain ⟨kq, x6_5, rfl, HA, HJ5, BK256, HB⟩ := hcut
      cases kq with
      | zero => exact absurd HA.out (by simp [vivariumlaw09_GensFades.j0])
      | succ kj5 =>
        have H := HA.out
        clear HA
        simp only [vivariumlaw09_GensFades.j0] at H
        have HC13 := Aside0.mk H
        clear H
        have hcz14_0 : wc.cell? ⟨gb256, 0, none⟩ = some (.int .u8 a0_0) := (blk_cell BK256.out 0).trans rfl
        have hcz14_1 : wc.cell? ⟨gb256, 1, none⟩ = some (.int .u16 a0_1) := (blk_cell BK256.out 1).trans rfl
        have hcz14_2 : wc.cell? ⟨gb256, 2, none⟩ = some (.int .u16 a0_2) := (blk_cell BK256.out 2).trans rfl
        have hcz14_3 : wc.cell? ⟨gb256, 3, none⟩ = some (.int .i64 a0_3) := (blk_cell BK256.out 3).trans rfl
        have hfz14_0 := blk_frozen BK256.out 0
        have hfz14_1 := blk_frozen BK256.out 1
        have hfz14_2 := blk_frozen BK256.out 2
        have hfz14_3 := blk_frozen BK256.out 3
        go_upto_if 31 with (fail)
        go_cut [6] (fun v6 wc => ∃ (kq : Nat) (x6_12 : Int), v6 = .int .i64 x6_12 ∧ Aside0 (vivariumlaw09_GensFades.j1 kq l1 t257 x6_12 a0_0 a0_1 a0_2 a0_3 = some r) ∧ Aside0 (kq ≤ kj5) ∧ Aside0 (wc.heap[gb256]? = some (.cells #[.int .u8 a0_0, .int .u16 a0_1, .int .u16 a0_2, .int .i64 a0_3] 26 (0, 0))) ∧ Aside0 (Below w.heap.size w wc))
        case first =>
          have H := HC13.out
          clear HC13
          by_cases c15 : a0_0 = 3
          · rw [if_pos c15] at H
            have c15b0 : (a0_0 == 3) = true := beq_iff_eq.mpr c15
            have c15b1 : (a0_0 != 3) = false := bne_eq_false_iff_eq.mpr c15
            clear c15
            (first | rw [c15b0] | (simp only [i64_w, i32_w]; rw [c15b0]) | skip)
            have H' := Aside0.mk H
            clear H
            go_wp2
            go_meet
            case rel => exact ⟨_, (6), (by first | rfl | (simp; done) | (simp [*]; done)), H', ⟨by have := HJ5.out; first | omega | exact Nat.le_refl _⟩, ⟨by (with_reducible repeat (first | refine blk_drewN ?_ _ | refine blk_drew ?_ | refine blk_alloc ?_ _)); exact BK256.out⟩, ⟨by repeat (first | (with_reducible first | exact HB.out | apply below_alloc | apply pw_below_drewN | apply below_drew1 | refine below_set ?_ GE256.out) | exact HB.out)⟩⟩
          · rw [if_neg c15] at H
            have c15b0 : (a0_0 == 3) = false := beq_eq_false_iff_ne.mpr c15
            have c15b1 : (a0_0 != 3) = true := bne_iff_ne.mpr c15
            (first | rw [c15b0] | (simp only [i64_w, i32_w]; rw [c15b0]) | skip)
            have H' := Aside0.mk H
            clear H
            go_wp2
            go_meet
            case rel => exact ⟨_, (x6_5), (by first | rfl | (simp; done) | (simp [*]; done)), H', ⟨by have := HJ5.out; first | omega | exact Nat.le_refl _⟩, ⟨by (with_reducible repeat (first | refine blk_drewN ?_ _ | refine blk_drew ?_ | refine blk_alloc ?_ _)); exact BK256.out⟩, ⟨by repeat (first | (with_reducible first | exact HB.out | apply below_alloc | apply pw_below_drewN | apply below_drew1 | refine below_set ?_ GE256.out) | exact HB.out)⟩⟩
        case rest =>
          clear HC13
          try clear c1
          try clear p2
          try clear c3
          try clear c4
          try clear c5
          try clear c5b0
          try clear c5b1
          try clear c12
          try clear c12b0
          try clear c12b1
          try clear c15
          try clear c15b0
          try clear c15b1
          try clear hcz11_0
          try clear hcz11_1
          try clear hcz11_2
          try clear hcz11_3
          try clear hcz14_0
          try clear hcz14_1
          try clear hcz14_2
          try clear hcz14_3
          try clear hcz9_0
          try clear hcz9_1
          try clear hcz9_2
          try clear hcz9_3
          try clear hfz11_0
          try clear hfz11_1
          try clear hfz11_2
          try clear hfz11_3
          try clear hfz14_0
          try clear hfz14_1
          try clear hfz14_2
          try clear hfz14_3
          try clear hfz9_0
          try clear hfz9_1
          try clear hfz9_2
          try clear hfz9_3
          try clear p2
          obtain ⟨kq, x6_12, rfl, HA, HJ12, BK256, HB⟩ := hcut
          cases kq with
          | zero => exact absurd HA.out (by simp [vivariumlaw09_GensFades.j1])
          | succ kj12 =>
            have H := HA.out
            clear HA
            simp only [vivariumlaw09_GensFades.j1] at H
            have H' := Aside0.mk H
            clear H
            go_wp2
            go_loopg [7] kj12 (fun kq v7 w' => ∃ (x7_3 : Int), v7 = .int .i64 x7_3 ∧ Aside0 (vivariumlaw09_GensFades.l0 kq l1 t257 x6_12 x7_3 a0_0 a0_1 a0_2 a0_3 = some r) ∧ Aside0 (kq ≤ kj12) ∧ Aside0 (w'.heap[gb256]? = some (.cells #[.int .u8 a0_0, .int .u16 a0_1, .int .u16 a0_2, .int .i64 a0_3] 26 (0, 0))) ∧ Aside0 (Below w.heap.size w w'))
            case atStart => exact ⟨(0), (by first | rfl | (simp; done) | (simp [*]; done)), H', ⟨Nat.le_refl _⟩, ⟨by (with_reducible repeat (first | refine blk_drewN ?_ _ | refine blk_drew ?_ | refine blk_alloc ?_ _)); exact BK256.out⟩, ⟨by repeat (first | (with_reducible first | exact HB.out | apply below_alloc | apply pw_below_drewN | apply below_drew1 | refine below_set ?_ GE256.out) | exact HB.out)⟩⟩
            case round =>
              clear H'
              try clear c1
              try clear p2
              try clear c3
              try clear c4
              try clear c5
              try clear c5b0
              try clear c5b1
              try clear c12
              try clear c12b0
              try clear c12b1
              try clear c15
              try clear c15b0
              try clear c15b1
              try clear hcz11_0
              try clear hcz11_1
              try clear hcz11_2
              try clear hcz11_3
              try clear hcz14_0
              try clear hcz14_1
              try clear hcz14_2
              try clear hcz14_3
              try clear hcz9_0
              try clear hcz9_1
              try clear hcz9_2
              try clear hcz9_3
              try clear hfz11_0
              try clear hfz11_1
              try clear hfz11_2
              try clear hfz11_3
              try clear hfz14_0
              try clear hfz14_1
              try clear hfz14_2
              try clear hfz14_3
              try clear hfz9_0
              try clear hfz9_1
              try clear hfz9_2
              try clear hfz9_3
              try clear p2
              obtain ⟨x7_3, rfl, HA, HK3, BK256, HB⟩ := hrel
              cases gk with
              | zero => exact absurd HA.out (by simp [vivariumlaw09_GensFades.l0])
              | succ k3 =>
                have H := HA.out
                clear HA
                simp only [vivariumlaw09_GensFades.l0] at H
                by_cases c16 : x7_3 < 2
                · rw [if_pos c16] at H
                  have c16b0 : decide (x7_3 < 2) = true := decide_eq_true c16
                  clear c16
                  have H' := Aside0.mk H
                  clear H
                  go_wp2
                  go_loopg [8] k3 (fun kq v8 w' => ∃ (x8_4 : Int), v8 = .int .i64 x8_4 ∧ Aside0 (vivariumlaw09_GensFades.l1 kq l1 t257 x6_12 x7_3 x8_4 a0_0 a0_1 a0_2 a0_3 = some r) ∧ Aside0 (kq ≤ k3) ∧ Aside0 (w'.heap[gb256]? = some (.cells #[.int .u8 a0_0, .int .u16 a0_1, .int .u16 a0_2, .int .i64 a0_3] 26 (0, 0))) ∧ Aside0 (Below w.heap.size w w'))
                  case atStart => exact ⟨(0), (by first | rfl | (simp; done) | (simp [*]; done)), H', ⟨Nat.le_refl _⟩, ⟨by (with_reducible repeat (first | refine blk_drewN ?_ _ | refine blk_drew ?_ | refine blk_alloc ?_ _)); exact BK256.out⟩, ⟨by repeat (first | (with_reducible first | exact HB.out | apply below_alloc | apply pw_below_drewN | apply below_drew1 | refine below_set ?_ GE256.out) | exact HB.out)⟩⟩
                  case round =>
                    clear H'
                    try clear c1
                    try clear p2
                    try clear c3
                    try clear c4
                    try clear c5
                    try clear c5b0
                    try clear c5b1
                    try clear c12
                    try clear c12b0
                    try clear c12b1
                    try clear c15
                    try clear c15b0
                    try clear c15b1
                    try clear c16
                    try clear c16b0
                    try clear hcz11_0
                    try clear hcz11_1
                    try clear hcz11_2
                    try clear hcz11_3
                    try clear hcz14_0
                    try clear hcz14_1
                    try clear hcz14_2
                    try clear hcz14_3
                    try clear hcz9_0
                    try clear hcz9_1
                    try clear hcz9_2
                    try clear hcz9_3
                    try clear hfz11_0
                    try clear hfz11_1
                    try clear hfz11_2
                    try clear hfz11_3
                    try clear hfz14_0
                    try clear hfz14_1
                    try clear hfz14_2
                    try clear hfz14_3
                    try clear hfz9_0
                    try clear hfz9_1
                    try clear hfz9_2
                    try clear hfz9_3
                    try clear p2
                    obtain ⟨x8_4, rfl, HA, HK4, BK256, HB⟩ := hrel
                    cases gk with
                    | zero => exact absurd HA.out (by simp [vivariumlaw09_GensFades.l1])
                    | succ k4 =>
                      have H := HA.out
                      clear HA
                      simp only [vivariumlaw09_GensFades.l1] at H
                      by_cases c17 : x8_4 ≤ x6_12
                      · rw [if_pos c17] at H
                        have c17b0 : decide (x8_4 ≤ x6_12) = true := decide_eq_true c17
                        clear c17
                        replace H := Option.bind_eq_some_iff.mp H
                        obtain ⟨⟨t259, t260⟩, A180, H⟩ := H
                        replace H : ((life_Next.f k4 a0_0 a0_1 a0_2 ((x7_3) % 256) x8_4).bind fun bt261 => (if t260 = 0 then (vivariumlaw09_GensFades.j4 k4 l1 t257 x6_12 x7_3 x8_4 t259 bt261.1 (bt261.2 != 0) a0_0 a0_1 a0_2 a0_3) else (vivariumlaw09_GensFades.j4 k4 l1 t257 x6_12 x7_3 x8_4 t259 bt261.1 true a0_0 a0_1 a0_2 a0_3))) = some r := H
                        have A18 := Aside0.mk A180
                        clear A180
                        replace H := Option.bind_eq_some_iff.mp H
                        obtain ⟨⟨t261, t262⟩, A190, H⟩ := H
                        replace H : (if t260 = 0 then (vivariumlaw09_GensFades.j4 k4 l1 t257 x6_12 x7_3 x8_4 t259 t261 (t262 != 0) a0_0 a0_1 a0_2 a0_3) else (vivariumlaw09_GensFades.j4 k4 l1 t257 x6_12 x7_3 x8_4 t259 t261 true a0_0 a0_1 a0_2 a0_3)) = some r := H
                        have A19 := Aside0.mk A190
                        clear A190
                        have HC20 := Aside0.mk H
                        clear H
                        have hcz21_0 : wr.cell? ⟨gb256, 0, none⟩ = some (.int .u8 a0_0) := (blk_cell BK256.out 0).trans rfl
                        have hcz21_1 : wr.cell? ⟨gb256, 1, none⟩ = some (.int .u16 a0_1) := (blk_cell BK256.out 1).trans rfl
                        have hcz21_2 : wr.cell? ⟨gb256, 2, none⟩ = some (.int .u16 a0_2) := (blk_cell BK256.out 2).trans rfl
                        have hcz21_3 : wr.cell? ⟨gb256, 3, none⟩ = some (.int .i64 a0_3) := (blk_cell BK256.out 3).trans rfl
                        have hfz21_0 := blk_frozen BK256.out 0
                        have hfz21_1 := blk_frozen BK256.out 1
                        have hfz21_2 := blk_frozen BK256.out 2
                        have hfz21_3 := blk_frozen BK256.out 3
                        go_upto_region 17 with (first | ((with_reducible refine gate_callee (f := 6) rfl ?_); refine goesL_ (some 46) rfl rfl Tryd.func6 (by kernel_rfl) rfl #[.agg #[.int .u8 a0_0, .int .u16 a0_1, .int .u16 a0_2, .int .i64 a0_3], .int .u8 ((x7_3) % 256), .int .i64 x8_4] rfl (by (try simp only [List.map_toArray, List.map_cons, List.map_nil]); first | done | rfl | (simp only [List.length_drop, List.length_take]; rfl)) ?_; (with_reducible refine (gens_Next.calls k4 a0_0 a0_1 a0_2 a0_3 ((x7_3) % 256) x8_4 t259 t260 _ A18.out).mono ?_); rintro e w22 ⟨rfl, hb⟩; refine ⟨_, rfl, ?_⟩; have n0_ := Aside0.mk (blk_below (g := gb256) (o := .cells #[.int .u8 a0_0, .int .u16 a0_1, .int .u16 a0_2, .int .i64 a0_3] 26 (0, 0)) (by (with_reducible repeat (first | refine blk_drewN ?_ _ | refine blk_drew ?_ | refine blk_alloc ?_ _)); exact BK256.out) hb); have n1_ := Aside0.mk (below_step (by repeat (first | (with_reducible first | exact HB.out | apply below_alloc | apply pw_below_drewN | apply below_drew1 | refine below_set ?_ GE256.out) | exact HB.out)) hb); clear BK256; clear HB; have BK256 := n0_; have HB := n1_; clear n0_ n1_; (try clear hb); (try clear hb2); (try clear hk); (try clear hi); have hcz23_0 : w22.cell? ⟨gb256, 0, none⟩ = some (.int .u8 a0_0) := (blk_cell BK256.out 0).trans rfl; have hcz23_1 : w22.cell? ⟨gb256, 1, none⟩ = some (.int .u16 a0_1) := (blk_cell BK256.out 1).trans rfl; have hcz23_2 : w22.cell? ⟨gb256, 2, none⟩ = some (.int .u16 a0_2) := (blk_cell BK256.out 2).trans rfl; have hcz23_3 : w22.cell? ⟨gb256, 3, none⟩ = some (.int .i64 a0_3) := (blk_cell BK256.out 3).trans rfl; have hfz23_0 := blk_frozen BK256.out 0; have hfz23_1 := blk_frozen BK256.out 1; have hfz23_2 := blk_frozen BK256.out 2; have hfz23_3 := blk_frozen BK256.out 3) | ((with_reducible refine gate_callee (f := 7) rfl ?_); refine goesL_ (some 55) rfl rfl Tryd.func7 (by kernel_rfl) rfl #[.agg #[.int .u8 a0_0, .int .u16 a0_1, .int .u16 a0_2], .int .u8 ((x7_3) % 256), .int .i64 x8_4] rfl (by (try simp only [List.map_toArray, List.map_cons, List.map_nil]); first | done | rfl | (simp only [List.length_drop, List.length_take]; rfl)) ?_; (with_reducible refine (life_Next.calls k4 a0_0 a0_1 a0_2 ((x7_3) % 256) x8_4 t261 t262 _ A19.out).mono ?_); rintro e w24 ⟨rfl, hb⟩; refine ⟨_, rfl, ?_⟩; have n0_ := Aside0.mk (blk_below (g := gb256) (o := .cells #[.int .u8 a0_0, .int .u16 a0_1, .int .u16 a0_2, .int .i64 a0_3] 26 (0, 0)) (by (with_reducible repeat (first | refine blk_drewN ?_ _ | refine blk_drew ?_ | refine blk_alloc ?_ _)); exact BK256.out) hb); have n1_ := Aside0.mk (below_step (by repeat (first | (with_reducible first | exact HB.out | apply below_alloc | apply pw_below_drewN | apply below_drew1 | refine below_set ?_ GE256.out) | exact HB.out)) hb); clear BK256; clear HB; have BK256 := n0_; have HB := n1_; clear n0_ n1_; (try clear hb); (try clear hb2); (try clear hk); (try clear hi)))
                        (try simp only [Act.put, List.setIfInBounds_toArray, List.set_cons_zero, List.set_cons_succ])
                        go_cut [63] (fun v63 wc => ∃ (kq : Nat) (x63_19 : Bool), v63 = .bool x63_19 ∧ Aside0 (vivariumlaw09_GensFades.j4 kq l1 t257 x6_12 x7_3 x8_4 t259 t261 x63_19 a0_0 a0_1 a0_2 a0_3 = some r) ∧ Aside0 (kq ≤ k4) ∧ Aside0 (wc.heap[gb256]? = some (.cells #[.int .u8 a0_0, .int .u16 a0_1, .int .u16 a0_2, .int .i64 a0_3] 26 (0, 0))) ∧ Aside0 (Below w.heap.size w wc))
                        case first =>
                          have H := HC20.out
                          clear HC20
                          by_cases c25 : t260 = 0
                          · rw [if_pos c25] at H
                            have c25b0 : (t260 == 0) = true := beq_iff_eq.mpr c25
                            have c25b1 : (t260 != 0) = false := bne_eq_false_iff_eq.mpr c25
                            clear c25
                            (first | rw [c25b0] | (simp only [i64_w, i32_w]; rw [c25b0]) | skip)
                            have H' := Aside0.mk H
                            clear H
                            go_wp2
                            go_meet
                            case rel => exact ⟨_, ((t262 != 0)), (by first | rfl | (simp; done) | (simp [*]; done)), H', ⟨by have := HJ5.out; have := HJ12.out; have := HK3.out; have := HK4.out; first | omega | exact Nat.le_refl _⟩, ⟨by (with_reducible repeat (first | refine blk_drewN ?_ _ | refine blk_drew ?_ | refine blk_alloc ?_ _)); exact BK256.out⟩, ⟨by repeat (first | (with_reducible first | exact HB.out | apply below_alloc | apply pw_below_drewN | apply below_drew1 | refine below_set ?_ GE256.out) | exact HB.out)⟩⟩
                          · rw [if_neg c25] at H
                            have c25b0 : (t260 == 0) = false := beq_eq_false_iff_ne.mpr c25
                            have c25b1 : (t260 != 0) = true := bne_iff_ne.mpr c25
                            (first | rw [c25b0] | (simp only [i64_w, i32_w]; rw [c25b0]) | skip)
                            have H' := Aside0.mk H
                            clear H
                            go_wp2
                            go_meet
                            case rel => exact ⟨_, (true), (by first | rfl | (simp; done) | (simp [*]; done)), H', ⟨by have := HJ5.out; have := HJ12.out; have := HK3.out; have := HK4.out; first | omega | exact Nat.le_refl _⟩, ⟨by (with_reducible repeat (first | refine blk_drewN ?_ _ | refine blk_drew ?_ | refine blk_alloc ?_ _)); exact BK256.out⟩, ⟨by repeat (first | (with_reducible first | exact HB.out | apply below_alloc | apply pw_below_drewN | apply below_drew1 | refine below_set ?_ GE256.out) | exact HB.out)⟩⟩
                        case rest =>
                          clear HC20
                          try clear c1
                          try clear c2
                          try clear p2
                          try clear c3
                          try clear c4
                          try clear c5
                          try clear c5b0
                          try clear c5b1
                          try clear c6
                          try clear c7
                          try clear c12
                          try clear c12b0
                          try clear c12b1
                          try clear c15
                          try clear c15b0
                          try clear c15b1
                          try clear c16
                          try clear c16b0
                          try clear c17
                          try clear c17b0
                          try clear c25
                          try clear c25b0
                          try clear c25b1
                          try clear hcz11_0
                          try clear hcz11_1
                          try clear hcz11_2
                          try clear hcz11_3
                          try clear hcz14_0
                          try clear hcz14_1
                          try clear hcz14_2
                          try clear hcz14_3
                          try clear hcz21_0
                          try clear hcz21_1
                          try clear hcz21_2
                          try clear hcz21_3
                          try clear hcz23_0
                          try clear hcz23_1
                          try clear hcz23_2
                          try clear hcz23_3
                          try clear hcz9_0
                          try clear hcz9_1
                          try clear hcz9_2
                          try clear hcz9_3
                          try clear hfz11_0
                          try clear hfz11_1
                          try clear hfz11_2
                          try clear hfz11_3
                          try clear hfz14_0
                          try clear hfz14_1
                          try clear hfz14_2
                          try clear hfz14_3
                          try clear hfz21_0
                          try clear hfz21_1
                          try clear hfz21_2
                          try clear hfz21_3
                          try clear hfz23_0
                          try clear hfz23_1
                          try clear hfz23_2
                          try clear hfz23_3
                          try clear hfz9_0
                          try clear hfz9_1
                          try clear hfz9_2
                          try clear hfz9_3
                          try clear p2
                          obtain ⟨kq, x63_19, rfl, HA, HJ19, BK256, HB⟩ := hcut
                          cases kq with
                          | zero => exact absurd HA.out (by simp [vivariumlaw09_GensFades.j4])
                          | succ kj19 =>
                            have H := HA.out
                            clear HA
                            simp only [vivariumlaw09_GensFades.j4] at H
                            by_cases c26 : x63_19 = true
                            · subst c26
                              have H1 : (some false) = some r := by rw [if_pos rfl] at H; exact H
                              clear H
                              have H := H1
                              clear H1
                              obtain rfl := Option.some.inj H
                              go_wp2
                              go_ret
                              exact ⟨by first | rfl | (simp [errW_none, errW_some] <;> rfl) | (simp [*, errW_none, errW_some] <;> rfl), by repeat (first | (with_reducible first | exact HB.out | apply below_alloc | apply pw_below_drewN | apply below_drew1 | refine below_set ?_ GE256.out) | exact HB.out)⟩
                            · replace c26 := Bool.eq_false_iff.mpr c26
                              subst c26
                              have H1 : (if x7_3 = 1 then (if t261 = 0 then (vivariumlaw09_GensFades.j5 kj19 l1 t257 x6_12 x7_3 x8_4 t259 t261 (decide (a0_3 > 2)) a0_0 a0_1 a0_2 a0_3) else (vivariumlaw09_GensFades.j5 kj19 l1 t257 x6_12 x7_3 x8_4 t259 t261 false a0_0 a0_1 a0_2 a0_3)) else (vivariumlaw09_GensFades.j5 kj19 l1 t257 x6_12 x7_3 x8_4 t259 t261 false a0_0 a0_1 a0_2 a0_3)) = some r := by rw [if_neg (show ¬ (false = true) by decide)] at H; exact H
                              clear H
                              have H := H1
                              clear H1
                              have HC27 := Aside0.mk H
                              clear H
                              go_upto_region 20 with (fail)
                              go_cut [75] (fun v75 wc => ∃ (kq : Nat) (x75_26 : Bool), v75 = .bool x75_26 ∧ Aside0 (vivariumlaw09_GensFades.j5 kq l1 t257 x6_12 x7_3 x8_4 t259 t261 x75_26 a0_0 a0_1 a0_2 a0_3 = some r) ∧ Aside0 (kq ≤ kj19) ∧ Aside0 (wc.heap[gb256]? = some (.cells #[.int .u8 a0_0, .int .u16 a0_1, .int .u16 a0_2, .int .i64 a0_3] 26 (0, 0))) ∧ Aside0 (Below w.heap.size w wc))
                              case first =>
                                have H := HC27.out
                                clear HC27
                                by_cases c28 : x7_3 = 1
                                · rw [if_pos c28] at H
                                  have c28b0 : (x7_3 == 1) = true := beq_iff_eq.mpr c28
                                  have c28b1 : (x7_3 != 1) = false := bne_eq_false_iff_eq.mpr c28
                                  clear c28
                                  (first | rw [c28b0] | (simp only [i64_w, i32_w]; rw [c28b0]) | skip)
                                  by_cases c29 : t261 = 0
                                  · rw [if_pos c29] at H
                                    have c29b0 : (t261 == 0) = true := beq_iff_eq.mpr c29
                                    have c29b1 : (t261 != 0) = false := bne_eq_false_iff_eq.mpr c29
                                    clear c29
                                    have H' := Aside0.mk H
                                    clear H
                                    have hcz30_0 : wc.cell? ⟨gb256, 0, none⟩ = some (.int .u8 a0_0) := (blk_cell BK256.out 0).trans rfl
                                    have hcz30_1 : wc.cell? ⟨gb256, 1, none⟩ = some (.int .u16 a0_1) := (blk_cell BK256.out 1).trans rfl
                                    have hcz30_2 : wc.cell? ⟨gb256, 2, none⟩ = some (.int .u16 a0_2) := (blk_cell BK256.out 2).trans rfl
                                    have hcz30_3 : wc.cell? ⟨gb256, 3, none⟩ = some (.int .i64 a0_3) := (blk_cell BK256.out 3).trans rfl
                                    have hfz30_0 := blk_frozen BK256.out 0
                                    have hfz30_1 := blk_frozen BK256.out 1
                                    have hfz30_2 := blk_frozen BK256.out 2
                                    have hfz30_3 := blk_frozen BK256.out 3
                                    go_wp2
                                    go_meet
                                    case rel => exact ⟨_, (decide (a0_3 > 2)), (by first | rfl | (simp; done) | (simp [*]; done)), H', ⟨by have := HJ5.out; have := HJ12.out; have := HK3.out; have := HK4.out; have := HJ19.out; first | omega | exact Nat.le_refl _⟩, ⟨by (with_reducible repeat (first | refine blk_drewN ?_ _ | refine blk_drew ?_ | refine blk_alloc ?_ _)); exact BK256.out⟩, ⟨by repeat (first | (with_reducible first | exact HB.out | apply below_alloc | apply pw_below_drewN | apply below_drew1 | refine below_set ?_ GE256.out) | exact HB.out)⟩⟩
                                  · rw [if_neg c29] at H
                                    have c29b0 : (t261 == 0) = false := beq_eq_false_iff_ne.mpr c29
                                    have c29b1 : (t261 != 0) = true := bne_iff_ne.mpr c29
                                    have H' := Aside0.mk H
                                    clear H
                                    go_wp2
                                    go_meet
                                    case rel => exact ⟨_, (false), (by first | rfl | (simp; done) | (simp [*]; done)), H', ⟨by have := HJ5.out; have := HJ12.out; have := HK3.out; have := HK4.out; have := HJ19.out; first | omega | exact Nat.le_refl _⟩, ⟨by (with_reducible repeat (first | refine blk_drewN ?_ _ | refine blk_drew ?_ | refine blk_alloc ?_ _)); exact BK256.out⟩, ⟨by repeat (first | (with_reducible first | exact HB.out | apply below_alloc | apply pw_below_drewN | apply below_drew1 | refine below_set ?_ GE256.out) | exact HB.out)⟩⟩
                                · rw [if_neg c28] at H
                                  have c28b0 : (x7_3 == 1) = false := beq_eq_false_iff_ne.mpr c28
                                  have c28b1 : (x7_3 != 1) = true := bne_iff_ne.mpr c28
                                  (first | rw [c28b0] | (simp only [i64_w, i32_w]; rw [c28b0]) | skip)
                                  have H' := Aside0.mk H
                                  clear H
                                  go_wp2
                                  go_meet
                                  case rel => exact ⟨_, (false), (by first | rfl | (simp; done) | (simp [*]; done)), H', ⟨by have := HJ5.out; have := HJ12.out; have := HK3.out; have := HK4.out; have := HJ19.out; first | omega | exact Nat.le_refl _⟩, ⟨by (with_reducible repeat (first | refine blk_drewN ?_ _ | refine blk_drew ?_ | refine blk_alloc ?_ _)); exact BK256.out⟩, ⟨by repeat (first | (with_reducible first | exact HB.out | apply below_alloc | apply pw_below_drewN | apply below_drew1 | refine below_set ?_ GE256.out) | exact HB.out)⟩⟩
                              case rest =>
                                clear HC27
                                try clear c1
                                try clear c2
                                try clear p2
                                try clear c3
                                try clear c4
                                try clear c5
                                try clear c5b0
                                try clear c5b1
                                try clear c6
                                try clear c7
                                try clear c12
                                try clear c12b0
                                try clear c12b1
                                try clear c15
                                try clear c15b0
                                try clear c15b1
                                try clear c16
                                try clear c16b0
                                try clear c17
                                try clear c17b0
                                try clear c25
                                try clear c25b0
                                try clear c25b1
                                try clear c26
                                try clear c28
                                try clear c28b0
                                try clear c28b1
                                try clear c29
                                try clear c29b0
                                try clear c29b1
                                try clear hcz11_0
                                try clear hcz11_1
                                try clear hcz11_2
                                try clear hcz11_3
                                try clear hcz14_0
                                try clear hcz14_1
                                try clear hcz14_2
                                try clear hcz14_3
                                try clear hcz21_0
                                try clear hcz21_1
                                try clear hcz21_2
                                try clear hcz21_3
                                try clear hcz23_0
                                try clear hcz23_1
                                try clear hcz23_2
                                try clear hcz23_3
                                try clear hcz30_0
                                try clear hcz30_1
                                try clear hcz30_2
                                try clear hcz30_3
                                try clear hcz9_0
                                try clear hcz9_1
                                try clear hcz9_2
                                try clear hcz9_3
                                try clear hfz11_0
                                try clear hfz11_1
                                try clear hfz11_2
                                try clear hfz11_3
                                try clear hfz14_0
                                try clear hfz14_1
                                try clear hfz14_2
                                try clear hfz14_3
                                try clear hfz21_0
                                try clear hfz21_1
                                try clear hfz21_2
                                try clear hfz21_3
                                try clear hfz23_0
                                try clear hfz23_1
                                try clear hfz23_2
                                try clear hfz23_3
                                try clear hfz30_0
                                try clear hfz30_1
                                try clear hfz30_2
                                try clear hfz30_3
                                try clear hfz9_0
                                try clear hfz9_1
                                try clear hfz9_2
                                try clear hfz9_3
                                try clear p2
                                obtain ⟨kq, x75_26, rfl, HA, HJ26, BK256, HB⟩ := hcut
                                cases kq with
                                | zero => exact absurd HA.out (by simp [vivariumlaw09_GensFades.j5])
                                | succ kj26 =>
                                  have H := HA.out
                                  clear HA
                                  simp only [vivariumlaw09_GensFades.j5] at H
                                  by_cases c31 : x75_26 = true
                                  · subst c31
                                    have H1 : (if t259 = 2 then (vivariumlaw09_GensFades.l1 kj26 l1 t257 x6_12 x7_3 (wrap64 (x8_4 + 1)) a0_0 a0_1 a0_2 a0_3) else (some false)) = some r := by rw [if_pos rfl] at H; exact H
                                    clear H
                                    have H := H1
                                    clear H1
                                    by_cases c32 : t259 = 2
                                    · rw [if_pos c32] at H
                                      have c32b0 : (t259 == 2) = true := beq_iff_eq.mpr c32
                                      have c32b1 : (t259 != 2) = false := bne_eq_false_iff_eq.mpr c32
                                      clear c32
                                      have H' := Aside0.mk H
                                      clear H
                                      go_wp2
                                      go_roundg kj26
                                      case measure => have := HJ5.out; have := HJ12.out; have := HK3.out; have := HK4.out; have := HJ19.out; have := HJ26.out; omega
                                      case rel => exact ⟨(wrap64 (x8_4 + 1)), (by first | rfl | (simp; done) | (simp [*]; done)), H', ⟨by have := HJ5.out; have := HJ12.out; have := HK3.out; have := HK4.out; have := HJ19.out; have := HJ26.out; omega⟩, ⟨by (with_reducible repeat (first | refine blk_drewN ?_ _ | refine blk_drew ?_ | refine blk_alloc ?_ _)); exact BK256.out⟩, ⟨by repeat (first | (with_reducible first | exact HB.out | apply below_alloc | apply pw_below_drewN | apply below_drew1 | refine below_set ?_ GE256.out) | exact HB.out)⟩⟩
                                    · rw [if_neg c32] at H
                                      have c32b0 : (t259 == 2) = false := beq_eq_false_iff_ne.mpr c32
                                      have c32b1 : (t259 != 2) = true := bne_iff_ne.mpr c32
                                      obtain rfl := Option.some.inj H
                                      go_wp2
                                      go_ret
                                      exact ⟨by first | rfl | (simp [errW_none, errW_some] <;> rfl) | (simp [*, errW_none, errW_some] <;> rfl), by repeat (first | (with_reducible first | exact HB.out | apply below_alloc | apply pw_below_drewN | apply below_drew1 | refine below_set ?_ GE256.out) | exact HB.out)⟩
                                  · replace c31 := Bool.eq_false_iff.mpr c31
                                    subst c31
                                    have H1 : (if t259 = t261 then (vivariumlaw09_GensFades.l1 kj26 l1 t257 x6_12 x7_3 (wrap64 (x8_4 + 1)) a0_0 a0_1 a0_2 a0_3) else (some false)) = some r := by rw [if_neg (show ¬ (false = true) by decide)] at H; exact H
                                    clear H
                                    have H := H1
                                    clear H1
                                    by_cases c33 : t259 = t261
                                    · rw [if_pos c33] at H
                                      have c33b0 : (t259 == t261) = true := beq_iff_eq.mpr c33
                                      have c33b1 : (t259 != t261) = false := bne_eq_false_iff_eq.mpr c33
                                      clear c33
                                      have H' := Aside0.mk H
                                      clear H
                                      go_wp2
                                      go_roundg kj26
                                      case measure => have := HJ5.out; have := HJ12.out; have := HK3.out; have := HK4.out; have := HJ19.out; have := HJ26.out; omega
                                      case rel => exact ⟨(wrap64 (x8_4 + 1)), (by first | rfl | (simp; done) | (simp [*]; done)), H', ⟨by have := HJ5.out; have := HJ12.out; have := HK3.out; have := HK4.out; have := HJ19.out; have := HJ26.out; omega⟩, ⟨by (with_reducible repeat (first | refine blk_drewN ?_ _ | refine blk_drew ?_ | refine blk_alloc ?_ _)); exact BK256.out⟩, ⟨by repeat (first | (with_reducible first | exact HB.out | apply below_alloc | apply pw_below_drewN | apply below_drew1 | refine below_set ?_ GE256.out) | exact HB.out)⟩⟩
                                    · rw [if_neg c33] at H
                                      have c33b0 : (t259 == t261) = false := beq_eq_false_iff_ne.mpr c33
                                      have c33b1 : (t259 != t261) = true := bne_iff_ne.mpr c33
                                      obtain rfl := Option.some.inj H
                                      go_wp2
                                      go_ret
                                      exact ⟨by first | rfl | (simp [errW_none, errW_some] <;> rfl) | (simp [*, errW_none, errW_some] <;> rfl), by repeat (first | (with_reducible first | exact HB.out | apply below_alloc | apply pw_below_drewN | apply below_drew1 | refine below_set ?_ GE256.out) | exact HB.out)⟩
                      · rw [if_neg c17] at H
                        have c17b0 : decide (x8_4 ≤ x6_12) = false := decide_eq_false c17
                        clear c17
                        have H' := Aside0.mk H
                        clear H
                        go_wp2
                        go_roundg k4
                        case measure => have := HJ5.out; have := HJ12.out; have := HK3.out; have := HK4.out; omega
                        case rel => exact ⟨(wrap64 (x7_3 + 1)), (by first | rfl | (simp; done) | (simp [*]; done)), H', ⟨by have := HJ5.out; have := HJ12.out; have := HK3.out; have := HK4.out; omega⟩, ⟨by (with_reducible repeat (first | refine blk_drewN ?_ _ | refine blk_drew ?_ | refine blk_alloc ?_ _)); exact BK256.out⟩, ⟨by repeat (first | (with_reducible first | exact HB.out | apply below_alloc | apply pw_below_drewN | apply below_drew1 | refine below_set ?_ GE256.out) | exact HB.out)⟩⟩
                · rw [if_neg c16] at H
                  have c16b0 : decide (x7_3 < 2) = false := decide_eq_false c16
                  clear c16
                  have H' := Aside0.mk H
                  clear H
                  go_wp2
                  go_loopg [14, 15] k3 (fun kq v14 v15 w' => ∃ (x14_4 : Int) (x15_4 : Int), v14 = .int .u8 x14_4 ∧ v15 = .int .i64 x15_4 ∧ Aside0 (vivariumlaw09_GensFades.l2 kq l1 t257 x6_12 x14_4 x15_4 a0_0 a0_1 a0_2 a0_3 = some r) ∧ Aside0 (kq ≤ k3) ∧ Aside0 (w'.heap[gb256]? = some (.cells #[.int .u8 a0_0, .int .u16 a0_1, .int .u16 a0_2, .int .i64 a0_3] 26 (0, 0))) ∧ Aside0 (Below w.heap.size w w'))
                  case atStart => exact ⟨(2), (2), (by first | rfl | (simp; done) | (simp [*]; done)), (by first | rfl | (simp; done) | (simp [*]; done)), H', ⟨Nat.le_refl _⟩, ⟨by (with_reducible repeat (first | refine blk_drewN ?_ _ | refine blk_drew ?_ | refine blk_alloc ?_ _)); exact BK256.out⟩, ⟨by repeat (first | (with_reducible first | exact HB.out | apply below_alloc | apply pw_below_drewN | apply below_drew1 | refine below_set ?_ GE256.out) | exact HB.out)⟩⟩
                  case round =>
                    clear H'
                    try clear c1
                    try clear c2
                    try clear p2
                    try clear c3
                    try clear c4
                    try clear c5
                    try clear c5b0
                    try clear c5b1
                    try clear c6
                    try clear p6
                    try clear c7
                    try clear c12
                    try clear c12b0
                    try clear c12b1
                    try clear c15
                    try clear c15b0
                    try clear c15b1
                    try clear c16
                    try clear c16b0
                    try clear c17
                    try clear c17b0
                    try clear c25
                    try clear c25b0
                    try clear c25b1
                    try clear c26
                    try clear c28
                    try clear c28b0
                    try clear c28b1
                    try clear c29
                    try clear c29b0
                    try clear c29b1
                    try clear c31
                    try clear c32
                    try clear c32b0
                    try clear c32b1
                    try clear c33
                    try clear c33b0
                    try clear c33b1
                    try clear hcz11_0
                    try clear hcz11_1
                    try clear hcz11_2
                    try clear hcz11_3
                    try clear hcz14_0
                    try clear hcz14_1
                    try clear hcz14_2
                    try clear hcz14_3
                    try clear hcz21_0
                    try clear hcz21_1
                    try clear hcz21_2
                    try clear hcz21_3
                    try clear hcz23_0
                    try clear hcz23_1
                    try clear hcz23_2
                    try clear hcz23_3
                    try clear hcz30_0
                    try clear hcz30_1
                    try clear hcz30_2
                    try clear hcz30_3
                    try clear hcz9_0
                    try clear hcz9_1
                    try clear hcz9_2
                    try clear hcz9_3
                    try clear hfz11_0
                    try clear hfz11_1
                    try clear hfz11_2
                    try clear hfz11_3
                    try clear hfz14_0
                    try clear hfz14_1
                    try clear hfz14_2
                    try clear hfz14_3
                    try clear hfz21_0
                    try clear hfz21_1
                    try clear hfz21_2
                    try clear hfz21_3
                    try clear hfz23_0
                    try clear hfz23_1
                    try clear hfz23_2
                    try clear hfz23_3
                    try clear hfz30_0
                    try clear hfz30_1
                    try clear hfz30_2
                    try clear hfz30_3
                    try clear hfz9_0
                    try clear hfz9_1
                    try clear hfz9_2
                    try clear hfz9_3
                    try clear p2
                    obtain ⟨x14_4, x15_4, rfl, rfl, HA, HK4, BK256, HB⟩ := hrel
                    cases gk with
                    | zero => exact absurd HA.out (by simp [vivariumlaw09_GensFades.l2])
                    | succ k4 =>
                      have H := HA.out
                      clear HA
                      simp only [vivariumlaw09_GensFades.l2] at H
                      by_cases c34 : x15_4 < a0_3
                      · rw [if_pos c34] at H
                        have c34b0 : decide (x15_4 < a0_3) = true := decide_eq_true c34
                        clear c34
                        by_cases c35 : x15_4 < (l1.length : Int)
                        · rw [if_pos c35] at H
                          have c35b0 : decide (x15_4 < (l1.length : Int)) = true := decide_eq_true c35
                          clear c35
                          by_cases c36 : 0 ≤ x15_4
                          · rw [if_pos c36] at H
                            have c36b0 : decide (0 ≤ x15_4) = true := decide_eq_true c36
                            clear c36
                            by_cases c37 : (wrap64 (x6_12 + 1)) = 0
                            · rw [if_pos c37] at H
                              exact absurd H (by simp)
                            · rw [if_neg c37] at H
                              have c37b0 : ((wrap64 (x6_12 + 1)) == 0) = false := beq_eq_false_iff_ne.mpr c37
                              have c37b1 : ((wrap64 (x6_12 + 1)) != 0) = true := bne_iff_ne.mpr c37
                              replace H := Option.bind_eq_some_iff.mp H
                              obtain ⟨⟨t264, t265⟩, A380, H⟩ := H
                              replace H : (if t265 = 0 then (if x14_4 = 0 then (some false) else (if ((t264 == 0) != (x15_4 == (wrap64 (a0_3 - 1)))) = true then (some false) else (vivariumlaw09_GensFades.l2 k4 l1 t257 x6_12 t264 (wrap64 (x15_4 + 1)) a0_0 a0_1 a0_2 a0_3))) else (some false)) = some r := H
                              have A38 := Aside0.mk A380
                              clear A380
                              by_cases c39 : t265 = 0
                              · rw [if_pos c39] at H
                                have c39b0 : (t265 == 0) = true := beq_iff_eq.mpr c39
                                have c39b1 : (t265 != 0) = false := bne_eq_false_iff_eq.mpr c39
                                clear c39
                                by_cases c40 : x14_4 = 0
                                · rw [if_pos c40] at H
                                  have c40b0 : (x14_4 == 0) = true := beq_iff_eq.mpr c40
                                  have c40b1 : (x14_4 != 0) = false := bne_eq_false_iff_eq.mpr c40
                                  clear c40
                                  obtain rfl := Option.some.inj H
                                  have hcz41_0 : wr.cell? ⟨gb256, 0, none⟩ = some (.int .u8 a0_0) := (blk_cell BK256.out 0).trans rfl
                                  have hcz41_1 : wr.cell? ⟨gb256, 1, none⟩ = some (.int .u16 a0_1) := (blk_cell BK256.out 1).trans rfl
                                  have hcz41_2 : wr.cell? ⟨gb256, 2, none⟩ = some (.int .u16 a0_2) := (blk_cell BK256.out 2).trans rfl
                                  have hcz41_3 : wr.cell? ⟨gb256, 3, none⟩ = some (.int .i64 a0_3) := (blk_cell BK256.out 3).trans rfl
                                  have hfz41_0 := blk_frozen BK256.out 0
                                  have hfz41_1 := blk_frozen BK256.out 1
                                  have hfz41_2 := blk_frozen BK256.out 2
                                  have hfz41_3 := blk_frozen BK256.out 3
                                  have p263 : 0 ≤ (x15_4 : Int) := of_decide_eq_true (by first | (with_reducible assumption) | assumption)
                                  have q263 : x15_4 < (l1.length : Int) := of_decide_eq_true (by first | (with_reducible assumption) | assumption)
                                  obtain ⟨ad263, e263, hx263_0⟩ := Kd.at_int HR1.out x15_4 p263 q263
                                  cases e263
                                  replace hx263_0 := (HB.out.cell (World.block_lt_of_cell? w _ hx263_0)).trans hx263_0
                                  replace p263 := eq_true p263
                                  replace q263 := eq_true q263
                                  go_wp2_with (first | ((with_reducible refine gate_callee (f := 6) rfl ?_); refine goesL_ (some 106) rfl rfl Tryd.func6 (by kernel_rfl) rfl #[.agg #[.int .u8 a0_0, .int .u16 a0_1, .int .u16 a0_2, .int .i64 a0_3], .int .u8 x14_4, .int .i64 (Int.tmod (wrap64 ((wrap64 ((Int.tmod (rd l1 x15_4) (wrap64 (x6_12 + 1))) + x6_12)) + 1)) (wrap64 (x6_12 + 1)))] rfl (by (try simp only [List.map_toArray, List.map_cons, List.map_nil]); first | done | rfl | (simp only [List.length_drop, List.length_take]; rfl)) ?_; (with_reducible refine (gens_Next.calls k4 a0_0 a0_1 a0_2 a0_3 x14_4 (Int.tmod (wrap64 ((wrap64 ((Int.tmod (rd l1 x15_4) (wrap64 (x6_12 + 1))) + x6_12)) + 1)) (wrap64 (x6_12 + 1))) t264 t265 _ A38.out).mono ?_); rintro e w42 ⟨rfl, hb⟩; refine ⟨_, rfl, ?_⟩; have n0_ := Aside0.mk (blk_below (g := gb256) (o := .cells #[.int .u8 a0_0, .int .u16 a0_1, .int .u16 a0_2, .int .i64 a0_3] 26 (0, 0)) (by (with_reducible repeat (first | refine blk_drewN ?_ _ | refine blk_drew ?_ | refine blk_alloc ?_ _)); exact BK256.out) hb); have n1_ := Aside0.mk (below_step (by repeat (first | (with_reducible first | exact HB.out | apply below_alloc | apply pw_below_drewN | apply below_drew1 | refine below_set ?_ GE256.out) | exact HB.out)) hb); clear BK256; clear HB; have BK256 := n0_; have HB := n1_; clear n0_ n1_; (try clear hb); (try clear hb2); (try clear hk); (try clear hi)))
                                  go_ret
                                  exact ⟨by first | rfl | (simp [errW_none, errW_some] <;> rfl) | (simp [*, errW_none, errW_some] <;> rfl), by repeat (first | (with_reducible first | exact HB.out | apply below_alloc | apply pw_below_drewN | apply below_drew1 | refine below_set ?_ GE256.out) | exact HB.out)⟩
                                · rw [if_neg c40] at H
                                  have c40b0 : (x14_4 == 0) = false := beq_eq_false_iff_ne.mpr c40
                                  have c40b1 : (x14_4 != 0) = true := bne_iff_ne.mpr c40
                                  by_cases c43 : ((t264 == 0) != (x15_4 == (wrap64 (a0_3 - 1)))) = true
                                  · rw [if_pos c43] at H
                                    have c43b0 : ((t264 == 0) != (x15_4 == (wrap64 (a0_3 - 1)))) = true := c43
                                    (try (have c43b1 : decide ((t264 == 0) = (x15_4 == (wrap64 (a0_3 - 1)))) = false := by simpa using c43))
                                    (try (have c43b2 : ((t264 == 0) == (x15_4 == (wrap64 (a0_3 - 1)))) = false := by simpa using c43))
                                    (try (have c43b3 : ¬ ((t264 == 0) = (x15_4 == (wrap64 (a0_3 - 1)))) := by simpa using c43))
                                    clear c43
                                    obtain rfl := Option.some.inj H
                                    have hcz44_0 : wr.cell? ⟨gb256, 0, none⟩ = some (.int .u8 a0_0) := (blk_cell BK256.out 0).trans rfl
                                    have hcz44_1 : wr.cell? ⟨gb256, 1, none⟩ = some (.int .u16 a0_1) := (blk_cell BK256.out 1).trans rfl
                                    have hcz44_2 : wr.cell? ⟨gb256, 2, none⟩ = some (.int .u16 a0_2) := (blk_cell BK256.out 2).trans rfl
                                    have hcz44_3 : wr.cell? ⟨gb256, 3, none⟩ = some (.int .i64 a0_3) := (blk_cell BK256.out 3).trans rfl
                                    have hfz44_0 := blk_frozen BK256.out 0
                                    have hfz44_1 := blk_frozen BK256.out 1
                                    have hfz44_2 := blk_frozen BK256.out 2
                                    have hfz44_3 := blk_frozen BK256.out 3
                                    have p263 : 0 ≤ (x15_4 : Int) := of_decide_eq_true (by first | (with_reducible assumption) | assumption)
                                    have q263 : x15_4 < (l1.length : Int) := of_decide_eq_true (by first | (with_reducible assumption) | assumption)
                                    obtain ⟨ad263, e263, hx263_0⟩ := Kd.at_int HR1.out x15_4 p263 q263
                                    cases e263
                                    replace hx263_0 := (HB.out.cell (World.block_lt_of_cell? w _ hx263_0)).trans hx263_0
                                    replace p263 := eq_true p263
                                    replace q263 := eq_true q263
                                    go_wp2_with (first | ((with_reducible refine gate_callee (f := 6) rfl ?_); refine goesL_ (some 106) rfl rfl Tryd.func6 (by kernel_rfl) rfl #[.agg #[.int .u8 a0_0, .int .u16 a0_1, .int .u16 a0_2, .int .i64 a0_3], .int .u8 x14_4, .int .i64 (Int.tmod (wrap64 ((wrap64 ((Int.tmod (rd l1 x15_4) (wrap64 (x6_12 + 1))) + x6_12)) + 1)) (wrap64 (x6_12 + 1)))] rfl (by (try simp only [List.map_toArray, List.map_cons, List.map_nil]); first | done | rfl | (simp only [List.length_drop, List.length_take]; rfl)) ?_; (with_reducible refine (gens_Next.calls k4 a0_0 a0_1 a0_2 a0_3 x14_4 (Int.tmod (wrap64 ((wrap64 ((Int.tmod (rd l1 x15_4) (wrap64 (x6_12 + 1))) + x6_12)) + 1)) (wrap64 (x6_12 + 1))) t264 t265 _ A38.out).mono ?_); rintro e w45 ⟨rfl, hb⟩; refine ⟨_, rfl, ?_⟩; have n0_ := Aside0.mk (blk_below (g := gb256) (o := .cells #[.int .u8 a0_0, .int .u16 a0_1, .int .u16 a0_2, .int .i64 a0_3] 26 (0, 0)) (by (with_reducible repeat (first | refine blk_drewN ?_ _ | refine blk_drew ?_ | refine blk_alloc ?_ _)); exact BK256.out) hb); have n1_ := Aside0.mk (below_step (by repeat (first | (with_reducible first | exact HB.out | apply below_alloc | apply pw_below_drewN | apply below_drew1 | refine below_set ?_ GE256.out) | exact HB.out)) hb); clear BK256; clear HB; have BK256 := n0_; have HB := n1_; clear n0_ n1_; (try clear hb); (try clear hb2); (try clear hk); (try clear hi); have hcz46_0 : w45.cell? ⟨gb256, 0, none⟩ = some (.int .u8 a0_0) := (blk_cell BK256.out 0).trans rfl; have hcz46_1 : w45.cell? ⟨gb256, 1, none⟩ = some (.int .u16 a0_1) := (blk_cell BK256.out 1).trans rfl; have hcz46_2 : w45.cell? ⟨gb256, 2, none⟩ = some (.int .u16 a0_2) := (blk_cell BK256.out 2).trans rfl; have hcz46_3 : w45.cell? ⟨gb256, 3, none⟩ = some (.int .i64 a0_3) := (blk_cell BK256.out 3).trans rfl; have hfz46_0 := blk_frozen BK256.out 0; have hfz46_1 := blk_frozen BK256.out 1; have hfz46_2 := blk_frozen BK256.out 2; have hfz46_3 := blk_frozen BK256.out 3))
                                    go_ret
                                    exact ⟨by first | rfl | (simp [errW_none, errW_some] <;> rfl) | (simp [*, errW_none, errW_some] <;> rfl), by repeat (first | (with_reducible first | exact HB.out | apply below_alloc | apply pw_below_drewN | apply below_drew1 | refine below_set ?_ GE256.out) | exact HB.out)⟩
                                  · rw [if_neg c43] at H
                                    have c43b0 : ((t264 == 0) != (x15_4 == (wrap64 (a0_3 - 1)))) = false := by simpa using c43
                                    (try (have c43b1 : decide ((t264 == 0) = (x15_4 == (wrap64 (a0_3 - 1)))) = true := by simpa using c43))
                                    (try (have c43b2 : ((t264 == 0) == (x15_4 == (wrap64 (a0_3 - 1)))) = true := by simpa using c43))
                                    clear c43
                                    have H' := Aside0.mk H
                                    clear H
                                    have hcz47_0 : wr.cell? ⟨gb256, 0, none⟩ = some (.int .u8 a0_0) := (blk_cell BK256.out 0).trans rfl
                                    have hcz47_1 : wr.cell? ⟨gb256, 1, none⟩ = some (.int .u16 a0_1) := (blk_cell BK256.out 1).trans rfl
                                    have hcz47_2 : wr.cell? ⟨gb256, 2, none⟩ = some (.int .u16 a0_2) := (blk_cell BK256.out 2).trans rfl
                                    have hcz47_3 : wr.cell? ⟨gb256, 3, none⟩ = some (.int .i64 a0_3) := (blk_cell BK256.out 3).trans rfl
                                    have hfz47_0 := blk_frozen BK256.out 0
                                    have hfz47_1 := blk_frozen BK256.out 1
                                    have hfz47_2 := blk_frozen BK256.out 2
                                    have hfz47_3 := blk_frozen BK256.out 3
                                    have p263 : 0 ≤ (x15_4 : Int) := of_decide_eq_true (by first | (with_reducible assumption) | assumption)
                                    have q263 : x15_4 < (l1.length : Int) := of_decide_eq_true (by first | (with_reducible assumption) | assumption)
                                    obtain ⟨ad263, e263, hx263_0⟩ := Kd.at_int HR1.out x15_4 p263 q263
                                    cases e263
                                    replace hx263_0 := (HB.out.cell (World.block_lt_of_cell? w _ hx263_0)).trans hx263_0
                                    replace p263 := eq_true p263
                                    replace q263 := eq_true q263
                                    go_wp2_with (first | ((with_reducible refine gate_callee (f := 6) rfl ?_); refine goesL_ (some 106) rfl rfl Tryd.func6 (by kernel_rfl) rfl #[.agg #[.int .u8 a0_0, .int .u16 a0_1, .int .u16 a0_2, .int .i64 a0_3], .int .u8 x14_4, .int .i64 (Int.tmod (wrap64 ((wrap64 ((Int.tmod (rd l1 x15_4) (wrap64 (x6_12 + 1))) + x6_12)) + 1)) (wrap64 (x6_12 + 1)))] rfl (by (try simp only [List.map_toArray, List.map_cons, List.map_nil]); first | done | rfl | (simp only [List.length_drop, List.length_take]; rfl)) ?_; (with_reducible refine (gens_Next.calls k4 a0_0 a0_1 a0_2 a0_3 x14_4 (Int.tmod (wrap64 ((wrap64 ((Int.tmod (rd l1 x15_4) (wrap64 (x6_12 + 1))) + x6_12)) + 1)) (wrap64 (x6_12 + 1))) t264 t265 _ A38.out).mono ?_); rintro e w48 ⟨rfl, hb⟩; refine ⟨_, rfl, ?_⟩; have n0_ := Aside0.mk (blk_below (g := gb256) (o := .cells #[.int .u8 a0_0, .int .u16 a0_1, .int .u16 a0_2, .int .i64 a0_3] 26 (0, 0)) (by (with_reducible repeat (first | refine blk_drewN ?_ _ | refine blk_drew ?_ | refine blk_alloc ?_ _)); exact BK256.out) hb); have n1_ := Aside0.mk (below_step (by repeat (first | (with_reducible first | exact HB.out | apply below_alloc | apply pw_below_drewN | apply below_drew1 | refine below_set ?_ GE256.out) | exact HB.out)) hb); clear BK256; clear HB; have BK256 := n0_; have HB := n1_; clear n0_ n1_; (try clear hb); (try clear hb2); (try clear hk); (try clear hi); have hcz49_0 : w48.cell? ⟨gb256, 0, none⟩ = some (.int .u8 a0_0) := (blk_cell BK256.out 0).trans rfl; have hcz49_1 : w48.cell? ⟨gb256, 1, none⟩ = some (.int .u16 a0_1) := (blk_cell BK256.out 1).trans rfl; have hcz49_2 : w48.cell? ⟨gb256, 2, none⟩ = some (.int .u16 a0_2) := (blk_cell BK256.out 2).trans rfl; have hcz49_3 : w48.cell? ⟨gb256, 3, none⟩ = some (.int .i64 a0_3) := (blk_cell BK256.out 3).trans rfl; have hfz49_0 := blk_frozen BK256.out 0; have hfz49_1 := blk_frozen BK256.out 1; have hfz49_2 := blk_frozen BK256.out 2; have hfz49_3 := blk_frozen BK256.out 3))
                                    go_roundg k4
                                    case measure => have := HJ5.out; have := HJ12.out; have := HK3.out; have := HK4.out; omega
                                    case rel => exact ⟨(t264), (wrap64 (x15_4 + 1)), (by first | rfl | (simp; done) | (simp [*]; done)), (by first | rfl | (simp; done) | (simp [*]; done)), H', ⟨by have := HJ5.out; have := HJ12.out; have := HK3.out; have := HK4.out; omega⟩, ⟨by (with_reducible repeat (first | refine blk_drewN ?_ _ | refine blk_drew ?_ | refine blk_alloc ?_ _)); exact BK256.out⟩, ⟨by repeat (first | (with_reducible first | exact HB.out | apply below_alloc | apply pw_below_drewN | apply below_drew1 | refine below_set ?_ GE256.out) | exact HB.out)⟩⟩
                              · rw [if_neg c39] at H
                                have c39b0 : (t265 == 0) = false := beq_eq_false_iff_ne.mpr c39
                                have c39b1 : (t265 != 0) = true := bne_iff_ne.mpr c39
                                obtain rfl := Option.some.inj H
                                have hcz50_0 : wr.cell? ⟨gb256, 0, none⟩ = some (.int .u8 a0_0) := (blk_cell BK256.out 0).trans rfl
                                have hcz50_1 : wr.cell? ⟨gb256, 1, none⟩ = some (.int .u16 a0_1) := (blk_cell BK256.out 1).trans rfl
                                have hcz50_2 : wr.cell? ⟨gb256, 2, none⟩ = some (.int .u16 a0_2) := (blk_cell BK256.out 2).trans rfl
                                have hcz50_3 : wr.cell? ⟨gb256, 3, none⟩ = some (.int .i64 a0_3) := (blk_cell BK256.out 3).trans rfl
                                have hfz50_0 := blk_frozen BK256.out 0
                                have hfz50_1 := blk_frozen BK256.out 1
                                have hfz50_2 := blk_frozen BK256.out 2
                                have hfz50_3 := blk_frozen BK256.out 3
                                have p263 : 0 ≤ (x15_4 : Int) := of_decide_eq_true (by first | (with_reducible assumption) | assumption)
                                have q263 : x15_4 < (l1.length : Int) := of_decide_eq_true (by first | (with_reducible assumption) | assumption)
                                obtain ⟨ad263, e263, hx263_0⟩ := Kd.at_int HR1.out x15_4 p263 q263
                                cases e263
                                replace hx263_0 := (HB.out.cell (World.block_lt_of_cell? w _ hx263_0)).trans hx263_0
                                replace p263 := eq_true p263
                                replace q263 := eq_true q263
                                go_wp2_with (first | ((with_reducible refine gate_callee (f := 6) rfl ?_); refine goesL_ (some 106) rfl rfl Tryd.func6 (by kernel_rfl) rfl #[.agg #[.int .u8 a0_0, .int .u16 a0_1, .int .u16 a0_2, .int .i64 a0_3], .int .u8 x14_4, .int .i64 (Int.tmod (wrap64 ((wrap64 ((Int.tmod (rd l1 x15_4) (wrap64 (x6_12 + 1))) + x6_12)) + 1)) (wrap64 (x6_12 + 1)))] rfl (by (try simp only [List.map_toArray, List.map_cons, List.map_nil]); first | done | rfl | (simp only [List.length_drop, List.length_take]; rfl)) ?_; (with_reducible refine (gens_Next.calls k4 a0_0 a0_1 a0_2 a0_3 x14_4 (Int.tmod (wrap64 ((wrap64 ((Int.tmod (rd l1 x15_4) (wrap64 (x6_12 + 1))) + x6_12)) + 1)) (wrap64 (x6_12 + 1))) t264 t265 _ A38.out).mono ?_); rintro e w51 ⟨rfl, hb⟩; refine ⟨_, rfl, ?_⟩; have n0_ := Aside0.mk (blk_below (g := gb256) (o := .cells #[.int .u8 a0_0, .int .u16 a0_1, .int .u16 a0_2, .int .i64 a0_3] 26 (0, 0)) (by (with_reducible repeat (first | refine blk_drewN ?_ _ | refine blk_drew ?_ | refine blk_alloc ?_ _)); exact BK256.out) hb); have n1_ := Aside0.mk (below_step (by repeat (first | (with_reducible first | exact HB.out | apply below_alloc | apply pw_below_drewN | apply below_drew1 | refine below_set ?_ GE256.out) | exact HB.out)) hb); clear BK256; clear HB; have BK256 := n0_; have HB := n1_; clear n0_ n1_; (try clear hb); (try clear hb2); (try clear hk); (try clear hi)))
                                go_ret
                                exact ⟨by first | rfl | (simp [errW_none, errW_some] <;> rfl) | (simp [*, errW_none, errW_some] <;> rfl), by repeat (first | (with_reducible first | exact HB.out | apply below_alloc | apply pw_below_drewN | apply below_drew1 | refine below_set ?_ GE256.out) | exact HB.out)⟩
                          · rw [if_neg c36] at H
                            exact absurd H (by simp)
                        · rw [if_neg c35] at H
                          have c35b0 : decide (x15_4 < (l1.length : Int)) = false := decide_eq_false c35
                          clear c35
                          replace H := Option.bind_eq_some_iff.mp H
                          obtain ⟨⟨t266, t267⟩, A520, H⟩ := H
                          replace H : (if t267 = 0 then (if x14_4 = 0 then (some false) else (if ((t266 == 0) != (x15_4 == (wrap64 (a0_3 - 1)))) = true then (some false) else (vivariumlaw09_GensFades.l2 k4 l1 t257 x6_12 t266 (wrap64 (x15_4 + 1)) a0_0 a0_1 a0_2 a0_3))) else (some false)) = some r := H
                          have A52 := Aside0.mk A520
                          clear A520
                          by_cases c53 : t267 = 0
                          · rw [if_pos c53] at H
                            have c53b0 : (t267 == 0) = true := beq_iff_eq.mpr c53
                            have c53b1 : (t267 != 0) = false := bne_eq_false_iff_eq.mpr c53
                            clear c53
                            by_cases c54 : x14_4 = 0
                            · rw [if_pos c54] at H
                              have c54b0 : (x14_4 == 0) = true := beq_iff_eq.mpr c54
                              have c54b1 : (x14_4 != 0) = false := bne_eq_false_iff_eq.mpr c54
                              clear c54
                              obtain rfl := Option.some.inj H
                              have hcz55_0 : wr.cell? ⟨gb256, 0, none⟩ = some (.int .u8 a0_0) := (blk_cell BK256.out 0).trans rfl
                              have hcz55_1 : wr.cell? ⟨gb256, 1, none⟩ = some (.int .u16 a0_1) := (blk_cell BK256.out 1).trans rfl
                              have hcz55_2 : wr.cell? ⟨gb256, 2, none⟩ = some (.int .u16 a0_2) := (blk_cell BK256.out 2).trans rfl
                              have hcz55_3 : wr.cell? ⟨gb256, 3, none⟩ = some (.int .i64 a0_3) := (blk_cell BK256.out 3).trans rfl
                              have hfz55_0 := blk_frozen BK256.out 0
                              have hfz55_1 := blk_frozen BK256.out 1
                              have hfz55_2 := blk_frozen BK256.out 2
                              have hfz55_3 := blk_frozen BK256.out 3
                              go_wp2_with (first | ((with_reducible refine gate_callee (f := 6) rfl ?_); refine goesL_ (some 106) rfl rfl Tryd.func6 (by kernel_rfl) rfl #[.agg #[.int .u8 a0_0, .int .u16 a0_1, .int .u16 a0_2, .int .i64 a0_3], .int .u8 x14_4, .int .i64 0] rfl (by (try simp only [List.map_toArray, List.map_cons, List.map_nil]); first | done | rfl | (simp only [List.length_drop, List.length_take]; rfl)) ?_; (with_reducible refine (gens_Next.calls k4 a0_0 a0_1 a0_2 a0_3 x14_4 0 t266 t267 _ A52.out).mono ?_); rintro e w56 ⟨rfl, hb⟩; refine ⟨_, rfl, ?_⟩; have n0_ := Aside0.mk (blk_below (g := gb256) (o := .cells #[.int .u8 a0_0, .int .u16 a0_1, .int .u16 a0_2, .int .i64 a0_3] 26 (0, 0)) (by (with_reducible repeat (first | refine blk_drewN ?_ _ | refine blk_drew ?_ | refine blk_alloc ?_ _)); exact BK256.out) hb); have n1_ := Aside0.mk (below_step (by repeat (first | (with_reducible first | exact HB.out | apply below_alloc | apply pw_below_drewN | apply below_drew1 | refine below_set ?_ GE256.out) | exact HB.out)) hb); clear BK256; clear HB; have BK256 := n0_; have HB := n1_; clear n0_ n1_; (try clear hb); (try clear hb2); (try clear hk); (try clear hi)))
                              go_ret
                              exact ⟨by first | rfl | (simp [errW_none, errW_some] <;> rfl) | (simp [*, errW_none, errW_some] <;> rfl), by repeat (first | (with_reducible first | exact HB.out | apply below_alloc | apply pw_below_drewN | apply below_drew1 | refine below_set ?_ GE256.out) | exact HB.out)⟩
                            · rw [if_neg c54] at H
                              have c54b0 : (x14_4 == 0) = false := beq_eq_false_iff_ne.mpr c54
                              have c54b1 : (x14_4 != 0) = true := bne_iff_ne.mpr c54
                              by_cases c57 : ((t266 == 0) != (x15_4 == (wrap64 (a0_3 - 1)))) = true
                              · rw [if_pos c57] at H
                                have c57b0 : ((t266 == 0) != (x15_4 == (wrap64 (a0_3 - 1)))) = true := c57
                                (try (have c57b1 : decide ((t266 == 0) = (x15_4 == (wrap64 (a0_3 - 1)))) = false := by simpa using c57))
                                (try (have c57b2 : ((t266 == 0) == (x15_4 == (wrap64 (a0_3 - 1)))) = false := by simpa using c57))
                                (try (have c57b3 : ¬ ((t266 == 0) = (x15_4 == (wrap64 (a0_3 - 1)))) := by simpa using c57))
                                clear c57
                                obtain rfl := Option.some.inj H
                                have hcz58_0 : wr.cell? ⟨gb256, 0, none⟩ = some (.int .u8 a0_0) := (blk_cell BK256.out 0).trans rfl
                                have hcz58_1 : wr.cell? ⟨gb256, 1, none⟩ = some (.int .u16 a0_1) := (blk_cell BK256.out 1).trans rfl
                                have hcz58_2 : wr.cell? ⟨gb256, 2, none⟩ = some (.int .u16 a0_2) := (blk_cell BK256.out 2).trans rfl
                                have hcz58_3 : wr.cell? ⟨gb256, 3, none⟩ = some (.int .i64 a0_3) := (blk_cell BK256.out 3).trans rfl
                                have hfz58_0 := blk_frozen BK256.out 0
                                have hfz58_1 := blk_frozen BK256.out 1
                                have hfz58_2 := blk_frozen BK256.out 2
                                have hfz58_3 := blk_frozen BK256.out 3
                                go_wp2_with (first | ((with_reducible refine gate_callee (f := 6) rfl ?_); refine goesL_ (some 106) rfl rfl Tryd.func6 (by kernel_rfl) rfl #[.agg #[.int .u8 a0_0, .int .u16 a0_1, .int .u16 a0_2, .int .i64 a0_3], .int .u8 x14_4, .int .i64 0] rfl (by (try simp only [List.map_toArray, List.map_cons, List.map_nil]); first | done | rfl | (simp only [List.length_drop, List.length_take]; rfl)) ?_; (with_reducible refine (gens_Next.calls k4 a0_0 a0_1 a0_2 a0_3 x14_4 0 t266 t267 _ A52.out).mono ?_); rintro e w59 ⟨rfl, hb⟩; refine ⟨_, rfl, ?_⟩; have n0_ := Aside0.mk (blk_below (g := gb256) (o := .cells #[.int .u8 a0_0, .int .u16 a0_1, .int .u16 a0_2, .int .i64 a0_3] 26 (0, 0)) (by (with_reducible repeat (first | refine blk_drewN ?_ _ | refine blk_drew ?_ | refine blk_alloc ?_ _)); exact BK256.out) hb); have n1_ := Aside0.mk (below_step (by repeat (first | (with_reducible first | exact HB.out | apply below_alloc | apply pw_below_drewN | apply below_drew1 | refine below_set ?_ GE256.out) | exact HB.out)) hb); clear BK256; clear HB; have BK256 := n0_; have HB := n1_; clear n0_ n1_; (try clear hb); (try clear hb2); (try clear hk); (try clear hi); have hcz60_0 : w59.cell? ⟨gb256, 0, none⟩ = some (.int .u8 a0_0) := (blk_cell BK256.out 0).trans rfl; have hcz60_1 : w59.cell? ⟨gb256, 1, none⟩ = some (.int .u16 a0_1) := (blk_cell BK256.out 1).trans rfl; have hcz60_2 : w59.cell? ⟨gb256, 2, none⟩ = some (.int .u16 a0_2) := (blk_cell BK256.out 2).trans rfl; have hcz60_3 : w59.cell? ⟨gb256, 3, none⟩ = some (.int .i64 a0_3) := (blk_cell BK256.out 3).trans rfl; have hfz60_0 := blk_frozen BK256.out 0; have hfz60_1 := blk_frozen BK256.out 1; have hfz60_2 := blk_frozen BK256.out 2; have hfz60_3 := blk_frozen BK256.out 3))
                                go_ret
                                exact ⟨by first | rfl | (simp [errW_none, errW_some] <;> rfl) | (simp [*, errW_none, errW_some] <;> rfl), by repeat (first | (with_reducible first | exact HB.out | apply below_alloc | apply pw_below_drewN | apply below_drew1 | refine below_set ?_ GE256.out) | exact HB.out)⟩
                              · rw [if_neg c57] at H
                                have c57b0 : ((t266 == 0) != (x15_4 == (wrap64 (a0_3 - 1)))) = false := by simpa using c57
                                (try (have c57b1 : decide ((t266 == 0) = (x15_4 == (wrap64 (a0_3 - 1)))) = true := by simpa using c57))
                                (try (have c57b2 : ((t266 == 0) == (x15_4 == (wrap64 (a0_3 - 1)))) = true := by simpa using c57))
                                clear c57
                                have H' := Aside0.mk H
                                clear H
                                have hcz61_0 : wr.cell? ⟨gb256, 0, none⟩ = some (.int .u8 a0_0) := (blk_cell BK256.out 0).trans rfl
                                have hcz61_1 : wr.cell? ⟨gb256, 1, none⟩ = some (.int .u16 a0_1) := (blk_cell BK256.out 1).trans rfl
                                have hcz61_2 : wr.cell? ⟨gb256, 2, none⟩ = some (.int .u16 a0_2) := (blk_cell BK256.out 2).trans rfl
                                have hcz61_3 : wr.cell? ⟨gb256, 3, none⟩ = some (.int .i64 a0_3) := (blk_cell BK256.out 3).trans rfl
                                have hfz61_0 := blk_frozen BK256.out 0
                                have hfz61_1 := blk_frozen BK256.out 1
                                have hfz61_2 := blk_frozen BK256.out 2
                                have hfz61_3 := blk_frozen BK256.out 3
                                go_wp2_with (first | ((with_reducible refine gate_callee (f := 6) rfl ?_); refine goesL_ (some 106) rfl rfl Tryd.func6 (by kernel_rfl) rfl #[.agg #[.int .u8 a0_0, .int .u16 a0_1, .int .u16 a0_2, .int .i64 a0_3], .int .u8 x14_4, .int .i64 0] rfl (by (try simp only [List.map_toArray, List.map_cons, List.map_nil]); first | done | rfl | (simp only [List.length_drop, List.length_take]; rfl)) ?_; (with_reducible refine (gens_Next.calls k4 a0_0 a0_1 a0_2 a0_3 x14_4 0 t266 t267 _ A52.out).mono ?_); rintro e w62 ⟨rfl, hb⟩; refine ⟨_, rfl, ?_⟩; have n0_ := Aside0.mk (blk_below (g := gb256) (o := .cells #[.int .u8 a0_0, .int .u16 a0_1, .int .u16 a0_2, .int .i64 a0_3] 26 (0, 0)) (by (with_reducible repeat (first | refine blk_drewN ?_ _ | refine blk_drew ?_ | refine blk_alloc ?_ _)); exact BK256.out) hb); have n1_ := Aside0.mk (below_step (by repeat (first | (with_reducible first | exact HB.out | apply below_alloc | apply pw_below_drewN | apply below_drew1 | refine below_set ?_ GE256.out) | exact HB.out)) hb); clear BK256; clear HB; have BK256 := n0_; have HB := n1_; clear n0_ n1_; (try clear hb); (try clear hb2); (try clear hk); (try clear hi); have hcz63_0 : w62.cell? ⟨gb256, 0, none⟩ = some (.int .u8 a0_0) := (blk_cell BK256.out 0).trans rfl; have hcz63_1 : w62.cell? ⟨gb256, 1, none⟩ = some (.int .u16 a0_1) := (blk_cell BK256.out 1).trans rfl; have hcz63_2 : w62.cell? ⟨gb256, 2, none⟩ = some (.int .u16 a0_2) := (blk_cell BK256.out 2).trans rfl; have hcz63_3 : w62.cell? ⟨gb256, 3, none⟩ = some (.int .i64 a0_3) := (blk_cell BK256.out 3).trans rfl; have hfz63_0 := blk_frozen BK256.out 0; have hfz63_1 := blk_frozen BK256.out 1; have hfz63_2 := blk_frozen BK256.out 2; have hfz63_3 := blk_frozen BK256.out 3))
                                go_roundg k4
                                case measure => have := HJ5.out; have := HJ12.out; have := HK3.out; have := HK4.out; omega
                                case rel => exact ⟨(t266), (wrap64 (x15_4 + 1)), (by first | rfl | (simp; done) | (simp [*]; done)), (by first | rfl | (simp; done) | (simp [*]; done)), H', ⟨by have := HJ5.out; have := HJ12.out; have := HK3.out; have := HK4.out; omega⟩, ⟨by (with_reducible repeat (first | refine blk_drewN ?_ _ | refine blk_drew ?_ | refine blk_alloc ?_ _)); exact BK256.out⟩, ⟨by repeat (first | (with_reducible first | exact HB.out | apply below_alloc | apply pw_below_drewN | apply below_drew1 | refine below_set ?_ GE256.out) | exact HB.out)⟩⟩
                          · rw [if_neg c53] at H
                            have c53b0 : (t267 == 0) = false := beq_eq_false_iff_ne.mpr c53
                            have c53b1 : (t267 != 0) = true := bne_iff_ne.mpr c53
                            obtain rfl := Option.some.inj H
                            have hcz64_0 : wr.cell? ⟨gb256, 0, none⟩ = some (.int .u8 a0_0) := (blk_cell BK256.out 0).trans rfl
                            have hcz64_1 : wr.cell? ⟨gb256, 1, none⟩ = some (.int .u16 a0_1) := (blk_cell BK256.out 1).trans rfl
                            have hcz64_2 : wr.cell? ⟨gb256, 2, none⟩ = some (.int .u16 a0_2) := (blk_cell BK256.out 2).trans rfl
                            have hcz64_3 : wr.cell? ⟨gb256, 3, none⟩ = some (.int .i64 a0_3) := (blk_cell BK256.out 3).trans rfl
                            have hfz64_0 := blk_frozen BK256.out 0
                            have hfz64_1 := blk_frozen BK256.out 1
                            have hfz64_2 := blk_frozen BK256.out 2
                            have hfz64_3 := blk_frozen BK256.out 3
                            go_wp2_with (first | ((with_reducible refine gate_callee (f := 6) rfl ?_); refine goesL_ (some 106) rfl rfl Tryd.func6 (by kernel_rfl) rfl #[.agg #[.int .u8 a0_0, .int .u16 a0_1, .int .u16 a0_2, .int .i64 a0_3], .int .u8 x14_4, .int .i64 0] rfl (by (try simp only [List.map_toArray, List.map_cons, List.map_nil]); first | done | rfl | (simp only [List.length_drop, List.length_take]; rfl)) ?_; (with_reducible refine (gens_Next.calls k4 a0_0 a0_1 a0_2 a0_3 x14_4 0 t266 t267 _ A52.out).mono ?_); rintro e w65 ⟨rfl, hb⟩; refine ⟨_, rfl, ?_⟩; have n0_ := Aside0.mk (blk_below (g := gb256) (o := .cells #[.int .u8 a0_0, .int .u16 a0_1, .int .u16 a0_2, .int .i64 a0_3] 26 (0, 0)) (by (with_reducible repeat (first | refine blk_drewN ?_ _ | refine blk_drew ?_ | refine blk_alloc ?_ _)); exact BK256.out) hb); have n1_ := Aside0.mk (below_step (by repeat (first | (with_reducible first | exact HB.out | apply below_alloc | apply pw_below_drewN | apply below_drew1 | refine below_set ?_ GE256.out) | exact HB.out)) hb); clear BK256; clear HB; have BK256 := n0_; have HB := n1_; clear n0_ n1_; (try clear hb); (try clear hb2); (try clear hk); (try clear hi)))
                            go_ret
                            exact ⟨by first | rfl | (simp [errW_none, errW_some] <;> rfl) | (simp [*, errW_none, errW_some] <;> rfl), by repeat (first | (with_reducible first | exact HB.out | apply below_alloc | apply pw_below_drewN | apply below_drew1 | refine below_set ?_ GE256.out) | exact HB.out)⟩
                      · rw [if_neg c34] at H
                        have c34b0 : decide (x15_4 < a0_3) = false := decide_eq_false c34
                        clear c34
                        by_cases c66 : t257 = true
                        · subst c66
                          have H1 : (some ((x14_4 == 0) == (decide (a0_3 > 2)))) = some r := by rw [if_pos rfl] at H; exact H
                          clear H
                          have H := H1
                          clear H1
                          obtain rfl := Option.some.inj H
                          have hcz67_0 : wr.cell? ⟨gb256, 0, none⟩ = some (.int .u8 a0_0) := (blk_cell BK256.out 0).trans rfl
                          have hcz67_1 : wr.cell? ⟨gb256, 1, none⟩ = some (.int .u16 a0_1) := (blk_cell BK256.out 1).trans rfl
                          have hcz67_2 : wr.cell? ⟨gb256, 2, none⟩ = some (.int .u16 a0_2) := (blk_cell BK256.out 2).trans rfl
                          have hcz67_3 : wr.cell? ⟨gb256, 3, none⟩ = some (.int .i64 a0_3) := (blk_cell BK256.out 3).trans rfl
                          have hfz67_0 := blk_frozen BK256.out 0
                          have hfz67_1 := blk_frozen BK256.out 1
                          have hfz67_2 := blk_frozen BK256.out 2
                          have hfz67_3 := blk_frozen BK256.out 3
                          go_wp2
                          go_ret
                          exact ⟨by first | rfl | (simp [errW_none, errW_some] <;> rfl) | (simp [*, errW_none, errW_some] <;> rfl), by repeat (first | (with_reducible first | exact HB.out | apply below_alloc | apply pw_below_drewN | apply below_drew1 | refine below_set ?_ GE256.out) | exact HB.out)⟩
                        · replace c66 := Bool.eq_false_iff.mpr c66
                          subst c66
                          have H1 : (some false) = some r := by rw [if_neg (show ¬ (false = true) by decide)] at H; exact H
                          clear H
                          have H := H1
                          clear H1
                          obtain rfl := Option.some.inj H
                          have hcz68_0 : wr.cell? ⟨gb256, 0, none⟩ = some (.int .u8 a0_0) := (blk_cell BK256.out 0).trans rfl
                          have hcz68_1 : wr.cell? ⟨gb256, 1, none⟩ = some (.int .u16 a0_1) := (blk_cell BK256.out 1).trans rfl
                          have hcz68_2 : wr.cell? ⟨gb256, 2, none⟩ = some (.int .u16 a0_2) := (blk_cell BK256.out 2).trans rfl
                          have hcz68_3 : wr.cell? ⟨gb256, 3, none⟩ = some (.int .i64 a0_3) := (blk_cell BK256.out 3).trans rfl
                          have hfz68_0 := blk_frozen BK256.out 0
                          have hfz68_1 := blk_frozen BK256.out 1
                          have hfz68_2 := blk_frozen BK256.out 2
                          have hfz68_3 := blk_frozen BK256.out 3
                          go_wp2
                          go_ret
                          exact ⟨by first | rfl | (simp [errW_none, errW_some] <;> rfl) | (simp [*, errW_none, errW_some] <;> rfl), by repeat (first | (with_reducible first | exact HB.out | apply below_alloc | apply pw_below_drewN | apply below_drew1 | refine below_set ?_ GE256.out) | exact HB.out)⟩
  · rw [if_neg c5] at H
    have c5b0 : (t258 == 0) = false := beq_eq_false_iff_ne.mpr c5
    have c5b1 : (t258 != 0) = true := bne_iff_ne.mpr c5
    obtain rfl := Option.some.inj H
    go_enter Tryd.func3, Tryd.ntmps3
    go_wp2_with (first | ((with_reducible refine gate_dst (N := 2) rfl ?_); refine box_event ?hg (N := 2) ?hd (cs := #[.int .u8 a0_0, .int .u16 a0_1, .int .u16 a0_2, .int .i64 a0_3]) (t := 26) ?hr ?_; (case hd => rfl); (case hg => rfl); (case hr => first | (go_simp; done) | (go_simp; rfl)); intro gb256 hg w69 hbox hb; have n0_ := Aside0.mk (below_step (by repeat (first | (with_reducible first | exact HB.out | apply below_alloc | apply pw_below_drewN | apply below_drew1) | exact HB.out)) hb); have n1_ := Aside0.mk (hbox); have n2_ := Aside0.mk ((by rw [hg]; exact (below_size (by repeat (first | (with_reducible first | exact HB.out | apply below_alloc | apply pw_below_drewN | apply below_drew1) | exact HB.out))) : w.heap.size ≤ gb256)); have n3_ := Aside0.mk ((by rw [hg]; exact (below_size (by repeat (first | (with_reducible first | exact HB.out | apply below_alloc | apply pw_below_drewN | apply below_drew1) | exact HB.out))) : w.heap.size ≤ gb256)); clear HB; have HB := n0_; have BK256 := n1_; have GW256 := n2_; have GE256 := n3_; clear n0_ n1_ n2_ n3_; clear hb hbox hg) | ((with_reducible refine gate_callee (f := 4) rfl ?_); refine goesL_ (some 19) rfl rfl Tryd.func4 (by kernel_rfl) rfl #[] rfl (by (try simp only [List.map_toArray, List.map_cons, List.map_nil]); first | done | rfl | (simp only [List.length_drop, List.length_take]; rfl)) ?_; (with_reducible refine (vivariumlaw09_awake.calls k  t257 _ A3.out).mono ?_); rintro e w70 ⟨rfl, hb⟩; refine ⟨_, rfl, ?_⟩; have n0_ := Aside0.mk (blk_below (g := gb256) (o := .cells #[.int .u8 a0_0, .int .u16 a0_1, .int .u16 a0_2, .int .i64 a0_3] 26 (0, 0)) (by (with_reducible repeat (first | refine blk_drewN ?_ _ | refine blk_drew ?_ | refine blk_alloc ?_ _)); exact BK256.out) hb); have n1_ := Aside0.mk (below_step (by repeat (first | (with_reducible first | exact HB.out | apply below_alloc | apply pw_below_drewN | apply below_drew1 | refine below_set ?_ GE256.out) | exact HB.out)) hb); clear BK256; clear HB; have BK256 := n0_; have HB := n1_; clear n0_ n1_; (try clear hb); (try clear hb2); (try clear hk); (try clear hi); have hcz71_0 : w70.cell? ⟨gb256, 0, none⟩ = some (.int .u8 a0_0) := (blk_cell BK256.out 0).trans rfl; have hcz71_1 : w70.cell? ⟨gb256, 1, none⟩ = some (.int .u16 a0_1) := (blk_cell BK256.out 1).trans rfl; have hcz71_2 : w70.cell? ⟨gb256, 2, none⟩ = some (.int .u16 a0_2) := (blk_cell BK256.out 2).trans rfl; have hcz71_3 : w70.cell? ⟨gb256, 3, none⟩ = some (.int .i64 a0_3) := (blk_cell BK256.out 3).trans rfl; have hfz71_0 := blk_frozen BK256.out 0; have hfz71_1 := blk_frozen BK256.out 1; have hfz71_2 := blk_frozen BK256.out 2; have hfz71_3 := blk_frozen BK256.out 3) | ((with_reducible refine gate_callee (f := 5) rfl ?_); refine goesL_ (some 21) rfl rfl Tryd.func5 (by kernel_rfl) rfl #[.agg #[.int .u8 a0_0, .int .u16 a0_1, .int .u16 a0_2, .int .i64 a0_3]] rfl (by (try simp only [List.map_toArray, List.map_cons, List.map_nil]); first | done | rfl | (simp only [List.length_drop, List.length_take]; rfl)) ?_; (with_reducible refine (gens_Check.calls a0_0 a0_1 a0_2 a0_3 t258 _ A4.out).mono ?_); rintro e w72 ⟨rfl, hb⟩; refine ⟨_, rfl, ?_⟩; have n0_ := Aside0.mk (blk_below (g := gb256) (o := .cells #[.int .u8 a0_0, .int .u16 a0_1, .int .u16 a0_2, .int .i64 a0_3] 26 (0, 0)) (by (with_reducible repeat (first | refine blk_drewN ?_ _ | refine blk_drew ?_ | refine blk_alloc ?_ _)); exact BK256.out) hb); have n1_ := Aside0.mk (below_step (by repeat (first | (with_reducible first | exact HB.out | apply below_alloc | apply pw_below_drewN | apply below_drew1 | refine below_set ?_ GE256.out) | exact HB.out)) hb); clear BK256; clear HB; have BK256 := n0_; have HB := n1_; clear n0_ n1_; (try clear hb); (try clear hb2); (try clear hk); (try clear hi)))
    go_ret
    exact ⟨by first | rfl | (simp [errW_none, errW_some] <;> rfl) | (simp [*, errW_none, errW_some] <;> rfl), by repeat (first | (with_reducible first | exact HB.out | apply below_alloc | apply pw_below_drewN | apply below_drew1 | refine below_set ?_ GE256.out) | exact HB.out)⟩

/-- THE ONE PURE STATEMENT of vivariumlaw09_GensFades. -/
def vivariumlaw09_GensFades.Pure : Prop := ∀ (a0_0 : Int) (a0_1 : Int) (a0_2 : Int) (a0_3 : Int) (l1 : List Int), (Lit.int .u8 a0_0).wf = true → (Lit.int .u16 a0_1).wf = true → (Lit.int .u16 a0_2).wf = true → (Lit.int .i64 a0_3).wf = true → l1.length ≤ maxLen → l1.length * 8 ≤ 140737488351232 → (∀ x ∈ l1, (Lit.int .i64 x).wf = true) → ∃ k, vivariumlaw09_GensFades.f k a0_0 a0_1 a0_2 a0_3 l1 = some true
theorem vivariumlaw09_GensFades.walk (P : vivariumlaw09_GensFades.Pure) (a0_0 : Int) (a0_1 : Int) (a0_2 : Int) (a0_3 : Int) (a1 : Option Addr) (len1 cap1 : Nat) (z1 : List Int) (w : World) (w0_0 : (Lit.int .u8 a0_0).wf = true) (w0_1 : (Lit.int .u16 a0_1).wf = true) (w0_2 : (Lit.int .u16 a0_2).wf = true) (w0_3 : (Lit.int .i64 a0_3).wf = true) (w1 : (a1 = none ∧ len1 = 0 ∧ cap1 = 0 ∧ z1 = []) ∨ ∃ x, a1 = some x ∧ len1 ≤ cap1 ∧ cap1 ≤ maxLen ∧ z1.length = cap1 ∧ (∀ i, i < z1.length → w.cell? (x.add i) = some (.int .i64 (z1.getD i 0))) ∧ ∀ n ∈ z1, (Lit.int .i64 n).wf = true) (y1 : len1 * 8 ≤ 140737488351232) :
    Calls Tryd.prog 3 #[.agg #[.int .u8 a0_0, .int .u16 a0_1, .int .u16 a0_2, .int .i64 a0_3], .slice a1 len1 cap1] w fun e w' => e = .returned (.bool true) ∧ Below w.heap.size w w' := by
  obtain ⟨l1, rfl, hr1, hm1, hw1, hc1⟩ := ReadsInt.ofRowC w1
  obtain ⟨k, h⟩ := P a0_0 a0_1 a0_2 a0_3 l1 w0_0 w0_1 w0_2 w0_3 hm1 y1 hw1
  refine (vivariumlaw09_GensFades.calls k a0_0 a0_1 a0_2 a0_3 _ _ l1 true w (Kd.C_of_reads (d := (0 : Int)) (h1 := fun _ => rfl) hr1) hc1 h).mono ?_
  rintro e w' ⟨rfl, hd⟩
  exact ⟨rfl, hd⟩

end Go.Proofs.YtkahgdkpehlanabDoor.P

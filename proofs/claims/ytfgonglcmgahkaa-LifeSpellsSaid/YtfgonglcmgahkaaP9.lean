-- Written by a program of this session (wip/tools/mk.py) that runs the kit's printer.
import Derived.Test.YtfgonglcmgahkaaP0
import Derived.Test.YtfgonglcmgahkaaPe1
import Derived.Test.YtfgonglcmgahkaaP22
import Derived.Test.YtfgonglcmgahkaaP21
import Derived.Test.YtfgonglcmgahkaaP28
import Derived.Test.YtfgonglcmgahkaaP29
namespace Go.Proofs.Ytfgonglcmgahkaa.P
open Go.RowKit Go.Proofs.YtfgonglcmgahkaaW.PrintWords Go.Proofs.YtfgonglcmgahkaaW.PrintLast Go.Proofs.YtfgonglcmgahkaaW.PrintMore
attribute [local go_sem] max2_int min2_int max_two min_two max_three min_three max_four min_four   -- for this text's walks alone
set_option linter.unusedVariables false
set_option linter.unusedSimpArgs false

attribute [local go_sem high] eqA37
/-! ### vivariumlaw08_LifeSpells: function 9 -/
def vivariumlaw08_LifeSpells.j0 : Nat → ByteArray → ByteArray → ByteArray → Bool → Option (Bool)
  | 0, _, _, _, _ => none
  | k + 1, x11, x12, x13, x65 => if x65 = true then (some false) else (if x12.toList = ([] : List UInt8) then (some true) else (if 1 + x12.size ≤ 9223372036854775807 then (if 0 ≤ 1 then (if 1 ≤ (x12.size : Int) then (if 1 + x12.size + (x12.extract 0 1).size ≤ 9223372036854775807 then (if 1 + x12.size + (x12.extract 0 1).size + 2 ≤ 9223372036854775807 then (if 1 + x12.size + (x12.extract 0 1).size + 2 + x13.size ≤ 9223372036854775807 then (if 1 + x12.size + (x12.extract 0 1).size + 2 + x13.size + x11.size ≤ 9223372036854775807 then ((life_Parse.f ((((((⟨#[66]⟩ : ByteArray) ++ x12) ++ (x12.extract 0 1)) ++ (⟨#[47, 83]⟩ : ByteArray)) ++ x13) ++ x11)).bind fun bt348 => (if bt348.2.2.2.2 = 81 then (some (bt348.2.2.2.1 == (wrap64 (1 + (x12.size : Int))))) else (some false))) else (none)) else (none)) else (none)) else (none)) else (none)) else (none)) else (none)))
def vivariumlaw08_LifeSpells.f (k : Nat) (a0 : Int) (a1 : Int) (a2 : Int) (a3 : Int) : Option (Bool) := (vivariumlaw08_alive.f k).bind fun t331 => ((vivariumlaw08_made.f a0 a1 a2).bind fun bt332 => ((some (([(⟨#[]⟩ : ByteArray), (⟨#[]⟩ : ByteArray), (⟨#[118]⟩ : ByteArray), (⟨#[72]⟩ : ByteArray)] : List ByteArray) : List ByteArray)).bind fun y336 => (if 0 ≤ bt332.1 then (if bt332.1 < (y336.length : Int) then ((vivariumlaw08_shuffled.f k bt332.2.1 a3).bind fun t340 => ((vivariumlaw08_shuffled.f k bt332.2.2 (IntKind.u64.wrap (Int.tdiv a3 7))).bind fun t341 => (if 1 + t340.size ≤ 9223372036854775807 then (if 1 + t340.size + 2 ≤ 9223372036854775807 then (if 1 + t340.size + 2 + t341.size ≤ 9223372036854775807 then (if 1 + t340.size + 2 + t341.size + (rdOf ByteArray.empty y336 bt332.1).size ≤ 9223372036854775807 then ((life_Parse.f (((((⟨#[98]⟩ : ByteArray) ++ t340) ++ (⟨#[47, 83]⟩ : ByteArray)) ++ t341) ++ (rdOf ByteArray.empty y336 bt332.1))).bind fun bt342 => (if t331 = true then (if bt342.2.2.2.2 = 0 then (if bt342.2.2.2.1 = 0 then (vivariumlaw08_LifeSpells.j0 k (rdOf ByteArray.empty y336 bt332.1) t340 t341 (!(bt342.1 == bt332.1) || (!(bt342.2.1 == bt332.2.1) || (!(bt342.2.2.1 == bt332.2.2))))) else (vivariumlaw08_LifeSpells.j0 k (rdOf ByteArray.empty y336 bt332.1) t340 t341 true)) else (vivariumlaw08_LifeSpells.j0 k (rdOf ByteArray.empty y336 bt332.1) t340 t341 true)) else (vivariumlaw08_LifeSpells.j0 k (rdOf ByteArray.empty y336 bt332.1) t340 t341 true))) else (none)) else (none)) else (none)) else (none)))) else (none)) else (none))))
theorem vivariumlaw08_LifeSpells.mono_l : ∀ k, (∀ y0 y1 y2 y3, LeO (vivariumlaw08_LifeSpells.j0 k y0 y1 y2 y3) (vivariumlaw08_LifeSpells.j0 (k + 1) y0 y1 y2 y3))
  | 0 => fun _ _ _ _ r h => by simp [vivariumlaw08_LifeSpells.j0] at h
  | k + 1 => by
    have ih0 := vivariumlaw08_LifeSpells.mono_l k
    · intro y0 y1 y2 y3
      unfold vivariumlaw08_LifeSpells.j0
      repeat' first
      | (with_reducible exact ih0 _ _ _ _)
      | (with_reducible exact vivariumlaw08_alive.mono _)
      | (with_reducible exact vivariumlaw08_shuffled.mono _ _ _)
      | (with_reducible exact LeO.refl _)
      | (with_reducible exact LeO.none _)
      | (with_reducible refine LeO.ite ?_ ?_)
      | (with_reducible refine LeO.bind ?_ (fun _ => ?_))
      | exact ih0 _ _ _ _
      | exact vivariumlaw08_alive.mono _
      | exact vivariumlaw08_shuffled.mono _ _ _
      | exact LeO.none _
      | refine LeO.ite ?_ ?_
      | refine LeO.bind ?_ (fun _ => ?_)
theorem vivariumlaw08_LifeSpells.mono : ∀ a0 a1 a2 a3 k, LeO (vivariumlaw08_LifeSpells.f k a0 a1 a2 a3) (vivariumlaw08_LifeSpells.f (k + 1) a0 a1 a2 a3) := by
  intro a0 a1 a2 a3 k
  have ih0 := vivariumlaw08_LifeSpells.mono_l k
  unfold vivariumlaw08_LifeSpells.f
  repeat' first
      | (with_reducible exact ih0 _ _ _ _)
      | (with_reducible exact vivariumlaw08_alive.mono _)
      | (with_reducible exact vivariumlaw08_shuffled.mono _ _ _)
      | (with_reducible exact LeO.refl _)
      | (with_reducible exact LeO.none _)
      | (with_reducible refine LeO.ite ?_ ?_)
      | (with_reducible refine LeO.bind ?_ (fun _ => ?_))
      | exact ih0 _ _ _ _
      | exact vivariumlaw08_alive.mono _
      | exact vivariumlaw08_shuffled.mono _ _ _
      | exact LeO.none _
      | refine LeO.ite ?_ ?_
      | refine LeO.bind ?_ (fun _ => ?_)
set_option maxHeartbeats 8000000 in
set_option maxRecDepth 100000 in
theorem vivariumlaw08_LifeSpells.calls (k : Nat) (a0 : Int) (a1 : Int) (a2 : Int) (a3 : Int) (r : Bool) (w : World) (h : vivariumlaw08_LifeSpells.f k a0 a1 a2 a3 = some r) :
    Calls Try.prog 9 #[.int .u8 a0, .int .u16 a1, .int .u16 a2, .int .u64 a3] w fun e w' => e = .returned (.bool r) ∧ Below w.heap.size w w' := by
  have hu37 := Try.underlying37
  have HB := Aside0.mk (Below.refl w.heap.size w)
  have H : ((vivariumlaw08_alive.f k).bind fun t331 => ((vivariumlaw08_made.f a0 a1 a2).bind fun bt332 => ((some (([(⟨#[]⟩ : ByteArray), (⟨#[]⟩ : ByteArray), (⟨#[118]⟩ : ByteArray), (⟨#[72]⟩ : ByteArray)] : List ByteArray) : List ByteArray)).bind fun y336 => (if 0 ≤ bt332.1 then (if bt332.1 < (y336.length : Int) then ((vivariumlaw08_shuffled.f k bt332.2.1 a3).bind fun t340 => ((vivariumlaw08_shuffled.f k bt332.2.2 (IntKind.u64.wrap (Int.tdiv a3 7))).bind fun t341 => (if 1 + t340.size ≤ 9223372036854775807 then (if 1 + t340.size + 2 ≤ 9223372036854775807 then (if 1 + t340.size + 2 + t341.size ≤ 9223372036854775807 then (if 1 + t340.size + 2 + t341.size + (rdOf ByteArray.empty y336 bt332.1).size ≤ 9223372036854775807 then ((life_Parse.f (((((⟨#[98]⟩ : ByteArray) ++ t340) ++ (⟨#[47, 83]⟩ : ByteArray)) ++ t341) ++ (rdOf ByteArray.empty y336 bt332.1))).bind fun bt342 => (if t331 = true then (if bt342.2.2.2.2 = 0 then (if bt342.2.2.2.1 = 0 then (vivariumlaw08_LifeSpells.j0 k (rdOf ByteArray.empty y336 bt332.1) t340 t341 (!(bt342.1 == bt332.1) || (!(bt342.2.1 == bt332.2.1) || (!(bt342.2.2.1 == bt332.2.2))))) else (vivariumlaw08_LifeSpells.j0 k (rdOf ByteArray.empty y336 bt332.1) t340 t341 true)) else (vivariumlaw08_LifeSpells.j0 k (rdOf ByteArray.empty y336 bt332.1) t340 t341 true)) else (vivariumlaw08_LifeSpells.j0 k (rdOf ByteArray.empty y336 bt332.1) t340 t341 true))) else (none)) else (none)) else (none)) else (none)))) else (none)) else (none))))) = some r := h
  clear h
  replace H := Option.bind_eq_some_iff.mp H
  obtain ⟨t331, A50, H⟩ := H
  replace H : ((vivariumlaw08_made.f a0 a1 a2).bind fun bt332 => ((some (([(⟨#[]⟩ : ByteArray), (⟨#[]⟩ : ByteArray), (⟨#[118]⟩ : ByteArray), (⟨#[72]⟩ : ByteArray)] : List ByteArray) : List ByteArray)).bind fun y336 => (if 0 ≤ bt332.1 then (if bt332.1 < (y336.length : Int) then ((vivariumlaw08_shuffled.f k bt332.2.1 a3).bind fun t340 => ((vivariumlaw08_shuffled.f k bt332.2.2 (IntKind.u64.wrap (Int.tdiv a3 7))).bind fun t341 => (if 1 + t340.size ≤ 9223372036854775807 then (if 1 + t340.size + 2 ≤ 9223372036854775807 then (if 1 + t340.size + 2 + t341.size ≤ 9223372036854775807 then (if 1 + t340.size + 2 + t341.size + (rdOf ByteArray.empty y336 bt332.1).size ≤ 9223372036854775807 then ((life_Parse.f (((((⟨#[98]⟩ : ByteArray) ++ t340) ++ (⟨#[47, 83]⟩ : ByteArray)) ++ t341) ++ (rdOf ByteArray.empty y336 bt332.1))).bind fun bt342 => (if t331 = true then (if bt342.2.2.2.2 = 0 then (if bt342.2.2.2.1 = 0 then (vivariumlaw08_LifeSpells.j0 k (rdOf ByteArray.empty y336 bt332.1) t340 t341 (!(bt342.1 == bt332.1) || (!(bt342.2.1 == bt332.2.1) || (!(bt342.2.2.1 == bt332.2.2))))) else (vivariumlaw08_LifeSpells.j0 k (rdOf ByteArray.empty y336 bt332.1) t340 t341 true)) else (vivariumlaw08_LifeSpells.j0 k (rdOf ByteArray.empty y336 bt332.1) t340 t341 true)) else (vivariumlaw08_LifeSpells.j0 k (rdOf ByteArray.empty y336 bt332.1) t340 t341 true))) else (none)) else (none)) else (none)) else (none)))) else (none)) else (none)))) = some r := H
  have A5 := Aside0.mk A50
  clear A50
  replace H := Option.bind_eq_some_iff.mp H
  obtain ⟨⟨t332, t333, t334⟩, A60, H⟩ := H
  replace H : ((some (([(⟨#[]⟩ : ByteArray), (⟨#[]⟩ : ByteArray), (⟨#[118]⟩ : ByteArray), (⟨#[72]⟩ : ByteArray)] : List ByteArray) : List ByteArray)).bind fun y336 => (if 0 ≤ t332 then (if t332 < (y336.length : Int) then ((vivariumlaw08_shuffled.f k t333 a3).bind fun t340 => ((vivariumlaw08_shuffled.f k t334 (IntKind.u64.wrap (Int.tdiv a3 7))).bind fun t341 => (if 1 + t340.size ≤ 9223372036854775807 then (if 1 + t340.size + 2 ≤ 9223372036854775807 then (if 1 + t340.size + 2 + t341.size ≤ 9223372036854775807 then (if 1 + t340.size + 2 + t341.size + (rdOf ByteArray.empty y336 t332).size ≤ 9223372036854775807 then ((life_Parse.f (((((⟨#[98]⟩ : ByteArray) ++ t340) ++ (⟨#[47, 83]⟩ : ByteArray)) ++ t341) ++ (rdOf ByteArray.empty y336 t332))).bind fun bt342 => (if t331 = true then (if bt342.2.2.2.2 = 0 then (if bt342.2.2.2.1 = 0 then (vivariumlaw08_LifeSpells.j0 k (rdOf ByteArray.empty y336 t332) t340 t341 (!(bt342.1 == t332) || (!(bt342.2.1 == t333) || (!(bt342.2.2.1 == t334))))) else (vivariumlaw08_LifeSpells.j0 k (rdOf ByteArray.empty y336 t332) t340 t341 true)) else (vivariumlaw08_LifeSpells.j0 k (rdOf ByteArray.empty y336 t332) t340 t341 true)) else (vivariumlaw08_LifeSpells.j0 k (rdOf ByteArray.empty y336 t332) t340 t341 true))) else (none)) else (none)) else (none)) else (none)))) else (none)) else (none))) = some r := H
  have A6 := Aside0.mk A60
  clear A60
  obtain ⟨y336, hy336⟩ : ∃ y_ : List ByteArray, y_ = (([(⟨#[]⟩ : ByteArray), (⟨#[]⟩ : ByteArray), (⟨#[118]⟩ : ByteArray), (⟨#[72]⟩ : ByteArray)] : List ByteArray)) := ⟨_, rfl⟩
  replace H : (if 0 ≤ t332 then (if t332 < (y336.length : Int) then ((vivariumlaw08_shuffled.f k t333 a3).bind fun t340 => ((vivariumlaw08_shuffled.f k t334 (IntKind.u64.wrap (Int.tdiv a3 7))).bind fun t341 => (if 1 + t340.size ≤ 9223372036854775807 then (if 1 + t340.size + 2 ≤ 9223372036854775807 then (if 1 + t340.size + 2 + t341.size ≤ 9223372036854775807 then (if 1 + t340.size + 2 + t341.size + (rdOf ByteArray.empty y336 t332).size ≤ 9223372036854775807 then ((life_Parse.f (((((⟨#[98]⟩ : ByteArray) ++ t340) ++ (⟨#[47, 83]⟩ : ByteArray)) ++ t341) ++ (rdOf ByteArray.empty y336 t332))).bind fun bt342 => (if t331 = true then (if bt342.2.2.2.2 = 0 then (if bt342.2.2.2.1 = 0 then (vivariumlaw08_LifeSpells.j0 k (rdOf ByteArray.empty y336 t332) t340 t341 (!(bt342.1 == t332) || (!(bt342.2.1 == t333) || (!(bt342.2.2.1 == t334))))) else (vivariumlaw08_LifeSpells.j0 k (rdOf ByteArray.empty y336 t332) t340 t341 true)) else (vivariumlaw08_LifeSpells.j0 k (rdOf ByteArray.empty y336 t332) t340 t341 true)) else (vivariumlaw08_LifeSpells.j0 k (rdOf ByteArray.empty y336 t332) t340 t341 true))) else (none)) else (none)) else (none)) else (none)))) else (none)) else (none)) = some r := by first | (rw [hy336]; with_reducible exact H) | (have H2_ := (Option.bind_some _ _).symm.trans H; rw [hy336]; with_reducible exact H2_) | (have H2_ := (Option.bind_some _ _).symm.trans H; with_reducible exact H2_) | with_reducible exact H | (rw [hy336]; exact H) | exact H
  have Ny336 := Aside0.mk hy336
  clear hy336
  by_cases c7 : 0 ≤ t332
  · rw [if_pos c7] at H
    have c7b0 : decide (0 ≤ t332) = true := decide_eq_true c7
    clear c7
    by_cases c8 : t332 < (y336.length : Int)
    · rw [if_pos c8] at H
      have c8b0 : decide (t332 < (y336.length : Int)) = true := decide_eq_true c8
      clear c8
      replace H := Option.bind_eq_some_iff.mp H
      obtain ⟨t340, A90, H⟩ := H
      replace H : ((vivariumlaw08_shuffled.f k t334 (IntKind.u64.wrap (Int.tdiv a3 7))).bind fun t341 => (if 1 + t340.size ≤ 9223372036854775807 then (if 1 + t340.size + 2 ≤ 9223372036854775807 then (if 1 + t340.size + 2 + t341.size ≤ 9223372036854775807 then (if 1 + t340.size + 2 + t341.size + (rdOf ByteArray.empty y336 t332).size ≤ 9223372036854775807 then ((life_Parse.f (((((⟨#[98]⟩ : ByteArray) ++ t340) ++ (⟨#[47, 83]⟩ : ByteArray)) ++ t341) ++ (rdOf ByteArray.empty y336 t332))).bind fun bt342 => (if t331 = true then (if bt342.2.2.2.2 = 0 then (if bt342.2.2.2.1 = 0 then (vivariumlaw08_LifeSpells.j0 k (rdOf ByteArray.empty y336 t332) t340 t341 (!(bt342.1 == t332) || (!(bt342.2.1 == t333) || (!(bt342.2.2.1 == t334))))) else (vivariumlaw08_LifeSpells.j0 k (rdOf ByteArray.empty y336 t332) t340 t341 true)) else (vivariumlaw08_LifeSpells.j0 k (rdOf ByteArray.empty y336 t332) t340 t341 true)) else (vivariumlaw08_LifeSpells.j0 k (rdOf ByteArray.empty y336 t332) t340 t341 true))) else (none)) else (none)) else (none)) else (none))) = some r := H
      have A9 := Aside0.mk A90
      clear A90
      replace H := Option.bind_eq_some_iff.mp H
      obtain ⟨t341, A100, H⟩ := H
      replace H : (if 1 + t340.size ≤ 9223372036854775807 then (if 1 + t340.size + 2 ≤ 9223372036854775807 then (if 1 + t340.size + 2 + t341.size ≤ 9223372036854775807 then (if 1 + t340.size + 2 + t341.size + (rdOf ByteArray.empty y336 t332).size ≤ 9223372036854775807 then ((life_Parse.f (((((⟨#[98]⟩ : ByteArray) ++ t340) ++ (⟨#[47, 83]⟩ : ByteArray)) ++ t341) ++ (rdOf ByteArray.empty y336 t332))).bind fun bt342 => (if t331 = true then (if bt342.2.2.2.2 = 0 then (if bt342.2.2.2.1 = 0 then (vivariumlaw08_LifeSpells.j0 k (rdOf ByteArray.empty y336 t332) t340 t341 (!(bt342.1 == t332) || (!(bt342.2.1 == t333) || (!(bt342.2.2.1 == t334))))) else (vivariumlaw08_LifeSpells.j0 k (rdOf ByteArray.empty y336 t332) t340 t341 true)) else (vivariumlaw08_LifeSpells.j0 k (rdOf ByteArray.empty y336 t332) t340 t341 true)) else (vivariumlaw08_LifeSpells.j0 k (rdOf ByteArray.empty y336 t332) t340 t341 true))) else (none)) else (none)) else (none)) else (none)) = some r := H
      have A10 := Aside0.mk A100
      clear A100
      by_cases c11 : 1 + t340.size ≤ 9223372036854775807
      · rw [if_pos c11] at H
        have c11b0 := eq_true c11
        have c11b1 : decide (1 + t340.size ≤ 9223372036854775807) = true := decide_eq_true c11
        try have c11b2 : (9223372036854775807 < 1 + t340.size) = False := eq_false (Nat.not_lt.2 c11)
        by_cases c12 : 1 + t340.size + 2 ≤ 9223372036854775807
        · rw [if_pos c12] at H
          have c12b0 := eq_true c12
          have c12b1 : decide (1 + t340.size + 2 ≤ 9223372036854775807) = true := decide_eq_true c12
          try have c12b2 : (9223372036854775807 < 1 + t340.size + 2) = False := eq_false (Nat.not_lt.2 c12)
          by_cases c13 : 1 + t340.size + 2 + t341.size ≤ 9223372036854775807
          · rw [if_pos c13] at H
            have c13b0 := eq_true c13
            have c13b1 : decide (1 + t340.size + 2 + t341.size ≤ 9223372036854775807) = true := decide_eq_true c13
            try have c13b2 : (9223372036854775807 < 1 + t340.size + 2 + t341.size) = False := eq_false (Nat.not_lt.2 c13)
            by_cases c14 : 1 + t340.size + 2 + t341.size + (rdOf ByteArray.empty y336 t332).size ≤ 9223372036854775807
            · rw [if_pos c14] at H
              have c14b0 := eq_true c14
              have c14b1 : decide (1 + t340.size + 2 + t341.size + (rdOf ByteArray.empty y336 t332).size ≤ 9223372036854775807) = true := decide_eq_true c14
              try have c14b2 : (9223372036854775807 < 1 + t340.size + 2 + t341.size + (rdOf ByteArray.empty y336 t332).size) = False := eq_false (Nat.not_lt.2 c14)
              replace H := Option.bind_eq_some_iff.mp H
              obtain ⟨⟨t342, t343, t344, t345, t346⟩, A150, H⟩ := H
              replace H : (if t331 = true then (if t346 = 0 then (if t345 = 0 then (vivariumlaw08_LifeSpells.j0 k (rdOf ByteArray.empty y336 t332) t340 t341 (!(t342 == t332) || (!(t343 == t333) || (!(t344 == t334))))) else (vivariumlaw08_LifeSpells.j0 k (rdOf ByteArray.empty y336 t332) t340 t341 true)) else (vivariumlaw08_LifeSpells.j0 k (rdOf ByteArray.empty y336 t332) t340 t341 true)) else (vivariumlaw08_LifeSpells.j0 k (rdOf ByteArray.empty y336 t332) t340 t341 true)) = some r := H
              have A15 := Aside0.mk A150
              clear A150
              have HC16 := Aside0.mk H
              clear H
              go_enter Try.func9, Try.ntmps9
              go_upto_region 7 with (first | ((with_reducible refine gate_callee (f := 21) rfl ?_); refine goesL_ (some 20) rfl rfl Try.func21 (by kernel_rfl) rfl #[] rfl (by (try simp only [List.map_toArray, List.map_cons, List.map_nil]); first | done | rfl | (simp only [List.length_drop, List.length_take]; rfl)) ?_; (with_reducible refine (vivariumlaw08_alive.calls k  t331 _ A5.out).mono ?_); rintro e w17 ⟨rfl, hb⟩; refine ⟨_, rfl, ?_⟩; have n0_ := Aside0.mk (below_step (by repeat (first | (with_reducible first | exact HB.out | apply below_alloc | apply pw_below_drewN | apply below_drew1) | exact HB.out)) hb); clear HB; have HB := n0_; clear n0_; (try clear hb); (try clear hb2); (try clear hk); (try clear hi)) | ((with_reducible refine gate_callee (f := 28) rfl ?_); refine goesL_ (some 24) rfl rfl Try.func28 (by kernel_rfl) rfl #[.int .u8 a0, .int .u16 a1, .int .u16 a2] rfl (by (try simp only [List.map_toArray, List.map_cons, List.map_nil]); first | done | rfl | (simp only [List.length_drop, List.length_take]; rfl)) ?_; (with_reducible refine (vivariumlaw08_made.calls a0 a1 a2 t332 t333 t334 _ A6.out).mono ?_); rintro e w18 ⟨rfl, hb⟩; refine ⟨_, rfl, ?_⟩; have n0_ := Aside0.mk (below_step (by repeat (first | (with_reducible first | exact HB.out | apply below_alloc | apply pw_below_drewN | apply below_drew1) | exact HB.out)) hb); clear HB; have HB := n0_; clear n0_; (try clear hb); (try clear hb2); (try clear hk); (try clear hi)) | ((with_reducible refine gate_dst (N := 10) rfl ?_); (try (refine gate_guard (by rfl) ?_; dsimp only)); refine box_event ?hg (N := 10) ?hd (cs := #[.int .u8 0, .int .u16 0, .int .u16 0]) (t := 37) ?hr ?_; (case hd => rfl); (case hg => rfl); (case hr => first | (go_simp; done) | (go_simp; rfl)); intro gb335 hg w19 hbox hb; have n0_ := Aside0.mk (below_step (by repeat (first | (with_reducible first | exact HB.out | apply below_alloc | apply pw_below_drewN | apply below_drew1) | exact HB.out)) hb); have n1_ := Aside0.mk (hbox); have n2_ := Aside0.mk ((by rw [hg]; exact (below_size (by repeat (first | (with_reducible first | exact HB.out | apply below_alloc | apply pw_below_drewN | apply below_drew1) | exact HB.out))) : w.heap.size ≤ gb335)); have n3_ := Aside0.mk ((by rw [hg]; exact (below_size (by repeat (first | (with_reducible first | exact HB.out | apply below_alloc | apply pw_below_drewN | apply below_drew1) | exact HB.out))) : w.heap.size ≤ gb335)); clear HB; have HB := n0_; have BK335 := n1_; have GW335 := n2_; have GE335 := n3_; clear n0_ n1_ n2_ n3_; clear hb hbox hg; have hcz20_0 : w19.cell? ⟨gb335, 0, none⟩ = some (.int .u8 0) := (blk_cell BK335.out 0).trans rfl; have hcz20_1 : w19.cell? ⟨gb335, 1, none⟩ = some (.int .u16 0) := (blk_cell BK335.out 1).trans rfl; have hcz20_2 : w19.cell? ⟨gb335, 2, none⟩ = some (.int .u16 0) := (blk_cell BK335.out 2).trans rfl; have hfz20_0 := blk_frozen BK335.out 0; have hfz20_1 := blk_frozen BK335.out 1; have hfz20_2 := blk_frozen BK335.out 2) | ((with_reducible refine gate_dst (N := 25) rfl ?_); (try (refine gate_guard (by rfl) ?_; dsimp only)); refine Kd.R_lit Kd.string _ 9 ?hg (N := 25) ?hd (xs := ([(⟨#[]⟩ : ByteArray), (⟨#[]⟩ : ByteArray), (⟨#[118]⟩ : ByteArray), (⟨#[72]⟩ : ByteArray)] : List ByteArray)) (inner := [.string (⟨#[]⟩ : ByteArray), .string (⟨#[]⟩ : ByteArray), .string (⟨#[118]⟩ : ByteArray), .string (⟨#[72]⟩ : ByteArray)]) (ok := fun _ => True) (okp := fun _ => True) ?hr ?hp (fun _ hk => hk) trivial (Below.refl _ _) (Nat.le_refl _) (by simp) ?_; (case hd => rfl); (case hg => rfl); (case hr => first | (go_simp; done) | (go_simp; rfl)); (case hp => exact (Reps.one (show Kd.M Kd.string _ _ _ (⟨#[]⟩ : ByteArray) [.string (⟨#[]⟩ : ByteArray)] from rfl) (Reps.one (show Kd.M Kd.string _ _ _ (⟨#[]⟩ : ByteArray) [.string (⟨#[]⟩ : ByteArray)] from rfl) (Reps.one (show Kd.M Kd.string _ _ _ (⟨#[118]⟩ : ByteArray) [.string (⟨#[118]⟩ : ByteArray)] from rfl) (Reps.one (show Kd.M Kd.string _ _ _ (⟨#[72]⟩ : ByteArray) [.string (⟨#[72]⟩ : ByteArray)] from rfl) (Reps.none _ _)))))); intro v337 w21 ho22 hb hg_ hnew_; clear hg_ hnew_; (first | rw [← Ny336.out] at ho22 | (simp only [Int.reduceToNat] at ho22; rw [← Ny336.out] at ho22)); have n0_ := Aside0.mk (Kd.R_lower ho22 (below_size (by repeat (first | (with_reducible first | exact HB.out | apply below_alloc | apply pw_below_drewN | apply below_drew1 | refine below_set ?_ GE335.out) | exact HB.out)))); have n1_ := Aside0.mk (blk_below (g := gb335) (o := .cells #[.int .u8 t332, .int .u16 t333, .int .u16 t334] 37 (0, 0)) (by (with_reducible repeat (first | refine blk_drewN ?_ _ | refine blk_drew ?_ | refine blk_alloc ?_ _)); refine blk_put (cs := #[.int .u8 t332, .int .u16 t333, .int .u16 0]) ?_ 2 _ rfl; (with_reducible repeat (first | refine blk_drewN ?_ _ | refine blk_drew ?_ | refine blk_alloc ?_ _)); refine blk_put (cs := #[.int .u8 t332, .int .u16 0, .int .u16 0]) ?_ 1 _ rfl; (with_reducible repeat (first | refine blk_drewN ?_ _ | refine blk_drew ?_ | refine blk_alloc ?_ _)); refine blk_put (cs := #[.int .u8 0, .int .u16 0, .int .u16 0]) ?_ 0 _ rfl; (with_reducible repeat (first | refine blk_drewN ?_ _ | refine blk_drew ?_ | refine blk_alloc ?_ _)); exact BK335.out) hb); have n2_ := Aside0.mk (below_step (by repeat (first | (with_reducible first | exact HB.out | apply below_alloc | apply pw_below_drewN | apply below_drew1 | refine below_set ?_ GE335.out) | exact HB.out)) hb); clear BK335; clear HB; have HO338 := n0_; have BK335 := n1_; have HB := n2_; clear n0_ n1_ n2_; clear hb ho22; have hcz23_0 : w21.cell? ⟨gb335, 0, none⟩ = some (.int .u8 t332) := (blk_cell BK335.out 0).trans rfl; have hcz23_1 : w21.cell? ⟨gb335, 1, none⟩ = some (.int .u16 t333) := (blk_cell BK335.out 1).trans rfl; have hcz23_2 : w21.cell? ⟨gb335, 2, none⟩ = some (.int .u16 t334) := (blk_cell BK335.out 2).trans rfl; have hfz23_0 := blk_frozen BK335.out 0; have hfz23_1 := blk_frozen BK335.out 1; have hfz23_2 := blk_frozen BK335.out 2; obtain ⟨Ao24, co24, eo24⟩ := Kd.R_slice HO338.out; subst eo24; have p339 : 0 ≤ (t332 : Int) := of_decide_eq_true (by first | (with_reducible assumption) | assumption); have q339 : t332 < (y336.length : Int) := of_decide_eq_true (by first | (with_reducible assumption) | assumption); obtain ⟨ad339, e339, hx339_0⟩ := Kd.at_string (Kd.R_reads' HO338.out).2.2 t332 p339 q339; cases e339; replace p339 := eq_true p339; replace q339 := eq_true q339) | ((with_reducible refine gate_callee (f := 29) rfl ?_); refine goesL_ (some 33) rfl rfl Try.func29 (by kernel_rfl) rfl #[.int .u16 t333, .int .u64 a3] rfl (by (try simp only [List.map_toArray, List.map_cons, List.map_nil]); first | done | rfl | (simp only [List.length_drop, List.length_take]; rfl)) ?_; (with_reducible refine (vivariumlaw08_shuffled.calls k t333 a3 t340 _ A9.out).mono ?_); rintro e w25 ⟨rfl, hb⟩; refine ⟨_, rfl, ?_⟩; have n0_ := Aside0.mk (Kd.R_below (by (with_reducible repeat (first | apply Kd.R_alloc | apply Kd.R_drewN | apply Kd.R_drew)); exact HO338.out) hb); have n1_ := Aside0.mk (blk_below (g := gb335) (o := .cells #[.int .u8 t332, .int .u16 t333, .int .u16 t334] 37 (0, 0)) (by (with_reducible repeat (first | refine blk_drewN ?_ _ | refine blk_drew ?_ | refine blk_alloc ?_ _)); exact BK335.out) hb); have n2_ := Aside0.mk (below_step (by repeat (first | (with_reducible first | exact HB.out | apply below_alloc | apply pw_below_drewN | apply below_drew1 | refine below_set ?_ GE335.out) | exact HB.out)) hb); clear HO338; clear BK335; clear HB; have HO338 := n0_; have BK335 := n1_; have HB := n2_; clear n0_ n1_ n2_; (try clear hb); (try clear hb2); (try clear hk); (try clear hi); have hcz26_0 : w25.cell? ⟨gb335, 0, none⟩ = some (.int .u8 t332) := (blk_cell BK335.out 0).trans rfl; have hcz26_1 : w25.cell? ⟨gb335, 1, none⟩ = some (.int .u16 t333) := (blk_cell BK335.out 1).trans rfl; have hcz26_2 : w25.cell? ⟨gb335, 2, none⟩ = some (.int .u16 t334) := (blk_cell BK335.out 2).trans rfl; have hfz26_0 := blk_frozen BK335.out 0; have hfz26_1 := blk_frozen BK335.out 1; have hfz26_2 := blk_frozen BK335.out 2) | ((with_reducible refine gate_callee (f := 29) rfl ?_); refine goesL_ (some 38) rfl rfl Try.func29 (by kernel_rfl) rfl #[.int .u16 t334, .int .u64 (IntKind.u64.wrap (Int.tdiv a3 7))] rfl (by (try simp only [List.map_toArray, List.map_cons, List.map_nil]); first | done | rfl | (simp only [List.length_drop, List.length_take]; rfl)) ?_; (with_reducible refine (vivariumlaw08_shuffled.calls k t334 (IntKind.u64.wrap (Int.tdiv a3 7)) t341 _ A10.out).mono ?_); rintro e w27 ⟨rfl, hb⟩; refine ⟨_, rfl, ?_⟩; have n0_ := Aside0.mk (Kd.R_below (by (with_reducible repeat (first | apply Kd.R_alloc | apply Kd.R_drewN | apply Kd.R_drew)); exact HO338.out) hb); have n1_ := Aside0.mk (blk_below (g := gb335) (o := .cells #[.int .u8 t332, .int .u16 t333, .int .u16 t334] 37 (0, 0)) (by (with_reducible repeat (first | refine blk_drewN ?_ _ | refine blk_drew ?_ | refine blk_alloc ?_ _)); exact BK335.out) hb); have n2_ := Aside0.mk (below_step (by repeat (first | (with_reducible first | exact HB.out | apply below_alloc | apply pw_below_drewN | apply below_drew1 | refine below_set ?_ GE335.out) | exact HB.out)) hb); clear HO338; clear BK335; clear HB; have HO338 := n0_; have BK335 := n1_; have HB := n2_; clear n0_ n1_ n2_; (try clear hb); (try clear hb2); (try clear hk); (try clear hi)) | ((with_reducible refine gate_callee (f := 22) rfl ?_); refine goesL_ (some 47) rfl rfl Try.func22 (by kernel_rfl) rfl #[.string (((((⟨#[98]⟩ : ByteArray) ++ t340) ++ (⟨#[47, 83]⟩ : ByteArray)) ++ t341) ++ (rdOf ByteArray.empty y336 t332))] rfl (by (try simp only [List.map_toArray, List.map_cons, List.map_nil]); first | done | rfl | (simp only [List.length_drop, List.length_take]; rfl)) ?_; (with_reducible refine (life_Parse.calls (((((⟨#[98]⟩ : ByteArray) ++ t340) ++ (⟨#[47, 83]⟩ : ByteArray)) ++ t341) ++ (rdOf ByteArray.empty y336 t332)) t342 t343 t344 t345 t346 _ A15.out).mono ?_); rintro e w28 ⟨rfl, hb⟩; refine ⟨_, rfl, ?_⟩; have n0_ := Aside0.mk (Kd.R_below (by (with_reducible repeat (first | apply Kd.R_alloc | apply Kd.R_drewN | apply Kd.R_drew)); exact HO338.out) hb); have n1_ := Aside0.mk (blk_below (g := gb335) (o := .cells #[.int .u8 t332, .int .u16 t333, .int .u16 t334] 37 (0, 0)) (by (with_reducible repeat (first | refine blk_drewN ?_ _ | refine blk_drew ?_ | refine blk_alloc ?_ _)); exact BK335.out) hb); have n2_ := Aside0.mk (below_step (by repeat (first | (with_reducible first | exact HB.out | apply below_alloc | apply pw_below_drewN | apply below_drew1 | refine below_set ?_ GE335.out) | exact HB.out)) hb); clear HO338; clear BK335; clear HB; have HO338 := n0_; have BK335 := n1_; have HB := n2_; clear n0_ n1_ n2_; (try clear hb); (try clear hb2); (try clear hk); (try clear hi)) | ((with_reducible refine gate_dst (N := 14) rfl ?_); (try (refine gate_guard (by rfl) ?_; dsimp only)); refine box_event ?hg (N := 14) ?hd (cs := #[.int .u8 0, .int .u16 0, .int .u16 0]) (t := 37) ?hr ?_; (case hd => rfl); (case hg => rfl); (case hr => first | (go_simp; done) | (go_simp; rfl)); intro gb347 hg w29 hbox hb; have n0_ := Aside0.mk (Kd.R_below (by (with_reducible repeat (first | apply Kd.R_alloc | apply Kd.R_drewN | apply Kd.R_drew)); exact HO338.out) hb); have n1_ := Aside0.mk (blk_below (g := gb335) (o := .cells #[.int .u8 t332, .int .u16 t333, .int .u16 t334] 37 (0, 0)) (by (with_reducible repeat (first | refine blk_drewN ?_ _ | refine blk_drew ?_ | refine blk_alloc ?_ _)); exact BK335.out) hb); have n2_ := Aside0.mk (below_step (by repeat (first | (with_reducible first | exact HB.out | apply below_alloc | apply pw_below_drewN | apply below_drew1 | refine below_set ?_ GE335.out) | exact HB.out)) hb); have n3_ := Aside0.mk (hbox); have n4_ := Aside0.mk ((by rw [hg]; exact (below_size (by repeat (first | (with_reducible first | exact HB.out | apply below_alloc | apply pw_below_drewN | apply below_drew1 | refine below_set ?_ GE335.out) | exact HB.out))) : w.heap.size ≤ gb347)); have n5_ := Aside0.mk ((by rw [hg]; exact (below_size (by repeat (first | (with_reducible first | exact HB.out | apply below_alloc | apply pw_below_drewN | apply below_drew1 | refine below_set ?_ GE335.out) | exact HB.out))) : w.heap.size ≤ gb347)); have n6_ := Aside0.mk ((by rw [hg]; exact Nat.ne_of_lt (blk_lt (g := gb335) (o := .cells #[.int .u8 t332, .int .u16 t333, .int .u16 t334] 37 (0, 0)) (by (with_reducible repeat (first | refine blk_drewN ?_ _ | refine blk_drew ?_ | refine blk_alloc ?_ _)); exact BK335.out)) : gb335 ≠ gb347)); have n7_ := Aside0.mk ((by rw [hg]; exact Nat.ne_of_gt (blk_lt (g := gb335) (o := .cells #[.int .u8 t332, .int .u16 t333, .int .u16 t334] 37 (0, 0)) (by (with_reducible repeat (first | refine blk_drewN ?_ _ | refine blk_drew ?_ | refine blk_alloc ?_ _)); exact BK335.out)) : gb347 ≠ gb335)); clear HO338; clear BK335; clear HB; have HO338 := n0_; have BK335 := n1_; have HB := n2_; have BK347 := n3_; have GW347 := n4_; have GE347 := n5_; have NB335_347 := n6_; have NB347_335 := n7_; clear n0_ n1_ n2_ n3_ n4_ n5_ n6_ n7_; clear hb hbox hg; have hnb30 := NB347_335.out; have hnc30 := NB335_347.out; have hcz31_0 : w29.cell? ⟨gb347, 0, none⟩ = some (.int .u8 0) := (blk_cell BK347.out 0).trans rfl; have hcz31_1 : w29.cell? ⟨gb347, 1, none⟩ = some (.int .u16 0) := (blk_cell BK347.out 1).trans rfl; have hcz31_2 : w29.cell? ⟨gb347, 2, none⟩ = some (.int .u16 0) := (blk_cell BK347.out 2).trans rfl; have hfz31_0 := blk_frozen BK347.out 0; have hfz31_1 := blk_frozen BK347.out 1; have hfz31_2 := blk_frozen BK347.out 2))
              (try simp only [Act.put, List.setIfInBounds_toArray, List.set_cons_zero, List.set_cons_succ])
              go_cut [65] (fun v65 wc => ∃ (kq : Nat) (x65_15 : Bool), v65 = .bool x65_15 ∧ Aside0 (vivariumlaw08_LifeSpells.j0 kq (rdOf ByteArray.empty y336 t332) t340 t341 x65_15 = some r) ∧ Aside0 (kq ≤ k) ∧ Aside0 (wc.heap[gb335]? = some (.cells #[.int .u8 t332, .int .u16 t333, .int .u16 t334] 37 (0, 0))) ∧ Aside0 (wc.heap[gb347]? = some (.cells #[.int .u8 t342, .int .u16 t343, .int .u16 t344] 37 (0, 0))) ∧ Aside0 (Below w.heap.size w wc))
              case first =>
                have H := HC16.out
                clear HC16
                by_cases c32 : t331 = true
                · subst c32
                  have H1 : (if t346 = 0 then (if t345 = 0 then (vivariumlaw08_LifeSpells.j0 k (rdOf ByteArray.empty y336 t332) t340 t341 (!(t342 == t332) || (!(t343 == t333) || (!(t344 == t334))))) else (vivariumlaw08_LifeSpells.j0 k (rdOf ByteArray.empty y336 t332) t340 t341 true)) else (vivariumlaw08_LifeSpells.j0 k (rdOf ByteArray.empty y336 t332) t340 t341 true)) = some r := by rw [if_pos rfl] at H; exact H
                  clear H
                  have H := H1
                  clear H1
                  by_cases c33 : t346 = 0
                  · rw [if_pos c33] at H
                    have c33b0 : (t346 == 0) = true := beq_iff_eq.mpr c33
                    have c33b1 : (t346 != 0) = false := bne_eq_false_iff_eq.mpr c33
                    clear c33
                    (first | rw [c33b0] | (simp only [i64_w, i32_w]; rw [c33b0]) | skip)
                    by_cases c34 : t345 = 0
                    · rw [if_pos c34] at H
                      have c34b0 : (t345 == 0) = true := beq_iff_eq.mpr c34
                      have c34b1 : (t345 != 0) = false := bne_eq_false_iff_eq.mpr c34
                      clear c34
                      have H' := Aside0.mk H
                      clear H
                      have hnb35 := NB347_335.out
                      have hnc35 := NB335_347.out
                      have hcz36_0 : w29.cell? ⟨gb347, 0, none⟩ = some (.int .u8 0) := (blk_cell BK347.out 0).trans rfl
                      have hcz36_1 : w29.cell? ⟨gb347, 1, none⟩ = some (.int .u16 0) := (blk_cell BK347.out 1).trans rfl
                      have hcz36_2 : w29.cell? ⟨gb347, 2, none⟩ = some (.int .u16 0) := (blk_cell BK347.out 2).trans rfl
                      have hfz36_0 := blk_frozen BK347.out 0
                      have hfz36_1 := blk_frozen BK347.out 1
                      have hfz36_2 := blk_frozen BK347.out 2
                      have hcz37_0 : w29.cell? ⟨gb335, 0, none⟩ = some (.int .u8 t332) := (blk_cell BK335.out 0).trans rfl
                      have hcz37_1 : w29.cell? ⟨gb335, 1, none⟩ = some (.int .u16 t333) := (blk_cell BK335.out 1).trans rfl
                      have hcz37_2 : w29.cell? ⟨gb335, 2, none⟩ = some (.int .u16 t334) := (blk_cell BK335.out 2).trans rfl
                      have hfz37_0 := blk_frozen BK335.out 0
                      have hfz37_1 := blk_frozen BK335.out 1
                      have hfz37_2 := blk_frozen BK335.out 2
                      go_wp2
                      go_meet
                      case rel => exact ⟨_, ((!(t342 == t332) || (!(t343 == t333) || (!(t344 == t334))))), (by first | rfl | (simp; done) | (simp [*]; done)), H', ⟨by first | omega | exact Nat.le_refl _⟩, ⟨by (with_reducible repeat (first | refine blk_drewN ?_ _ | refine blk_drew ?_ | refine blk_alloc ?_ _)); refine blk_far ?_ NB335_347.out _; (with_reducible repeat (first | refine blk_drewN ?_ _ | refine blk_drew ?_ | refine blk_alloc ?_ _)); refine blk_far ?_ NB335_347.out _; (with_reducible repeat (first | refine blk_drewN ?_ _ | refine blk_drew ?_ | refine blk_alloc ?_ _)); refine blk_far ?_ NB335_347.out _; (with_reducible repeat (first | refine blk_drewN ?_ _ | refine blk_drew ?_ | refine blk_alloc ?_ _)); exact BK335.out⟩, ⟨by (with_reducible repeat (first | refine blk_drewN ?_ _ | refine blk_drew ?_ | refine blk_alloc ?_ _)); refine blk_put (cs := #[.int .u8 t342, .int .u16 t343, .int .u16 0]) ?_ 2 _ rfl; (with_reducible repeat (first | refine blk_drewN ?_ _ | refine blk_drew ?_ | refine blk_alloc ?_ _)); refine blk_put (cs := #[.int .u8 t342, .int .u16 0, .int .u16 0]) ?_ 1 _ rfl; (with_reducible repeat (first | refine blk_drewN ?_ _ | refine blk_drew ?_ | refine blk_alloc ?_ _)); refine blk_put (cs := #[.int .u8 0, .int .u16 0, .int .u16 0]) ?_ 0 _ rfl; (with_reducible repeat (first | refine blk_drewN ?_ _ | refine blk_drew ?_ | refine blk_alloc ?_ _)); exact BK347.out⟩, ⟨by repeat (first | (with_reducible first | exact HB.out | apply below_alloc | apply pw_below_drewN | apply below_drew1 | refine below_set ?_ GE335.out | refine below_set ?_ GE347.out) | exact HB.out)⟩⟩
                    · rw [if_neg c34] at H
                      have c34b0 : (t345 == 0) = false := beq_eq_false_iff_ne.mpr c34
                      have c34b1 : (t345 != 0) = true := bne_iff_ne.mpr c34
                      have H' := Aside0.mk H
                      clear H
                      go_wp2
                      go_meet
                      case rel => exact ⟨_, (true), (by first | rfl | (simp; done) | (simp [*]; done)), H', ⟨by first | omega | exact Nat.le_refl _⟩, ⟨by (with_reducible repeat (first | refine blk_drewN ?_ _ | refine blk_drew ?_ | refine blk_alloc ?_ _)); refine blk_far ?_ NB335_347.out _; (with_reducible repeat (first | refine blk_drewN ?_ _ | refine blk_drew ?_ | refine blk_alloc ?_ _)); refine blk_far ?_ NB335_347.out _; (with_reducible repeat (first | refine blk_drewN ?_ _ | refine blk_drew ?_ | refine blk_alloc ?_ _)); refine blk_far ?_ NB335_347.out _; (with_reducible repeat (first | refine blk_drewN ?_ _ | refine blk_drew ?_ | refine blk_alloc ?_ _)); exact BK335.out⟩, ⟨by (with_reducible repeat (first | refine blk_drewN ?_ _ | refine blk_drew ?_ | refine blk_alloc ?_ _)); refine blk_put (cs := #[.int .u8 t342, .int .u16 t343, .int .u16 0]) ?_ 2 _ rfl; (with_reducible repeat (first | refine blk_drewN ?_ _ | refine blk_drew ?_ | refine blk_alloc ?_ _)); refine blk_put (cs := #[.int .u8 t342, .int .u16 0, .int .u16 0]) ?_ 1 _ rfl; (with_reducible repeat (first | refine blk_drewN ?_ _ | refine blk_drew ?_ | refine blk_alloc ?_ _)); refine blk_put (cs := #[.int .u8 0, .int .u16 0, .int .u16 0]) ?_ 0 _ rfl; (with_reducible repeat (first | refine blk_drewN ?_ _ | refine blk_drew ?_ | refine blk_alloc ?_ _)); exact BK347.out⟩, ⟨by repeat (first | (with_reducible first | exact HB.out | apply below_alloc | apply pw_below_drewN | apply below_drew1 | refine below_set ?_ GE335.out | refine below_set ?_ GE347.out) | exact HB.out)⟩⟩
                  · rw [if_neg c33] at H
                    have c33b0 : (t346 == 0) = false := beq_eq_false_iff_ne.mpr c33
                    have c33b1 : (t346 != 0) = true := bne_iff_ne.mpr c33
                    (first | rw [c33b0] | (simp only [i64_w, i32_w]; rw [c33b0]) | skip)
                    have H' := Aside0.mk H
                    clear H
                    go_wp2
                    go_meet
                    case rel => exact ⟨_, (true), (by first | rfl | (simp; done) | (simp [*]; done)), H', ⟨by first | omega | exact Nat.le_refl _⟩, ⟨by (with_reducible repeat (first | refine blk_drewN ?_ _ | refine blk_drew ?_ | refine blk_alloc ?_ _)); refine blk_far ?_ NB335_347.out _; (with_reducible repeat (first | refine blk_drewN ?_ _ | refine blk_drew ?_ | refine blk_alloc ?_ _)); refine blk_far ?_ NB335_347.out _; (with_reducible repeat (first | refine blk_drewN ?_ _ | refine blk_drew ?_ | refine blk_alloc ?_ _)); refine blk_far ?_ NB335_347.out _; (with_reducible repeat (first | refine blk_drewN ?_ _ | refine blk_drew ?_ | refine blk_alloc ?_ _)); exact BK335.out⟩, ⟨by (with_reducible repeat (first | refine blk_drewN ?_ _ | refine blk_drew ?_ | refine blk_alloc ?_ _)); refine blk_put (cs := #[.int .u8 t342, .int .u16 t343, .int .u16 0]) ?_ 2 _ rfl; (with_reducible repeat (first | refine blk_drewN ?_ _ | refine blk_drew ?_ | refine blk_alloc ?_ _)); refine blk_put (cs := #[.int .u8 t342, .int .u16 0, .int .u16 0]) ?_ 1 _ rfl; (with_reducible repeat (first | refine blk_drewN ?_ _ | refine blk_drew ?_ | refine blk_alloc ?_ _)); refine blk_put (cs := #[.int .u8 0, .int .u16 0, .int .u16 0]) ?_ 0 _ rfl; (with_reducible repeat (first | refine blk_drewN ?_ _ | refine blk_drew ?_ | refine blk_alloc ?_ _)); exact BK347.out⟩, ⟨by repeat (first | (with_reducible first | exact HB.out | apply below_alloc | apply pw_below_drewN | apply below_drew1 | refine below_set ?_ GE335.out | refine below_set ?_ GE347.out) | exact HB.out)⟩⟩
                · replace c32 := Bool.eq_false_iff.mpr c32
                  subst c32
                  have H1 : (vivariumlaw08_LifeSpells.j0 k (rdOf ByteArray.empty y336 t332) t340 t341 true) = some r := by rw [if_neg (show ¬ (false = true) by decide)] at H; exact H
                  clear H
                  have H := H1
                  clear H1
                  have H' := Aside0.mk H
                  clear H
                  go_wp2
                  go_meet
                  case rel => exact ⟨_, (true), (by first | rfl | (simp; done) | (simp [*]; done)), H', ⟨by first | omega | exact Nat.le_refl _⟩, ⟨by (with_reducible repeat (first | refine blk_drewN ?_ _ | refine blk_drew ?_ | refine blk_alloc ?_ _)); refine blk_far ?_ NB335_347.out _; (with_reducible repeat (first | refine blk_drewN ?_ _ | refine blk_drew ?_ | refine blk_alloc ?_ _)); refine blk_far ?_ NB335_347.out _; (with_reducible repeat (first | refine blk_drewN ?_ _ | refine blk_drew ?_ | refine blk_alloc ?_ _)); refine blk_far ?_ NB335_347.out _; (with_reducible repeat (first | refine blk_drewN ?_ _ | refine blk_drew ?_ | refine blk_alloc ?_ _)); exact BK335.out⟩, ⟨by (with_reducible repeat (first | refine blk_drewN ?_ _ | refine blk_drew ?_ | refine blk_alloc ?_ _)); refine blk_put (cs := #[.int .u8 t342, .int .u16 t343, .int .u16 0]) ?_ 2 _ rfl; (with_reducible repeat (first | refine blk_drewN ?_ _ | refine blk_drew ?_ | refine blk_alloc ?_ _)); refine blk_put (cs := #[.int .u8 t342, .int .u16 0, .int .u16 0]) ?_ 1 _ rfl; (with_reducible repeat (first | refine blk_drewN ?_ _ | refine blk_drew ?_ | refine blk_alloc ?_ _)); refine blk_put (cs := #[.int .u8 0, .int .u16 0, .int .u16 0]) ?_ 0 _ rfl; (with_reducible repeat (first | refine blk_drewN ?_ _ | refine blk_drew ?_ | refine blk_alloc ?_ _)); exact BK347.out⟩, ⟨by repeat (first | (with_reducible first | exact HB.out | apply below_alloc | apply pw_below_drewN | apply below_drew1 | refine below_set ?_ GE335.out | refine below_set ?_ GE347.out) | exact HB.out)⟩⟩
              case rest =>
                clear HC16
                try clear c1
                try clear c2
                try clear p2
                try clear c3
                try clear p3
                try clear q3
                try clear hx3
                try clear c7
                try clear c7b0
                try clear c8
                try clear c8b0
                try clear c9
                try clear c11
                try clear c11b0
                try clear c11b1
                try clear c11b2
                try clear c12
                try clear c12b0
                try clear c12b1
                try clear c12b2
                try clear c13
                try clear c13b0
                try clear c13b1
                try clear c13b2
                try clear c14
                try clear c14b0
                try clear c14b1
                try clear c14b2
                try clear c21
                try clear c22
                try clear c28
                try clear c29
                try clear c30
                try clear c32
                try clear c33
                try clear c33b0
                try clear c33b1
                try clear p33
                try clear q33
                try clear hx33
                try clear c34
                try clear c34b0
                try clear c34b1
                try clear c35
                try clear hcz20_0
                try clear hcz20_1
                try clear hcz20_2
                try clear hcz23_0
                try clear hcz23_1
                try clear hcz23_2
                try clear hcz26_0
                try clear hcz26_1
                try clear hcz26_2
                try clear hcz31_0
                try clear hcz31_1
                try clear hcz31_2
                try clear hcz36_0
                try clear hcz36_1
                try clear hcz36_2
                try clear hcz37_0
                try clear hcz37_1
                try clear hcz37_2
                try clear hfz20_0
                try clear hfz20_1
                try clear hfz20_2
                try clear hfz23_0
                try clear hfz23_1
                try clear hfz23_2
                try clear hfz26_0
                try clear hfz26_1
                try clear hfz26_2
                try clear hfz31_0
                try clear hfz31_1
                try clear hfz31_2
                try clear hfz36_0
                try clear hfz36_1
                try clear hfz36_2
                try clear hfz37_0
                try clear hfz37_1
                try clear hfz37_2
                try clear hx339_0
                try clear p339
                try clear q339
                obtain ⟨kq, x65_15, rfl, HA, HJ15, BK335, BK347, HB⟩ := hcut
                cases kq with
                | zero => exact absurd HA.out (by simp [vivariumlaw08_LifeSpells.j0])
                | succ kj15 =>
                  have H := HA.out
                  clear HA
                  simp only [vivariumlaw08_LifeSpells.j0] at H
                  by_cases c38 : x65_15 = true
                  · subst c38
                    have H1 : (some false) = some r := by rw [if_pos rfl] at H; exact H
                    clear H
                    have H := H1
                    clear H1
                    obtain rfl := Option.some.inj H
                    go_wp2
                    go_ret
                    exact ⟨by first | rfl | (simp [errW_none, errW_some] <;> rfl) | (simp [*, errW_none, errW_some] <;> rfl), by repeat (first | (with_reducible first | exact HB.out | apply below_alloc | apply pw_below_drewN | apply below_drew1 | refine below_set ?_ GE335.out | refine below_set ?_ GE347.out) | exact HB.out)⟩
                  · replace c38 := Bool.eq_false_iff.mpr c38
                    subst c38
                    have H1 : (if t340.toList = ([] : List UInt8) then (some true) else (if 1 + t340.size ≤ 9223372036854775807 then (if 0 ≤ 1 then (if 1 ≤ (t340.size : Int) then (if 1 + t340.size + (t340.extract 0 1).size ≤ 9223372036854775807 then (if 1 + t340.size + (t340.extract 0 1).size + 2 ≤ 9223372036854775807 then (if 1 + t340.size + (t340.extract 0 1).size + 2 + t341.size ≤ 9223372036854775807 then (if 1 + t340.size + (t340.extract 0 1).size + 2 + t341.size + (rdOf ByteArray.empty y336 t332).size ≤ 9223372036854775807 then ((life_Parse.f ((((((⟨#[66]⟩ : ByteArray) ++ t340) ++ (t340.extract 0 1)) ++ (⟨#[47, 83]⟩ : ByteArray)) ++ t341) ++ (rdOf ByteArray.empty y336 t332))).bind fun bt348 => (if bt348.2.2.2.2 = 81 then (some (bt348.2.2.2.1 == (wrap64 (1 + (t340.size : Int))))) else (some false))) else (none)) else (none)) else (none)) else (none)) else (none)) else (none)) else (none))) = some r := by rw [if_neg (show ¬ (false = true) by decide)] at H; exact H
                    clear H
                    have H := H1
                    clear H1
                    by_cases c39 : t340.toList = ([] : List UInt8)
                    · rw [if_pos c39] at H
                      have c39b0 : (t340.toList == ([] : List UInt8)) = true := beq_iff_eq.mpr c39
                      have c39b1 : (t340.toList != ([] : List UInt8)) = false := bne_eq_false_iff_eq.mpr c39
                      clear c39
                      obtain rfl := Option.some.inj H
                      go_wp2
                      go_ret
                      exact ⟨by first | rfl | (simp [errW_none, errW_some] <;> rfl) | (simp [*, errW_none, errW_some] <;> rfl), by repeat (first | (with_reducible first | exact HB.out | apply below_alloc | apply pw_below_drewN | apply below_drew1 | refine below_set ?_ GE335.out | refine below_set ?_ GE347.out) | exact HB.out)⟩
                    · rw [if_neg c39] at H
                      have c39b0 : (t340.toList == ([] : List UInt8)) = false := beq_eq_false_iff_ne.mpr c39
                      have c39b1 : (t340.toList != ([] : List UInt8)) = true := bne_iff_ne.mpr c39
                      by_cases c40 : 1 + t340.size ≤ 9223372036854775807
                      · rw [if_pos c40] at H
                        have c40b0 := eq_true c40
                        have c40b1 : decide (1 + t340.size ≤ 9223372036854775807) = true := decide_eq_true c40
                        try have c40b2 : (9223372036854775807 < 1 + t340.size) = False := eq_false (Nat.not_lt.2 c40)
                        by_cases c41 : 0 ≤ 1
                        · rw [if_pos c41] at H
                          have c41b0 := eq_true c41
                          have c41b1 : decide (0 ≤ 1) = true := decide_eq_true c41
                          clear c41
                          by_cases c42 : 1 ≤ (t340.size : Int)
                          · rw [if_pos c42] at H
                            have c42b0 := eq_true c42
                            have c42b1 : decide (1 ≤ (t340.size : Int)) = true := decide_eq_true c42
                            clear c42
                            by_cases c43 : 1 + t340.size + (t340.extract 0 1).size ≤ 9223372036854775807
                            · rw [if_pos c43] at H
                              have c43b0 := eq_true c43
                              have c43b1 : decide (1 + t340.size + (t340.extract 0 1).size ≤ 9223372036854775807) = true := decide_eq_true c43
                              try have c43b2 : (9223372036854775807 < 1 + t340.size + (t340.extract 0 1).size) = False := eq_false (Nat.not_lt.2 c43)
                              have c43e2 : (9223372036854775807 < 1 + t340.size + (min 1 t340.size)) = False := eq_false (by have hh := c43; simp only [ByteArray.size_extract, Nat.sub_zero] at hh; omega)
                              by_cases c44 : 1 + t340.size + (t340.extract 0 1).size + 2 ≤ 9223372036854775807
                              · rw [if_pos c44] at H
                                have c44b0 := eq_true c44
                                have c44b1 : decide (1 + t340.size + (t340.extract 0 1).size + 2 ≤ 9223372036854775807) = true := decide_eq_true c44
                                try have c44b2 : (9223372036854775807 < 1 + t340.size + (t340.extract 0 1).size + 2) = False := eq_false (Nat.not_lt.2 c44)
                                have c44e2 : (9223372036854775807 < 1 + t340.size + (min 1 t340.size) + 2) = False := eq_false (by have hh := c44; simp only [ByteArray.size_extract, Nat.sub_zero] at hh; omega)
                                by_cases c45 : 1 + t340.size + (t340.extract 0 1).size + 2 + t341.size ≤ 9223372036854775807
                                · rw [if_pos c45] at H
                                  have c45b0 := eq_true c45
                                  have c45b1 : decide (1 + t340.size + (t340.extract 0 1).size + 2 + t341.size ≤ 9223372036854775807) = true := decide_eq_true c45
                                  try have c45b2 : (9223372036854775807 < 1 + t340.size + (t340.extract 0 1).size + 2 + t341.size) = False := eq_false (Nat.not_lt.2 c45)
                                  have c45e2 : (9223372036854775807 < 1 + t340.size + (min 1 t340.size) + 2 + t341.size) = False := eq_false (by have hh := c45; simp only [ByteArray.size_extract, Nat.sub_zero] at hh; omega)
                                  by_cases c46 : 1 + t340.size + (t340.extract 0 1).size + 2 + t341.size + (rdOf ByteArray.empty y336 t332).size ≤ 9223372036854775807
                                  · rw [if_pos c46] at H
                                    have c46b0 := eq_true c46
                                    have c46b1 : decide (1 + t340.size + (t340.extract 0 1).size + 2 + t341.size + (rdOf ByteArray.empty y336 t332).size ≤ 9223372036854775807) = true := decide_eq_true c46
                                    try have c46b2 : (9223372036854775807 < 1 + t340.size + (t340.extract 0 1).size + 2 + t341.size + (rdOf ByteArray.empty y336 t332).size) = False := eq_false (Nat.not_lt.2 c46)
                                    have c46e2 : (9223372036854775807 < 1 + t340.size + (min 1 t340.size) + 2 + t341.size + (rdOf ByteArray.empty y336 t332).size) = False := eq_false (by have hh := c46; simp only [ByteArray.size_extract, Nat.sub_zero] at hh; omega)
                                    replace H := Option.bind_eq_some_iff.mp H
                                    obtain ⟨⟨t348, t349, t350, t351, t352⟩, A470, H⟩ := H
                                    replace H : (if t352 = 81 then (some (t351 == (wrap64 (1 + (t340.size : Int))))) else (some false)) = some r := H
                                    have A47 := Aside0.mk A470
                                    clear A470
                                    by_cases c48 : t352 = 81
                                    · rw [if_pos c48] at H
                                      have c48b0 : (t352 == 81) = true := beq_iff_eq.mpr c48
                                      have c48b1 : (t352 != 81) = false := bne_eq_false_iff_eq.mpr c48
                                      clear c48
                                      obtain rfl := Option.some.inj H
                                      go_wp2_with (first | ((with_reducible refine gate_callee (f := 22) rfl ?_); refine goesL_ (some 79) rfl rfl Try.func22 (by kernel_rfl) rfl #[.string ((((((⟨#[66]⟩ : ByteArray) ++ t340) ++ (t340.extract 0 1)) ++ (⟨#[47, 83]⟩ : ByteArray)) ++ t341) ++ (rdOf ByteArray.empty y336 t332))] rfl (by (try simp only [List.map_toArray, List.map_cons, List.map_nil]); first | done | rfl | (simp only [List.length_drop, List.length_take]; rfl)) ?_; (with_reducible refine (life_Parse.calls ((((((⟨#[66]⟩ : ByteArray) ++ t340) ++ (t340.extract 0 1)) ++ (⟨#[47, 83]⟩ : ByteArray)) ++ t341) ++ (rdOf ByteArray.empty y336 t332)) t348 t349 t350 t351 t352 _ A47.out).mono ?_); rintro e w49 ⟨rfl, hb⟩; refine ⟨_, rfl, ?_⟩; have n0_ := Aside0.mk (blk_below (g := gb335) (o := .cells #[.int .u8 t332, .int .u16 t333, .int .u16 t334] 37 (0, 0)) (by (with_reducible repeat (first | refine blk_drewN ?_ _ | refine blk_drew ?_ | refine blk_alloc ?_ _)); exact BK335.out) hb); have n1_ := Aside0.mk (blk_below (g := gb347) (o := .cells #[.int .u8 t342, .int .u16 t343, .int .u16 t344] 37 (0, 0)) (by (with_reducible repeat (first | refine blk_drewN ?_ _ | refine blk_drew ?_ | refine blk_alloc ?_ _)); exact BK347.out) hb); have n2_ := Aside0.mk (below_step (by repeat (first | (with_reducible first | exact HB.out | apply below_alloc | apply pw_below_drewN | apply below_drew1 | refine below_set ?_ GE335.out | refine below_set ?_ GE347.out) | exact HB.out)) hb); clear BK335; clear BK347; clear HB; have BK335 := n0_; have BK347 := n1_; have HB := n2_; clear n0_ n1_ n2_; (try clear hb); (try clear hb2); (try clear hk); (try clear hi)) | ((with_reducible refine gate_dst (N := 17) rfl ?_); (try (refine gate_guard (by rfl) ?_; dsimp only)); refine box_event ?hg (N := 17) ?hd (cs := #[.int .u8 0, .int .u16 0, .int .u16 0]) (t := 37) ?hr ?_; (case hd => rfl); (case hg => rfl); (case hr => first | (go_simp; done) | (go_simp; rfl)); intro gb353 hg w50 hbox hb; have n0_ := Aside0.mk (blk_below (g := gb335) (o := .cells #[.int .u8 t332, .int .u16 t333, .int .u16 t334] 37 (0, 0)) (by (with_reducible repeat (first | refine blk_drewN ?_ _ | refine blk_drew ?_ | refine blk_alloc ?_ _)); exact BK335.out) hb); have n1_ := Aside0.mk (blk_below (g := gb347) (o := .cells #[.int .u8 t342, .int .u16 t343, .int .u16 t344] 37 (0, 0)) (by (with_reducible repeat (first | refine blk_drewN ?_ _ | refine blk_drew ?_ | refine blk_alloc ?_ _)); exact BK347.out) hb); have n2_ := Aside0.mk (below_step (by repeat (first | (with_reducible first | exact HB.out | apply below_alloc | apply pw_below_drewN | apply below_drew1 | refine below_set ?_ GE335.out | refine below_set ?_ GE347.out) | exact HB.out)) hb); have n3_ := Aside0.mk (hbox); have n4_ := Aside0.mk ((by rw [hg]; exact (below_size (by repeat (first | (with_reducible first | exact HB.out | apply below_alloc | apply pw_below_drewN | apply below_drew1 | refine below_set ?_ GE335.out | refine below_set ?_ GE347.out) | exact HB.out))) : w.heap.size ≤ gb353)); have n5_ := Aside0.mk ((by rw [hg]; exact (below_size (by repeat (first | (with_reducible first | exact HB.out | apply below_alloc | apply pw_below_drewN | apply below_drew1 | refine below_set ?_ GE335.out | refine below_set ?_ GE347.out) | exact HB.out))) : w.heap.size ≤ gb353)); have n6_ := Aside0.mk ((by rw [hg]; exact Nat.ne_of_lt (blk_lt (g := gb335) (o := .cells #[.int .u8 t332, .int .u16 t333, .int .u16 t334] 37 (0, 0)) (by (with_reducible repeat (first | refine blk_drewN ?_ _ | refine blk_drew ?_ | refine blk_alloc ?_ _)); exact BK335.out)) : gb335 ≠ gb353)); have n7_ := Aside0.mk ((by rw [hg]; exact Nat.ne_of_gt (blk_lt (g := gb335) (o := .cells #[.int .u8 t332, .int .u16 t333, .int .u16 t334] 37 (0, 0)) (by (with_reducible repeat (first | refine blk_drewN ?_ _ | refine blk_drew ?_ | refine blk_alloc ?_ _)); exact BK335.out)) : gb353 ≠ gb335)); have n8_ := Aside0.mk ((by rw [hg]; exact Nat.ne_of_lt (blk_lt (g := gb347) (o := .cells #[.int .u8 t342, .int .u16 t343, .int .u16 t344] 37 (0, 0)) (by (with_reducible repeat (first | refine blk_drewN ?_ _ | refine blk_drew ?_ | refine blk_alloc ?_ _)); exact BK347.out)) : gb347 ≠ gb353)); have n9_ := Aside0.mk ((by rw [hg]; exact Nat.ne_of_gt (blk_lt (g := gb347) (o := .cells #[.int .u8 t342, .int .u16 t343, .int .u16 t344] 37 (0, 0)) (by (with_reducible repeat (first | refine blk_drewN ?_ _ | refine blk_drew ?_ | refine blk_alloc ?_ _)); exact BK347.out)) : gb353 ≠ gb347)); clear BK335; clear BK347; clear HB; have BK335 := n0_; have BK347 := n1_; have HB := n2_; have BK353 := n3_; have GW353 := n4_; have GE353 := n5_; have NB335_353 := n6_; have NB353_335 := n7_; have NB347_353 := n8_; have NB353_347 := n9_; clear n0_ n1_ n2_ n3_ n4_ n5_ n6_ n7_ n8_ n9_; clear hb hbox hg; have hnb51 := NB353_335.out; have hnc51 := NB335_353.out; have hnb52 := NB353_347.out; have hnc52 := NB347_353.out; have hcz53_0 : w50.cell? ⟨gb353, 0, none⟩ = some (.int .u8 0) := (blk_cell BK353.out 0).trans rfl; have hcz53_1 : w50.cell? ⟨gb353, 1, none⟩ = some (.int .u16 0) := (blk_cell BK353.out 1).trans rfl; have hcz53_2 : w50.cell? ⟨gb353, 2, none⟩ = some (.int .u16 0) := (blk_cell BK353.out 2).trans rfl; have hfz53_0 := blk_frozen BK353.out 0; have hfz53_1 := blk_frozen BK353.out 1; have hfz53_2 := blk_frozen BK353.out 2))
                                      go_ret
                                      exact ⟨by first | rfl | (rw [show wrap64 (1 + (t340.size : Int)) = (1 + (t340.size : Int)) from by unfold wrap64; omega]; rfl) | (simp [errW_none, errW_some] <;> rfl) | (simp [*, errW_none, errW_some] <;> rfl), by repeat (first | (with_reducible first | exact HB.out | apply below_alloc | apply pw_below_drewN | apply below_drew1 | refine below_set ?_ GE335.out | refine below_set ?_ GE347.out | refine below_set ?_ GE353.out) | exact HB.out)⟩
                                    · rw [if_neg c48] at H
                                      have c48b0 : (t352 == 81) = false := beq_eq_false_iff_ne.mpr c48
                                      have c48b1 : (t352 != 81) = true := bne_iff_ne.mpr c48
                                      obtain rfl := Option.some.inj H
                                      go_wp2_with (first | ((with_reducible refine gate_callee (f := 22) rfl ?_); refine goesL_ (some 79) rfl rfl Try.func22 (by kernel_rfl) rfl #[.string ((((((⟨#[66]⟩ : ByteArray) ++ t340) ++ (t340.extract 0 1)) ++ (⟨#[47, 83]⟩ : ByteArray)) ++ t341) ++ (rdOf ByteArray.empty y336 t332))] rfl (by (try simp only [List.map_toArray, List.map_cons, List.map_nil]); first | done | rfl | (simp only [List.length_drop, List.length_take]; rfl)) ?_; (with_reducible refine (life_Parse.calls ((((((⟨#[66]⟩ : ByteArray) ++ t340) ++ (t340.extract 0 1)) ++ (⟨#[47, 83]⟩ : ByteArray)) ++ t341) ++ (rdOf ByteArray.empty y336 t332)) t348 t349 t350 t351 t352 _ A47.out).mono ?_); rintro e w54 ⟨rfl, hb⟩; refine ⟨_, rfl, ?_⟩; have n0_ := Aside0.mk (blk_below (g := gb335) (o := .cells #[.int .u8 t332, .int .u16 t333, .int .u16 t334] 37 (0, 0)) (by (with_reducible repeat (first | refine blk_drewN ?_ _ | refine blk_drew ?_ | refine blk_alloc ?_ _)); exact BK335.out) hb); have n1_ := Aside0.mk (blk_below (g := gb347) (o := .cells #[.int .u8 t342, .int .u16 t343, .int .u16 t344] 37 (0, 0)) (by (with_reducible repeat (first | refine blk_drewN ?_ _ | refine blk_drew ?_ | refine blk_alloc ?_ _)); exact BK347.out) hb); have n2_ := Aside0.mk (below_step (by repeat (first | (with_reducible first | exact HB.out | apply below_alloc | apply pw_below_drewN | apply below_drew1 | refine below_set ?_ GE335.out | refine below_set ?_ GE347.out) | exact HB.out)) hb); clear BK335; clear BK347; clear HB; have BK335 := n0_; have BK347 := n1_; have HB := n2_; clear n0_ n1_ n2_; (try clear hb); (try clear hb2); (try clear hk); (try clear hi)) | ((with_reducible refine gate_dst (N := 17) rfl ?_); (try (refine gate_guard (by rfl) ?_; dsimp only)); refine box_event ?hg (N := 17) ?hd (cs := #[.int .u8 0, .int .u16 0, .int .u16 0]) (t := 37) ?hr ?_; (case hd => rfl); (case hg => rfl); (case hr => first | (go_simp; done) | (go_simp; rfl)); intro gb353 hg w55 hbox hb; have n0_ := Aside0.mk (blk_below (g := gb335) (o := .cells #[.int .u8 t332, .int .u16 t333, .int .u16 t334] 37 (0, 0)) (by (with_reducible repeat (first | refine blk_drewN ?_ _ | refine blk_drew ?_ | refine blk_alloc ?_ _)); exact BK335.out) hb); have n1_ := Aside0.mk (blk_below (g := gb347) (o := .cells #[.int .u8 t342, .int .u16 t343, .int .u16 t344] 37 (0, 0)) (by (with_reducible repeat (first | refine blk_drewN ?_ _ | refine blk_drew ?_ | refine blk_alloc ?_ _)); exact BK347.out) hb); have n2_ := Aside0.mk (below_step (by repeat (first | (with_reducible first | exact HB.out | apply below_alloc | apply pw_below_drewN | apply below_drew1 | refine below_set ?_ GE335.out | refine below_set ?_ GE347.out) | exact HB.out)) hb); have n3_ := Aside0.mk (hbox); have n4_ := Aside0.mk ((by rw [hg]; exact (below_size (by repeat (first | (with_reducible first | exact HB.out | apply below_alloc | apply pw_below_drewN | apply below_drew1 | refine below_set ?_ GE335.out | refine below_set ?_ GE347.out) | exact HB.out))) : w.heap.size ≤ gb353)); have n5_ := Aside0.mk ((by rw [hg]; exact (below_size (by repeat (first | (with_reducible first | exact HB.out | apply below_alloc | apply pw_below_drewN | apply below_drew1 | refine below_set ?_ GE335.out | refine below_set ?_ GE347.out) | exact HB.out))) : w.heap.size ≤ gb353)); have n6_ := Aside0.mk ((by rw [hg]; exact Nat.ne_of_lt (blk_lt (g := gb335) (o := .cells #[.int .u8 t332, .int .u16 t333, .int .u16 t334] 37 (0, 0)) (by (with_reducible repeat (first | refine blk_drewN ?_ _ | refine blk_drew ?_ | refine blk_alloc ?_ _)); exact BK335.out)) : gb335 ≠ gb353)); have n7_ := Aside0.mk ((by rw [hg]; exact Nat.ne_of_gt (blk_lt (g := gb335) (o := .cells #[.int .u8 t332, .int .u16 t333, .int .u16 t334] 37 (0, 0)) (by (with_reducible repeat (first | refine blk_drewN ?_ _ | refine blk_drew ?_ | refine blk_alloc ?_ _)); exact BK335.out)) : gb353 ≠ gb335)); have n8_ := Aside0.mk ((by rw [hg]; exact Nat.ne_of_lt (blk_lt (g := gb347) (o := .cells #[.int .u8 t342, .int .u16 t343, .int .u16 t344] 37 (0, 0)) (by (with_reducible repeat (first | refine blk_drewN ?_ _ | refine blk_drew ?_ | refine blk_alloc ?_ _)); exact BK347.out)) : gb347 ≠ gb353)); have n9_ := Aside0.mk ((by rw [hg]; exact Nat.ne_of_gt (blk_lt (g := gb347) (o := .cells #[.int .u8 t342, .int .u16 t343, .int .u16 t344] 37 (0, 0)) (by (with_reducible repeat (first | refine blk_drewN ?_ _ | refine blk_drew ?_ | refine blk_alloc ?_ _)); exact BK347.out)) : gb353 ≠ gb347)); clear BK335; clear BK347; clear HB; have BK335 := n0_; have BK347 := n1_; have HB := n2_; have BK353 := n3_; have GW353 := n4_; have GE353 := n5_; have NB335_353 := n6_; have NB353_335 := n7_; have NB347_353 := n8_; have NB353_347 := n9_; clear n0_ n1_ n2_ n3_ n4_ n5_ n6_ n7_ n8_ n9_; clear hb hbox hg; have hnb56 := NB353_335.out; have hnc56 := NB335_353.out; have hnb57 := NB353_347.out; have hnc57 := NB347_353.out; have hcz58_0 : w55.cell? ⟨gb353, 0, none⟩ = some (.int .u8 0) := (blk_cell BK353.out 0).trans rfl; have hcz58_1 : w55.cell? ⟨gb353, 1, none⟩ = some (.int .u16 0) := (blk_cell BK353.out 1).trans rfl; have hcz58_2 : w55.cell? ⟨gb353, 2, none⟩ = some (.int .u16 0) := (blk_cell BK353.out 2).trans rfl; have hfz58_0 := blk_frozen BK353.out 0; have hfz58_1 := blk_frozen BK353.out 1; have hfz58_2 := blk_frozen BK353.out 2))
                                      go_ret
                                      exact ⟨by first | rfl | (simp [errW_none, errW_some] <;> rfl) | (simp [*, errW_none, errW_some] <;> rfl), by repeat (first | (with_reducible first | exact HB.out | apply below_alloc | apply pw_below_drewN | apply below_drew1 | refine below_set ?_ GE335.out | refine below_set ?_ GE347.out | refine below_set ?_ GE353.out) | exact HB.out)⟩
                                  · rw [if_neg c46] at H
                                    exact absurd H (by simp)
                                · rw [if_neg c45] at H
                                  exact absurd H (by simp)
                              · rw [if_neg c44] at H
                                exact absurd H (by simp)
                            · rw [if_neg c43] at H
                              exact absurd H (by simp)
                          · rw [if_neg c42] at H
                            exact absurd H (by simp)
                        · rw [if_neg c41] at H
                          exact absurd H (by simp)
                      · rw [if_neg c40] at H
                        exact absurd H (by simp)
            · rw [if_neg c14] at H
              exact absurd H (by simp)
          · rw [if_neg c13] at H
            exact absurd H (by simp)
        · rw [if_neg c12] at H
          exact absurd H (by simp)
      · rw [if_neg c11] at H
        exact absurd H (by simp)
    · rw [if_neg c8] at H
      exact absurd H (by simp)
  · rw [if_neg c7] at H
    exact absurd H (by simp)

/-- THE ONE PURE STATEMENT of vivariumlaw08_LifeSpells: yours. -/
def vivariumlaw08_LifeSpells.Pure : Prop := ∀ (a0 : Int) (a1 : Int) (a2 : Int) (a3 : Int), (Lit.int .u8 a0).wf = true → (Lit.int .u16 a1).wf = true → (Lit.int .u16 a2).wf = true → (Lit.int .u64 a3).wf = true → ∃ k, vivariumlaw08_LifeSpells.f k a0 a1 a2 a3 = some true
theorem vivariumlaw08_LifeSpells.walk (P : vivariumlaw08_LifeSpells.Pure) (a0 : Int) (a1 : Int) (a2 : Int) (a3 : Int) (w : World) (w0 : (Lit.int .u8 a0).wf = true) (w1 : (Lit.int .u16 a1).wf = true) (w2 : (Lit.int .u16 a2).wf = true) (w3 : (Lit.int .u64 a3).wf = true) :
    Calls Try.prog 9 #[.int .u8 a0, .int .u16 a1, .int .u16 a2, .int .u64 a3] w fun e w' => e = .returned (.bool true) ∧ Below w.heap.size w w' := by
  obtain ⟨k, h⟩ := P a0 a1 a2 a3 w0 w1 w2 w3
  refine (vivariumlaw08_LifeSpells.calls k a0 a1 a2 a3 true w h).mono ?_
  rintro e w' ⟨rfl, hd⟩
  exact ⟨rfl, hd⟩

end Go.Proofs.Ytfgonglcmgahkaa.P

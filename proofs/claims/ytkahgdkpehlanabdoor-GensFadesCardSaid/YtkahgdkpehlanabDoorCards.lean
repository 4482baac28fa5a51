/-
  DERIVED. GIVEN WITH THE SEED: THE CARDS: each row of YtkahgdkpehlanabDoorRows.lean that lists a variable, with what it lists TIED to the program's text (the seventh form; the later family's looks); each row that meets fmt, with fmt's text TOLD by the authors' own Lean function (tested against real Go, not proved from fmt's source: count such statements apart). THE CARD IS WHAT COUNTS. Prove the row's statement (the work); the ties are given (YtkahgdkpehlanabDoorTie.lean); close each card by the builder's one call (the guide's Derived/Test/ToyasCard.lean, 'card_holds'). Laid BY PROGRAM, IN A SANDBOX (cutbox-door.mjs). By AI agents, Wed Nov 11 2026. No macro, syntax, notation, axiom, sorry.
-/
import Derived.Test.YtkahgdkpehlanabDoorRows
import GoSem.ClaimSeven
namespace Go.Proofs.YtkahgdkpehlanabDoor
namespace Rows

/-- THE TIED CARD OF 'vivariumlaw09.GensFades'. -/
def gensFadesCard : Claim7 := { stood := { row := gensFadesRow, standIns := [], harness := (true, "bfa778604283c7a370dc0ae4a50ee6666651eae18491e1808bb3a0b73913b62e"), looks := false }, kinds := [], alts := [], laidByText := true, laidKinds := [.data, .data, .data], laidTests := true, laidLooks := .later }
def GensFadesCardSaid : Prop := Claim7.holds Tryd.pinned (.plain (OpenSpec.ofChange gensFadesSpec)) gensFadesCard

/-- THE SECOND FORM's CARD OF 'vivariumlaw09.GensFades'. -/
def gensFadesUptoCard : Claim7 := { stood := { row := gensFadesUptoRow, standIns := [], harness := (true, "bfa778604283c7a370dc0ae4a50ee6666651eae18491e1808bb3a0b73913b62e"), looks := false }, kinds := [], alts := [], laidByText := true, laidKinds := [.data, .data, .data], laidTests := true, laidLooks := .later }
def GensFadesUptoCardSaid : Prop := Claim7.holds Tryd.pinned (.plain (OpenSpec.upto gensFadesSpec)) gensFadesUptoCard
end Rows
end Go.Proofs.YtkahgdkpehlanabDoor

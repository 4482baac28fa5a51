/-
  DERIVED. GIVEN WITH THE SEED: THE CARDS: each row of YtajhfkcmfmhnaaaDoorRows.lean that lists a variable, with what it lists TIED to the program's text (the seventh form; the later family's looks); each row that meets fmt, with fmt's text TOLD by the authors' own Lean function (tested against real Go, not proved from fmt's source: count such statements apart). THE CARD IS WHAT COUNTS. Prove the row's statement (the work); the ties are given (YtajhfkcmfmhnaaaDoorTie.lean); close each card by the builder's one call (the guide's Derived/Test/ToyasCard.lean, 'card_holds'). Laid BY PROGRAM, IN A SANDBOX (cutbox-door.mjs). By AI agents, Wed Nov 11 2026. No macro, syntax, notation, axiom, sorry.
-/
import Derived.Test.YtajhfkcmfmhnaaaDoorRows
import GoSem.ClaimSeven
namespace Go.Proofs.YtajhfkcmfmhnaaaDoor
namespace Rows

/-- THE TIED CARD OF 'vivariumlaw10.TablePrints'. -/
def tablePrintsCard : Claim7 := { stood := { row := tablePrintsRow, standIns := [], harness := (true, "154cdfa9171425503913b4e19e0e81da5235e5d235292b2c3141436211d0196e"), looks := false }, kinds := [], alts := [], laidByText := true, laidKinds := [.data, .data, .data], laidTests := true, laidLooks := .later }
def TablePrintsCardSaid : Prop := Claim7.holds Tryd.pinned (.plain (OpenSpec.ofChange tablePrintsSpec)) tablePrintsCard

/-- THE SECOND FORM's CARD OF 'vivariumlaw10.TablePrints'. -/
def tablePrintsUptoCard : Claim7 := { stood := { row := tablePrintsUptoRow, standIns := [], harness := (true, "154cdfa9171425503913b4e19e0e81da5235e5d235292b2c3141436211d0196e"), looks := false }, kinds := [], alts := [], laidByText := true, laidKinds := [.data, .data, .data], laidTests := true, laidLooks := .later }
def TablePrintsUptoCardSaid : Prop := Claim7.holds Tryd.pinned (.plain (OpenSpec.upto tablePrintsSpec)) tablePrintsUptoCard
end Rows
end Go.Proofs.YtajhfkcmfmhnaaaDoor

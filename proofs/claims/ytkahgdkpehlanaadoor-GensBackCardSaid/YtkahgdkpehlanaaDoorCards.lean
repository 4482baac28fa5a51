/-
  DERIVED. GIVEN WITH THE SEED: THE CARDS: each row of YtkahgdkpehlanaaDoorRows.lean that lists a variable, with what it lists TIED to the program's text (the seventh form; the later family's looks); each row that meets fmt, with fmt's text TOLD by the authors' own Lean function (tested against real Go, not proved from fmt's source: count such statements apart). THE CARD IS WHAT COUNTS. Prove the row's statement (the work); the ties are given (YtkahgdkpehlanaaDoorTie.lean); close each card by the builder's one call (the guide's Derived/Test/ToyasCard.lean, 'card_holds'). Laid BY PROGRAM, IN A SANDBOX (cutbox-door.mjs). By AI agents, Wed Nov 11 2026. No macro, syntax, notation, axiom, sorry.
-/
import Derived.Test.YtkahgdkpehlanaaDoorRows
import GoSem.ClaimSeven
namespace Go.Proofs.YtkahgdkpehlanaaDoor
namespace Rows

/-- THE TIED CARD OF 'vivariumlaw03.ScanBack'. -/
def scanBackCard : Claim7 := { stood := { row := scanBackRow, standIns := [], harness := (true, "5cbad45534a8b273ba497ece706c561d559419bab8dc5d07a83aa7de3e549984"), looks := false }, kinds := [], alts := [], laidByText := true, laidKinds := [.data, .data, .data], laidTests := true, laidLooks := .later }
def ScanBackCardSaid : Prop := Claim7.holds Tryd.pinned (.plain (OpenSpec.ofChange scanBackSpec)) scanBackCard

/-- THE TIED CARD OF 'vivariumlaw09.GensParse'. -/
def gensParseCard : Claim7 := { stood := { row := gensParseRow, standIns := [], harness := (true, "5cbad45534a8b273ba497ece706c561d559419bab8dc5d07a83aa7de3e549984"), looks := false }, kinds := [], alts := [], laidByText := true, laidKinds := [.data, .data, .data], laidTests := true, laidLooks := .later }
def GensParseCardSaid : Prop := Claim7.holds Tryd.pinned (.plain (OpenSpec.ofChange gensParseSpec)) gensParseCard

/-- THE TIED CARD OF 'vivariumlaw09.GensPrint'. -/
def gensPrintCard : Claim7 := { stood := { row := gensPrintRow, standIns := [], harness := (true, "5cbad45534a8b273ba497ece706c561d559419bab8dc5d07a83aa7de3e549984"), looks := false }, kinds := [], alts := [], laidByText := true, laidKinds := [.data, .data, .data], laidTests := true, laidLooks := .later }
def GensPrintCardSaid : Prop := Claim7.holds Tryd.pinned (.plain (OpenSpec.ofChange gensPrintSpec)) gensPrintCard

/-- THE TIED CARD OF 'vivariumlaw09.GensNext'. -/
def gensNextCard : Claim7 := { stood := { row := gensNextRow, standIns := [], harness := (true, "5cbad45534a8b273ba497ece706c561d559419bab8dc5d07a83aa7de3e549984"), looks := false }, kinds := [], alts := [], laidByText := true, laidKinds := [.data, .data, .data], laidTests := true, laidLooks := .later }
def GensNextCardSaid : Prop := Claim7.holds Tryd.pinned (.plain (OpenSpec.ofChange gensNextSpec)) gensNextCard

/-- THE TIED CARD OF 'vivariumlaw09.GensBack'. -/
def gensBackCard : Claim7 := { stood := { row := gensBackRow, standIns := [], harness := (true, "5cbad45534a8b273ba497ece706c561d559419bab8dc5d07a83aa7de3e549984"), looks := false }, kinds := [], alts := [], laidByText := true, laidKinds := [.data, .data, .data], laidTests := true, laidLooks := .later }
def GensBackCardSaid : Prop := Claim7.holds Tryd.pinned (.plain (OpenSpec.ofChange gensBackSpec)) gensBackCard

/-- THE SECOND FORM's CARD OF 'vivariumlaw03.ScanBack'. -/
def scanBackUptoCard : Claim7 := { stood := { row := scanBackUptoRow, standIns := [], harness := (true, "5cbad45534a8b273ba497ece706c561d559419bab8dc5d07a83aa7de3e549984"), looks := false }, kinds := [], alts := [], laidByText := true, laidKinds := [.data, .data, .data], laidTests := true, laidLooks := .later }
def ScanBackUptoCardSaid : Prop := Claim7.holds Tryd.pinned (.plain (OpenSpec.upto scanBackSpec)) scanBackUptoCard

/-- THE SECOND FORM's CARD OF 'vivariumlaw09.GensParse'. -/
def gensParseUptoCard : Claim7 := { stood := { row := gensParseUptoRow, standIns := [], harness := (true, "5cbad45534a8b273ba497ece706c561d559419bab8dc5d07a83aa7de3e549984"), looks := false }, kinds := [], alts := [], laidByText := true, laidKinds := [.data, .data, .data], laidTests := true, laidLooks := .later }
def GensParseUptoCardSaid : Prop := Claim7.holds Tryd.pinned (.plain (OpenSpec.upto gensParseSpec)) gensParseUptoCard

/-- THE SECOND FORM's CARD OF 'vivariumlaw09.GensPrint'. -/
def gensPrintUptoCard : Claim7 := { stood := { row := gensPrintUptoRow, standIns := [], harness := (true, "5cbad45534a8b273ba497ece706c561d559419bab8dc5d07a83aa7de3e549984"), looks := false }, kinds := [], alts := [], laidByText := true, laidKinds := [.data, .data, .data], laidTests := true, laidLooks := .later }
def GensPrintUptoCardSaid : Prop := Claim7.holds Tryd.pinned (.plain (OpenSpec.upto gensPrintSpec)) gensPrintUptoCard

/-- THE SECOND FORM's CARD OF 'vivariumlaw09.GensNext'. -/
def gensNextUptoCard : Claim7 := { stood := { row := gensNextUptoRow, standIns := [], harness := (true, "5cbad45534a8b273ba497ece706c561d559419bab8dc5d07a83aa7de3e549984"), looks := false }, kinds := [], alts := [], laidByText := true, laidKinds := [.data, .data, .data], laidTests := true, laidLooks := .later }
def GensNextUptoCardSaid : Prop := Claim7.holds Tryd.pinned (.plain (OpenSpec.upto gensNextSpec)) gensNextUptoCard

/-- THE SECOND FORM's CARD OF 'vivariumlaw09.GensBack'. -/
def gensBackUptoCard : Claim7 := { stood := { row := gensBackUptoRow, standIns := [], harness := (true, "5cbad45534a8b273ba497ece706c561d559419bab8dc5d07a83aa7de3e549984"), looks := false }, kinds := [], alts := [], laidByText := true, laidKinds := [.data, .data, .data], laidTests := true, laidLooks := .later }
def GensBackUptoCardSaid : Prop := Claim7.holds Tryd.pinned (.plain (OpenSpec.upto gensBackSpec)) gensBackUptoCard
end Rows
end Go.Proofs.YtkahgdkpehlanaaDoor

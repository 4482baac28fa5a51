/-
  No cell of these rows narrows 'for every input' (looked for: loops, veiled, ifaces, maps, wideKeys, modest, calm, conditions, laid).
  DERIVED. THE GIVEN ROWS OF THIS SEAT. 12 by the template 'for every input the law returns true; each argument reads behind the call as it read before'; 0 by the template 'total and deterministic' (their statements: YtfgonglcmgahkaaTotals.lean).
  GIVEN WITH THE SEED: the statements are not yours to turn. If you find one false, say at which input.
  Laid BY PROGRAM, IN A SANDBOX (cutbox-rows.mjs): the forced cells as the released guide's own fill.sh prints them over the translation 18f880cb2c06404c… (all of the seat's roots in one cut). By AI agents, Wed Nov 11 2026. No macro, syntax, notation, axiom, sorry.
-/
import Derived.Test.YtfgonglcmgahkaaChecked
import GoSem.Claim
import GoSem.ClaimJoined
import GoSem.ClaimMapViews
import Derived.JoinedTies
import Derived.KernelRfl
namespace Go.Proofs.Ytfgonglcmgahkaa
/- THE CELL 'sum', in the pinned program and in every row, IS THE sha256 OF THE DUMP (.gsa) THAT YtfgonglcmgahkaaProg.lean LOADS. Nothing in Lean hashes anything: it is a label: what it is worth is what the hold of that sum in a sandbox is worth. -/
noncomputable def Try.pinned : Pinned := { name := "ytfgonglcmgahkaa", sum := "18f880cb2c06404cdfac1b604f925991b60055ad3d306e37e50ac82a0e357e90", checked := Try.checked }
namespace Rows
def none {H : Type} : Left H := { results := [], args := [] }

/-- 'vivariumlaw22.RleSplits': WHATEVER THE INPUT: true; the input reads as it did. -/
def rleSplitsSpec : ChangeSpec := { name := "rleSplits", fn := fun _ => fun
  | [d] => { results := [.lit (.bool true)], args := [d] }
  | _ => none }
def rleSplitsRow : OpenClaim := { program := "ytfgonglcmgahkaa", sum := "18f880cb2c06404cdfac1b604f925991b60055ad3d306e37e50ac82a0e357e90", func := "vivarium/vivariumlaw22.RleSplits", spec := "rleSplits", inPlace := ["internal/bytealg.IndexByteString", "internal/bytealg.IndexString"], named := ["internal/bytealg.MaxLen"], plainKeys := false, apart := false }
def RleSplitsSaid : Prop := rleSplitsRow.holds Try.pinned (OpenSpec.ofChange rleSplitsSpec)

/-- ITS FALSE NEIGHBOUR: 'it returns false'. Refute it at one input. -/
def rleSplitsWrong : ChangeSpec := { name := "rleSplits", fn := fun _ => fun
  | [d] => { results := [.lit (.bool false)], args := [d] }
  | _ => none }
def RleSplitsWrongFalsely : Prop := rleSplitsRow.holds Try.pinned (OpenSpec.ofChange rleSplitsWrong)

/-- 'vivariumlaw10.TableGroups': WHATEVER THE INPUT: true; the input reads as it did. -/
def tableGroupsSpec : ChangeSpec := { name := "tableGroups", fn := fun _ => fun
  | [d1, d2] => { results := [.lit (.bool true)], args := [d1, d2] }
  | _ => none }
def tableGroupsRow : OpenClaim := { program := "ytfgonglcmgahkaa", sum := "18f880cb2c06404cdfac1b604f925991b60055ad3d306e37e50ac82a0e357e90", func := "vivarium/vivariumlaw10.TableGroups", spec := "tableGroups", unfollowed := true, recurses := true, plainKeys := false, apart := false }
def TableGroupsSaid : Prop := tableGroupsRow.holds Try.pinned (OpenSpec.ofChange tableGroupsSpec)

/-- ITS FALSE NEIGHBOUR: 'it returns false'. Refute it at one input. -/
def tableGroupsWrong : ChangeSpec := { name := "tableGroups", fn := fun _ => fun
  | [d1, d2] => { results := [.lit (.bool false)], args := [d1, d2] }
  | _ => none }
def TableGroupsWrongFalsely : Prop := tableGroupsRow.holds Try.pinned (OpenSpec.ofChange tableGroupsWrong)

/-- 'vivariumlaw08.LifeNames': WHATEVER THE INPUT: true; the input reads as it did. -/
def lifeNamesSpec : ChangeSpec := { name := "lifeNames", fn := fun _ => fun
  | [] => { results := [.lit (.bool true)], args := [] }
  | _ => none }
def lifeNamesRow : OpenClaim := { program := "ytfgonglcmgahkaa", sum := "18f880cb2c06404cdfac1b604f925991b60055ad3d306e37e50ac82a0e357e90", func := "vivarium/vivariumlaw08.LifeNames", spec := "lifeNames", plainKeys := false, apart := false }
def LifeNamesSaid : Prop := lifeNamesRow.holds Try.pinned (OpenSpec.ofChange lifeNamesSpec)

/-- ITS FALSE NEIGHBOUR: 'it returns false'. Refute it at one input. -/
def lifeNamesWrong : ChangeSpec := { name := "lifeNames", fn := fun _ => fun
  | [] => { results := [.lit (.bool false)], args := [] }
  | _ => none }
def LifeNamesWrongFalsely : Prop := lifeNamesRow.holds Try.pinned (OpenSpec.ofChange lifeNamesWrong)

/-- 'vivariumlaw08.LifeParses': WHATEVER THE INPUT: true; the input reads as it did. -/
def lifeParsesSpec : ChangeSpec := { name := "lifeParses", fn := fun _ => fun
  | [d] => { results := [.lit (.bool true)], args := [d] }
  | _ => none }
def lifeParsesRow : OpenClaim := { program := "ytfgonglcmgahkaa", sum := "18f880cb2c06404cdfac1b604f925991b60055ad3d306e37e50ac82a0e357e90", func := "vivarium/vivariumlaw08.LifeParses", spec := "lifeParses", plainKeys := false, apart := false }
def LifeParsesSaid : Prop := lifeParsesRow.holds Try.pinned (OpenSpec.ofChange lifeParsesSpec)

/-- ITS FALSE NEIGHBOUR: 'it returns false'. Refute it at one input. -/
def lifeParsesWrong : ChangeSpec := { name := "lifeParses", fn := fun _ => fun
  | [d] => { results := [.lit (.bool false)], args := [d] }
  | _ => none }
def LifeParsesWrongFalsely : Prop := lifeParsesRow.holds Try.pinned (OpenSpec.ofChange lifeParsesWrong)

/-- 'vivariumlaw08.LifeNexts': WHATEVER THE INPUT: true; the input reads as it did. -/
def lifeNextsSpec : ChangeSpec := { name := "lifeNexts", fn := fun _ => fun
  | [d1, d2, d3] => { results := [.lit (.bool true)], args := [d1, d2, d3] }
  | _ => none }
def lifeNextsRow : OpenClaim := { program := "ytfgonglcmgahkaa", sum := "18f880cb2c06404cdfac1b604f925991b60055ad3d306e37e50ac82a0e357e90", func := "vivarium/vivariumlaw08.LifeNexts", spec := "lifeNexts", plainKeys := false, apart := false }
def LifeNextsSaid : Prop := lifeNextsRow.holds Try.pinned (OpenSpec.ofChange lifeNextsSpec)

/-- ITS FALSE NEIGHBOUR: 'it returns false'. Refute it at one input. -/
def lifeNextsWrong : ChangeSpec := { name := "lifeNexts", fn := fun _ => fun
  | [d1, d2, d3] => { results := [.lit (.bool false)], args := [d1, d2, d3] }
  | _ => none }
def LifeNextsWrongFalsely : Prop := lifeNextsRow.holds Try.pinned (OpenSpec.ofChange lifeNextsWrong)

/-- 'vivariumlaw08.LifeForm': WHATEVER THE INPUT: true; the input reads as it did. -/
def lifeFormSpec : ChangeSpec := { name := "lifeForm", fn := fun _ => fun
  | [d] => { results := [.lit (.bool true)], args := [d] }
  | _ => none }
def lifeFormRow : OpenClaim := { program := "ytfgonglcmgahkaa", sum := "18f880cb2c06404cdfac1b604f925991b60055ad3d306e37e50ac82a0e357e90", func := "vivarium/vivariumlaw08.LifeForm", spec := "lifeForm", plainKeys := false, apart := false }
def LifeFormSaid : Prop := lifeFormRow.holds Try.pinned (OpenSpec.ofChange lifeFormSpec)

/-- ITS FALSE NEIGHBOUR: 'it returns false'. Refute it at one input. -/
def lifeFormWrong : ChangeSpec := { name := "lifeForm", fn := fun _ => fun
  | [d] => { results := [.lit (.bool false)], args := [d] }
  | _ => none }
def LifeFormWrongFalsely : Prop := lifeFormRow.holds Try.pinned (OpenSpec.ofChange lifeFormWrong)

/-- 'vivariumlaw08.LifeSpells': WHATEVER THE INPUT: true; the input reads as it did. -/
def lifeSpellsSpec : ChangeSpec := { name := "lifeSpells", fn := fun _ => fun
  | [d1, d2, d3, d4] => { results := [.lit (.bool true)], args := [d1, d2, d3, d4] }
  | _ => none }
def lifeSpellsRow : OpenClaim := { program := "ytfgonglcmgahkaa", sum := "18f880cb2c06404cdfac1b604f925991b60055ad3d306e37e50ac82a0e357e90", func := "vivarium/vivariumlaw08.LifeSpells", spec := "lifeSpells", plainKeys := false, apart := false }
def LifeSpellsSaid : Prop := lifeSpellsRow.holds Try.pinned (OpenSpec.ofChange lifeSpellsSpec)

/-- ITS FALSE NEIGHBOUR: 'it returns false'. Refute it at one input. -/
def lifeSpellsWrong : ChangeSpec := { name := "lifeSpells", fn := fun _ => fun
  | [d1, d2, d3, d4] => { results := [.lit (.bool false)], args := [d1, d2, d3, d4] }
  | _ => none }
def LifeSpellsWrongFalsely : Prop := lifeSpellsRow.holds Try.pinned (OpenSpec.ofChange lifeSpellsWrong)

/-- 'vivariumlaw08.LifePrints': WHATEVER THE INPUT: true; the input reads as it did. -/
def lifePrintsSpec : ChangeSpec := { name := "lifePrints", fn := fun _ => fun
  | [d] => { results := [.lit (.bool true)], args := [d] }
  | _ => none }
def lifePrintsRow : OpenClaim := { program := "ytfgonglcmgahkaa", sum := "18f880cb2c06404cdfac1b604f925991b60055ad3d306e37e50ac82a0e357e90", func := "vivarium/vivariumlaw08.LifePrints", spec := "lifePrints", plainKeys := false, apart := false }
def LifePrintsSaid : Prop := lifePrintsRow.holds Try.pinned (OpenSpec.ofChange lifePrintsSpec)

/-- ITS FALSE NEIGHBOUR: 'it returns false'. Refute it at one input. -/
def lifePrintsWrong : ChangeSpec := { name := "lifePrints", fn := fun _ => fun
  | [d] => { results := [.lit (.bool false)], args := [d] }
  | _ => none }
def LifePrintsWrongFalsely : Prop := lifePrintsRow.holds Try.pinned (OpenSpec.ofChange lifePrintsWrong)

/-- 'vivariumlaw08.LifeBack': WHATEVER THE INPUT: true; the input reads as it did. -/
def lifeBackSpec : ChangeSpec := { name := "lifeBack", fn := fun _ => fun
  | [d1, d2, d3, d4] => { results := [.lit (.bool true)], args := [d1, d2, d3, d4] }
  | _ => none }
def lifeBackRow : OpenClaim := { program := "ytfgonglcmgahkaa", sum := "18f880cb2c06404cdfac1b604f925991b60055ad3d306e37e50ac82a0e357e90", func := "vivarium/vivariumlaw08.LifeBack", spec := "lifeBack", plainKeys := false, apart := false }
def LifeBackSaid : Prop := lifeBackRow.holds Try.pinned (OpenSpec.ofChange lifeBackSpec)

/-- ITS FALSE NEIGHBOUR: 'it returns false'. Refute it at one input. -/
def lifeBackWrong : ChangeSpec := { name := "lifeBack", fn := fun _ => fun
  | [d1, d2, d3, d4] => { results := [.lit (.bool false)], args := [d1, d2, d3, d4] }
  | _ => none }
def LifeBackWrongFalsely : Prop := lifeBackRow.holds Try.pinned (OpenSpec.ofChange lifeBackWrong)

/-- 'vivariumlaw08.LifeTurns': WHATEVER THE INPUT: true; the input reads as it did. -/
def lifeTurnsSpec : ChangeSpec := { name := "lifeTurns", fn := fun _ => fun
  | [d1, d2, d3] => { results := [.lit (.bool true)], args := [d1, d2, d3] }
  | _ => none }
def lifeTurnsRow : OpenClaim := { program := "ytfgonglcmgahkaa", sum := "18f880cb2c06404cdfac1b604f925991b60055ad3d306e37e50ac82a0e357e90", func := "vivarium/vivariumlaw08.LifeTurns", spec := "lifeTurns", plainKeys := false, apart := false }
def LifeTurnsSaid : Prop := lifeTurnsRow.holds Try.pinned (OpenSpec.ofChange lifeTurnsSpec)

/-- ITS FALSE NEIGHBOUR: 'it returns false'. Refute it at one input. -/
def lifeTurnsWrong : ChangeSpec := { name := "lifeTurns", fn := fun _ => fun
  | [d1, d2, d3] => { results := [.lit (.bool false)], args := [d1, d2, d3] }
  | _ => none }
def LifeTurnsWrongFalsely : Prop := lifeTurnsRow.holds Try.pinned (OpenSpec.ofChange lifeTurnsWrong)

/-- 'vivariumlaw23.PlainSigns': WHATEVER THE INPUT: true; the input reads as it did. -/
def plainSignsSpec : ChangeSpec := { name := "plainSigns", fn := fun _ => fun
  | [d1, d2] => { results := [.lit (.bool true)], args := [d1, d2] }
  | _ => none }
def plainSignsRow : OpenClaim := { program := "ytfgonglcmgahkaa", sum := "18f880cb2c06404cdfac1b604f925991b60055ad3d306e37e50ac82a0e357e90", func := "vivarium/vivariumlaw23.PlainSigns", spec := "plainSigns", inPlace := ["internal/bytealg.IndexByteString", "internal/bytealg.IndexString", "internal/abi.NoEscape"], unfollowed := true, recurses := true, named := ["internal/bytealg.MaxLen"], plainKeys := false, apart := false }
def PlainSignsSaid : Prop := plainSignsRow.holds Try.pinned (OpenSpec.ofChange plainSignsSpec)

/-- ITS FALSE NEIGHBOUR: 'it returns false'. Refute it at one input. -/
def plainSignsWrong : ChangeSpec := { name := "plainSigns", fn := fun _ => fun
  | [d1, d2] => { results := [.lit (.bool false)], args := [d1, d2] }
  | _ => none }
def PlainSignsWrongFalsely : Prop := plainSignsRow.holds Try.pinned (OpenSpec.ofChange plainSignsWrong)

/-- 'vivariumlaw23.PlainReads': WHATEVER THE INPUT: true; the input reads as it did. -/
def plainReadsSpec : ChangeSpec := { name := "plainReads", fn := fun _ => fun
  | [d] => { results := [.lit (.bool true)], args := [d] }
  | _ => none }
def plainReadsRow : OpenClaim := { program := "ytfgonglcmgahkaa", sum := "18f880cb2c06404cdfac1b604f925991b60055ad3d306e37e50ac82a0e357e90", func := "vivarium/vivariumlaw23.PlainReads", spec := "plainReads", inPlace := ["internal/bytealg.IndexByteString", "internal/bytealg.IndexString", "internal/abi.NoEscape"], unfollowed := true, recurses := true, named := ["internal/bytealg.MaxLen"], plainKeys := false, apart := false }
def PlainReadsSaid : Prop := plainReadsRow.holds Try.pinned (OpenSpec.ofChange plainReadsSpec)

/-- ITS FALSE NEIGHBOUR: 'it returns false'. Refute it at one input. -/
def plainReadsWrong : ChangeSpec := { name := "plainReads", fn := fun _ => fun
  | [d] => { results := [.lit (.bool false)], args := [d] }
  | _ => none }
def PlainReadsWrongFalsely : Prop := plainReadsRow.holds Try.pinned (OpenSpec.ofChange plainReadsWrong)

/- THE SECOND FORM. 'bulk': how many values and letters a reading holds, each counted each time it is reached (what is shared counts as often as it is met; a slice's spare places count too). A statement '..UptoSaid' is the law's where the arguments, and the package variables that the reading takes, are together of bulk at most 1048576: NARROWER than '..Said'. Prove '..Said' where nothing that the law and all that it calls make is longer than what came in: it says more and counts as full. Else prove '..UptoSaid'. A law counts once. -/
mutual
def uptoBulk {H : Type} : DataW H → Nat
  | .lit (.string bytes) => bytes.length + 1
  | .lit _ => 1
  | .nil => 1
  | .ptr d => uptoBulk d + 1
  | .slice elems spare => uptoBulkAll elems + uptoBulkAll spare + 1
  | .agg parts => uptoBulkAll parts + 1
  | .iface _ d => uptoBulk d + 1
  | .map entries => uptoBulkEntries entries + 1
  | .held _ => 1
def uptoBulkAll {H : Type} : List (DataW H) → Nat
  | [] => 0
  | d :: r => uptoBulk d + uptoBulkAll r
def uptoBulkEntries {H : Type} : List (Lit × DataW H) → Nat
  | [] => 0
  | x :: r => uptoBulkEntry x + uptoBulkEntries r
def uptoBulkEntry {H : Type} : Lit × DataW H → Nat
  | (.string bytes, d) => bytes.length + uptoBulk d + 1
  | (_, d) => uptoBulk d + 1
 end
def uptoSmall : (H : Type) → List (DataW H) → Bool := fun _ ds => decide (uptoBulkAll ds ≤ 1048576)
def OpenSpec.upto (s : _root_.Go.ChangeSpec) : _root_.Go.OpenSpec := { _root_.Go.OpenSpec.ofChange s with cond := some uptoSmall }

/-- 'vivariumlaw22.RleSplits', WHERE WHAT IT READS IS OF BULK AT MOST 1048576: true; the input reads as it did. -/
def rleSplitsUptoRow : OpenClaim := { program := "ytfgonglcmgahkaa", sum := "18f880cb2c06404cdfac1b604f925991b60055ad3d306e37e50ac82a0e357e90", func := "vivarium/vivariumlaw22.RleSplits", spec := "rleSplits", inPlace := ["internal/bytealg.IndexByteString", "internal/bytealg.IndexString"], named := ["internal/bytealg.MaxLen"], plainKeys := false, apart := false, narrowed := true }
def RleSplitsUptoSaid : Prop := rleSplitsUptoRow.holds Try.pinned (OpenSpec.upto rleSplitsSpec)

/-- 'vivariumlaw10.TableGroups', WHERE WHAT IT READS IS OF BULK AT MOST 1048576: true; the input reads as it did. -/
def tableGroupsUptoRow : OpenClaim := { program := "ytfgonglcmgahkaa", sum := "18f880cb2c06404cdfac1b604f925991b60055ad3d306e37e50ac82a0e357e90", func := "vivarium/vivariumlaw10.TableGroups", spec := "tableGroups", unfollowed := true, recurses := true, plainKeys := false, apart := false, narrowed := true }
def TableGroupsUptoSaid : Prop := tableGroupsUptoRow.holds Try.pinned (OpenSpec.upto tableGroupsSpec)

/-- 'vivariumlaw08.LifeNames', WHERE WHAT IT READS IS OF BULK AT MOST 1048576: true; the input reads as it did. -/
def lifeNamesUptoRow : OpenClaim := { program := "ytfgonglcmgahkaa", sum := "18f880cb2c06404cdfac1b604f925991b60055ad3d306e37e50ac82a0e357e90", func := "vivarium/vivariumlaw08.LifeNames", spec := "lifeNames", plainKeys := false, apart := false, narrowed := true }
def LifeNamesUptoSaid : Prop := lifeNamesUptoRow.holds Try.pinned (OpenSpec.upto lifeNamesSpec)

/-- 'vivariumlaw08.LifeParses', WHERE WHAT IT READS IS OF BULK AT MOST 1048576: true; the input reads as it did. -/
def lifeParsesUptoRow : OpenClaim := { program := "ytfgonglcmgahkaa", sum := "18f880cb2c06404cdfac1b604f925991b60055ad3d306e37e50ac82a0e357e90", func := "vivarium/vivariumlaw08.LifeParses", spec := "lifeParses", plainKeys := false, apart := false, narrowed := true }
def LifeParsesUptoSaid : Prop := lifeParsesUptoRow.holds Try.pinned (OpenSpec.upto lifeParsesSpec)

/-- 'vivariumlaw08.LifeNexts', WHERE WHAT IT READS IS OF BULK AT MOST 1048576: true; the input reads as it did. -/
def lifeNextsUptoRow : OpenClaim := { program := "ytfgonglcmgahkaa", sum := "18f880cb2c06404cdfac1b604f925991b60055ad3d306e37e50ac82a0e357e90", func := "vivarium/vivariumlaw08.LifeNexts", spec := "lifeNexts", plainKeys := false, apart := false, narrowed := true }
def LifeNextsUptoSaid : Prop := lifeNextsUptoRow.holds Try.pinned (OpenSpec.upto lifeNextsSpec)

/-- 'vivariumlaw08.LifeForm', WHERE WHAT IT READS IS OF BULK AT MOST 1048576: true; the input reads as it did. -/
def lifeFormUptoRow : OpenClaim := { program := "ytfgonglcmgahkaa", sum := "18f880cb2c06404cdfac1b604f925991b60055ad3d306e37e50ac82a0e357e90", func := "vivarium/vivariumlaw08.LifeForm", spec := "lifeForm", plainKeys := false, apart := false, narrowed := true }
def LifeFormUptoSaid : Prop := lifeFormUptoRow.holds Try.pinned (OpenSpec.upto lifeFormSpec)

/-- 'vivariumlaw08.LifeSpells', WHERE WHAT IT READS IS OF BULK AT MOST 1048576: true; the input reads as it did. -/
def lifeSpellsUptoRow : OpenClaim := { program := "ytfgonglcmgahkaa", sum := "18f880cb2c06404cdfac1b604f925991b60055ad3d306e37e50ac82a0e357e90", func := "vivarium/vivariumlaw08.LifeSpells", spec := "lifeSpells", plainKeys := false, apart := false, narrowed := true }
def LifeSpellsUptoSaid : Prop := lifeSpellsUptoRow.holds Try.pinned (OpenSpec.upto lifeSpellsSpec)

/-- 'vivariumlaw08.LifePrints', WHERE WHAT IT READS IS OF BULK AT MOST 1048576: true; the input reads as it did. -/
def lifePrintsUptoRow : OpenClaim := { program := "ytfgonglcmgahkaa", sum := "18f880cb2c06404cdfac1b604f925991b60055ad3d306e37e50ac82a0e357e90", func := "vivarium/vivariumlaw08.LifePrints", spec := "lifePrints", plainKeys := false, apart := false, narrowed := true }
def LifePrintsUptoSaid : Prop := lifePrintsUptoRow.holds Try.pinned (OpenSpec.upto lifePrintsSpec)

/-- 'vivariumlaw08.LifeBack', WHERE WHAT IT READS IS OF BULK AT MOST 1048576: true; the input reads as it did. -/
def lifeBackUptoRow : OpenClaim := { program := "ytfgonglcmgahkaa", sum := "18f880cb2c06404cdfac1b604f925991b60055ad3d306e37e50ac82a0e357e90", func := "vivarium/vivariumlaw08.LifeBack", spec := "lifeBack", plainKeys := false, apart := false, narrowed := true }
def LifeBackUptoSaid : Prop := lifeBackUptoRow.holds Try.pinned (OpenSpec.upto lifeBackSpec)

/-- 'vivariumlaw08.LifeTurns', WHERE WHAT IT READS IS OF BULK AT MOST 1048576: true; the input reads as it did. -/
def lifeTurnsUptoRow : OpenClaim := { program := "ytfgonglcmgahkaa", sum := "18f880cb2c06404cdfac1b604f925991b60055ad3d306e37e50ac82a0e357e90", func := "vivarium/vivariumlaw08.LifeTurns", spec := "lifeTurns", plainKeys := false, apart := false, narrowed := true }
def LifeTurnsUptoSaid : Prop := lifeTurnsUptoRow.holds Try.pinned (OpenSpec.upto lifeTurnsSpec)

/-- 'vivariumlaw23.PlainSigns', WHERE WHAT IT READS IS OF BULK AT MOST 1048576: true; the input reads as it did. -/
def plainSignsUptoRow : OpenClaim := { program := "ytfgonglcmgahkaa", sum := "18f880cb2c06404cdfac1b604f925991b60055ad3d306e37e50ac82a0e357e90", func := "vivarium/vivariumlaw23.PlainSigns", spec := "plainSigns", inPlace := ["internal/bytealg.IndexByteString", "internal/bytealg.IndexString", "internal/abi.NoEscape"], unfollowed := true, recurses := true, named := ["internal/bytealg.MaxLen"], plainKeys := false, apart := false, narrowed := true }
def PlainSignsUptoSaid : Prop := plainSignsUptoRow.holds Try.pinned (OpenSpec.upto plainSignsSpec)

/-- 'vivariumlaw23.PlainReads', WHERE WHAT IT READS IS OF BULK AT MOST 1048576: true; the input reads as it did. -/
def plainReadsUptoRow : OpenClaim := { program := "ytfgonglcmgahkaa", sum := "18f880cb2c06404cdfac1b604f925991b60055ad3d306e37e50ac82a0e357e90", func := "vivarium/vivariumlaw23.PlainReads", spec := "plainReads", inPlace := ["internal/bytealg.IndexByteString", "internal/bytealg.IndexString", "internal/abi.NoEscape"], unfollowed := true, recurses := true, named := ["internal/bytealg.MaxLen"], plainKeys := false, apart := false, narrowed := true }
def PlainReadsUptoSaid : Prop := plainReadsUptoRow.holds Try.pinned (OpenSpec.upto plainReadsSpec)

end Rows
end Go.Proofs.Ytfgonglcmgahkaa

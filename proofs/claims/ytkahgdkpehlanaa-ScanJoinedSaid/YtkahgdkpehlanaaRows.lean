/-
  No cell of these rows narrows 'for every input' (looked for: loops, veiled, ifaces, maps, wideKeys, modest, calm, conditions, laid).
  DERIVED. THE GIVEN ROWS OF THIS SEAT. 7 by the template 'for every input the law returns true; each argument reads behind the call as it read before'; 0 by the template 'total and deterministic' (their statements: YtkahgdkpehlanaaTotals.lean).
  GIVEN WITH THE SEED: the statements are not yours to turn. If you find one false, say at which input.
  Laid BY PROGRAM, IN A SANDBOX (cutbox-rows.mjs): the forced cells as the released guide's own fill.sh prints them over the translation 36bd40f6ef5db87b… (all of the seat's roots in one cut). By AI agents, Wed Nov 11 2026. No macro, syntax, notation, axiom, sorry.
-/
import Derived.Test.YtkahgdkpehlanaaChecked
import GoSem.Claim
import GoSem.ClaimJoined
import GoSem.ClaimMapViews
import Derived.JoinedTies
import Derived.KernelRfl
namespace Go.Proofs.Ytkahgdkpehlanaa
/- THE CELL 'sum', in the pinned program and in every row, IS THE sha256 OF THE DUMP (.gsa) THAT YtkahgdkpehlanaaProg.lean LOADS. Nothing in Lean hashes anything: it is a label: what it is worth is what the hold of that sum in a sandbox is worth. -/
noncomputable def Try.pinned : Pinned := { name := "ytkahgdkpehlanaa", sum := "36bd40f6ef5db87b7d38af52f6357ca320ca1181ad6778ec8ea48db167c38cf8", checked := Try.checked }
namespace Rows
def none {H : Type} : Left H := { results := [], args := [] }

/-- 'vivariumlaw03.ScanFields': WHATEVER THE INPUT: true; the input reads as it did. -/
def scanFieldsSpec : ChangeSpec := { name := "scanFields", fn := fun _ => fun
  | [d1, d2] => { results := [.lit (.bool true)], args := [d1, d2] }
  | _ => none }
def scanFieldsRow : OpenClaim := { program := "ytkahgdkpehlanaa", sum := "36bd40f6ef5db87b7d38af52f6357ca320ca1181ad6778ec8ea48db167c38cf8", func := "vivarium/vivariumlaw03.ScanFields", spec := "scanFields", inPlace := ["internal/bytealg.IndexByteString", "internal/bytealg.IndexString"], unfollowed := true, recurses := true, named := ["internal/bytealg.MaxLen"], apart := false }
def ScanFieldsSaid : Prop := scanFieldsRow.holds Try.pinned (OpenSpec.ofChange scanFieldsSpec)

/-- ITS FALSE NEIGHBOUR: 'it returns false'. Refute it at one input. -/
def scanFieldsWrong : ChangeSpec := { name := "scanFields", fn := fun _ => fun
  | [d1, d2] => { results := [.lit (.bool false)], args := [d1, d2] }
  | _ => none }
def ScanFieldsWrongFalsely : Prop := scanFieldsRow.holds Try.pinned (OpenSpec.ofChange scanFieldsWrong)

/-- 'vivariumlaw03.ScanRuns': WHATEVER THE INPUT: true; the input reads as it did. -/
def scanRunsSpec : ChangeSpec := { name := "scanRuns", fn := fun _ => fun
  | [d1, d2] => { results := [.lit (.bool true)], args := [d1, d2] }
  | _ => none }
def scanRunsRow : OpenClaim := { program := "ytkahgdkpehlanaa", sum := "36bd40f6ef5db87b7d38af52f6357ca320ca1181ad6778ec8ea48db167c38cf8", func := "vivarium/vivariumlaw03.ScanRuns", spec := "scanRuns", inPlace := ["internal/bytealg.IndexByteString", "internal/bytealg.IndexString"], unfollowed := true, recurses := true, named := ["internal/bytealg.MaxLen"], apart := false }
def ScanRunsSaid : Prop := scanRunsRow.holds Try.pinned (OpenSpec.ofChange scanRunsSpec)

/-- ITS FALSE NEIGHBOUR: 'it returns false'. Refute it at one input. -/
def scanRunsWrong : ChangeSpec := { name := "scanRuns", fn := fun _ => fun
  | [d1, d2] => { results := [.lit (.bool false)], args := [d1, d2] }
  | _ => none }
def ScanRunsWrongFalsely : Prop := scanRunsRow.holds Try.pinned (OpenSpec.ofChange scanRunsWrong)

/-- 'vivariumlaw03.ScanLong': WHATEVER THE INPUT: true; the input reads as it did. -/
def scanLongSpec : ChangeSpec := { name := "scanLong", fn := fun _ => fun
  | [] => { results := [.lit (.bool true)], args := [] }
  | _ => none }
def scanLongRow : OpenClaim := { program := "ytkahgdkpehlanaa", sum := "36bd40f6ef5db87b7d38af52f6357ca320ca1181ad6778ec8ea48db167c38cf8", func := "vivarium/vivariumlaw03.ScanLong", spec := "scanLong", inPlace := ["internal/bytealg.IndexByteString", "internal/bytealg.IndexString"], unfollowed := true, recurses := true, named := ["internal/bytealg.MaxLen"], apart := false }
def ScanLongSaid : Prop := scanLongRow.holds Try.pinned (OpenSpec.ofChange scanLongSpec)

/-- ITS FALSE NEIGHBOUR: 'it returns false'. Refute it at one input. -/
def scanLongWrong : ChangeSpec := { name := "scanLong", fn := fun _ => fun
  | [] => { results := [.lit (.bool false)], args := [] }
  | _ => none }
def ScanLongWrongFalsely : Prop := scanLongRow.holds Try.pinned (OpenSpec.ofChange scanLongWrong)

/-- 'vivariumlaw03.ScanCutter': WHATEVER THE INPUT: true; the input reads as it did. -/
def scanCutterSpec : ChangeSpec := { name := "scanCutter", fn := fun _ => fun
  | [d1, d2, d3] => { results := [.lit (.bool true)], args := [d1, d2, d3] }
  | _ => none }
def scanCutterRow : OpenClaim := { program := "ytkahgdkpehlanaa", sum := "36bd40f6ef5db87b7d38af52f6357ca320ca1181ad6778ec8ea48db167c38cf8", func := "vivarium/vivariumlaw03.ScanCutter", spec := "scanCutter", inPlace := ["internal/bytealg.IndexByteString", "internal/bytealg.IndexString"], unfollowed := true, recurses := true, named := ["internal/bytealg.MaxLen"], apart := false }
def ScanCutterSaid : Prop := scanCutterRow.holds Try.pinned (OpenSpec.ofChange scanCutterSpec)

/-- ITS FALSE NEIGHBOUR: 'it returns false'. Refute it at one input. -/
def scanCutterWrong : ChangeSpec := { name := "scanCutter", fn := fun _ => fun
  | [d1, d2, d3] => { results := [.lit (.bool false)], args := [d1, d2, d3] }
  | _ => none }
def ScanCutterWrongFalsely : Prop := scanCutterRow.holds Try.pinned (OpenSpec.ofChange scanCutterWrong)

/-- 'vivariumlaw03.ScanTags': WHATEVER THE INPUT: true; the input reads as it did. -/
def scanTagsSpec : ChangeSpec := { name := "scanTags", fn := fun _ => fun
  | [d1, d2, d3] => { results := [.lit (.bool true)], args := [d1, d2, d3] }
  | _ => none }
def scanTagsRow : OpenClaim := { program := "ytkahgdkpehlanaa", sum := "36bd40f6ef5db87b7d38af52f6357ca320ca1181ad6778ec8ea48db167c38cf8", func := "vivarium/vivariumlaw03.ScanTags", spec := "scanTags", inPlace := ["internal/bytealg.IndexByteString", "internal/bytealg.IndexString"], unfollowed := true, recurses := true, named := ["internal/bytealg.MaxLen"], apart := false }
def ScanTagsSaid : Prop := scanTagsRow.holds Try.pinned (OpenSpec.ofChange scanTagsSpec)

/-- ITS FALSE NEIGHBOUR: 'it returns false'. Refute it at one input. -/
def scanTagsWrong : ChangeSpec := { name := "scanTags", fn := fun _ => fun
  | [d1, d2, d3] => { results := [.lit (.bool false)], args := [d1, d2, d3] }
  | _ => none }
def ScanTagsWrongFalsely : Prop := scanTagsRow.holds Try.pinned (OpenSpec.ofChange scanTagsWrong)

/-- 'vivariumlaw03.ScanLines': WHATEVER THE INPUT: true; the input reads as it did. -/
def scanLinesSpec : ChangeSpec := { name := "scanLines", fn := fun _ => fun
  | [d1, d2] => { results := [.lit (.bool true)], args := [d1, d2] }
  | _ => none }
def scanLinesRow : OpenClaim := { program := "ytkahgdkpehlanaa", sum := "36bd40f6ef5db87b7d38af52f6357ca320ca1181ad6778ec8ea48db167c38cf8", func := "vivarium/vivariumlaw03.ScanLines", spec := "scanLines", inPlace := ["internal/bytealg.IndexByteString", "internal/bytealg.IndexString"], unfollowed := true, recurses := true, named := ["internal/bytealg.MaxLen"], apart := false }
def ScanLinesSaid : Prop := scanLinesRow.holds Try.pinned (OpenSpec.ofChange scanLinesSpec)

/-- ITS FALSE NEIGHBOUR: 'it returns false'. Refute it at one input. -/
def scanLinesWrong : ChangeSpec := { name := "scanLines", fn := fun _ => fun
  | [d1, d2] => { results := [.lit (.bool false)], args := [d1, d2] }
  | _ => none }
def ScanLinesWrongFalsely : Prop := scanLinesRow.holds Try.pinned (OpenSpec.ofChange scanLinesWrong)

/-- 'vivariumlaw03.ScanJoined': WHATEVER THE INPUT: true; the input reads as it did. -/
def scanJoinedSpec : ChangeSpec := { name := "scanJoined", fn := fun _ => fun
  | [d1, d2] => { results := [.lit (.bool true)], args := [d1, d2] }
  | _ => none }
def scanJoinedRow : OpenClaim := { program := "ytkahgdkpehlanaa", sum := "36bd40f6ef5db87b7d38af52f6357ca320ca1181ad6778ec8ea48db167c38cf8", func := "vivarium/vivariumlaw03.ScanJoined", spec := "scanJoined", inPlace := ["internal/bytealg.IndexByteString", "internal/bytealg.IndexString"], unfollowed := true, recurses := true, named := ["internal/bytealg.MaxLen"], apart := false }
def ScanJoinedSaid : Prop := scanJoinedRow.holds Try.pinned (OpenSpec.ofChange scanJoinedSpec)

/-- ITS FALSE NEIGHBOUR: 'it returns false'. Refute it at one input. -/
def scanJoinedWrong : ChangeSpec := { name := "scanJoined", fn := fun _ => fun
  | [d1, d2] => { results := [.lit (.bool false)], args := [d1, d2] }
  | _ => none }
def ScanJoinedWrongFalsely : Prop := scanJoinedRow.holds Try.pinned (OpenSpec.ofChange scanJoinedWrong)

/- THE SECOND FORM. 'bulk': how many values and letters a reading holds, each counted each time it is reached (what is shared counts as often as it is met; a slice's spare places count too). A statement '..UptoSaid' is the law's where the arguments, and the package variables that the reading takes, are together of bulk at most 1048576: NARROWER than '..Said'. Prove '..Said' where nothing that the law and all that it calls make is longer than what came in: it says more and counts as full. Else prove '..UptoSaid'. A law counts once. -/
mutual
def uptoBulk {H : Type} : DataW H → Nat
  | .lit (.string bytes) => bytes.length + 1
  | .lit _ => 1
  | .nil => 1
  | .ptr d => uptoBulk d + 1
  | .slice elems spare => uptoBulkAll elems + uptoBulkAll spare + 1
  | .agg parts => uptoBulkAll parts + 1
  | .iface _ d => uptoBulk d + 1
  | .map entries => uptoBulkEntries entries + 1
  | .held _ => 1
def uptoBulkAll {H : Type} : List (DataW H) → Nat
  | [] => 0
  | d :: r => uptoBulk d + uptoBulkAll r
def uptoBulkEntries {H : Type} : List (Lit × DataW H) → Nat
  | [] => 0
  | x :: r => uptoBulkEntry x + uptoBulkEntries r
def uptoBulkEntry {H : Type} : Lit × DataW H → Nat
  | (.string bytes, d) => bytes.length + uptoBulk d + 1
  | (_, d) => uptoBulk d + 1
 end
def uptoSmall : (H : Type) → List (DataW H) → Bool := fun _ ds => decide (uptoBulkAll ds ≤ 1048576)
def OpenSpec.upto (s : _root_.Go.ChangeSpec) : _root_.Go.OpenSpec := { _root_.Go.OpenSpec.ofChange s with cond := some uptoSmall }

/-- 'vivariumlaw03.ScanFields', WHERE WHAT IT READS IS OF BULK AT MOST 1048576: true; the input reads as it did. -/
def scanFieldsUptoRow : OpenClaim := { program := "ytkahgdkpehlanaa", sum := "36bd40f6ef5db87b7d38af52f6357ca320ca1181ad6778ec8ea48db167c38cf8", func := "vivarium/vivariumlaw03.ScanFields", spec := "scanFields", inPlace := ["internal/bytealg.IndexByteString", "internal/bytealg.IndexString"], unfollowed := true, recurses := true, named := ["internal/bytealg.MaxLen"], apart := false, narrowed := true }
def ScanFieldsUptoSaid : Prop := scanFieldsUptoRow.holds Try.pinned (OpenSpec.upto scanFieldsSpec)

/-- 'vivariumlaw03.ScanRuns', WHERE WHAT IT READS IS OF BULK AT MOST 1048576: true; the input reads as it did. -/
def scanRunsUptoRow : OpenClaim := { program := "ytkahgdkpehlanaa", sum := "36bd40f6ef5db87b7d38af52f6357ca320ca1181ad6778ec8ea48db167c38cf8", func := "vivarium/vivariumlaw03.ScanRuns", spec := "scanRuns", inPlace := ["internal/bytealg.IndexByteString", "internal/bytealg.IndexString"], unfollowed := true, recurses := true, named := ["internal/bytealg.MaxLen"], apart := false, narrowed := true }
def ScanRunsUptoSaid : Prop := scanRunsUptoRow.holds Try.pinned (OpenSpec.upto scanRunsSpec)

/-- 'vivariumlaw03.ScanLong', WHERE WHAT IT READS IS OF BULK AT MOST 1048576: true; the input reads as it did. -/
def scanLongUptoRow : OpenClaim := { program := "ytkahgdkpehlanaa", sum := "36bd40f6ef5db87b7d38af52f6357ca320ca1181ad6778ec8ea48db167c38cf8", func := "vivarium/vivariumlaw03.ScanLong", spec := "scanLong", inPlace := ["internal/bytealg.IndexByteString", "internal/bytealg.IndexString"], unfollowed := true, recurses := true, named := ["internal/bytealg.MaxLen"], apart := false, narrowed := true }
def ScanLongUptoSaid : Prop := scanLongUptoRow.holds Try.pinned (OpenSpec.upto scanLongSpec)

/-- 'vivariumlaw03.ScanCutter', WHERE WHAT IT READS IS OF BULK AT MOST 1048576: true; the input reads as it did. -/
def scanCutterUptoRow : OpenClaim := { program := "ytkahgdkpehlanaa", sum := "36bd40f6ef5db87b7d38af52f6357ca320ca1181ad6778ec8ea48db167c38cf8", func := "vivarium/vivariumlaw03.ScanCutter", spec := "scanCutter", inPlace := ["internal/bytealg.IndexByteString", "internal/bytealg.IndexString"], unfollowed := true, recurses := true, named := ["internal/bytealg.MaxLen"], apart := false, narrowed := true }
def ScanCutterUptoSaid : Prop := scanCutterUptoRow.holds Try.pinned (OpenSpec.upto scanCutterSpec)

/-- 'vivariumlaw03.ScanTags', WHERE WHAT IT READS IS OF BULK AT MOST 1048576: true; the input reads as it did. -/
def scanTagsUptoRow : OpenClaim := { program := "ytkahgdkpehlanaa", sum := "36bd40f6ef5db87b7d38af52f6357ca320ca1181ad6778ec8ea48db167c38cf8", func := "vivarium/vivariumlaw03.ScanTags", spec := "scanTags", inPlace := ["internal/bytealg.IndexByteString", "internal/bytealg.IndexString"], unfollowed := true, recurses := true, named := ["internal/bytealg.MaxLen"], apart := false, narrowed := true }
def ScanTagsUptoSaid : Prop := scanTagsUptoRow.holds Try.pinned (OpenSpec.upto scanTagsSpec)

/-- 'vivariumlaw03.ScanLines', WHERE WHAT IT READS IS OF BULK AT MOST 1048576: true; the input reads as it did. -/
def scanLinesUptoRow : OpenClaim := { program := "ytkahgdkpehlanaa", sum := "36bd40f6ef5db87b7d38af52f6357ca320ca1181ad6778ec8ea48db167c38cf8", func := "vivarium/vivariumlaw03.ScanLines", spec := "scanLines", inPlace := ["internal/bytealg.IndexByteString", "internal/bytealg.IndexString"], unfollowed := true, recurses := true, named := ["internal/bytealg.MaxLen"], apart := false, narrowed := true }
def ScanLinesUptoSaid : Prop := scanLinesUptoRow.holds Try.pinned (OpenSpec.upto scanLinesSpec)

/-- 'vivariumlaw03.ScanJoined', WHERE WHAT IT READS IS OF BULK AT MOST 1048576: true; the input reads as it did. -/
def scanJoinedUptoRow : OpenClaim := { program := "ytkahgdkpehlanaa", sum := "36bd40f6ef5db87b7d38af52f6357ca320ca1181ad6778ec8ea48db167c38cf8", func := "vivarium/vivariumlaw03.ScanJoined", spec := "scanJoined", inPlace := ["internal/bytealg.IndexByteString", "internal/bytealg.IndexString"], unfollowed := true, recurses := true, named := ["internal/bytealg.MaxLen"], apart := false, narrowed := true }
def ScanJoinedUptoSaid : Prop := scanJoinedUptoRow.holds Try.pinned (OpenSpec.upto scanJoinedSpec)

end Rows
end Go.Proofs.Ytkahgdkpehlanaa

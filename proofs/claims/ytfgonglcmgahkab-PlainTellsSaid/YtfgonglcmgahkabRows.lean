/-
  No cell of these rows narrows 'for every input' (looked for: loops, veiled, ifaces, maps, wideKeys, modest, calm, conditions, laid).
  DERIVED. THE GIVEN ROWS OF THIS SEAT. 6 by the template 'for every input the law returns true; each argument reads behind the call as it read before'; 0 by the template 'total and deterministic' (their statements: YtfgonglcmgahkabTotals.lean).
  GIVEN WITH THE SEED: the statements are not yours to turn. If you find one false, say at which input.
  Laid BY PROGRAM, IN A SANDBOX (cutbox-rows.mjs): the forced cells as the released guide's own fill.sh prints them over the translation db5c4131922bd361… (all of the seat's roots in one cut). By AI agents, Wed Nov 11 2026. No macro, syntax, notation, axiom, sorry.
-/
import Derived.Test.YtfgonglcmgahkabChecked
import GoSem.Claim
import GoSem.ClaimJoined
import GoSem.ClaimMapViews
import Derived.JoinedTies
import Derived.KernelRfl
namespace Go.Proofs.Ytfgonglcmgahkab
/- THE CELL 'sum', in the pinned program and in every row, IS THE sha256 OF THE DUMP (.gsa) THAT YtfgonglcmgahkabProg.lean LOADS. Nothing in Lean hashes anything: it is a label: what it is worth is what the hold of that sum in a sandbox is worth. -/
noncomputable def Try.pinned : Pinned := { name := "ytfgonglcmgahkab", sum := "db5c4131922bd361b428116147a04b92bf2f50171eecf5660e2eea9266349a45", checked := Try.checked }
namespace Rows
def none {H : Type} : Left H := { results := [], args := [] }

/-- 'vivariumlaw23.PlainBack': WHATEVER THE INPUT: true; the input reads as it did. -/
def plainBackSpec : ChangeSpec := { name := "plainBack", fn := fun _ => fun
  | [d1, d2] => { results := [.lit (.bool true)], args := [d1, d2] }
  | _ => none }
def plainBackRow : OpenClaim := { program := "ytfgonglcmgahkab", sum := "db5c4131922bd361b428116147a04b92bf2f50171eecf5660e2eea9266349a45", func := "vivarium/vivariumlaw23.PlainBack", spec := "plainBack", inPlace := ["internal/bytealg.IndexByteString", "internal/bytealg.IndexString", "internal/abi.NoEscape"], unfollowed := true, recurses := true, named := ["internal/bytealg.MaxLen"], plainKeys := false, apart := false }
def PlainBackSaid : Prop := plainBackRow.holds Try.pinned (OpenSpec.ofChange plainBackSpec)

/-- ITS FALSE NEIGHBOUR: 'it returns false'. Refute it at one input. -/
def plainBackWrong : ChangeSpec := { name := "plainBack", fn := fun _ => fun
  | [d1, d2] => { results := [.lit (.bool false)], args := [d1, d2] }
  | _ => none }
def PlainBackWrongFalsely : Prop := plainBackRow.holds Try.pinned (OpenSpec.ofChange plainBackWrong)

/-- 'vivariumlaw23.PlainForm': WHATEVER THE INPUT: true; the input reads as it did. -/
def plainFormSpec : ChangeSpec := { name := "plainForm", fn := fun _ => fun
  | [d] => { results := [.lit (.bool true)], args := [d] }
  | _ => none }
def plainFormRow : OpenClaim := { program := "ytfgonglcmgahkab", sum := "db5c4131922bd361b428116147a04b92bf2f50171eecf5660e2eea9266349a45", func := "vivarium/vivariumlaw23.PlainForm", spec := "plainForm", inPlace := ["internal/bytealg.IndexByteString", "internal/bytealg.IndexString", "internal/abi.NoEscape"], unfollowed := true, recurses := true, named := ["internal/bytealg.MaxLen"], plainKeys := false, apart := false }
def PlainFormSaid : Prop := plainFormRow.holds Try.pinned (OpenSpec.ofChange plainFormSpec)

/-- ITS FALSE NEIGHBOUR: 'it returns false'. Refute it at one input. -/
def plainFormWrong : ChangeSpec := { name := "plainForm", fn := fun _ => fun
  | [d] => { results := [.lit (.bool false)], args := [d] }
  | _ => none }
def PlainFormWrongFalsely : Prop := plainFormRow.holds Try.pinned (OpenSpec.ofChange plainFormWrong)

/-- 'vivariumlaw23.PlainEach': WHATEVER THE INPUT: true; the input reads as it did. -/
def plainEachSpec : ChangeSpec := { name := "plainEach", fn := fun _ => fun
  | [d1, d2] => { results := [.lit (.bool true)], args := [d1, d2] }
  | _ => none }
def plainEachRow : OpenClaim := { program := "ytfgonglcmgahkab", sum := "db5c4131922bd361b428116147a04b92bf2f50171eecf5660e2eea9266349a45", func := "vivarium/vivariumlaw23.PlainEach", spec := "plainEach", inPlace := ["internal/bytealg.IndexByteString", "internal/bytealg.IndexString", "internal/abi.NoEscape"], unfollowed := true, recurses := true, named := ["internal/bytealg.MaxLen"], plainKeys := false, apart := false }
def PlainEachSaid : Prop := plainEachRow.holds Try.pinned (OpenSpec.ofChange plainEachSpec)

/-- ITS FALSE NEIGHBOUR: 'it returns false'. Refute it at one input. -/
def plainEachWrong : ChangeSpec := { name := "plainEach", fn := fun _ => fun
  | [d1, d2] => { results := [.lit (.bool false)], args := [d1, d2] }
  | _ => none }
def PlainEachWrongFalsely : Prop := plainEachRow.holds Try.pinned (OpenSpec.ofChange plainEachWrong)

/-- 'vivariumlaw23.PlainNames': WHATEVER THE INPUT: true; the input reads as it did. -/
def plainNamesSpec : ChangeSpec := { name := "plainNames", fn := fun _ => fun
  | [] => { results := [.lit (.bool true)], args := [] }
  | _ => none }
def plainNamesRow : OpenClaim := { program := "ytfgonglcmgahkab", sum := "db5c4131922bd361b428116147a04b92bf2f50171eecf5660e2eea9266349a45", func := "vivarium/vivariumlaw23.PlainNames", spec := "plainNames", inPlace := ["internal/bytealg.IndexByteString", "internal/bytealg.IndexString", "internal/abi.NoEscape"], unfollowed := true, recurses := true, named := ["internal/bytealg.MaxLen"], plainKeys := false, apart := false }
def PlainNamesSaid : Prop := plainNamesRow.holds Try.pinned (OpenSpec.ofChange plainNamesSpec)

/-- ITS FALSE NEIGHBOUR: 'it returns false'. Refute it at one input. -/
def plainNamesWrong : ChangeSpec := { name := "plainNames", fn := fun _ => fun
  | [] => { results := [.lit (.bool false)], args := [] }
  | _ => none }
def PlainNamesWrongFalsely : Prop := plainNamesRow.holds Try.pinned (OpenSpec.ofChange plainNamesWrong)

/-- 'vivariumlaw23.PlainWrites': WHATEVER THE INPUT: true; the input reads as it did. -/
def plainWritesSpec : ChangeSpec := { name := "plainWrites", fn := fun _ => fun
  | [d1, d2] => { results := [.lit (.bool true)], args := [d1, d2] }
  | _ => none }
def plainWritesRow : OpenClaim := { program := "ytfgonglcmgahkab", sum := "db5c4131922bd361b428116147a04b92bf2f50171eecf5660e2eea9266349a45", func := "vivarium/vivariumlaw23.PlainWrites", spec := "plainWrites", inPlace := ["internal/bytealg.IndexByteString", "internal/bytealg.IndexString", "internal/abi.NoEscape"], unfollowed := true, recurses := true, named := ["internal/bytealg.MaxLen"], plainKeys := false, apart := false }
def PlainWritesSaid : Prop := plainWritesRow.holds Try.pinned (OpenSpec.ofChange plainWritesSpec)

/-- ITS FALSE NEIGHBOUR: 'it returns false'. Refute it at one input. -/
def plainWritesWrong : ChangeSpec := { name := "plainWrites", fn := fun _ => fun
  | [d1, d2] => { results := [.lit (.bool false)], args := [d1, d2] }
  | _ => none }
def PlainWritesWrongFalsely : Prop := plainWritesRow.holds Try.pinned (OpenSpec.ofChange plainWritesWrong)

/-- 'vivariumlaw23.PlainTells': WHATEVER THE INPUT: true; the input reads as it did. -/
def plainTellsSpec : ChangeSpec := { name := "plainTells", fn := fun _ => fun
  | [d1, d2] => { results := [.lit (.bool true)], args := [d1, d2] }
  | _ => none }
def plainTellsRow : OpenClaim := { program := "ytfgonglcmgahkab", sum := "db5c4131922bd361b428116147a04b92bf2f50171eecf5660e2eea9266349a45", func := "vivarium/vivariumlaw23.PlainTells", spec := "plainTells", inPlace := ["internal/bytealg.IndexByteString", "internal/bytealg.IndexString", "internal/abi.NoEscape"], unfollowed := true, recurses := true, named := ["internal/bytealg.MaxLen"], plainKeys := false, apart := false }
def PlainTellsSaid : Prop := plainTellsRow.holds Try.pinned (OpenSpec.ofChange plainTellsSpec)

/-- ITS FALSE NEIGHBOUR: 'it returns false'. Refute it at one input. -/
def plainTellsWrong : ChangeSpec := { name := "plainTells", fn := fun _ => fun
  | [d1, d2] => { results := [.lit (.bool false)], args := [d1, d2] }
  | _ => none }
def PlainTellsWrongFalsely : Prop := plainTellsRow.holds Try.pinned (OpenSpec.ofChange plainTellsWrong)

/- THE SECOND FORM. 'bulk': how many values and letters a reading holds, each counted each time it is reached (what is shared counts as often as it is met; a slice's spare places count too). A statement '..UptoSaid' is the law's where the arguments, and the package variables that the reading takes, are together of bulk at most 1048576: NARROWER than '..Said'. Prove '..Said' where nothing that the law and all that it calls make is longer than what came in: it says more and counts as full. Else prove '..UptoSaid'. A law counts once. -/
mutual
def uptoBulk {H : Type} : DataW H → Nat
  | .lit (.string bytes) => bytes.length + 1
  | .lit _ => 1
  | .nil => 1
  | .ptr d => uptoBulk d + 1
  | .slice elems spare => uptoBulkAll elems + uptoBulkAll spare + 1
  | .agg parts => uptoBulkAll parts + 1
  | .iface _ d => uptoBulk d + 1
  | .map entries => uptoBulkEntries entries + 1
  | .held _ => 1
def uptoBulkAll {H : Type} : List (DataW H) → Nat
  | [] => 0
  | d :: r => uptoBulk d + uptoBulkAll r
def uptoBulkEntries {H : Type} : List (Lit × DataW H) → Nat
  | [] => 0
  | x :: r => uptoBulkEntry x + uptoBulkEntries r
def uptoBulkEntry {H : Type} : Lit × DataW H → Nat
  | (.string bytes, d) => bytes.length + uptoBulk d + 1
  | (_, d) => uptoBulk d + 1
 end
def uptoSmall : (H : Type) → List (DataW H) → Bool := fun _ ds => decide (uptoBulkAll ds ≤ 1048576)
def OpenSpec.upto (s : _root_.Go.ChangeSpec) : _root_.Go.OpenSpec := { _root_.Go.OpenSpec.ofChange s with cond := some uptoSmall }

/-- 'vivariumlaw23.PlainBack', WHERE WHAT IT READS IS OF BULK AT MOST 1048576: true; the input reads as it did. -/
def plainBackUptoRow : OpenClaim := { program := "ytfgonglcmgahkab", sum := "db5c4131922bd361b428116147a04b92bf2f50171eecf5660e2eea9266349a45", func := "vivarium/vivariumlaw23.PlainBack", spec := "plainBack", inPlace := ["internal/bytealg.IndexByteString", "internal/bytealg.IndexString", "internal/abi.NoEscape"], unfollowed := true, recurses := true, named := ["internal/bytealg.MaxLen"], plainKeys := false, apart := false, narrowed := true }
def PlainBackUptoSaid : Prop := plainBackUptoRow.holds Try.pinned (OpenSpec.upto plainBackSpec)

/-- 'vivariumlaw23.PlainForm', WHERE WHAT IT READS IS OF BULK AT MOST 1048576: true; the input reads as it did. -/
def plainFormUptoRow : OpenClaim := { program := "ytfgonglcmgahkab", sum := "db5c4131922bd361b428116147a04b92bf2f50171eecf5660e2eea9266349a45", func := "vivarium/vivariumlaw23.PlainForm", spec := "plainForm", inPlace := ["internal/bytealg.IndexByteString", "internal/bytealg.IndexString", "internal/abi.NoEscape"], unfollowed := true, recurses := true, named := ["internal/bytealg.MaxLen"], plainKeys := false, apart := false, narrowed := true }
def PlainFormUptoSaid : Prop := plainFormUptoRow.holds Try.pinned (OpenSpec.upto plainFormSpec)

/-- 'vivariumlaw23.PlainEach', WHERE WHAT IT READS IS OF BULK AT MOST 1048576: true; the input reads as it did. -/
def plainEachUptoRow : OpenClaim := { program := "ytfgonglcmgahkab", sum := "db5c4131922bd361b428116147a04b92bf2f50171eecf5660e2eea9266349a45", func := "vivarium/vivariumlaw23.PlainEach", spec := "plainEach", inPlace := ["internal/bytealg.IndexByteString", "internal/bytealg.IndexString", "internal/abi.NoEscape"], unfollowed := true, recurses := true, named := ["internal/bytealg.MaxLen"], plainKeys := false, apart := false, narrowed := true }
def PlainEachUptoSaid : Prop := plainEachUptoRow.holds Try.pinned (OpenSpec.upto plainEachSpec)

/-- 'vivariumlaw23.PlainNames', WHERE WHAT IT READS IS OF BULK AT MOST 1048576: true; the input reads as it did. -/
def plainNamesUptoRow : OpenClaim := { program := "ytfgonglcmgahkab", sum := "db5c4131922bd361b428116147a04b92bf2f50171eecf5660e2eea9266349a45", func := "vivarium/vivariumlaw23.PlainNames", spec := "plainNames", inPlace := ["internal/bytealg.IndexByteString", "internal/bytealg.IndexString", "internal/abi.NoEscape"], unfollowed := true, recurses := true, named := ["internal/bytealg.MaxLen"], plainKeys := false, apart := false, narrowed := true }
def PlainNamesUptoSaid : Prop := plainNamesUptoRow.holds Try.pinned (OpenSpec.upto plainNamesSpec)

/-- 'vivariumlaw23.PlainWrites', WHERE WHAT IT READS IS OF BULK AT MOST 1048576: true; the input reads as it did. -/
def plainWritesUptoRow : OpenClaim := { program := "ytfgonglcmgahkab", sum := "db5c4131922bd361b428116147a04b92bf2f50171eecf5660e2eea9266349a45", func := "vivarium/vivariumlaw23.PlainWrites", spec := "plainWrites", inPlace := ["internal/bytealg.IndexByteString", "internal/bytealg.IndexString", "internal/abi.NoEscape"], unfollowed := true, recurses := true, named := ["internal/bytealg.MaxLen"], plainKeys := false, apart := false, narrowed := true }
def PlainWritesUptoSaid : Prop := plainWritesUptoRow.holds Try.pinned (OpenSpec.upto plainWritesSpec)

/-- 'vivariumlaw23.PlainTells', WHERE WHAT IT READS IS OF BULK AT MOST 1048576: true; the input reads as it did. -/
def plainTellsUptoRow : OpenClaim := { program := "ytfgonglcmgahkab", sum := "db5c4131922bd361b428116147a04b92bf2f50171eecf5660e2eea9266349a45", func := "vivarium/vivariumlaw23.PlainTells", spec := "plainTells", inPlace := ["internal/bytealg.IndexByteString", "internal/bytealg.IndexString", "internal/abi.NoEscape"], unfollowed := true, recurses := true, named := ["internal/bytealg.MaxLen"], plainKeys := false, apart := false, narrowed := true }
def PlainTellsUptoSaid : Prop := plainTellsUptoRow.holds Try.pinned (OpenSpec.upto plainTellsSpec)

end Rows
end Go.Proofs.Ytfgonglcmgahkab

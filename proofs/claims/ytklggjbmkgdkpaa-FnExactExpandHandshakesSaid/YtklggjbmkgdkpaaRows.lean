/-
  No cell of these rows narrows 'for every input' (looked for: loops, veiled, ifaces, maps, wideKeys, modest, calm, conditions, laid).
  DERIVED. THE GIVEN ROWS OF THIS SEAT. 6 by the template 'for every input the law returns true; each argument reads behind the call as it read before'; 0 by the template 'total and deterministic' (their statements: YtklggjbmkgdkpaaTotals.lean).
  GIVEN WITH THE SEED: the statements are not yours to turn. If you find one false, say at which input.
  Laid BY PROGRAM, IN A SANDBOX (cutbox-rows.mjs): the forced cells as the released guide's own fill.sh prints them over the translation b33a78f8d4eebe0a… (all of the seat's roots in one cut). By AI agents, Wed Nov 11 2026. No macro, syntax, notation, axiom, sorry.
-/
import Derived.Test.YtklggjbmkgdkpaaChecked
import GoSem.Claim
import GoSem.ClaimJoined
import GoSem.ClaimMapViews
import Derived.JoinedTies
import Derived.KernelRfl
namespace Go.Proofs.Ytklggjbmkgdkpaa
/- THE CELL 'sum', in the pinned program and in every row, IS THE sha256 OF THE DUMP (.gsa) THAT YtklggjbmkgdkpaaProg.lean LOADS. Nothing in Lean hashes anything: it is a label: what it is worth is what the hold of that sum in a sandbox is worth. -/
noncomputable def Try.pinned : Pinned := { name := "ytklggjbmkgdkpaa", sum := "b33a78f8d4eebe0a9e932ebfff32fa4ab7ea809df200ea8d7baeb4c7baa28800", checked := Try.checked }
namespace Rows
def none {H : Type} : Left H := { results := [], args := [] }

/-- 'laws.FnExactIsValidProcess': WHATEVER THE INPUT: true; the input reads as it did. -/
def fnExactIsValidProcessSpec : ChangeSpec := { name := "fnExactIsValidProcess", fn := fun _ => fun
  | [d] => { results := [.lit (.bool true)], args := [d] }
  | _ => none }
def fnExactIsValidProcessRow : OpenClaim := { program := "ytklggjbmkgdkpaa", sum := "b33a78f8d4eebe0a9e932ebfff32fa4ab7ea809df200ea8d7baeb4c7baa28800", func := "loop.example/g00862/laws.FnExactIsValidProcess", spec := "fnExactIsValidProcess", recurses := true, apart := false }
def FnExactIsValidProcessSaid : Prop := fnExactIsValidProcessRow.holds Try.pinned (OpenSpec.ofChange fnExactIsValidProcessSpec)

/-- ITS FALSE NEIGHBOUR: 'it returns false'. Refute it at one input. -/
def fnExactIsValidProcessWrong : ChangeSpec := { name := "fnExactIsValidProcess", fn := fun _ => fun
  | [d] => { results := [.lit (.bool false)], args := [d] }
  | _ => none }
def FnExactIsValidProcessWrongFalsely : Prop := fnExactIsValidProcessRow.holds Try.pinned (OpenSpec.ofChange fnExactIsValidProcessWrong)

/-- 'laws.FnExactParallelDepth': WHATEVER THE INPUT: true; the input reads as it did. -/
def fnExactParallelDepthSpec : ChangeSpec := { name := "fnExactParallelDepth", fn := fun _ => fun
  | [d] => { results := [.lit (.bool true)], args := [d] }
  | _ => none }
def fnExactParallelDepthRow : OpenClaim := { program := "ytklggjbmkgdkpaa", sum := "b33a78f8d4eebe0a9e932ebfff32fa4ab7ea809df200ea8d7baeb4c7baa28800", func := "loop.example/g00862/laws.FnExactParallelDepth", spec := "fnExactParallelDepth", recurses := true, apart := false }
def FnExactParallelDepthSaid : Prop := fnExactParallelDepthRow.holds Try.pinned (OpenSpec.ofChange fnExactParallelDepthSpec)

/-- ITS FALSE NEIGHBOUR: 'it returns false'. Refute it at one input. -/
def fnExactParallelDepthWrong : ChangeSpec := { name := "fnExactParallelDepth", fn := fun _ => fun
  | [d] => { results := [.lit (.bool false)], args := [d] }
  | _ => none }
def FnExactParallelDepthWrongFalsely : Prop := fnExactParallelDepthRow.holds Try.pinned (OpenSpec.ofChange fnExactParallelDepthWrong)

/-- 'laws.FnExactProcessEdges': WHATEVER THE INPUT: true; the input reads as it did. -/
def fnExactProcessEdgesSpec : ChangeSpec := { name := "fnExactProcessEdges", fn := fun _ => fun
  | [d] => { results := [.lit (.bool true)], args := [d] }
  | _ => none }
def fnExactProcessEdgesRow : OpenClaim := { program := "ytklggjbmkgdkpaa", sum := "b33a78f8d4eebe0a9e932ebfff32fa4ab7ea809df200ea8d7baeb4c7baa28800", func := "loop.example/g00862/laws.FnExactProcessEdges", spec := "fnExactProcessEdges", recurses := true, apart := false }
def FnExactProcessEdgesSaid : Prop := fnExactProcessEdgesRow.holds Try.pinned (OpenSpec.ofChange fnExactProcessEdgesSpec)

/-- ITS FALSE NEIGHBOUR: 'it returns false'. Refute it at one input. -/
def fnExactProcessEdgesWrong : ChangeSpec := { name := "fnExactProcessEdges", fn := fun _ => fun
  | [d] => { results := [.lit (.bool false)], args := [d] }
  | _ => none }
def FnExactProcessEdgesWrongFalsely : Prop := fnExactProcessEdgesRow.holds Try.pinned (OpenSpec.ofChange fnExactProcessEdgesWrong)

/-- 'laws.FnExactExpandHandshakes': WHATEVER THE INPUT: true; the input reads as it did. -/
def fnExactExpandHandshakesSpec : ChangeSpec := { name := "fnExactExpandHandshakes", fn := fun _ => fun
  | [d] => { results := [.lit (.bool true)], args := [d] }
  | _ => none }
def fnExactExpandHandshakesRow : OpenClaim := { program := "ytklggjbmkgdkpaa", sum := "b33a78f8d4eebe0a9e932ebfff32fa4ab7ea809df200ea8d7baeb4c7baa28800", func := "loop.example/g00862/laws.FnExactExpandHandshakes", spec := "fnExactExpandHandshakes", inPlace := ["internal/abi.NoEscape", "internal/bytealg.MakeNoZero"], recurses := true, apart := false }
def FnExactExpandHandshakesSaid : Prop := fnExactExpandHandshakesRow.holds Try.pinned (OpenSpec.ofChange fnExactExpandHandshakesSpec)

/-- ITS FALSE NEIGHBOUR: 'it returns false'. Refute it at one input. -/
def fnExactExpandHandshakesWrong : ChangeSpec := { name := "fnExactExpandHandshakes", fn := fun _ => fun
  | [d] => { results := [.lit (.bool false)], args := [d] }
  | _ => none }
def FnExactExpandHandshakesWrongFalsely : Prop := fnExactExpandHandshakesRow.holds Try.pinned (OpenSpec.ofChange fnExactExpandHandshakesWrong)

/-- 'laws.FnExactProcessSignals': WHATEVER THE INPUT: true; the input reads as it did. -/
def fnExactProcessSignalsSpec : ChangeSpec := { name := "fnExactProcessSignals", fn := fun _ => fun
  | [d1, d2] => { results := [.lit (.bool true)], args := [d1, d2] }
  | _ => none }
def fnExactProcessSignalsRow : OpenClaim := { program := "ytklggjbmkgdkpaa", sum := "b33a78f8d4eebe0a9e932ebfff32fa4ab7ea809df200ea8d7baeb4c7baa28800", func := "loop.example/g00862/laws.FnExactProcessSignals", spec := "fnExactProcessSignals", unfollowed := true, recurses := true, apart := false }
def FnExactProcessSignalsSaid : Prop := fnExactProcessSignalsRow.holds Try.pinned (OpenSpec.ofChange fnExactProcessSignalsSpec)

/-- ITS FALSE NEIGHBOUR: 'it returns false'. Refute it at one input. -/
def fnExactProcessSignalsWrong : ChangeSpec := { name := "fnExactProcessSignals", fn := fun _ => fun
  | [d1, d2] => { results := [.lit (.bool false)], args := [d1, d2] }
  | _ => none }
def FnExactProcessSignalsWrongFalsely : Prop := fnExactProcessSignalsRow.holds Try.pinned (OpenSpec.ofChange fnExactProcessSignalsWrong)

/-- 'laws.FnExactProcessTraces': WHATEVER THE INPUT: true; the input reads as it did. -/
def fnExactProcessTracesSpec : ChangeSpec := { name := "fnExactProcessTraces", fn := fun _ => fun
  | [d1, d2] => { results := [.lit (.bool true)], args := [d1, d2] }
  | _ => none }
def fnExactProcessTracesRow : OpenClaim := { program := "ytklggjbmkgdkpaa", sum := "b33a78f8d4eebe0a9e932ebfff32fa4ab7ea809df200ea8d7baeb4c7baa28800", func := "loop.example/g00862/laws.FnExactProcessTraces", spec := "fnExactProcessTraces", inPlace := ["internal/abi.NoEscape", "internal/bytealg.MakeNoZero"], recurses := true, apart := false }
def FnExactProcessTracesSaid : Prop := fnExactProcessTracesRow.holds Try.pinned (OpenSpec.ofChange fnExactProcessTracesSpec)

/-- ITS FALSE NEIGHBOUR: 'it returns false'. Refute it at one input. -/
def fnExactProcessTracesWrong : ChangeSpec := { name := "fnExactProcessTraces", fn := fun _ => fun
  | [d1, d2] => { results := [.lit (.bool false)], args := [d1, d2] }
  | _ => none }
def FnExactProcessTracesWrongFalsely : Prop := fnExactProcessTracesRow.holds Try.pinned (OpenSpec.ofChange fnExactProcessTracesWrong)

/- THE SECOND FORM. 'bulk': how many values and letters a reading holds, each counted each time it is reached (what is shared counts as often as it is met; a slice's spare places count too). A statement '..UptoSaid' is the law's where the arguments, and the package variables that the reading takes, are together of bulk at most 1048576: NARROWER than '..Said'. Prove '..Said' where nothing that the law and all that it calls make is longer than what came in: it says more and counts as full. Else prove '..UptoSaid'. A law counts once. -/
mutual
def uptoBulk {H : Type} : DataW H → Nat
  | .lit (.string bytes) => bytes.length + 1
  | .lit _ => 1
  | .nil => 1
  | .ptr d => uptoBulk d + 1
  | .slice elems spare => uptoBulkAll elems + uptoBulkAll spare + 1
  | .agg parts => uptoBulkAll parts + 1
  | .iface _ d => uptoBulk d + 1
  | .map entries => uptoBulkEntries entries + 1
  | .held _ => 1
def uptoBulkAll {H : Type} : List (DataW H) → Nat
  | [] => 0
  | d :: r => uptoBulk d + uptoBulkAll r
def uptoBulkEntries {H : Type} : List (Lit × DataW H) → Nat
  | [] => 0
  | x :: r => uptoBulkEntry x + uptoBulkEntries r
def uptoBulkEntry {H : Type} : Lit × DataW H → Nat
  | (.string bytes, d) => bytes.length + uptoBulk d + 1
  | (_, d) => uptoBulk d + 1
 end
def uptoSmall : (H : Type) → List (DataW H) → Bool := fun _ ds => decide (uptoBulkAll ds ≤ 1048576)
def OpenSpec.upto (s : _root_.Go.ChangeSpec) : _root_.Go.OpenSpec := { _root_.Go.OpenSpec.ofChange s with cond := some uptoSmall }

/-- 'laws.FnExactIsValidProcess', WHERE WHAT IT READS IS OF BULK AT MOST 1048576: true; the input reads as it did. -/
def fnExactIsValidProcessUptoRow : OpenClaim := { program := "ytklggjbmkgdkpaa", sum := "b33a78f8d4eebe0a9e932ebfff32fa4ab7ea809df200ea8d7baeb4c7baa28800", func := "loop.example/g00862/laws.FnExactIsValidProcess", spec := "fnExactIsValidProcess", recurses := true, apart := false, narrowed := true }
def FnExactIsValidProcessUptoSaid : Prop := fnExactIsValidProcessUptoRow.holds Try.pinned (OpenSpec.upto fnExactIsValidProcessSpec)

/-- 'laws.FnExactParallelDepth', WHERE WHAT IT READS IS OF BULK AT MOST 1048576: true; the input reads as it did. -/
def fnExactParallelDepthUptoRow : OpenClaim := { program := "ytklggjbmkgdkpaa", sum := "b33a78f8d4eebe0a9e932ebfff32fa4ab7ea809df200ea8d7baeb4c7baa28800", func := "loop.example/g00862/laws.FnExactParallelDepth", spec := "fnExactParallelDepth", recurses := true, apart := false, narrowed := true }
def FnExactParallelDepthUptoSaid : Prop := fnExactParallelDepthUptoRow.holds Try.pinned (OpenSpec.upto fnExactParallelDepthSpec)

/-- 'laws.FnExactProcessEdges', WHERE WHAT IT READS IS OF BULK AT MOST 1048576: true; the input reads as it did. -/
def fnExactProcessEdgesUptoRow : OpenClaim := { program := "ytklggjbmkgdkpaa", sum := "b33a78f8d4eebe0a9e932ebfff32fa4ab7ea809df200ea8d7baeb4c7baa28800", func := "loop.example/g00862/laws.FnExactProcessEdges", spec := "fnExactProcessEdges", recurses := true, apart := false, narrowed := true }
def FnExactProcessEdgesUptoSaid : Prop := fnExactProcessEdgesUptoRow.holds Try.pinned (OpenSpec.upto fnExactProcessEdgesSpec)

/-- 'laws.FnExactExpandHandshakes', WHERE WHAT IT READS IS OF BULK AT MOST 1048576: true; the input reads as it did. -/
def fnExactExpandHandshakesUptoRow : OpenClaim := { program := "ytklggjbmkgdkpaa", sum := "b33a78f8d4eebe0a9e932ebfff32fa4ab7ea809df200ea8d7baeb4c7baa28800", func := "loop.example/g00862/laws.FnExactExpandHandshakes", spec := "fnExactExpandHandshakes", inPlace := ["internal/abi.NoEscape", "internal/bytealg.MakeNoZero"], recurses := true, apart := false, narrowed := true }
def FnExactExpandHandshakesUptoSaid : Prop := fnExactExpandHandshakesUptoRow.holds Try.pinned (OpenSpec.upto fnExactExpandHandshakesSpec)

/-- 'laws.FnExactProcessSignals', WHERE WHAT IT READS IS OF BULK AT MOST 1048576: true; the input reads as it did. -/
def fnExactProcessSignalsUptoRow : OpenClaim := { program := "ytklggjbmkgdkpaa", sum := "b33a78f8d4eebe0a9e932ebfff32fa4ab7ea809df200ea8d7baeb4c7baa28800", func := "loop.example/g00862/laws.FnExactProcessSignals", spec := "fnExactProcessSignals", unfollowed := true, recurses := true, apart := false, narrowed := true }
def FnExactProcessSignalsUptoSaid : Prop := fnExactProcessSignalsUptoRow.holds Try.pinned (OpenSpec.upto fnExactProcessSignalsSpec)

/-- 'laws.FnExactProcessTraces', WHERE WHAT IT READS IS OF BULK AT MOST 1048576: true; the input reads as it did. -/
def fnExactProcessTracesUptoRow : OpenClaim := { program := "ytklggjbmkgdkpaa", sum := "b33a78f8d4eebe0a9e932ebfff32fa4ab7ea809df200ea8d7baeb4c7baa28800", func := "loop.example/g00862/laws.FnExactProcessTraces", spec := "fnExactProcessTraces", inPlace := ["internal/abi.NoEscape", "internal/bytealg.MakeNoZero"], recurses := true, apart := false, narrowed := true }
def FnExactProcessTracesUptoSaid : Prop := fnExactProcessTracesUptoRow.holds Try.pinned (OpenSpec.upto fnExactProcessTracesSpec)

end Rows
end Go.Proofs.Ytklggjbmkgdkpaa

/-
  No cell of these rows narrows 'for every input' (looked for: loops, veiled, ifaces, maps, wideKeys, modest, calm, conditions, laid).
  DERIVED. THE GIVEN ROWS OF THIS SEAT. 7 by the template 'for every input the law returns true; each argument reads behind the call as it read before'; 0 by the template 'total and deterministic' (their statements: YtlpafiiaminjkaaGreatTotals.lean).
  GIVEN WITH THE SEED: the statements are not yours to turn. If you find one false, say at which input.
  Laid BY PROGRAM, IN A SANDBOX (cutbox-rows.mjs): the forced cells as the released guide's own fill.sh prints them over the translation 5e881b38e8685b73… (all of the seat's roots in one cut). By AI agents, Wed Nov 11 2026. No macro, syntax, notation, axiom, sorry.
-/
import Derived.Test.YtlpafiiaminjkaaGreatChecked
import GoSem.Claim
import GoSem.ClaimJoined
import GoSem.ClaimMapViews
import Derived.JoinedTies
import Derived.KernelRfl
namespace Go.Proofs.YtlpafiiaminjkaaGreat
/- THE CELL 'sum', in the pinned program and in every row, IS THE sha256 OF THE DUMP (.gsa) THAT YtlpafiiaminjkaaGreatProg.lean LOADS. Nothing in Lean hashes anything: it is a label: what it is worth is what the hold of that sum in a sandbox is worth. -/
noncomputable def Tryz.pinned : Pinned := { name := "ytlpafiiaminjkaagreat", sum := "5e881b38e8685b735cd0c7788e0b57a627d023ab89e490987e1fd6974fb08410", checked := Tryz.checked }
namespace Rows
def none {H : Type} : Left H := { results := [], args := [] }

/-- 'laws.FnExactLocalMarking': WHATEVER THE INPUT: true; the input reads as it did. -/
def fnExactLocalMarkingSpec : ChangeSpec := { name := "fnExactLocalMarking", fn := fun _ => fun
  | [d1, d2, d3, d4] => { results := [.lit (.bool true)], args := [d1, d2, d3, d4] }
  | _ => none }
def fnExactLocalMarkingRow : OpenClaim := { program := "ytlpafiiaminjkaagreat", sum := "5e881b38e8685b735cd0c7788e0b57a627d023ab89e490987e1fd6974fb08410", func := "loop.example/g00862/laws.FnExactLocalMarking", spec := "fnExactLocalMarking", unfollowed := true, recurses := true, apart := false }
def FnExactLocalMarkingSaid : Prop := fnExactLocalMarkingRow.holds Tryz.pinned (OpenSpec.ofChange fnExactLocalMarkingSpec)

/-- ITS FALSE NEIGHBOUR: 'it returns false'. Refute it at one input. -/
def fnExactLocalMarkingWrong : ChangeSpec := { name := "fnExactLocalMarking", fn := fun _ => fun
  | [d1, d2, d3, d4] => { results := [.lit (.bool false)], args := [d1, d2, d3, d4] }
  | _ => none }
def FnExactLocalMarkingWrongFalsely : Prop := fnExactLocalMarkingRow.holds Tryz.pinned (OpenSpec.ofChange fnExactLocalMarkingWrong)

/-- 'laws.FnExactFinalMarking': WHATEVER THE INPUT: true; the input reads as it did. -/
def fnExactFinalMarkingSpec : ChangeSpec := { name := "fnExactFinalMarking", fn := fun _ => fun
  | [d1, d2, d3, d4] => { results := [.lit (.bool true)], args := [d1, d2, d3, d4] }
  | _ => none }
def fnExactFinalMarkingRow : OpenClaim := { program := "ytlpafiiaminjkaagreat", sum := "5e881b38e8685b735cd0c7788e0b57a627d023ab89e490987e1fd6974fb08410", func := "loop.example/g00862/laws.FnExactFinalMarking", spec := "fnExactFinalMarking", unfollowed := true, recurses := true, apart := false }
def FnExactFinalMarkingSaid : Prop := fnExactFinalMarkingRow.holds Tryz.pinned (OpenSpec.ofChange fnExactFinalMarkingSpec)

/-- ITS FALSE NEIGHBOUR: 'it returns false'. Refute it at one input. -/
def fnExactFinalMarkingWrong : ChangeSpec := { name := "fnExactFinalMarking", fn := fun _ => fun
  | [d1, d2, d3, d4] => { results := [.lit (.bool false)], args := [d1, d2, d3, d4] }
  | _ => none }
def FnExactFinalMarkingWrongFalsely : Prop := fnExactFinalMarkingRow.holds Tryz.pinned (OpenSpec.ofChange fnExactFinalMarkingWrong)

/-- 'laws.FnExactCompareEvents': WHATEVER THE INPUT: true; the input reads as it did. -/
def fnExactCompareEventsSpec : ChangeSpec := { name := "fnExactCompareEvents", fn := fun _ => fun
  | [d1, d2, d3, d4, d5] => { results := [.lit (.bool true)], args := [d1, d2, d3, d4, d5] }
  | _ => none }
def fnExactCompareEventsRow : OpenClaim := { program := "ytlpafiiaminjkaagreat", sum := "5e881b38e8685b735cd0c7788e0b57a627d023ab89e490987e1fd6974fb08410", func := "loop.example/g00862/laws.FnExactCompareEvents", spec := "fnExactCompareEvents", unfollowed := true, recurses := true, apart := false }
def FnExactCompareEventsSaid : Prop := fnExactCompareEventsRow.holds Tryz.pinned (OpenSpec.ofChange fnExactCompareEventsSpec)

/-- ITS FALSE NEIGHBOUR: 'it returns false'. Refute it at one input. -/
def fnExactCompareEventsWrong : ChangeSpec := { name := "fnExactCompareEvents", fn := fun _ => fun
  | [d1, d2, d3, d4, d5] => { results := [.lit (.bool false)], args := [d1, d2, d3, d4, d5] }
  | _ => none }
def FnExactCompareEventsWrongFalsely : Prop := fnExactCompareEventsRow.holds Tryz.pinned (OpenSpec.ofChange fnExactCompareEventsWrong)

/-- 'laws.FnExactCutoffCompanion': WHATEVER THE INPUT: true; the input reads as it did. -/
def fnExactCutoffCompanionSpec : ChangeSpec := { name := "fnExactCutoffCompanion", fn := fun _ => fun
  | [d1, d2, d3, d4] => { results := [.lit (.bool true)], args := [d1, d2, d3, d4] }
  | _ => none }
def fnExactCutoffCompanionRow : OpenClaim := { program := "ytlpafiiaminjkaagreat", sum := "5e881b38e8685b735cd0c7788e0b57a627d023ab89e490987e1fd6974fb08410", func := "loop.example/g00862/laws.FnExactCutoffCompanion", spec := "fnExactCutoffCompanion", unfollowed := true, recurses := true, apart := false }
def FnExactCutoffCompanionSaid : Prop := fnExactCutoffCompanionRow.holds Tryz.pinned (OpenSpec.ofChange fnExactCutoffCompanionSpec)

/-- ITS FALSE NEIGHBOUR: 'it returns false'. Refute it at one input. -/
def fnExactCutoffCompanionWrong : ChangeSpec := { name := "fnExactCutoffCompanion", fn := fun _ => fun
  | [d1, d2, d3, d4] => { results := [.lit (.bool false)], args := [d1, d2, d3, d4] }
  | _ => none }
def FnExactCutoffCompanionWrongFalsely : Prop := fnExactCutoffCompanionRow.holds Tryz.pinned (OpenSpec.ofChange fnExactCutoffCompanionWrong)

/-- 'laws.FnExactIsCompletePrefix': WHATEVER THE INPUT: true; the input reads as it did. -/
def fnExactIsCompletePrefixSpec : ChangeSpec := { name := "fnExactIsCompletePrefix", fn := fun _ => fun
  | [d1, d2, d3] => { results := [.lit (.bool true)], args := [d1, d2, d3] }
  | _ => none }
def fnExactIsCompletePrefixRow : OpenClaim := { program := "ytlpafiiaminjkaagreat", sum := "5e881b38e8685b735cd0c7788e0b57a627d023ab89e490987e1fd6974fb08410", func := "loop.example/g00862/laws.FnExactIsCompletePrefix", spec := "fnExactIsCompletePrefix", unfollowed := true, recurses := true, apart := false }
def FnExactIsCompletePrefixSaid : Prop := fnExactIsCompletePrefixRow.holds Tryz.pinned (OpenSpec.ofChange fnExactIsCompletePrefixSpec)

/-- ITS FALSE NEIGHBOUR: 'it returns false'. Refute it at one input. -/
def fnExactIsCompletePrefixWrong : ChangeSpec := { name := "fnExactIsCompletePrefix", fn := fun _ => fun
  | [d1, d2, d3] => { results := [.lit (.bool false)], args := [d1, d2, d3] }
  | _ => none }
def FnExactIsCompletePrefixWrongFalsely : Prop := fnExactIsCompletePrefixRow.holds Tryz.pinned (OpenSpec.ofChange fnExactIsCompletePrefixWrong)

/-- 'laws.FnRelations': WHATEVER THE INPUT: true; the input reads as it did. -/
def fnRelationsSpec : ChangeSpec := { name := "fnRelations", fn := fun _ => fun
  | [d1, d2] => { results := [.lit (.bool true)], args := [d1, d2] }
  | _ => none }
def fnRelationsRow : OpenClaim := { program := "ytlpafiiaminjkaagreat", sum := "5e881b38e8685b735cd0c7788e0b57a627d023ab89e490987e1fd6974fb08410", func := "loop.example/g00862/laws.FnRelations", spec := "fnRelations", unfollowed := true, recurses := true, apart := false }
def FnRelationsSaid : Prop := fnRelationsRow.holds Tryz.pinned (OpenSpec.ofChange fnRelationsSpec)

/-- ITS FALSE NEIGHBOUR: 'it returns false'. Refute it at one input. -/
def fnRelationsWrong : ChangeSpec := { name := "fnRelations", fn := fun _ => fun
  | [d1, d2] => { results := [.lit (.bool false)], args := [d1, d2] }
  | _ => none }
def FnRelationsWrongFalsely : Prop := fnRelationsRow.holds Tryz.pinned (OpenSpec.ofChange fnRelationsWrong)

/-- 'laws.FnRuns': WHATEVER THE INPUT: true; the input reads as it did. -/
def fnRunsSpec : ChangeSpec := { name := "fnRuns", fn := fun _ => fun
  | [d1, d2] => { results := [.lit (.bool true)], args := [d1, d2] }
  | _ => none }
def fnRunsRow : OpenClaim := { program := "ytlpafiiaminjkaagreat", sum := "5e881b38e8685b735cd0c7788e0b57a627d023ab89e490987e1fd6974fb08410", func := "loop.example/g00862/laws.FnRuns", spec := "fnRuns", unfollowed := true, recurses := true, apart := false }
def FnRunsSaid : Prop := fnRunsRow.holds Tryz.pinned (OpenSpec.ofChange fnRunsSpec)

/-- ITS FALSE NEIGHBOUR: 'it returns false'. Refute it at one input. -/
def fnRunsWrong : ChangeSpec := { name := "fnRuns", fn := fun _ => fun
  | [d1, d2] => { results := [.lit (.bool false)], args := [d1, d2] }
  | _ => none }
def FnRunsWrongFalsely : Prop := fnRunsRow.holds Tryz.pinned (OpenSpec.ofChange fnRunsWrong)

/- THE SECOND FORM. 'bulk': how many values and letters a reading holds, each counted each time it is reached (what is shared counts as often as it is met; a slice's spare places count too). A statement '..UptoSaid' is the law's where the arguments, and the package variables that the reading takes, are together of bulk at most 1048576: NARROWER than '..Said'. Prove '..Said' where nothing that the law and all that it calls make is longer than what came in: it says more and counts as full. Else prove '..UptoSaid'. A law counts once. -/
mutual
def uptoBulk {H : Type} : DataW H → Nat
  | .lit (.string bytes) => bytes.length + 1
  | .lit _ => 1
  | .nil => 1
  | .ptr d => uptoBulk d + 1
  | .slice elems spare => uptoBulkAll elems + uptoBulkAll spare + 1
  | .agg parts => uptoBulkAll parts + 1
  | .iface _ d => uptoBulk d + 1
  | .map entries => uptoBulkEntries entries + 1
  | .held _ => 1
def uptoBulkAll {H : Type} : List (DataW H) → Nat
  | [] => 0
  | d :: r => uptoBulk d + uptoBulkAll r
def uptoBulkEntries {H : Type} : List (Lit × DataW H) → Nat
  | [] => 0
  | x :: r => uptoBulkEntry x + uptoBulkEntries r
def uptoBulkEntry {H : Type} : Lit × DataW H → Nat
  | (.string bytes, d) => bytes.length + uptoBulk d + 1
  | (_, d) => uptoBulk d + 1
 end
def uptoSmall : (H : Type) → List (DataW H) → Bool := fun _ ds => decide (uptoBulkAll ds ≤ 1048576)
def OpenSpec.upto (s : _root_.Go.ChangeSpec) : _root_.Go.OpenSpec := { _root_.Go.OpenSpec.ofChange s with cond := some uptoSmall }

/-- 'laws.FnExactLocalMarking', WHERE WHAT IT READS IS OF BULK AT MOST 1048576: true; the input reads as it did. -/
def fnExactLocalMarkingUptoRow : OpenClaim := { program := "ytlpafiiaminjkaagreat", sum := "5e881b38e8685b735cd0c7788e0b57a627d023ab89e490987e1fd6974fb08410", func := "loop.example/g00862/laws.FnExactLocalMarking", spec := "fnExactLocalMarking", unfollowed := true, recurses := true, apart := false, narrowed := true }
def FnExactLocalMarkingUptoSaid : Prop := fnExactLocalMarkingUptoRow.holds Tryz.pinned (OpenSpec.upto fnExactLocalMarkingSpec)

/-- 'laws.FnExactFinalMarking', WHERE WHAT IT READS IS OF BULK AT MOST 1048576: true; the input reads as it did. -/
def fnExactFinalMarkingUptoRow : OpenClaim := { program := "ytlpafiiaminjkaagreat", sum := "5e881b38e8685b735cd0c7788e0b57a627d023ab89e490987e1fd6974fb08410", func := "loop.example/g00862/laws.FnExactFinalMarking", spec := "fnExactFinalMarking", unfollowed := true, recurses := true, apart := false, narrowed := true }
def FnExactFinalMarkingUptoSaid : Prop := fnExactFinalMarkingUptoRow.holds Tryz.pinned (OpenSpec.upto fnExactFinalMarkingSpec)

/-- 'laws.FnExactCompareEvents', WHERE WHAT IT READS IS OF BULK AT MOST 1048576: true; the input reads as it did. -/
def fnExactCompareEventsUptoRow : OpenClaim := { program := "ytlpafiiaminjkaagreat", sum := "5e881b38e8685b735cd0c7788e0b57a627d023ab89e490987e1fd6974fb08410", func := "loop.example/g00862/laws.FnExactCompareEvents", spec := "fnExactCompareEvents", unfollowed := true, recurses := true, apart := false, narrowed := true }
def FnExactCompareEventsUptoSaid : Prop := fnExactCompareEventsUptoRow.holds Tryz.pinned (OpenSpec.upto fnExactCompareEventsSpec)

/-- 'laws.FnExactCutoffCompanion', WHERE WHAT IT READS IS OF BULK AT MOST 1048576: true; the input reads as it did. -/
def fnExactCutoffCompanionUptoRow : OpenClaim := { program := "ytlpafiiaminjkaagreat", sum := "5e881b38e8685b735cd0c7788e0b57a627d023ab89e490987e1fd6974fb08410", func := "loop.example/g00862/laws.FnExactCutoffCompanion", spec := "fnExactCutoffCompanion", unfollowed := true, recurses := true, apart := false, narrowed := true }
def FnExactCutoffCompanionUptoSaid : Prop := fnExactCutoffCompanionUptoRow.holds Tryz.pinned (OpenSpec.upto fnExactCutoffCompanionSpec)

/-- 'laws.FnExactIsCompletePrefix', WHERE WHAT IT READS IS OF BULK AT MOST 1048576: true; the input reads as it did. -/
def fnExactIsCompletePrefixUptoRow : OpenClaim := { program := "ytlpafiiaminjkaagreat", sum := "5e881b38e8685b735cd0c7788e0b57a627d023ab89e490987e1fd6974fb08410", func := "loop.example/g00862/laws.FnExactIsCompletePrefix", spec := "fnExactIsCompletePrefix", unfollowed := true, recurses := true, apart := false, narrowed := true }
def FnExactIsCompletePrefixUptoSaid : Prop := fnExactIsCompletePrefixUptoRow.holds Tryz.pinned (OpenSpec.upto fnExactIsCompletePrefixSpec)

/-- 'laws.FnRelations', WHERE WHAT IT READS IS OF BULK AT MOST 1048576: true; the input reads as it did. -/
def fnRelationsUptoRow : OpenClaim := { program := "ytlpafiiaminjkaagreat", sum := "5e881b38e8685b735cd0c7788e0b57a627d023ab89e490987e1fd6974fb08410", func := "loop.example/g00862/laws.FnRelations", spec := "fnRelations", unfollowed := true, recurses := true, apart := false, narrowed := true }
def FnRelationsUptoSaid : Prop := fnRelationsUptoRow.holds Tryz.pinned (OpenSpec.upto fnRelationsSpec)

/-- 'laws.FnRuns', WHERE WHAT IT READS IS OF BULK AT MOST 1048576: true; the input reads as it did. -/
def fnRunsUptoRow : OpenClaim := { program := "ytlpafiiaminjkaagreat", sum := "5e881b38e8685b735cd0c7788e0b57a627d023ab89e490987e1fd6974fb08410", func := "loop.example/g00862/laws.FnRuns", spec := "fnRuns", unfollowed := true, recurses := true, apart := false, narrowed := true }
def FnRunsUptoSaid : Prop := fnRunsUptoRow.holds Tryz.pinned (OpenSpec.upto fnRunsSpec)

end Rows
end Go.Proofs.YtlpafiiaminjkaaGreat

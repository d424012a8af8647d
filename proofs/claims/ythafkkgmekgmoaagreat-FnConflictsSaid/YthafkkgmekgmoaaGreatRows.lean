/-
  No cell of these rows narrows 'for every input' (looked for: loops, veiled, ifaces, maps, wideKeys, modest, calm, conditions, laid).
  DERIVED. THE GIVEN ROWS OF THIS SEAT. 6 by the template 'for every input the law returns true; each argument reads behind the call as it read before'; 0 by the template 'total and deterministic' (their statements: YthafkkgmekgmoaaGreatTotals.lean).
  GIVEN WITH THE SEED: the statements are not yours to turn. If you find one false, say at which input.
  Laid BY PROGRAM, IN A SANDBOX (cutbox-rows.mjs): the forced cells as the released guide's own fill.sh prints them over the translation 6fb7bafca386192b… (all of the seat's roots in one cut). By AI agents, Wed Nov 11 2026. No macro, syntax, notation, axiom, sorry.
-/
import Derived.Test.YthafkkgmekgmoaaGreatChecked
import GoSem.Claim
import GoSem.ClaimJoined
import GoSem.ClaimMapViews
import Derived.JoinedTies
import Derived.KernelRfl
namespace Go.Proofs.YthafkkgmekgmoaaGreat
/- THE CELL 'sum', in the pinned program and in every row, IS THE sha256 OF THE DUMP (.gsa) THAT YthafkkgmekgmoaaGreatProg.lean LOADS. Nothing in Lean hashes anything: it is a label: what it is worth is what the hold of that sum in a sandbox is worth. -/
noncomputable def Tryz.pinned : Pinned := { name := "ythafkkgmekgmoaagreat", sum := "6fb7bafca386192b5edd6b278da469bd729b2a1c6216e21dd1236a44d6e24cc9", checked := Tryz.checked }
namespace Rows
def none {H : Type} : Left H := { results := [], args := [] }

/-- 'laws.FnReached': WHATEVER THE INPUT: true; the input reads as it did. -/
def fnReachedSpec : ChangeSpec := { name := "fnReached", fn := fun _ => fun
  | [d1, d2] => { results := [.lit (.bool true)], args := [d1, d2] }
  | _ => none }
def fnReachedRow : OpenClaim := { program := "ythafkkgmekgmoaagreat", sum := "6fb7bafca386192b5edd6b278da469bd729b2a1c6216e21dd1236a44d6e24cc9", func := "loop.example/g00862/laws.FnReached", spec := "fnReached", unfollowed := true, recurses := true, apart := false }
def FnReachedSaid : Prop := fnReachedRow.holds Tryz.pinned (OpenSpec.ofChange fnReachedSpec)

/-- ITS FALSE NEIGHBOUR: 'it returns false'. Refute it at one input. -/
def fnReachedWrong : ChangeSpec := { name := "fnReached", fn := fun _ => fun
  | [d1, d2] => { results := [.lit (.bool false)], args := [d1, d2] }
  | _ => none }
def FnReachedWrongFalsely : Prop := fnReachedRow.holds Tryz.pinned (OpenSpec.ofChange fnReachedWrong)

/-- 'laws.FnWays': WHATEVER THE INPUT: true; the input reads as it did. -/
def fnWaysSpec : ChangeSpec := { name := "fnWays", fn := fun _ => fun
  | [d1, d2] => { results := [.lit (.bool true)], args := [d1, d2] }
  | _ => none }
def fnWaysRow : OpenClaim := { program := "ythafkkgmekgmoaagreat", sum := "6fb7bafca386192b5edd6b278da469bd729b2a1c6216e21dd1236a44d6e24cc9", func := "loop.example/g00862/laws.FnWays", spec := "fnWays", unfollowed := true, recurses := true, apart := false }
def FnWaysSaid : Prop := fnWaysRow.holds Tryz.pinned (OpenSpec.ofChange fnWaysSpec)

/-- ITS FALSE NEIGHBOUR: 'it returns false'. Refute it at one input. -/
def fnWaysWrong : ChangeSpec := { name := "fnWays", fn := fun _ => fun
  | [d1, d2] => { results := [.lit (.bool false)], args := [d1, d2] }
  | _ => none }
def FnWaysWrongFalsely : Prop := fnWaysRow.holds Tryz.pinned (OpenSpec.ofChange fnWaysWrong)

/-- 'laws.FnCoded': WHATEVER THE INPUT: true; the input reads as it did. -/
def fnCodedSpec : ChangeSpec := { name := "fnCoded", fn := fun _ => fun
  | [d1, d2] => { results := [.lit (.bool true)], args := [d1, d2] }
  | _ => none }
def fnCodedRow : OpenClaim := { program := "ythafkkgmekgmoaagreat", sum := "6fb7bafca386192b5edd6b278da469bd729b2a1c6216e21dd1236a44d6e24cc9", func := "loop.example/g00862/laws.FnCoded", spec := "fnCoded", unfollowed := true, recurses := true, apart := false }
def FnCodedSaid : Prop := fnCodedRow.holds Tryz.pinned (OpenSpec.ofChange fnCodedSpec)

/-- ITS FALSE NEIGHBOUR: 'it returns false'. Refute it at one input. -/
def fnCodedWrong : ChangeSpec := { name := "fnCoded", fn := fun _ => fun
  | [d1, d2] => { results := [.lit (.bool false)], args := [d1, d2] }
  | _ => none }
def FnCodedWrongFalsely : Prop := fnCodedRow.holds Tryz.pinned (OpenSpec.ofChange fnCodedWrong)

/-- 'laws.FnConflicts': WHATEVER THE INPUT: true; the input reads as it did. -/
def fnConflictsSpec : ChangeSpec := { name := "fnConflicts", fn := fun _ => fun
  | [d1, d2] => { results := [.lit (.bool true)], args := [d1, d2] }
  | _ => none }
def fnConflictsRow : OpenClaim := { program := "ythafkkgmekgmoaagreat", sum := "6fb7bafca386192b5edd6b278da469bd729b2a1c6216e21dd1236a44d6e24cc9", func := "loop.example/g00862/laws.FnConflicts", spec := "fnConflicts", unfollowed := true, recurses := true, apart := false }
def FnConflictsSaid : Prop := fnConflictsRow.holds Tryz.pinned (OpenSpec.ofChange fnConflictsSpec)

/-- ITS FALSE NEIGHBOUR: 'it returns false'. Refute it at one input. -/
def fnConflictsWrong : ChangeSpec := { name := "fnConflicts", fn := fun _ => fun
  | [d1, d2] => { results := [.lit (.bool false)], args := [d1, d2] }
  | _ => none }
def FnConflictsWrongFalsely : Prop := fnConflictsRow.holds Tryz.pinned (OpenSpec.ofChange fnConflictsWrong)

/-- 'laws.FnShortWays': WHATEVER THE INPUT: true; the input reads as it did. -/
def fnShortWaysSpec : ChangeSpec := { name := "fnShortWays", fn := fun _ => fun
  | [d1, d2] => { results := [.lit (.bool true)], args := [d1, d2] }
  | _ => none }
def fnShortWaysRow : OpenClaim := { program := "ythafkkgmekgmoaagreat", sum := "6fb7bafca386192b5edd6b278da469bd729b2a1c6216e21dd1236a44d6e24cc9", func := "loop.example/g00862/laws.FnShortWays", spec := "fnShortWays", inPlace := ["internal/abi.NoEscape", "internal/bytealg.MakeNoZero"], unfollowed := true, recurses := true, apart := false }
def FnShortWaysSaid : Prop := fnShortWaysRow.holds Tryz.pinned (OpenSpec.ofChange fnShortWaysSpec)

/-- ITS FALSE NEIGHBOUR: 'it returns false'. Refute it at one input. -/
def fnShortWaysWrong : ChangeSpec := { name := "fnShortWays", fn := fun _ => fun
  | [d1, d2] => { results := [.lit (.bool false)], args := [d1, d2] }
  | _ => none }
def FnShortWaysWrongFalsely : Prop := fnShortWaysRow.holds Tryz.pinned (OpenSpec.ofChange fnShortWaysWrong)

/-- 'laws.FnBreaks': WHATEVER THE INPUT: true; the input reads as it did. -/
def fnBreaksSpec : ChangeSpec := { name := "fnBreaks", fn := fun _ => fun
  | [d1, d2] => { results := [.lit (.bool true)], args := [d1, d2] }
  | _ => none }
def fnBreaksRow : OpenClaim := { program := "ythafkkgmekgmoaagreat", sum := "6fb7bafca386192b5edd6b278da469bd729b2a1c6216e21dd1236a44d6e24cc9", func := "loop.example/g00862/laws.FnBreaks", spec := "fnBreaks", inPlace := ["internal/abi.NoEscape", "internal/bytealg.MakeNoZero"], unfollowed := true, recurses := true, apart := false }
def FnBreaksSaid : Prop := fnBreaksRow.holds Tryz.pinned (OpenSpec.ofChange fnBreaksSpec)

/-- ITS FALSE NEIGHBOUR: 'it returns false'. Refute it at one input. -/
def fnBreaksWrong : ChangeSpec := { name := "fnBreaks", fn := fun _ => fun
  | [d1, d2] => { results := [.lit (.bool false)], args := [d1, d2] }
  | _ => none }
def FnBreaksWrongFalsely : Prop := fnBreaksRow.holds Tryz.pinned (OpenSpec.ofChange fnBreaksWrong)

/- THE SECOND FORM. 'bulk': how many values and letters a reading holds, each counted each time it is reached (what is shared counts as often as it is met; a slice's spare places count too). A statement '..UptoSaid' is the law's where the arguments, and the package variables that the reading takes, are together of bulk at most 1048576: NARROWER than '..Said'. Prove '..Said' where nothing that the law and all that it calls make is longer than what came in: it says more and counts as full. Else prove '..UptoSaid'. A law counts once. -/
mutual
def uptoBulk {H : Type} : DataW H → Nat
  | .lit (.string bytes) => bytes.length + 1
  | .lit _ => 1
  | .nil => 1
  | .ptr d => uptoBulk d + 1
  | .slice elems spare => uptoBulkAll elems + uptoBulkAll spare + 1
  | .agg parts => uptoBulkAll parts + 1
  | .iface _ d => uptoBulk d + 1
  | .map entries => uptoBulkEntries entries + 1
  | .held _ => 1
def uptoBulkAll {H : Type} : List (DataW H) → Nat
  | [] => 0
  | d :: r => uptoBulk d + uptoBulkAll r
def uptoBulkEntries {H : Type} : List (Lit × DataW H) → Nat
  | [] => 0
  | x :: r => uptoBulkEntry x + uptoBulkEntries r
def uptoBulkEntry {H : Type} : Lit × DataW H → Nat
  | (.string bytes, d) => bytes.length + uptoBulk d + 1
  | (_, d) => uptoBulk d + 1
 end
def uptoSmall : (H : Type) → List (DataW H) → Bool := fun _ ds => decide (uptoBulkAll ds ≤ 1048576)
def OpenSpec.upto (s : _root_.Go.ChangeSpec) : _root_.Go.OpenSpec := { _root_.Go.OpenSpec.ofChange s with cond := some uptoSmall }

/-- 'laws.FnReached', WHERE WHAT IT READS IS OF BULK AT MOST 1048576: true; the input reads as it did. -/
def fnReachedUptoRow : OpenClaim := { program := "ythafkkgmekgmoaagreat", sum := "6fb7bafca386192b5edd6b278da469bd729b2a1c6216e21dd1236a44d6e24cc9", func := "loop.example/g00862/laws.FnReached", spec := "fnReached", unfollowed := true, recurses := true, apart := false, narrowed := true }
def FnReachedUptoSaid : Prop := fnReachedUptoRow.holds Tryz.pinned (OpenSpec.upto fnReachedSpec)

/-- 'laws.FnWays', WHERE WHAT IT READS IS OF BULK AT MOST 1048576: true; the input reads as it did. -/
def fnWaysUptoRow : OpenClaim := { program := "ythafkkgmekgmoaagreat", sum := "6fb7bafca386192b5edd6b278da469bd729b2a1c6216e21dd1236a44d6e24cc9", func := "loop.example/g00862/laws.FnWays", spec := "fnWays", unfollowed := true, recurses := true, apart := false, narrowed := true }
def FnWaysUptoSaid : Prop := fnWaysUptoRow.holds Tryz.pinned (OpenSpec.upto fnWaysSpec)

/-- 'laws.FnCoded', WHERE WHAT IT READS IS OF BULK AT MOST 1048576: true; the input reads as it did. -/
def fnCodedUptoRow : OpenClaim := { program := "ythafkkgmekgmoaagreat", sum := "6fb7bafca386192b5edd6b278da469bd729b2a1c6216e21dd1236a44d6e24cc9", func := "loop.example/g00862/laws.FnCoded", spec := "fnCoded", unfollowed := true, recurses := true, apart := false, narrowed := true }
def FnCodedUptoSaid : Prop := fnCodedUptoRow.holds Tryz.pinned (OpenSpec.upto fnCodedSpec)

/-- 'laws.FnConflicts', WHERE WHAT IT READS IS OF BULK AT MOST 1048576: true; the input reads as it did. -/
def fnConflictsUptoRow : OpenClaim := { program := "ythafkkgmekgmoaagreat", sum := "6fb7bafca386192b5edd6b278da469bd729b2a1c6216e21dd1236a44d6e24cc9", func := "loop.example/g00862/laws.FnConflicts", spec := "fnConflicts", unfollowed := true, recurses := true, apart := false, narrowed := true }
def FnConflictsUptoSaid : Prop := fnConflictsUptoRow.holds Tryz.pinned (OpenSpec.upto fnConflictsSpec)

/-- 'laws.FnShortWays', WHERE WHAT IT READS IS OF BULK AT MOST 1048576: true; the input reads as it did. -/
def fnShortWaysUptoRow : OpenClaim := { program := "ythafkkgmekgmoaagreat", sum := "6fb7bafca386192b5edd6b278da469bd729b2a1c6216e21dd1236a44d6e24cc9", func := "loop.example/g00862/laws.FnShortWays", spec := "fnShortWays", inPlace := ["internal/abi.NoEscape", "internal/bytealg.MakeNoZero"], unfollowed := true, recurses := true, apart := false, narrowed := true }
def FnShortWaysUptoSaid : Prop := fnShortWaysUptoRow.holds Tryz.pinned (OpenSpec.upto fnShortWaysSpec)

/-- 'laws.FnBreaks', WHERE WHAT IT READS IS OF BULK AT MOST 1048576: true; the input reads as it did. -/
def fnBreaksUptoRow : OpenClaim := { program := "ythafkkgmekgmoaagreat", sum := "6fb7bafca386192b5edd6b278da469bd729b2a1c6216e21dd1236a44d6e24cc9", func := "loop.example/g00862/laws.FnBreaks", spec := "fnBreaks", inPlace := ["internal/abi.NoEscape", "internal/bytealg.MakeNoZero"], unfollowed := true, recurses := true, apart := false, narrowed := true }
def FnBreaksUptoSaid : Prop := fnBreaksUptoRow.holds Tryz.pinned (OpenSpec.upto fnBreaksSpec)

end Rows
end Go.Proofs.YthafkkgmekgmoaaGreat

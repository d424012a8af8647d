/-
  No cell of these rows narrows 'for every input' (looked for: loops, veiled, ifaces, maps, wideKeys, modest, calm, conditions, laid).
  DERIVED. THE GIVEN ROWS OF THIS SEAT. 4 by the template 'for every input the law returns true; each argument reads behind the call as it read before'; 0 by the template 'total and deterministic' (their statements: YtbiinjejokhfgaaGreatTotals.lean).
  GIVEN WITH THE SEED: the statements are not yours to turn. If you find one false, say at which input.
  Laid BY PROGRAM, IN A SANDBOX (cutbox-rows.mjs): the forced cells as the released guide's own fill.sh prints them over the translation 856af8022bf7f03d… (all of the seat's roots in one cut). By AI agents, Wed Nov 11 2026. No macro, syntax, notation, axiom, sorry.
-/
import Derived.Test.YtbiinjejokhfgaaGreatChecked
import GoSem.Claim
import GoSem.ClaimJoined
import GoSem.ClaimMapViews
import Derived.JoinedTies
import Derived.KernelRfl
namespace Go.Proofs.YtbiinjejokhfgaaGreat
/- THE CELL 'sum', in the pinned program and in every row, IS THE sha256 OF THE DUMP (.gsa) THAT YtbiinjejokhfgaaGreatProg.lean LOADS. Nothing in Lean hashes anything: it is a label: what it is worth is what the hold of that sum in a sandbox is worth. -/
noncomputable def Tryz.pinned : Pinned := { name := "ytbiinjejokhfgaagreat", sum := "856af8022bf7f03d5f7e610f23963559ee3f8d7315bfadc59372f7414cb3bcb9", checked := Tryz.checked }
namespace Rows
def none {H : Type} : Left H := { results := [], args := [] }

/-- 'laws.FnRelations': WHATEVER THE INPUT: true; the input reads as it did. -/
def fnRelationsSpec : ChangeSpec := { name := "fnRelations", fn := fun _ => fun
  | [d1, d2] => { results := [.lit (.bool true)], args := [d1, d2] }
  | _ => none }
def fnRelationsRow : OpenClaim := { program := "ytbiinjejokhfgaagreat", sum := "856af8022bf7f03d5f7e610f23963559ee3f8d7315bfadc59372f7414cb3bcb9", func := "loop.example/g00862/laws.FnRelations", spec := "fnRelations", unfollowed := true, recurses := true, apart := false }
def FnRelationsSaid : Prop := fnRelationsRow.holds Tryz.pinned (OpenSpec.ofChange fnRelationsSpec)

/-- ITS FALSE NEIGHBOUR: 'it returns false'. Refute it at one input. -/
def fnRelationsWrong : ChangeSpec := { name := "fnRelations", fn := fun _ => fun
  | [d1, d2] => { results := [.lit (.bool false)], args := [d1, d2] }
  | _ => none }
def FnRelationsWrongFalsely : Prop := fnRelationsRow.holds Tryz.pinned (OpenSpec.ofChange fnRelationsWrong)

/-- 'laws.FnExactAppendEvent': WHATEVER THE INPUT: true; the input reads as it did. -/
def fnExactAppendEventSpec : ChangeSpec := { name := "fnExactAppendEvent", fn := fun _ => fun
  | [d1, d2, d3, d4] => { results := [.lit (.bool true)], args := [d1, d2, d3, d4] }
  | _ => none }
def fnExactAppendEventRow : OpenClaim := { program := "ytbiinjejokhfgaagreat", sum := "856af8022bf7f03d5f7e610f23963559ee3f8d7315bfadc59372f7414cb3bcb9", func := "loop.example/g00862/laws.FnExactAppendEvent", spec := "fnExactAppendEvent", unfollowed := true, recurses := true, apart := false }
def FnExactAppendEventSaid : Prop := fnExactAppendEventRow.holds Tryz.pinned (OpenSpec.ofChange fnExactAppendEventSpec)

/-- ITS FALSE NEIGHBOUR: 'it returns false'. Refute it at one input. -/
def fnExactAppendEventWrong : ChangeSpec := { name := "fnExactAppendEvent", fn := fun _ => fun
  | [d1, d2, d3, d4] => { results := [.lit (.bool false)], args := [d1, d2, d3, d4] }
  | _ => none }
def FnExactAppendEventWrongFalsely : Prop := fnExactAppendEventRow.holds Tryz.pinned (OpenSpec.ofChange fnExactAppendEventWrong)

/-- 'laws.FnRuns': WHATEVER THE INPUT: true; the input reads as it did. -/
def fnRunsSpec : ChangeSpec := { name := "fnRuns", fn := fun _ => fun
  | [d1, d2] => { results := [.lit (.bool true)], args := [d1, d2] }
  | _ => none }
def fnRunsRow : OpenClaim := { program := "ytbiinjejokhfgaagreat", sum := "856af8022bf7f03d5f7e610f23963559ee3f8d7315bfadc59372f7414cb3bcb9", func := "loop.example/g00862/laws.FnRuns", spec := "fnRuns", unfollowed := true, recurses := true, apart := false }
def FnRunsSaid : Prop := fnRunsRow.holds Tryz.pinned (OpenSpec.ofChange fnRunsSpec)

/-- ITS FALSE NEIGHBOUR: 'it returns false'. Refute it at one input. -/
def fnRunsWrong : ChangeSpec := { name := "fnRuns", fn := fun _ => fun
  | [d1, d2] => { results := [.lit (.bool false)], args := [d1, d2] }
  | _ => none }
def FnRunsWrongFalsely : Prop := fnRunsRow.holds Tryz.pinned (OpenSpec.ofChange fnRunsWrong)

/-- 'laws.FnUnfolds': WHATEVER THE INPUT: true; the input reads as it did. -/
def fnUnfoldsSpec : ChangeSpec := { name := "fnUnfolds", fn := fun _ => fun
  | [d1, d2] => { results := [.lit (.bool true)], args := [d1, d2] }
  | _ => none }
def fnUnfoldsRow : OpenClaim := { program := "ytbiinjejokhfgaagreat", sum := "856af8022bf7f03d5f7e610f23963559ee3f8d7315bfadc59372f7414cb3bcb9", func := "loop.example/g00862/laws.FnUnfolds", spec := "fnUnfolds", unfollowed := true, recurses := true, apart := false }
def FnUnfoldsSaid : Prop := fnUnfoldsRow.holds Tryz.pinned (OpenSpec.ofChange fnUnfoldsSpec)

/-- ITS FALSE NEIGHBOUR: 'it returns false'. Refute it at one input. -/
def fnUnfoldsWrong : ChangeSpec := { name := "fnUnfolds", fn := fun _ => fun
  | [d1, d2] => { results := [.lit (.bool false)], args := [d1, d2] }
  | _ => none }
def FnUnfoldsWrongFalsely : Prop := fnUnfoldsRow.holds Tryz.pinned (OpenSpec.ofChange fnUnfoldsWrong)

/- THE SECOND FORM. 'bulk': how many values and letters a reading holds, each counted each time it is reached (what is shared counts as often as it is met; a slice's spare places count too). A statement '..UptoSaid' is the law's where the arguments, and the package variables that the reading takes, are together of bulk at most 1048576: NARROWER than '..Said'. Prove '..Said' where nothing that the law and all that it calls make is longer than what came in: it says more and counts as full. Else prove '..UptoSaid'. A law counts once. -/
mutual
def uptoBulk {H : Type} : DataW H → Nat
  | .lit (.string bytes) => bytes.length + 1
  | .lit _ => 1
  | .nil => 1
  | .ptr d => uptoBulk d + 1
  | .slice elems spare => uptoBulkAll elems + uptoBulkAll spare + 1
  | .agg parts => uptoBulkAll parts + 1
  | .iface _ d => uptoBulk d + 1
  | .map entries => uptoBulkEntries entries + 1
  | .held _ => 1
def uptoBulkAll {H : Type} : List (DataW H) → Nat
  | [] => 0
  | d :: r => uptoBulk d + uptoBulkAll r
def uptoBulkEntries {H : Type} : List (Lit × DataW H) → Nat
  | [] => 0
  | x :: r => uptoBulkEntry x + uptoBulkEntries r
def uptoBulkEntry {H : Type} : Lit × DataW H → Nat
  | (.string bytes, d) => bytes.length + uptoBulk d + 1
  | (_, d) => uptoBulk d + 1
 end
def uptoSmall : (H : Type) → List (DataW H) → Bool := fun _ ds => decide (uptoBulkAll ds ≤ 1048576)
def OpenSpec.upto (s : _root_.Go.ChangeSpec) : _root_.Go.OpenSpec := { _root_.Go.OpenSpec.ofChange s with cond := some uptoSmall }

/-- 'laws.FnRelations', WHERE WHAT IT READS IS OF BULK AT MOST 1048576: true; the input reads as it did. -/
def fnRelationsUptoRow : OpenClaim := { program := "ytbiinjejokhfgaagreat", sum := "856af8022bf7f03d5f7e610f23963559ee3f8d7315bfadc59372f7414cb3bcb9", func := "loop.example/g00862/laws.FnRelations", spec := "fnRelations", unfollowed := true, recurses := true, apart := false, narrowed := true }
def FnRelationsUptoSaid : Prop := fnRelationsUptoRow.holds Tryz.pinned (OpenSpec.upto fnRelationsSpec)

/-- 'laws.FnExactAppendEvent', WHERE WHAT IT READS IS OF BULK AT MOST 1048576: true; the input reads as it did. -/
def fnExactAppendEventUptoRow : OpenClaim := { program := "ytbiinjejokhfgaagreat", sum := "856af8022bf7f03d5f7e610f23963559ee3f8d7315bfadc59372f7414cb3bcb9", func := "loop.example/g00862/laws.FnExactAppendEvent", spec := "fnExactAppendEvent", unfollowed := true, recurses := true, apart := false, narrowed := true }
def FnExactAppendEventUptoSaid : Prop := fnExactAppendEventUptoRow.holds Tryz.pinned (OpenSpec.upto fnExactAppendEventSpec)

/-- 'laws.FnRuns', WHERE WHAT IT READS IS OF BULK AT MOST 1048576: true; the input reads as it did. -/
def fnRunsUptoRow : OpenClaim := { program := "ytbiinjejokhfgaagreat", sum := "856af8022bf7f03d5f7e610f23963559ee3f8d7315bfadc59372f7414cb3bcb9", func := "loop.example/g00862/laws.FnRuns", spec := "fnRuns", unfollowed := true, recurses := true, apart := false, narrowed := true }
def FnRunsUptoSaid : Prop := fnRunsUptoRow.holds Tryz.pinned (OpenSpec.upto fnRunsSpec)

/-- 'laws.FnUnfolds', WHERE WHAT IT READS IS OF BULK AT MOST 1048576: true; the input reads as it did. -/
def fnUnfoldsUptoRow : OpenClaim := { program := "ytbiinjejokhfgaagreat", sum := "856af8022bf7f03d5f7e610f23963559ee3f8d7315bfadc59372f7414cb3bcb9", func := "loop.example/g00862/laws.FnUnfolds", spec := "fnUnfolds", unfollowed := true, recurses := true, apart := false, narrowed := true }
def FnUnfoldsUptoSaid : Prop := fnUnfoldsUptoRow.holds Tryz.pinned (OpenSpec.upto fnUnfoldsSpec)

end Rows
end Go.Proofs.YtbiinjejokhfgaaGreat

/-
  No cell of these rows narrows 'for every input' (looked for: loops, veiled, ifaces, maps, wideKeys, modest, calm, conditions, laid).
  DERIVED. THE GIVEN ROWS OF THIS SEAT. 4 by the template 'for every input the law returns true; each argument reads behind the call as it read before'; 0 by the template 'total and deterministic' (their statements: YtikalfdfienopaaGreatTotals.lean).
  GIVEN WITH THE SEED: the statements are not yours to turn. If you find one false, say at which input.
  Laid BY PROGRAM, IN A SANDBOX (cutbox-rows.mjs): the forced cells as the released guide's own fill.sh prints them over the translation 7a59bd8ff06f239a… (all of the seat's roots in one cut). By AI agents, Wed Nov 11 2026. No macro, syntax, notation, axiom, sorry.
-/
import Derived.Test.YtikalfdfienopaaGreatChecked
import GoSem.Claim
import GoSem.ClaimJoined
import GoSem.ClaimMapViews
import Derived.JoinedTies
import Derived.KernelRfl
namespace Go.Proofs.YtikalfdfienopaaGreat
/- THE CELL 'sum', in the pinned program and in every row, IS THE sha256 OF THE DUMP (.gsa) THAT YtikalfdfienopaaGreatProg.lean LOADS. Nothing in Lean hashes anything: it is a label: what it is worth is what the hold of that sum in a sandbox is worth. -/
noncomputable def Tryz.pinned : Pinned := { name := "ytikalfdfienopaagreat", sum := "7a59bd8ff06f239a42b593eab047cd8801be3474d286fffa8a527c9f6f8be8c9", checked := Tryz.checked }
namespace Rows
def none {H : Type} : Left H := { results := [], args := [] }

/-- 'laws.FnExactIsValidUnfolding': WHATEVER THE INPUT: true; the input reads as it did. -/
def fnExactIsValidUnfoldingSpec : ChangeSpec := { name := "fnExactIsValidUnfolding", fn := fun _ => fun
  | [d1, d2, d3] => { results := [.lit (.bool true)], args := [d1, d2, d3] }
  | _ => none }
def fnExactIsValidUnfoldingRow : OpenClaim := { program := "ytikalfdfienopaagreat", sum := "7a59bd8ff06f239a42b593eab047cd8801be3474d286fffa8a527c9f6f8be8c9", func := "loop.example/g00862/laws.FnExactIsValidUnfolding", spec := "fnExactIsValidUnfolding", unfollowed := true, recurses := true, apart := false }
def FnExactIsValidUnfoldingSaid : Prop := fnExactIsValidUnfoldingRow.holds Tryz.pinned (OpenSpec.ofChange fnExactIsValidUnfoldingSpec)

/-- ITS FALSE NEIGHBOUR: 'it returns false'. Refute it at one input. -/
def fnExactIsValidUnfoldingWrong : ChangeSpec := { name := "fnExactIsValidUnfolding", fn := fun _ => fun
  | [d1, d2, d3] => { results := [.lit (.bool false)], args := [d1, d2, d3] }
  | _ => none }
def FnExactIsValidUnfoldingWrongFalsely : Prop := fnExactIsValidUnfoldingRow.holds Tryz.pinned (OpenSpec.ofChange fnExactIsValidUnfoldingWrong)

/-- 'laws.FnExactIsConfiguration': WHATEVER THE INPUT: true; the input reads as it did. -/
def fnExactIsConfigurationSpec : ChangeSpec := { name := "fnExactIsConfiguration", fn := fun _ => fun
  | [d1, d2, d3, d4] => { results := [.lit (.bool true)], args := [d1, d2, d3, d4] }
  | _ => none }
def fnExactIsConfigurationRow : OpenClaim := { program := "ytikalfdfienopaagreat", sum := "7a59bd8ff06f239a42b593eab047cd8801be3474d286fffa8a527c9f6f8be8c9", func := "loop.example/g00862/laws.FnExactIsConfiguration", spec := "fnExactIsConfiguration", unfollowed := true, recurses := true, apart := false }
def FnExactIsConfigurationSaid : Prop := fnExactIsConfigurationRow.holds Tryz.pinned (OpenSpec.ofChange fnExactIsConfigurationSpec)

/-- ITS FALSE NEIGHBOUR: 'it returns false'. Refute it at one input. -/
def fnExactIsConfigurationWrong : ChangeSpec := { name := "fnExactIsConfiguration", fn := fun _ => fun
  | [d1, d2, d3, d4] => { results := [.lit (.bool false)], args := [d1, d2, d3, d4] }
  | _ => none }
def FnExactIsConfigurationWrongFalsely : Prop := fnExactIsConfigurationRow.holds Tryz.pinned (OpenSpec.ofChange fnExactIsConfigurationWrong)

/-- 'laws.FnExactEventRelation': WHATEVER THE INPUT: true; the input reads as it did. -/
def fnExactEventRelationSpec : ChangeSpec := { name := "fnExactEventRelation", fn := fun _ => fun
  | [d1, d2, d3, d4, d5] => { results := [.lit (.bool true)], args := [d1, d2, d3, d4, d5] }
  | _ => none }
def fnExactEventRelationRow : OpenClaim := { program := "ytikalfdfienopaagreat", sum := "7a59bd8ff06f239a42b593eab047cd8801be3474d286fffa8a527c9f6f8be8c9", func := "loop.example/g00862/laws.FnExactEventRelation", spec := "fnExactEventRelation", unfollowed := true, recurses := true, apart := false }
def FnExactEventRelationSaid : Prop := fnExactEventRelationRow.holds Tryz.pinned (OpenSpec.ofChange fnExactEventRelationSpec)

/-- ITS FALSE NEIGHBOUR: 'it returns false'. Refute it at one input. -/
def fnExactEventRelationWrong : ChangeSpec := { name := "fnExactEventRelation", fn := fun _ => fun
  | [d1, d2, d3, d4, d5] => { results := [.lit (.bool false)], args := [d1, d2, d3, d4, d5] }
  | _ => none }
def FnExactEventRelationWrongFalsely : Prop := fnExactEventRelationRow.holds Tryz.pinned (OpenSpec.ofChange fnExactEventRelationWrong)

/-- 'laws.FnExactCausalDepth': WHATEVER THE INPUT: true; the input reads as it did. -/
def fnExactCausalDepthSpec : ChangeSpec := { name := "fnExactCausalDepth", fn := fun _ => fun
  | [d1, d2, d3] => { results := [.lit (.bool true)], args := [d1, d2, d3] }
  | _ => none }
def fnExactCausalDepthRow : OpenClaim := { program := "ytikalfdfienopaagreat", sum := "7a59bd8ff06f239a42b593eab047cd8801be3474d286fffa8a527c9f6f8be8c9", func := "loop.example/g00862/laws.FnExactCausalDepth", spec := "fnExactCausalDepth", unfollowed := true, recurses := true, apart := false }
def FnExactCausalDepthSaid : Prop := fnExactCausalDepthRow.holds Tryz.pinned (OpenSpec.ofChange fnExactCausalDepthSpec)

/-- ITS FALSE NEIGHBOUR: 'it returns false'. Refute it at one input. -/
def fnExactCausalDepthWrong : ChangeSpec := { name := "fnExactCausalDepth", fn := fun _ => fun
  | [d1, d2, d3] => { results := [.lit (.bool false)], args := [d1, d2, d3] }
  | _ => none }
def FnExactCausalDepthWrongFalsely : Prop := fnExactCausalDepthRow.holds Tryz.pinned (OpenSpec.ofChange fnExactCausalDepthWrong)

/- THE SECOND FORM. 'bulk': how many values and letters a reading holds, each counted each time it is reached (what is shared counts as often as it is met; a slice's spare places count too). A statement '..UptoSaid' is the law's where the arguments, and the package variables that the reading takes, are together of bulk at most 1048576: NARROWER than '..Said'. Prove '..Said' where nothing that the law and all that it calls make is longer than what came in: it says more and counts as full. Else prove '..UptoSaid'. A law counts once. -/
mutual
def uptoBulk {H : Type} : DataW H → Nat
  | .lit (.string bytes) => bytes.length + 1
  | .lit _ => 1
  | .nil => 1
  | .ptr d => uptoBulk d + 1
  | .slice elems spare => uptoBulkAll elems + uptoBulkAll spare + 1
  | .agg parts => uptoBulkAll parts + 1
  | .iface _ d => uptoBulk d + 1
  | .map entries => uptoBulkEntries entries + 1
  | .held _ => 1
def uptoBulkAll {H : Type} : List (DataW H) → Nat
  | [] => 0
  | d :: r => uptoBulk d + uptoBulkAll r
def uptoBulkEntries {H : Type} : List (Lit × DataW H) → Nat
  | [] => 0
  | x :: r => uptoBulkEntry x + uptoBulkEntries r
def uptoBulkEntry {H : Type} : Lit × DataW H → Nat
  | (.string bytes, d) => bytes.length + uptoBulk d + 1
  | (_, d) => uptoBulk d + 1
 end
def uptoSmall : (H : Type) → List (DataW H) → Bool := fun _ ds => decide (uptoBulkAll ds ≤ 1048576)
def OpenSpec.upto (s : _root_.Go.ChangeSpec) : _root_.Go.OpenSpec := { _root_.Go.OpenSpec.ofChange s with cond := some uptoSmall }

/-- 'laws.FnExactIsValidUnfolding', WHERE WHAT IT READS IS OF BULK AT MOST 1048576: true; the input reads as it did. -/
def fnExactIsValidUnfoldingUptoRow : OpenClaim := { program := "ytikalfdfienopaagreat", sum := "7a59bd8ff06f239a42b593eab047cd8801be3474d286fffa8a527c9f6f8be8c9", func := "loop.example/g00862/laws.FnExactIsValidUnfolding", spec := "fnExactIsValidUnfolding", unfollowed := true, recurses := true, apart := false, narrowed := true }
def FnExactIsValidUnfoldingUptoSaid : Prop := fnExactIsValidUnfoldingUptoRow.holds Tryz.pinned (OpenSpec.upto fnExactIsValidUnfoldingSpec)

/-- 'laws.FnExactIsConfiguration', WHERE WHAT IT READS IS OF BULK AT MOST 1048576: true; the input reads as it did. -/
def fnExactIsConfigurationUptoRow : OpenClaim := { program := "ytikalfdfienopaagreat", sum := "7a59bd8ff06f239a42b593eab047cd8801be3474d286fffa8a527c9f6f8be8c9", func := "loop.example/g00862/laws.FnExactIsConfiguration", spec := "fnExactIsConfiguration", unfollowed := true, recurses := true, apart := false, narrowed := true }
def FnExactIsConfigurationUptoSaid : Prop := fnExactIsConfigurationUptoRow.holds Tryz.pinned (OpenSpec.upto fnExactIsConfigurationSpec)

/-- 'laws.FnExactEventRelation', WHERE WHAT IT READS IS OF BULK AT MOST 1048576: true; the input reads as it did. -/
def fnExactEventRelationUptoRow : OpenClaim := { program := "ytikalfdfienopaagreat", sum := "7a59bd8ff06f239a42b593eab047cd8801be3474d286fffa8a527c9f6f8be8c9", func := "loop.example/g00862/laws.FnExactEventRelation", spec := "fnExactEventRelation", unfollowed := true, recurses := true, apart := false, narrowed := true }
def FnExactEventRelationUptoSaid : Prop := fnExactEventRelationUptoRow.holds Tryz.pinned (OpenSpec.upto fnExactEventRelationSpec)

/-- 'laws.FnExactCausalDepth', WHERE WHAT IT READS IS OF BULK AT MOST 1048576: true; the input reads as it did. -/
def fnExactCausalDepthUptoRow : OpenClaim := { program := "ytikalfdfienopaagreat", sum := "7a59bd8ff06f239a42b593eab047cd8801be3474d286fffa8a527c9f6f8be8c9", func := "loop.example/g00862/laws.FnExactCausalDepth", spec := "fnExactCausalDepth", unfollowed := true, recurses := true, apart := false, narrowed := true }
def FnExactCausalDepthUptoSaid : Prop := fnExactCausalDepthUptoRow.holds Tryz.pinned (OpenSpec.upto fnExactCausalDepthSpec)

end Rows
end Go.Proofs.YtikalfdfienopaaGreat

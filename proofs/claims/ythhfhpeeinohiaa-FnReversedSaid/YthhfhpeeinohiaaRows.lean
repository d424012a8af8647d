/-
  No cell of these rows narrows 'for every input' (looked for: loops, veiled, ifaces, maps, wideKeys, modest, calm, conditions, laid).
  DERIVED. THE GIVEN ROWS OF THIS SEAT. 2 by the template 'for every input the law returns true; each argument reads behind the call as it read before'; 0 by the template 'total and deterministic' (their statements: YthhfhpeeinohiaaTotals.lean).
  GIVEN WITH THE SEED: the statements are not yours to turn. If you find one false, say at which input.
  Laid BY PROGRAM, IN A SANDBOX (cutbox-rows.mjs): the forced cells as the released guide's own fill.sh prints them over the translation defe4d7d1c769b33… (all of the seat's roots in one cut). By AI agents, Wed Nov 11 2026. No macro, syntax, notation, axiom, sorry.
-/
import Derived.Test.YthhfhpeeinohiaaChecked
import GoSem.Claim
import GoSem.ClaimJoined
import GoSem.ClaimMapViews
import Derived.JoinedTies
import Derived.KernelRfl
namespace Go.Proofs.Ythhfhpeeinohiaa
/- THE CELL 'sum', in the pinned program and in every row, IS THE sha256 OF THE DUMP (.gsa) THAT YthhfhpeeinohiaaProg.lean LOADS. Nothing in Lean hashes anything: it is a label: what it is worth is what the hold of that sum in a sandbox is worth. -/
noncomputable def Try.pinned : Pinned := { name := "ythhfhpeeinohiaa", sum := "defe4d7d1c769b336ce708d7fc9fee55a85646e42b3b3ddc677de3261a90c545", checked := Try.checked }
namespace Rows
def none {H : Type} : Left H := { results := [], args := [] }

/-- 'laws.FnFired': WHATEVER THE INPUT: true; the input reads as it did. -/
def fnFiredSpec : ChangeSpec := { name := "fnFired", fn := fun _ => fun
  | [d1, d2] => { results := [.lit (.bool true)], args := [d1, d2] }
  | _ => none }
def fnFiredRow : OpenClaim := { program := "ythhfhpeeinohiaa", sum := "defe4d7d1c769b336ce708d7fc9fee55a85646e42b3b3ddc677de3261a90c545", func := "loop.example/g00862/laws.FnFired", spec := "fnFired", unfollowed := true, recurses := true, apart := false }
def FnFiredSaid : Prop := fnFiredRow.holds Try.pinned (OpenSpec.ofChange fnFiredSpec)

/-- ITS FALSE NEIGHBOUR: 'it returns false'. Refute it at one input. -/
def fnFiredWrong : ChangeSpec := { name := "fnFired", fn := fun _ => fun
  | [d1, d2] => { results := [.lit (.bool false)], args := [d1, d2] }
  | _ => none }
def FnFiredWrongFalsely : Prop := fnFiredRow.holds Try.pinned (OpenSpec.ofChange fnFiredWrong)

/-- 'laws.FnReversed': WHATEVER THE INPUT: true; the input reads as it did. -/
def fnReversedSpec : ChangeSpec := { name := "fnReversed", fn := fun _ => fun
  | [d1, d2] => { results := [.lit (.bool true)], args := [d1, d2] }
  | _ => none }
def fnReversedRow : OpenClaim := { program := "ythhfhpeeinohiaa", sum := "defe4d7d1c769b336ce708d7fc9fee55a85646e42b3b3ddc677de3261a90c545", func := "loop.example/g00862/laws.FnReversed", spec := "fnReversed", unfollowed := true, recurses := true, apart := false }
def FnReversedSaid : Prop := fnReversedRow.holds Try.pinned (OpenSpec.ofChange fnReversedSpec)

/-- ITS FALSE NEIGHBOUR: 'it returns false'. Refute it at one input. -/
def fnReversedWrong : ChangeSpec := { name := "fnReversed", fn := fun _ => fun
  | [d1, d2] => { results := [.lit (.bool false)], args := [d1, d2] }
  | _ => none }
def FnReversedWrongFalsely : Prop := fnReversedRow.holds Try.pinned (OpenSpec.ofChange fnReversedWrong)

/- THE SECOND FORM. 'bulk': how many values and letters a reading holds, each counted each time it is reached (what is shared counts as often as it is met; a slice's spare places count too). A statement '..UptoSaid' is the law's where the arguments, and the package variables that the reading takes, are together of bulk at most 1048576: NARROWER than '..Said'. Prove '..Said' where nothing that the law and all that it calls make is longer than what came in: it says more and counts as full. Else prove '..UptoSaid'. A law counts once. -/
mutual
def uptoBulk {H : Type} : DataW H → Nat
  | .lit (.string bytes) => bytes.length + 1
  | .lit _ => 1
  | .nil => 1
  | .ptr d => uptoBulk d + 1
  | .slice elems spare => uptoBulkAll elems + uptoBulkAll spare + 1
  | .agg parts => uptoBulkAll parts + 1
  | .iface _ d => uptoBulk d + 1
  | .map entries => uptoBulkEntries entries + 1
  | .held _ => 1
def uptoBulkAll {H : Type} : List (DataW H) → Nat
  | [] => 0
  | d :: r => uptoBulk d + uptoBulkAll r
def uptoBulkEntries {H : Type} : List (Lit × DataW H) → Nat
  | [] => 0
  | x :: r => uptoBulkEntry x + uptoBulkEntries r
def uptoBulkEntry {H : Type} : Lit × DataW H → Nat
  | (.string bytes, d) => bytes.length + uptoBulk d + 1
  | (_, d) => uptoBulk d + 1
 end
def uptoSmall : (H : Type) → List (DataW H) → Bool := fun _ ds => decide (uptoBulkAll ds ≤ 1048576)
def OpenSpec.upto (s : _root_.Go.ChangeSpec) : _root_.Go.OpenSpec := { _root_.Go.OpenSpec.ofChange s with cond := some uptoSmall }

/-- 'laws.FnFired', WHERE WHAT IT READS IS OF BULK AT MOST 1048576: true; the input reads as it did. -/
def fnFiredUptoRow : OpenClaim := { program := "ythhfhpeeinohiaa", sum := "defe4d7d1c769b336ce708d7fc9fee55a85646e42b3b3ddc677de3261a90c545", func := "loop.example/g00862/laws.FnFired", spec := "fnFired", unfollowed := true, recurses := true, apart := false, narrowed := true }
def FnFiredUptoSaid : Prop := fnFiredUptoRow.holds Try.pinned (OpenSpec.upto fnFiredSpec)

/-- 'laws.FnReversed', WHERE WHAT IT READS IS OF BULK AT MOST 1048576: true; the input reads as it did. -/
def fnReversedUptoRow : OpenClaim := { program := "ythhfhpeeinohiaa", sum := "defe4d7d1c769b336ce708d7fc9fee55a85646e42b3b3ddc677de3261a90c545", func := "loop.example/g00862/laws.FnReversed", spec := "fnReversed", unfollowed := true, recurses := true, apart := false, narrowed := true }
def FnReversedUptoSaid : Prop := fnReversedUptoRow.holds Try.pinned (OpenSpec.upto fnReversedSpec)

end Rows
end Go.Proofs.Ythhfhpeeinohiaa

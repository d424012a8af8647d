/-
  DERIVED. GIVEN WITH THE SEED: THE CARDS: each row of YtnklhbfdfddigaaDoorRows.lean that lists a variable, with what it lists TIED to the program's text (the seventh form; the later family's looks); each row that meets fmt, with fmt's text TOLD by the authors' own Lean function (tested against real Go, not proved from fmt's source: count such statements apart). THE CARD IS WHAT COUNTS. Prove the row's statement (the work); the ties are given (YtnklhbfdfddigaaDoorTie.lean); close each card by the builder's one call (the guide's Derived/Test/ToyasCard.lean, 'card_holds'). Laid BY PROGRAM, IN A SANDBOX (cutbox-door.mjs). By AI agents, Wed Nov 11 2026. No macro, syntax, notation, axiom, sorry.
-/
import Derived.Test.YtnklhbfdfddigaaDoorRows
import GoSem.ClaimSeven
namespace Go.Proofs.YtnklhbfdfddigaaDoor
namespace Rows

/-- THE TIED CARD OF 'laws.FnNamed'. -/
def fnNamedCard : Claim7 := { stood := { row := fnNamedRow, standIns := [], harness := (true, "68c2645d653e8e9aac556a699d3dcaa0c0a415d83d57fcbca56d78a24b96ec39"), looks := false }, kinds := [], alts := [], laidByText := true, laidKinds := [.data, .data, .data], laidTests := true, laidLooks := .later }
def FnNamedCardSaid : Prop := Claim7.holds Tryd.pinned (.plain (OpenSpec.ofChange fnNamedSpec)) fnNamedCard

/-- THE SECOND FORM's CARD OF 'laws.FnNamed'. -/
def fnNamedUptoCard : Claim7 := { stood := { row := fnNamedUptoRow, standIns := [], harness := (true, "68c2645d653e8e9aac556a699d3dcaa0c0a415d83d57fcbca56d78a24b96ec39"), looks := false }, kinds := [], alts := [], laidByText := true, laidKinds := [.data, .data, .data], laidTests := true, laidLooks := .later }
def FnNamedUptoCardSaid : Prop := Claim7.holds Tryd.pinned (.plain (OpenSpec.upto fnNamedSpec)) fnNamedUptoCard
end Rows
end Go.Proofs.YtnklhbfdfddigaaDoor

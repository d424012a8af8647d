/-
  DERIVED. GIVEN WITH THE SEED: THE CARDS: each row of YtacmonmehcdhaaaDoorRows.lean that lists a variable, with what it lists TIED to the program's text (the seventh form; the later family's looks); each row that meets fmt, with fmt's text TOLD by the authors' own Lean function (tested against real Go, not proved from fmt's source: count such statements apart). THE CARD IS WHAT COUNTS. Prove the row's statement (the work); the ties are given (YtacmonmehcdhaaaDoorTie.lean); close each card by the builder's one call (the guide's Derived/Test/ToyasCard.lean, 'card_holds'). Laid BY PROGRAM, IN A SANDBOX (cutbox-door.mjs). By AI agents, Wed Nov 11 2026. No macro, syntax, notation, axiom, sorry.
-/
import Derived.Test.YtacmonmehcdhaaaDoorRows
import GoSem.ClaimSeven
namespace Go.Proofs.YtacmonmehcdhaaaDoor
namespace Rows

/-- THE TIED CARD OF 'laws.FnExactFormatMachine'. -/
def fnExactFormatMachineCard : Claim7 := { stood := { row := fnExactFormatMachineRow, standIns := [], harness := (true, "33115844a3026f02b98a07046665730699f592d07347fcff6f9acf59e3973647"), looks := false }, kinds := [], alts := [], laidByText := true, laidKinds := [.data, .data, .data], laidTests := true, laidLooks := .later }
def FnExactFormatMachineCardSaid : Prop := Claim7.holds Tryd.pinned (.plain (OpenSpec.ofChange fnExactFormatMachineSpec)) fnExactFormatMachineCard

/-- THE SECOND FORM's CARD OF 'laws.FnExactFormatMachine'. -/
def fnExactFormatMachineUptoCard : Claim7 := { stood := { row := fnExactFormatMachineUptoRow, standIns := [], harness := (true, "33115844a3026f02b98a07046665730699f592d07347fcff6f9acf59e3973647"), looks := false }, kinds := [], alts := [], laidByText := true, laidKinds := [.data, .data, .data], laidTests := true, laidLooks := .later }
def FnExactFormatMachineUptoCardSaid : Prop := Claim7.holds Tryd.pinned (.plain (OpenSpec.upto fnExactFormatMachineSpec)) fnExactFormatMachineUptoCard
end Rows
end Go.Proofs.YtacmonmehcdhaaaDoor

/-
  DERIVED. GIVEN WITH THE SEED: THE CARDS: each row of YtgikfbfagdhopaaGreatDoorRows.lean that lists a variable, with what it lists TIED to the program's text (the seventh form; the later family's looks); each row that meets fmt, with fmt's text TOLD by the authors' own Lean function (tested against real Go, not proved from fmt's source: count such statements apart). THE CARD IS WHAT COUNTS. Prove the row's statement (the work); the ties are given (YtgikfbfagdhopaaGreatDoorTie.lean); close each card by the builder's one call (the guide's Derived/Test/ToyasCard.lean, 'card_holds'). Laid BY PROGRAM, IN A SANDBOX (cutbox-door.mjs). By AI agents, Wed Nov 11 2026. No macro, syntax, notation, axiom, sorry.
-/
import Derived.Test.YtgikfbfagdhopaaGreatDoorRows
import GoSem.ClaimSeven
namespace Go.Proofs.YtgikfbfagdhopaaGreatDoor
namespace Rows

/-- THE TIED CARD OF 'laws.FnExactFormatEvents'. -/
def fnExactFormatEventsCard : Claim7 := { stood := { row := fnExactFormatEventsRow, standIns := [], harness := (true, "72d011b8d08db2331139b359c3c03e19c799e847897c3c768118e1ebe8a004d0"), looks := false }, kinds := [], alts := [], laidByText := true, laidKinds := [.data, .data, .data], laidTests := true, laidLooks := .later }
def FnExactFormatEventsCardSaid : Prop := Claim7.holds Tryz.pinned (.plain (OpenSpec.ofChange fnExactFormatEventsSpec)) fnExactFormatEventsCard

/-- THE SECOND FORM's CARD OF 'laws.FnExactFormatEvents'. -/
def fnExactFormatEventsUptoCard : Claim7 := { stood := { row := fnExactFormatEventsUptoRow, standIns := [], harness := (true, "72d011b8d08db2331139b359c3c03e19c799e847897c3c768118e1ebe8a004d0"), looks := false }, kinds := [], alts := [], laidByText := true, laidKinds := [.data, .data, .data], laidTests := true, laidLooks := .later }
def FnExactFormatEventsUptoCardSaid : Prop := Claim7.holds Tryz.pinned (.plain (OpenSpec.upto fnExactFormatEventsSpec)) fnExactFormatEventsUptoCard
end Rows
end Go.Proofs.YtgikfbfagdhopaaGreatDoor

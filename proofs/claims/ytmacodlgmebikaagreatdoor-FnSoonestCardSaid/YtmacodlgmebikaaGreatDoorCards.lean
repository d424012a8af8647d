/-
  DERIVED. GIVEN WITH THE SEED: THE CARDS: each row of YtmacodlgmebikaaGreatDoorRows.lean that lists a variable, with what it lists TIED to the program's text (the seventh form; the later family's looks); each row that meets fmt, with fmt's text TOLD by the authors' own Lean function (tested against real Go, not proved from fmt's source: count such statements apart). THE CARD IS WHAT COUNTS. Prove the row's statement (the work); the ties are given (YtmacodlgmebikaaGreatDoorTie.lean); close each card by the builder's one call (the guide's Derived/Test/ToyasCard.lean, 'card_holds'). Laid BY PROGRAM, IN A SANDBOX (cutbox-door.mjs). By AI agents, Wed Nov 11 2026. No macro, syntax, notation, axiom, sorry.
-/
import Derived.Test.YtmacodlgmebikaaGreatDoorRows
import GoSem.ClaimSeven
namespace Go.Proofs.YtmacodlgmebikaaGreatDoor
namespace Rows

/-- THE TIED CARD OF 'laws.FnSoonest'. -/
def fnSoonestCard : Claim7 := { stood := { row := fnSoonestRow, standIns := [], harness := (true, "51a32980a78c1e33fa57908cf01c11e5250c730e7ff365f866adda3bfd17fc65"), looks := false }, kinds := [], alts := [], laidByText := true, laidKinds := [.data, .data, .data], laidTests := true, laidLooks := .later }
def FnSoonestCardSaid : Prop := Claim7.holds Tryz.pinned (.plain (OpenSpec.ofChange fnSoonestSpec)) fnSoonestCard

/-- THE SECOND FORM's CARD OF 'laws.FnSoonest'. -/
def fnSoonestUptoCard : Claim7 := { stood := { row := fnSoonestUptoRow, standIns := [], harness := (true, "51a32980a78c1e33fa57908cf01c11e5250c730e7ff365f866adda3bfd17fc65"), looks := false }, kinds := [], alts := [], laidByText := true, laidKinds := [.data, .data, .data], laidTests := true, laidLooks := .later }
def FnSoonestUptoCardSaid : Prop := Claim7.holds Tryz.pinned (.plain (OpenSpec.upto fnSoonestSpec)) fnSoonestUptoCard
end Rows
end Go.Proofs.YtmacodlgmebikaaGreatDoor

/-
  DERIVED. GIVEN WITH THE SEED: THE CARDS: each row of YtfmlgiafkbakcaaGreatDoorRows.lean that lists a variable, with what it lists TIED to the program's text (the seventh form; the later family's looks); each row that meets fmt, with fmt's text TOLD by the authors' own Lean function (tested against real Go, not proved from fmt's source: count such statements apart). THE CARD IS WHAT COUNTS. Prove the row's statement (the work); the ties are given (YtfmlgiafkbakcaaGreatDoorTie.lean); close each card by the builder's one call (the guide's Derived/Test/ToyasCard.lean, 'card_holds'). Laid BY PROGRAM, IN A SANDBOX (cutbox-door.mjs). By AI agents, Wed Nov 11 2026. No macro, syntax, notation, axiom, sorry.
-/
import Derived.Test.YtfmlgiafkbakcaaGreatDoorRows
import GoSem.ClaimSeven
namespace Go.Proofs.YtfmlgiafkbakcaaGreatDoor
namespace Rows

/-- THE TIED CARD OF 'gantletlaw24.DriverFaults'. -/
def driverFaultsCard : Claim7 := { stood := { row := driverFaultsRow, standIns := [], harness := (true, "2713d196136c9a5fe72c943e8dd93b0b6d37b7862bfb6f3335c79d79472f2233"), looks := true }, kinds := [], alts := [], laidByText := true, laidKinds := [.data, .data, .data, .data, .listed, .sentinel, .sentinel], laidTests := true, laidLooks := .later }
def DriverFaultsCardSaid : Prop := Claim7.holds Tryz.pinned (.plain (OpenSpec.ofChange driverFaultsSpec)) driverFaultsCard

/-- THE SECOND FORM's CARD OF 'gantletlaw24.DriverFaults'. -/
def driverFaultsUptoCard : Claim7 := { stood := { row := driverFaultsUptoRow, standIns := [], harness := (true, "2713d196136c9a5fe72c943e8dd93b0b6d37b7862bfb6f3335c79d79472f2233"), looks := true }, kinds := [], alts := [], laidByText := true, laidKinds := [.data, .data, .data, .data, .listed, .sentinel, .sentinel], laidTests := true, laidLooks := .later }
def DriverFaultsUptoCardSaid : Prop := Claim7.holds Tryz.pinned (.plain (OpenSpec.upto driverFaultsSpec)) driverFaultsUptoCard
end Rows
end Go.Proofs.YtfmlgiafkbakcaaGreatDoor

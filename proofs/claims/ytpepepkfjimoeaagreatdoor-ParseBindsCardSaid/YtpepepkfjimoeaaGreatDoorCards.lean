/-
  DERIVED. GIVEN WITH THE SEED: THE CARDS: each row of YtpepepkfjimoeaaGreatDoorRows.lean that lists a variable, with what it lists TIED to the program's text (the seventh form; the later family's looks); each row that meets fmt, with fmt's text TOLD by the authors' own Lean function (tested against real Go, not proved from fmt's source: count such statements apart). THE CARD IS WHAT COUNTS. Prove the row's statement (the work); the ties are given (YtpepepkfjimoeaaGreatDoorTie.lean); close each card by the builder's one call (the guide's Derived/Test/ToyasCard.lean, 'card_holds'). Laid BY PROGRAM, IN A SANDBOX (cutbox-door.mjs). By AI agents, Wed Nov 11 2026. No macro, syntax, notation, axiom, sorry.
-/
import Derived.Test.YtpepepkfjimoeaaGreatDoorRows
import GoSem.ClaimSeven
namespace Go.Proofs.YtpepepkfjimoeaaGreatDoor
namespace Rows

/-- THE TIED CARD OF 'gantletlaw3.ParseBinds'. -/
def parseBindsCard : Claim7 := { stood := { row := parseBindsRow, standIns := [], harness := (true, "d8784e4f9348ea9b1a3da968c5a32d82cfb59e94bb0333c8f4dc4d6d9f906306"), looks := true }, kinds := [], alts := [], laidByText := true, laidKinds := [.listed, .data], laidTests := true, laidLooks := .later }
def ParseBindsCardSaid : Prop := Claim7.holds Tryz.pinned (.plain (OpenSpec.ofChange parseBindsSpec)) parseBindsCard

/-- THE TIED CARD OF 'gantletlaw11.DescShipped'. -/
def descShippedCard : Claim7 := { stood := { row := descShippedRow, standIns := [], harness := (true, "d8784e4f9348ea9b1a3da968c5a32d82cfb59e94bb0333c8f4dc4d6d9f906306"), looks := true }, kinds := [], alts := [], laidByText := true, laidKinds := [.data, .data, .data, .sentinel, .sentinel, .listed, .data], laidTests := true, laidLooks := .later }
def DescShippedCardSaid : Prop := Claim7.holds Tryz.pinned (.plain (OpenSpec.ofChange descShippedSpec)) descShippedCard

/-- THE SECOND FORM's CARD OF 'gantletlaw3.ParseBinds'. -/
def parseBindsUptoCard : Claim7 := { stood := { row := parseBindsUptoRow, standIns := [], harness := (true, "d8784e4f9348ea9b1a3da968c5a32d82cfb59e94bb0333c8f4dc4d6d9f906306"), looks := true }, kinds := [], alts := [], laidByText := true, laidKinds := [.listed, .data], laidTests := true, laidLooks := .later }
def ParseBindsUptoCardSaid : Prop := Claim7.holds Tryz.pinned (.plain (OpenSpec.upto parseBindsSpec)) parseBindsUptoCard

/-- THE SECOND FORM's CARD OF 'gantletlaw11.DescShipped'. -/
def descShippedUptoCard : Claim7 := { stood := { row := descShippedUptoRow, standIns := [], harness := (true, "d8784e4f9348ea9b1a3da968c5a32d82cfb59e94bb0333c8f4dc4d6d9f906306"), looks := true }, kinds := [], alts := [], laidByText := true, laidKinds := [.data, .data, .data, .sentinel, .sentinel, .listed, .data], laidTests := true, laidLooks := .later }
def DescShippedUptoCardSaid : Prop := Claim7.holds Tryz.pinned (.plain (OpenSpec.upto descShippedSpec)) descShippedUptoCard
end Rows
end Go.Proofs.YtpepepkfjimoeaaGreatDoor

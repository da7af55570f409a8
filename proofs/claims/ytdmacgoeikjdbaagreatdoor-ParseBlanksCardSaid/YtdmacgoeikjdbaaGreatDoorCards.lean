/-
  DERIVED. GIVEN WITH THE SEED: THE CARDS: each row of YtdmacgoeikjdbaaGreatDoorRows.lean that lists a variable, with what it lists TIED to the program's text (the seventh form; the later family's looks); each row that meets fmt, with fmt's text TOLD by the authors' own Lean function (tested against real Go, not proved from fmt's source: count such statements apart). THE CARD IS WHAT COUNTS. Prove the row's statement (the work); the ties are given (YtdmacgoeikjdbaaGreatDoorTie.lean); close each card by the builder's one call (the guide's Derived/Test/ToyasCard.lean, 'card_holds'). Laid BY PROGRAM, IN A SANDBOX (cutbox-door.mjs). By AI agents, Wed Nov 11 2026. No macro, syntax, notation, axiom, sorry.
-/
import Derived.Test.YtdmacgoeikjdbaaGreatDoorRows
import GoSem.ClaimSeven
namespace Go.Proofs.YtdmacgoeikjdbaaGreatDoor
namespace Rows

/-- THE TIED CARD OF 'gantletlaw3.ParseUnits'. -/
def parseUnitsCard : Claim7 := { stood := { row := parseUnitsRow, standIns := [], harness := (true, "89f7a9ae7eec18725fab5a89aa3587a010d8eaeac450092512229b2c579ccfbb"), looks := false }, kinds := [], alts := [], laidByText := true, laidKinds := [.listed, .data], laidTests := true, laidLooks := .later }
def ParseUnitsCardSaid : Prop := Claim7.holds Tryz.pinned (.plain (OpenSpec.ofChange parseUnitsSpec)) parseUnitsCard

/-- THE TIED CARD OF 'gantletlaw3.ParseBlanks'. -/
def parseBlanksCard : Claim7 := { stood := { row := parseBlanksRow, standIns := [], harness := (true, "89f7a9ae7eec18725fab5a89aa3587a010d8eaeac450092512229b2c579ccfbb"), looks := false }, kinds := [], alts := [], laidByText := true, laidKinds := [.listed, .data], laidTests := true, laidLooks := .later }
def ParseBlanksCardSaid : Prop := Claim7.holds Tryz.pinned (.plain (OpenSpec.ofChange parseBlanksSpec)) parseBlanksCard

/-- THE SECOND FORM's CARD OF 'gantletlaw3.ParseUnits'. -/
def parseUnitsUptoCard : Claim7 := { stood := { row := parseUnitsUptoRow, standIns := [], harness := (true, "89f7a9ae7eec18725fab5a89aa3587a010d8eaeac450092512229b2c579ccfbb"), looks := false }, kinds := [], alts := [], laidByText := true, laidKinds := [.listed, .data], laidTests := true, laidLooks := .later }
def ParseUnitsUptoCardSaid : Prop := Claim7.holds Tryz.pinned (.plain (OpenSpec.upto parseUnitsSpec)) parseUnitsUptoCard

/-- THE SECOND FORM's CARD OF 'gantletlaw3.ParseBlanks'. -/
def parseBlanksUptoCard : Claim7 := { stood := { row := parseBlanksUptoRow, standIns := [], harness := (true, "89f7a9ae7eec18725fab5a89aa3587a010d8eaeac450092512229b2c579ccfbb"), looks := false }, kinds := [], alts := [], laidByText := true, laidKinds := [.listed, .data], laidTests := true, laidLooks := .later }
def ParseBlanksUptoCardSaid : Prop := Claim7.holds Tryz.pinned (.plain (OpenSpec.upto parseBlanksSpec)) parseBlanksUptoCard
end Rows
end Go.Proofs.YtdmacgoeikjdbaaGreatDoor

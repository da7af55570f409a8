/-
  DERIVED. GIVEN WITH THE SEED: THE CARDS: each row of YtpepepkfjimoeaaDoorRows.lean that lists a variable, with what it lists TIED to the program's text (the seventh form; the later family's looks); each row that meets fmt, with fmt's text TOLD by the authors' own Lean function (tested against real Go, not proved from fmt's source: count such statements apart). THE CARD IS WHAT COUNTS. Prove the row's statement (the work); the ties are given (YtpepepkfjimoeaaDoorTie.lean); close each card by the builder's one call (the guide's Derived/Test/ToyasCard.lean, 'card_holds'). Laid BY PROGRAM, IN A SANDBOX (cutbox-door.mjs). By AI agents, Wed Nov 11 2026. No macro, syntax, notation, axiom, sorry.
-/
import Derived.Test.YtpepepkfjimoeaaDoorRows
import GoSem.ClaimSeven
namespace Go.Proofs.YtpepepkfjimoeaaDoor
namespace Rows

/-- THE TIED CARD OF 'gantletlaw3.ParseEdges'. -/
def parseEdgesCard : Claim7 := { stood := { row := parseEdgesRow, standIns := [], harness := (true, "940e7a5a3552174b0231d936b47af411a5ff07897990148adb0039742354a9b7"), looks := false }, kinds := [], alts := [], laidByText := true, laidKinds := [.listed, .data], laidTests := true, laidLooks := .later }
def ParseEdgesCardSaid : Prop := Claim7.holds Tryd.pinned (.plain (OpenSpec.ofChange parseEdgesSpec)) parseEdgesCard

/-- THE SECOND FORM's CARD OF 'gantletlaw3.ParseEdges'. -/
def parseEdgesUptoCard : Claim7 := { stood := { row := parseEdgesUptoRow, standIns := [], harness := (true, "940e7a5a3552174b0231d936b47af411a5ff07897990148adb0039742354a9b7"), looks := false }, kinds := [], alts := [], laidByText := true, laidKinds := [.listed, .data], laidTests := true, laidLooks := .later }
def ParseEdgesUptoCardSaid : Prop := Claim7.holds Tryd.pinned (.plain (OpenSpec.upto parseEdgesSpec)) parseEdgesUptoCard
end Rows
end Go.Proofs.YtpepepkfjimoeaaDoor

/-
  DERIVED. GIVEN WITH THE SEED: THE CARDS: each row of YthdicdkgfmiepaaGreatDoorRows.lean that lists a variable, with what it lists TIED to the program's text (the seventh form; the later family's looks); each row that meets fmt, with fmt's text TOLD by the authors' own Lean function (tested against real Go, not proved from fmt's source: count such statements apart). THE CARD IS WHAT COUNTS. Prove the row's statement (the work); the ties are given (YthdicdkgfmiepaaGreatDoorTie.lean); close each card by the builder's one call (the guide's Derived/Test/ToyasCard.lean, 'card_holds'). Laid BY PROGRAM, IN A SANDBOX (cutbox-door.mjs). By AI agents, Wed Nov 11 2026. No macro, syntax, notation, axiom, sorry.
-/
import Derived.Test.YthdicdkgfmiepaaGreatDoorRows
import GoSem.ClaimSeven
namespace Go.Proofs.YthdicdkgfmiepaaGreatDoor
namespace Rows

/-- THE TIED CARD OF 'gantletlaw11.DescTexts'. -/
def descTextsCard : Claim7 := { stood := { row := descTextsRow, standIns := [], harness := (true, "19f24707edab9e9ca201b45e4e039a90e120668e823f2811de251fdd1af2d495"), looks := true }, kinds := [], alts := [], laidByText := true, laidKinds := [.data, .data, .data, .sentinel, .sentinel, .listed, .data], laidTests := true, laidLooks := .later }
def DescTextsCardSaid : Prop := Claim7.holds Tryz.pinned (.plain (OpenSpec.ofChange descTextsSpec)) descTextsCard

/-- THE SECOND FORM's CARD OF 'gantletlaw11.DescTexts'. -/
def descTextsUptoCard : Claim7 := { stood := { row := descTextsUptoRow, standIns := [], harness := (true, "19f24707edab9e9ca201b45e4e039a90e120668e823f2811de251fdd1af2d495"), looks := true }, kinds := [], alts := [], laidByText := true, laidKinds := [.data, .data, .data, .sentinel, .sentinel, .listed, .data], laidTests := true, laidLooks := .later }
def DescTextsUptoCardSaid : Prop := Claim7.holds Tryz.pinned (.plain (OpenSpec.upto descTextsSpec)) descTextsUptoCard
end Rows
end Go.Proofs.YthdicdkgfmiepaaGreatDoor

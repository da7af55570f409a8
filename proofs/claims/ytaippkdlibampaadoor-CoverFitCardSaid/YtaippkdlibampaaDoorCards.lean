/-
  DERIVED. GIVEN WITH THE SEED: THE CARDS: each row of YtaippkdlibampaaDoorRows.lean that lists a variable, with what it lists TIED to the program's text (the seventh form; the later family's looks); each row that meets fmt, with fmt's text TOLD by the authors' own Lean function (tested against real Go, not proved from fmt's source: count such statements apart). THE CARD IS WHAT COUNTS. Prove the row's statement (the work); the ties are given (YtaippkdlibampaaDoorTie.lean); close each card by the builder's one call (the guide's Derived/Test/ToyasCard.lean, 'card_holds'). Laid BY PROGRAM, IN A SANDBOX (cutbox-door.mjs). By AI agents, Wed Nov 11 2026. No macro, syntax, notation, axiom, sorry.
-/
import Derived.Test.YtaippkdlibampaaDoorRows
import GoSem.ClaimSeven
namespace Go.Proofs.YtaippkdlibampaaDoor
namespace Rows

/-- THE TIED CARD OF 'gantletlaw12.RuleForms'. -/
def ruleFormsCard : Claim7 := { stood := { row := ruleFormsRow, standIns := [], harness := (true, "cda56145401eba12df1186e71ad3a4348df44075e8223e59bc1450fd447cf76b"), looks := false }, kinds := [], alts := [], laidByText := true, laidKinds := [.listed, .data], laidTests := true, laidLooks := .later }
def RuleFormsCardSaid : Prop := Claim7.holds Tryd.pinned (.plain (OpenSpec.ofChange ruleFormsSpec)) ruleFormsCard

/-- THE TIED CARD OF 'gantletlaw12.RuleChecks'. -/
def ruleChecksCard : Claim7 := { stood := { row := ruleChecksRow, standIns := [], harness := (true, "cda56145401eba12df1186e71ad3a4348df44075e8223e59bc1450fd447cf76b"), looks := false }, kinds := [], alts := [], laidByText := true, laidKinds := [.listed, .data], laidTests := true, laidLooks := .later }
def RuleChecksCardSaid : Prop := Claim7.holds Tryd.pinned (.plain (OpenSpec.ofChange ruleChecksSpec)) ruleChecksCard

/-- THE TIED CARD OF 'gantletlaw13.CoverFit'. -/
def coverFitCard : Claim7 := { stood := { row := coverFitRow, standIns := [], harness := (true, "cda56145401eba12df1186e71ad3a4348df44075e8223e59bc1450fd447cf76b"), looks := false }, kinds := [], alts := [], laidByText := true, laidKinds := [.listed, .data], laidTests := true, laidLooks := .later }
def CoverFitCardSaid : Prop := Claim7.holds Tryd.pinned (.plain (OpenSpec.ofChange coverFitSpec)) coverFitCard

/-- THE TIED CARD OF 'gantletlaw13.CoverLeast'. -/
def coverLeastCard : Claim7 := { stood := { row := coverLeastRow, standIns := [], harness := (true, "cda56145401eba12df1186e71ad3a4348df44075e8223e59bc1450fd447cf76b"), looks := false }, kinds := [], alts := [], laidByText := true, laidKinds := [.listed, .data], laidTests := true, laidLooks := .later }
def CoverLeastCardSaid : Prop := Claim7.holds Tryd.pinned (.plain (OpenSpec.ofChange coverLeastSpec)) coverLeastCard

/-- THE TIED CARD OF 'gantletlaw13.CoverMore'. -/
def coverMoreCard : Claim7 := { stood := { row := coverMoreRow, standIns := [], harness := (true, "cda56145401eba12df1186e71ad3a4348df44075e8223e59bc1450fd447cf76b"), looks := false }, kinds := [], alts := [], laidByText := true, laidKinds := [.listed, .data], laidTests := true, laidLooks := .later }
def CoverMoreCardSaid : Prop := Claim7.holds Tryd.pinned (.plain (OpenSpec.ofChange coverMoreSpec)) coverMoreCard

/-- THE TIED CARD OF 'gantletlaw13.CoverChecks'. -/
def coverChecksCard : Claim7 := { stood := { row := coverChecksRow, standIns := [], harness := (true, "cda56145401eba12df1186e71ad3a4348df44075e8223e59bc1450fd447cf76b"), looks := false }, kinds := [], alts := [], laidByText := true, laidKinds := [.listed, .data], laidTests := true, laidLooks := .later }
def CoverChecksCardSaid : Prop := Claim7.holds Tryd.pinned (.plain (OpenSpec.ofChange coverChecksSpec)) coverChecksCard

/-- THE SECOND FORM's CARD OF 'gantletlaw12.RuleForms'. -/
def ruleFormsUptoCard : Claim7 := { stood := { row := ruleFormsUptoRow, standIns := [], harness := (true, "cda56145401eba12df1186e71ad3a4348df44075e8223e59bc1450fd447cf76b"), looks := false }, kinds := [], alts := [], laidByText := true, laidKinds := [.listed, .data], laidTests := true, laidLooks := .later }
def RuleFormsUptoCardSaid : Prop := Claim7.holds Tryd.pinned (.plain (OpenSpec.upto ruleFormsSpec)) ruleFormsUptoCard

/-- THE SECOND FORM's CARD OF 'gantletlaw12.RuleChecks'. -/
def ruleChecksUptoCard : Claim7 := { stood := { row := ruleChecksUptoRow, standIns := [], harness := (true, "cda56145401eba12df1186e71ad3a4348df44075e8223e59bc1450fd447cf76b"), looks := false }, kinds := [], alts := [], laidByText := true, laidKinds := [.listed, .data], laidTests := true, laidLooks := .later }
def RuleChecksUptoCardSaid : Prop := Claim7.holds Tryd.pinned (.plain (OpenSpec.upto ruleChecksSpec)) ruleChecksUptoCard

/-- THE SECOND FORM's CARD OF 'gantletlaw13.CoverFit'. -/
def coverFitUptoCard : Claim7 := { stood := { row := coverFitUptoRow, standIns := [], harness := (true, "cda56145401eba12df1186e71ad3a4348df44075e8223e59bc1450fd447cf76b"), looks := false }, kinds := [], alts := [], laidByText := true, laidKinds := [.listed, .data], laidTests := true, laidLooks := .later }
def CoverFitUptoCardSaid : Prop := Claim7.holds Tryd.pinned (.plain (OpenSpec.upto coverFitSpec)) coverFitUptoCard

/-- THE SECOND FORM's CARD OF 'gantletlaw13.CoverLeast'. -/
def coverLeastUptoCard : Claim7 := { stood := { row := coverLeastUptoRow, standIns := [], harness := (true, "cda56145401eba12df1186e71ad3a4348df44075e8223e59bc1450fd447cf76b"), looks := false }, kinds := [], alts := [], laidByText := true, laidKinds := [.listed, .data], laidTests := true, laidLooks := .later }
def CoverLeastUptoCardSaid : Prop := Claim7.holds Tryd.pinned (.plain (OpenSpec.upto coverLeastSpec)) coverLeastUptoCard

/-- THE SECOND FORM's CARD OF 'gantletlaw13.CoverMore'. -/
def coverMoreUptoCard : Claim7 := { stood := { row := coverMoreUptoRow, standIns := [], harness := (true, "cda56145401eba12df1186e71ad3a4348df44075e8223e59bc1450fd447cf76b"), looks := false }, kinds := [], alts := [], laidByText := true, laidKinds := [.listed, .data], laidTests := true, laidLooks := .later }
def CoverMoreUptoCardSaid : Prop := Claim7.holds Tryd.pinned (.plain (OpenSpec.upto coverMoreSpec)) coverMoreUptoCard

/-- THE SECOND FORM's CARD OF 'gantletlaw13.CoverChecks'. -/
def coverChecksUptoCard : Claim7 := { stood := { row := coverChecksUptoRow, standIns := [], harness := (true, "cda56145401eba12df1186e71ad3a4348df44075e8223e59bc1450fd447cf76b"), looks := false }, kinds := [], alts := [], laidByText := true, laidKinds := [.listed, .data], laidTests := true, laidLooks := .later }
def CoverChecksUptoCardSaid : Prop := Claim7.holds Tryd.pinned (.plain (OpenSpec.upto coverChecksSpec)) coverChecksUptoCard
end Rows
end Go.Proofs.YtaippkdlibampaaDoor

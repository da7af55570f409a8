/-
  No cell of these rows narrows 'for every input' (looked for: loops, veiled, ifaces, maps, wideKeys, modest, calm, conditions, laid).
  DERIVED. THE GIVEN ROWS OF THIS SEAT. 3 by the template 'for every input the law returns true; each argument reads behind the call as it read before'; 0 by the template 'total and deterministic' (their statements: YtlpmpjechbkpkaaGreatTotals.lean).
  GIVEN WITH THE SEED: the statements are not yours to turn. If you find one false, say at which input.
  Laid BY PROGRAM, IN A SANDBOX (cutbox-rows.mjs): the forced cells as the released guide's own fill.sh prints them over the translation e93a64ce242b7e2f… (all of the seat's roots in one cut). By AI agents, Wed Nov 11 2026. No macro, syntax, notation, axiom, sorry.
-/
import Derived.Test.YtlpmpjechbkpkaaGreatChecked
import GoSem.Claim
import GoSem.ClaimJoined
import GoSem.ClaimMapViews
import Derived.JoinedTies
import Derived.KernelRfl
namespace Go.Proofs.YtlpmpjechbkpkaaGreat
/- THE CELL 'sum', in the pinned program and in every row, IS THE sha256 OF THE DUMP (.gsa) THAT YtlpmpjechbkpkaaGreatProg.lean LOADS. Nothing in Lean hashes anything: it is a label: what it is worth is what the hold of that sum in a sandbox is worth. -/
noncomputable def Tryz.pinned : Pinned := { name := "ytlpmpjechbkpkaagreat", sum := "e93a64ce242b7e2ff2a2de843d3bee1767d1e8bdced3ccd757b8e030ec624e61", checked := Tryz.checked }
namespace Rows
def none {H : Type} : Left H := { results := [], args := [] }

/-- 'gantletlaw4.CheckUnits': WHATEVER THE INPUT: true; the input reads as it did. -/
def checkUnitsSpec : ChangeSpec := { name := "checkUnits", fn := fun _ => fun
  | [d] => { results := [.lit (.bool true)], args := [d] }
  | _ => none }
def checkUnitsRow : OpenClaim := { program := "ytlpmpjechbkpkaagreat", sum := "e93a64ce242b7e2ff2a2de843d3bee1767d1e8bdced3ccd757b8e030ec624e61", func := "gantlet/gantletlaw4.CheckUnits", spec := "checkUnits", unfollowed := true, recurses := true, apart := false }
def CheckUnitsSaid : Prop := checkUnitsRow.holds Tryz.pinned (OpenSpec.ofChange checkUnitsSpec)

/-- ITS FALSE NEIGHBOUR: 'it returns false'. Refute it at one input. -/
def checkUnitsWrong : ChangeSpec := { name := "checkUnits", fn := fun _ => fun
  | [d] => { results := [.lit (.bool false)], args := [d] }
  | _ => none }
def CheckUnitsWrongFalsely : Prop := checkUnitsRow.holds Tryz.pinned (OpenSpec.ofChange checkUnitsWrong)

/-- 'gantletlaw4.CheckTwice': WHATEVER THE INPUT: true; the input reads as it did. -/
def checkTwiceSpec : ChangeSpec := { name := "checkTwice", fn := fun _ => fun
  | [d] => { results := [.lit (.bool true)], args := [d] }
  | _ => none }
def checkTwiceRow : OpenClaim := { program := "ytlpmpjechbkpkaagreat", sum := "e93a64ce242b7e2ff2a2de843d3bee1767d1e8bdced3ccd757b8e030ec624e61", func := "gantlet/gantletlaw4.CheckTwice", spec := "checkTwice", unfollowed := true, recurses := true, apart := false }
def CheckTwiceSaid : Prop := checkTwiceRow.holds Tryz.pinned (OpenSpec.ofChange checkTwiceSpec)

/-- ITS FALSE NEIGHBOUR: 'it returns false'. Refute it at one input. -/
def checkTwiceWrong : ChangeSpec := { name := "checkTwice", fn := fun _ => fun
  | [d] => { results := [.lit (.bool false)], args := [d] }
  | _ => none }
def CheckTwiceWrongFalsely : Prop := checkTwiceRow.holds Tryz.pinned (OpenSpec.ofChange checkTwiceWrong)

/-- 'gantletlaw5.ModelWidths': WHATEVER THE INPUT: true; the input reads as it did. -/
def modelWidthsSpec : ChangeSpec := { name := "modelWidths", fn := fun _ => fun
  | [d] => { results := [.lit (.bool true)], args := [d] }
  | _ => none }
def modelWidthsRow : OpenClaim := { program := "ytlpmpjechbkpkaagreat", sum := "e93a64ce242b7e2ff2a2de843d3bee1767d1e8bdced3ccd757b8e030ec624e61", func := "gantlet/gantletlaw5.ModelWidths", spec := "modelWidths", unfollowed := true, recurses := true, apart := false }
def ModelWidthsSaid : Prop := modelWidthsRow.holds Tryz.pinned (OpenSpec.ofChange modelWidthsSpec)

/-- ITS FALSE NEIGHBOUR: 'it returns false'. Refute it at one input. -/
def modelWidthsWrong : ChangeSpec := { name := "modelWidths", fn := fun _ => fun
  | [d] => { results := [.lit (.bool false)], args := [d] }
  | _ => none }
def ModelWidthsWrongFalsely : Prop := modelWidthsRow.holds Tryz.pinned (OpenSpec.ofChange modelWidthsWrong)

/- THE SECOND FORM. 'bulk': how many values and letters a reading holds, each counted each time it is reached (what is shared counts as often as it is met; a slice's spare places count too). A statement '..UptoSaid' is the law's where the arguments, and the package variables that the reading takes, are together of bulk at most 1048576: NARROWER than '..Said'. Prove '..Said' where nothing that the law and all that it calls make is longer than what came in: it says more and counts as full. Else prove '..UptoSaid'. A law counts once. -/
mutual
def uptoBulk {H : Type} : DataW H → Nat
  | .lit (.string bytes) => bytes.length + 1
  | .lit _ => 1
  | .nil => 1
  | .ptr d => uptoBulk d + 1
  | .slice elems spare => uptoBulkAll elems + uptoBulkAll spare + 1
  | .agg parts => uptoBulkAll parts + 1
  | .iface _ d => uptoBulk d + 1
  | .map entries => uptoBulkEntries entries + 1
  | .held _ => 1
def uptoBulkAll {H : Type} : List (DataW H) → Nat
  | [] => 0
  | d :: r => uptoBulk d + uptoBulkAll r
def uptoBulkEntries {H : Type} : List (Lit × DataW H) → Nat
  | [] => 0
  | x :: r => uptoBulkEntry x + uptoBulkEntries r
def uptoBulkEntry {H : Type} : Lit × DataW H → Nat
  | (.string bytes, d) => bytes.length + uptoBulk d + 1
  | (_, d) => uptoBulk d + 1
 end
def uptoSmall : (H : Type) → List (DataW H) → Bool := fun _ ds => decide (uptoBulkAll ds ≤ 1048576)
def OpenSpec.upto (s : _root_.Go.ChangeSpec) : _root_.Go.OpenSpec := { _root_.Go.OpenSpec.ofChange s with cond := some uptoSmall }

/-- 'gantletlaw4.CheckUnits', WHERE WHAT IT READS IS OF BULK AT MOST 1048576: true; the input reads as it did. -/
def checkUnitsUptoRow : OpenClaim := { program := "ytlpmpjechbkpkaagreat", sum := "e93a64ce242b7e2ff2a2de843d3bee1767d1e8bdced3ccd757b8e030ec624e61", func := "gantlet/gantletlaw4.CheckUnits", spec := "checkUnits", unfollowed := true, recurses := true, apart := false, narrowed := true }
def CheckUnitsUptoSaid : Prop := checkUnitsUptoRow.holds Tryz.pinned (OpenSpec.upto checkUnitsSpec)

/-- 'gantletlaw4.CheckTwice', WHERE WHAT IT READS IS OF BULK AT MOST 1048576: true; the input reads as it did. -/
def checkTwiceUptoRow : OpenClaim := { program := "ytlpmpjechbkpkaagreat", sum := "e93a64ce242b7e2ff2a2de843d3bee1767d1e8bdced3ccd757b8e030ec624e61", func := "gantlet/gantletlaw4.CheckTwice", spec := "checkTwice", unfollowed := true, recurses := true, apart := false, narrowed := true }
def CheckTwiceUptoSaid : Prop := checkTwiceUptoRow.holds Tryz.pinned (OpenSpec.upto checkTwiceSpec)

/-- 'gantletlaw5.ModelWidths', WHERE WHAT IT READS IS OF BULK AT MOST 1048576: true; the input reads as it did. -/
def modelWidthsUptoRow : OpenClaim := { program := "ytlpmpjechbkpkaagreat", sum := "e93a64ce242b7e2ff2a2de843d3bee1767d1e8bdced3ccd757b8e030ec624e61", func := "gantlet/gantletlaw5.ModelWidths", spec := "modelWidths", unfollowed := true, recurses := true, apart := false, narrowed := true }
def ModelWidthsUptoSaid : Prop := modelWidthsUptoRow.holds Tryz.pinned (OpenSpec.upto modelWidthsSpec)

end Rows
end Go.Proofs.YtlpmpjechbkpkaaGreat

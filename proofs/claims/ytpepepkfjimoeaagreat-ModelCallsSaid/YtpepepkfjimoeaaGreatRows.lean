/-
  No cell of these rows narrows 'for every input' (looked for: loops, veiled, ifaces, maps, wideKeys, modest, calm, conditions, laid).
  DERIVED. THE GIVEN ROWS OF THIS SEAT. 7 by the template 'for every input the law returns true; each argument reads behind the call as it read before'; 0 by the template 'total and deterministic' (their statements: YtpepepkfjimoeaaGreatTotals.lean).
  GIVEN WITH THE SEED: the statements are not yours to turn. If you find one false, say at which input.
  Laid BY PROGRAM, IN A SANDBOX (cutbox-rows.mjs): the forced cells as the released guide's own fill.sh prints them over the translation 8cb7a793435107a4… (all of the seat's roots in one cut). By AI agents, Wed Nov 11 2026. No macro, syntax, notation, axiom, sorry.
-/
import Derived.Test.YtpepepkfjimoeaaGreatChecked
import GoSem.Claim
import GoSem.ClaimJoined
import GoSem.ClaimMapViews
import Derived.JoinedTies
import Derived.KernelRfl
namespace Go.Proofs.YtpepepkfjimoeaaGreat
/- THE CELL 'sum', in the pinned program and in every row, IS THE sha256 OF THE DUMP (.gsa) THAT YtpepepkfjimoeaaGreatProg.lean LOADS. Nothing in Lean hashes anything: it is a label: what it is worth is what the hold of that sum in a sandbox is worth. -/
noncomputable def Tryz.pinned : Pinned := { name := "ytpepepkfjimoeaagreat", sum := "8cb7a793435107a44f943645053e2ded3f0215afbb43e460c2116874e87fd0fd", checked := Tryz.checked }
namespace Rows
def none {H : Type} : Left H := { results := [], args := [] }

/-- 'gantletlaw4.CheckNames': WHATEVER THE INPUT: true; the input reads as it did. -/
def checkNamesSpec : ChangeSpec := { name := "checkNames", fn := fun _ => fun
  | [d] => { results := [.lit (.bool true)], args := [d] }
  | _ => none }
def checkNamesRow : OpenClaim := { program := "ytpepepkfjimoeaagreat", sum := "8cb7a793435107a44f943645053e2ded3f0215afbb43e460c2116874e87fd0fd", func := "gantlet/gantletlaw4.CheckNames", spec := "checkNames", unfollowed := true, recurses := true, apart := false }
def CheckNamesSaid : Prop := checkNamesRow.holds Tryz.pinned (OpenSpec.ofChange checkNamesSpec)

/-- ITS FALSE NEIGHBOUR: 'it returns false'. Refute it at one input. -/
def checkNamesWrong : ChangeSpec := { name := "checkNames", fn := fun _ => fun
  | [d] => { results := [.lit (.bool false)], args := [d] }
  | _ => none }
def CheckNamesWrongFalsely : Prop := checkNamesRow.holds Tryz.pinned (OpenSpec.ofChange checkNamesWrong)

/-- 'gantletlaw4.CheckTypes': WHATEVER THE INPUT: true; the input reads as it did. -/
def checkTypesSpec : ChangeSpec := { name := "checkTypes", fn := fun _ => fun
  | [d] => { results := [.lit (.bool true)], args := [d] }
  | _ => none }
def checkTypesRow : OpenClaim := { program := "ytpepepkfjimoeaagreat", sum := "8cb7a793435107a44f943645053e2ded3f0215afbb43e460c2116874e87fd0fd", func := "gantlet/gantletlaw4.CheckTypes", spec := "checkTypes", unfollowed := true, recurses := true, apart := false }
def CheckTypesSaid : Prop := checkTypesRow.holds Tryz.pinned (OpenSpec.ofChange checkTypesSpec)

/-- ITS FALSE NEIGHBOUR: 'it returns false'. Refute it at one input. -/
def checkTypesWrong : ChangeSpec := { name := "checkTypes", fn := fun _ => fun
  | [d] => { results := [.lit (.bool false)], args := [d] }
  | _ => none }
def CheckTypesWrongFalsely : Prop := checkTypesRow.holds Tryz.pinned (OpenSpec.ofChange checkTypesWrong)

/-- 'gantletlaw4.CheckPlaces': WHATEVER THE INPUT: true; the input reads as it did. -/
def checkPlacesSpec : ChangeSpec := { name := "checkPlaces", fn := fun _ => fun
  | [d] => { results := [.lit (.bool true)], args := [d] }
  | _ => none }
def checkPlacesRow : OpenClaim := { program := "ytpepepkfjimoeaagreat", sum := "8cb7a793435107a44f943645053e2ded3f0215afbb43e460c2116874e87fd0fd", func := "gantlet/gantletlaw4.CheckPlaces", spec := "checkPlaces", unfollowed := true, recurses := true, apart := false }
def CheckPlacesSaid : Prop := checkPlacesRow.holds Tryz.pinned (OpenSpec.ofChange checkPlacesSpec)

/-- ITS FALSE NEIGHBOUR: 'it returns false'. Refute it at one input. -/
def checkPlacesWrong : ChangeSpec := { name := "checkPlaces", fn := fun _ => fun
  | [d] => { results := [.lit (.bool false)], args := [d] }
  | _ => none }
def CheckPlacesWrongFalsely : Prop := checkPlacesRow.holds Tryz.pinned (OpenSpec.ofChange checkPlacesWrong)

/-- 'gantletlaw5.ModelNumbers': WHATEVER THE INPUT: true; the input reads as it did. -/
def modelNumbersSpec : ChangeSpec := { name := "modelNumbers", fn := fun _ => fun
  | [d] => { results := [.lit (.bool true)], args := [d] }
  | _ => none }
def modelNumbersRow : OpenClaim := { program := "ytpepepkfjimoeaagreat", sum := "8cb7a793435107a44f943645053e2ded3f0215afbb43e460c2116874e87fd0fd", func := "gantlet/gantletlaw5.ModelNumbers", spec := "modelNumbers", unfollowed := true, recurses := true, apart := false }
def ModelNumbersSaid : Prop := modelNumbersRow.holds Tryz.pinned (OpenSpec.ofChange modelNumbersSpec)

/-- ITS FALSE NEIGHBOUR: 'it returns false'. Refute it at one input. -/
def modelNumbersWrong : ChangeSpec := { name := "modelNumbers", fn := fun _ => fun
  | [d] => { results := [.lit (.bool false)], args := [d] }
  | _ => none }
def ModelNumbersWrongFalsely : Prop := modelNumbersRow.holds Tryz.pinned (OpenSpec.ofChange modelNumbersWrong)

/-- 'gantletlaw5.ModelFlows': WHATEVER THE INPUT: true; the input reads as it did. -/
def modelFlowsSpec : ChangeSpec := { name := "modelFlows", fn := fun _ => fun
  | [d] => { results := [.lit (.bool true)], args := [d] }
  | _ => none }
def modelFlowsRow : OpenClaim := { program := "ytpepepkfjimoeaagreat", sum := "8cb7a793435107a44f943645053e2ded3f0215afbb43e460c2116874e87fd0fd", func := "gantlet/gantletlaw5.ModelFlows", spec := "modelFlows", unfollowed := true, recurses := true, apart := false }
def ModelFlowsSaid : Prop := modelFlowsRow.holds Tryz.pinned (OpenSpec.ofChange modelFlowsSpec)

/-- ITS FALSE NEIGHBOUR: 'it returns false'. Refute it at one input. -/
def modelFlowsWrong : ChangeSpec := { name := "modelFlows", fn := fun _ => fun
  | [d] => { results := [.lit (.bool false)], args := [d] }
  | _ => none }
def ModelFlowsWrongFalsely : Prop := modelFlowsRow.holds Tryz.pinned (OpenSpec.ofChange modelFlowsWrong)

/-- 'gantletlaw5.ModelPointers': WHATEVER THE INPUT: true; the input reads as it did. -/
def modelPointersSpec : ChangeSpec := { name := "modelPointers", fn := fun _ => fun
  | [d] => { results := [.lit (.bool true)], args := [d] }
  | _ => none }
def modelPointersRow : OpenClaim := { program := "ytpepepkfjimoeaagreat", sum := "8cb7a793435107a44f943645053e2ded3f0215afbb43e460c2116874e87fd0fd", func := "gantlet/gantletlaw5.ModelPointers", spec := "modelPointers", unfollowed := true, recurses := true, apart := false }
def ModelPointersSaid : Prop := modelPointersRow.holds Tryz.pinned (OpenSpec.ofChange modelPointersSpec)

/-- ITS FALSE NEIGHBOUR: 'it returns false'. Refute it at one input. -/
def modelPointersWrong : ChangeSpec := { name := "modelPointers", fn := fun _ => fun
  | [d] => { results := [.lit (.bool false)], args := [d] }
  | _ => none }
def ModelPointersWrongFalsely : Prop := modelPointersRow.holds Tryz.pinned (OpenSpec.ofChange modelPointersWrong)

/-- 'gantletlaw5.ModelCalls': WHATEVER THE INPUT: true; the input reads as it did. -/
def modelCallsSpec : ChangeSpec := { name := "modelCalls", fn := fun _ => fun
  | [d] => { results := [.lit (.bool true)], args := [d] }
  | _ => none }
def modelCallsRow : OpenClaim := { program := "ytpepepkfjimoeaagreat", sum := "8cb7a793435107a44f943645053e2ded3f0215afbb43e460c2116874e87fd0fd", func := "gantlet/gantletlaw5.ModelCalls", spec := "modelCalls", unfollowed := true, recurses := true, apart := false }
def ModelCallsSaid : Prop := modelCallsRow.holds Tryz.pinned (OpenSpec.ofChange modelCallsSpec)

/-- ITS FALSE NEIGHBOUR: 'it returns false'. Refute it at one input. -/
def modelCallsWrong : ChangeSpec := { name := "modelCalls", fn := fun _ => fun
  | [d] => { results := [.lit (.bool false)], args := [d] }
  | _ => none }
def ModelCallsWrongFalsely : Prop := modelCallsRow.holds Tryz.pinned (OpenSpec.ofChange modelCallsWrong)

/- THE SECOND FORM. 'bulk': how many values and letters a reading holds, each counted each time it is reached (what is shared counts as often as it is met; a slice's spare places count too). A statement '..UptoSaid' is the law's where the arguments, and the package variables that the reading takes, are together of bulk at most 1048576: NARROWER than '..Said'. Prove '..Said' where nothing that the law and all that it calls make is longer than what came in: it says more and counts as full. Else prove '..UptoSaid'. A law counts once. -/
mutual
def uptoBulk {H : Type} : DataW H → Nat
  | .lit (.string bytes) => bytes.length + 1
  | .lit _ => 1
  | .nil => 1
  | .ptr d => uptoBulk d + 1
  | .slice elems spare => uptoBulkAll elems + uptoBulkAll spare + 1
  | .agg parts => uptoBulkAll parts + 1
  | .iface _ d => uptoBulk d + 1
  | .map entries => uptoBulkEntries entries + 1
  | .held _ => 1
def uptoBulkAll {H : Type} : List (DataW H) → Nat
  | [] => 0
  | d :: r => uptoBulk d + uptoBulkAll r
def uptoBulkEntries {H : Type} : List (Lit × DataW H) → Nat
  | [] => 0
  | x :: r => uptoBulkEntry x + uptoBulkEntries r
def uptoBulkEntry {H : Type} : Lit × DataW H → Nat
  | (.string bytes, d) => bytes.length + uptoBulk d + 1
  | (_, d) => uptoBulk d + 1
 end
def uptoSmall : (H : Type) → List (DataW H) → Bool := fun _ ds => decide (uptoBulkAll ds ≤ 1048576)
def OpenSpec.upto (s : _root_.Go.ChangeSpec) : _root_.Go.OpenSpec := { _root_.Go.OpenSpec.ofChange s with cond := some uptoSmall }

/-- 'gantletlaw4.CheckNames', WHERE WHAT IT READS IS OF BULK AT MOST 1048576: true; the input reads as it did. -/
def checkNamesUptoRow : OpenClaim := { program := "ytpepepkfjimoeaagreat", sum := "8cb7a793435107a44f943645053e2ded3f0215afbb43e460c2116874e87fd0fd", func := "gantlet/gantletlaw4.CheckNames", spec := "checkNames", unfollowed := true, recurses := true, apart := false, narrowed := true }
def CheckNamesUptoSaid : Prop := checkNamesUptoRow.holds Tryz.pinned (OpenSpec.upto checkNamesSpec)

/-- 'gantletlaw4.CheckTypes', WHERE WHAT IT READS IS OF BULK AT MOST 1048576: true; the input reads as it did. -/
def checkTypesUptoRow : OpenClaim := { program := "ytpepepkfjimoeaagreat", sum := "8cb7a793435107a44f943645053e2ded3f0215afbb43e460c2116874e87fd0fd", func := "gantlet/gantletlaw4.CheckTypes", spec := "checkTypes", unfollowed := true, recurses := true, apart := false, narrowed := true }
def CheckTypesUptoSaid : Prop := checkTypesUptoRow.holds Tryz.pinned (OpenSpec.upto checkTypesSpec)

/-- 'gantletlaw4.CheckPlaces', WHERE WHAT IT READS IS OF BULK AT MOST 1048576: true; the input reads as it did. -/
def checkPlacesUptoRow : OpenClaim := { program := "ytpepepkfjimoeaagreat", sum := "8cb7a793435107a44f943645053e2ded3f0215afbb43e460c2116874e87fd0fd", func := "gantlet/gantletlaw4.CheckPlaces", spec := "checkPlaces", unfollowed := true, recurses := true, apart := false, narrowed := true }
def CheckPlacesUptoSaid : Prop := checkPlacesUptoRow.holds Tryz.pinned (OpenSpec.upto checkPlacesSpec)

/-- 'gantletlaw5.ModelNumbers', WHERE WHAT IT READS IS OF BULK AT MOST 1048576: true; the input reads as it did. -/
def modelNumbersUptoRow : OpenClaim := { program := "ytpepepkfjimoeaagreat", sum := "8cb7a793435107a44f943645053e2ded3f0215afbb43e460c2116874e87fd0fd", func := "gantlet/gantletlaw5.ModelNumbers", spec := "modelNumbers", unfollowed := true, recurses := true, apart := false, narrowed := true }
def ModelNumbersUptoSaid : Prop := modelNumbersUptoRow.holds Tryz.pinned (OpenSpec.upto modelNumbersSpec)

/-- 'gantletlaw5.ModelFlows', WHERE WHAT IT READS IS OF BULK AT MOST 1048576: true; the input reads as it did. -/
def modelFlowsUptoRow : OpenClaim := { program := "ytpepepkfjimoeaagreat", sum := "8cb7a793435107a44f943645053e2ded3f0215afbb43e460c2116874e87fd0fd", func := "gantlet/gantletlaw5.ModelFlows", spec := "modelFlows", unfollowed := true, recurses := true, apart := false, narrowed := true }
def ModelFlowsUptoSaid : Prop := modelFlowsUptoRow.holds Tryz.pinned (OpenSpec.upto modelFlowsSpec)

/-- 'gantletlaw5.ModelPointers', WHERE WHAT IT READS IS OF BULK AT MOST 1048576: true; the input reads as it did. -/
def modelPointersUptoRow : OpenClaim := { program := "ytpepepkfjimoeaagreat", sum := "8cb7a793435107a44f943645053e2ded3f0215afbb43e460c2116874e87fd0fd", func := "gantlet/gantletlaw5.ModelPointers", spec := "modelPointers", unfollowed := true, recurses := true, apart := false, narrowed := true }
def ModelPointersUptoSaid : Prop := modelPointersUptoRow.holds Tryz.pinned (OpenSpec.upto modelPointersSpec)

/-- 'gantletlaw5.ModelCalls', WHERE WHAT IT READS IS OF BULK AT MOST 1048576: true; the input reads as it did. -/
def modelCallsUptoRow : OpenClaim := { program := "ytpepepkfjimoeaagreat", sum := "8cb7a793435107a44f943645053e2ded3f0215afbb43e460c2116874e87fd0fd", func := "gantlet/gantletlaw5.ModelCalls", spec := "modelCalls", unfollowed := true, recurses := true, apart := false, narrowed := true }
def ModelCallsUptoSaid : Prop := modelCallsUptoRow.holds Tryz.pinned (OpenSpec.upto modelCallsSpec)

end Rows
end Go.Proofs.YtpepepkfjimoeaaGreat

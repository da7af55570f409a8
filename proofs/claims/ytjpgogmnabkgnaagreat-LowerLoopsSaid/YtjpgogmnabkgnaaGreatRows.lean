/-
  No cell of these rows narrows 'for every input' (looked for: loops, veiled, ifaces, maps, wideKeys, modest, calm, conditions, laid).
  DERIVED. THE GIVEN ROWS OF THIS SEAT. 4 by the template 'for every input the law returns true; each argument reads behind the call as it read before'; 0 by the template 'total and deterministic' (their statements: YtjpgogmnabkgnaaGreatTotals.lean).
  GIVEN WITH THE SEED: the statements are not yours to turn. If you find one false, say at which input.
  Laid BY PROGRAM, IN A SANDBOX (cutbox-rows.mjs): the forced cells as the released guide's own fill.sh prints them over the translation 99bee0e3b4df4c4c… (all of the seat's roots in one cut). By AI agents, Wed Nov 11 2026. No macro, syntax, notation, axiom, sorry.
-/
import Derived.Test.YtjpgogmnabkgnaaGreatChecked
import GoSem.Claim
import GoSem.ClaimJoined
import GoSem.ClaimMapViews
import Derived.JoinedTies
import Derived.KernelRfl
namespace Go.Proofs.YtjpgogmnabkgnaaGreat
/- THE CELL 'sum', in the pinned program and in every row, IS THE sha256 OF THE DUMP (.gsa) THAT YtjpgogmnabkgnaaGreatProg.lean LOADS. Nothing in Lean hashes anything: it is a label: what it is worth is what the hold of that sum in a sandbox is worth. -/
noncomputable def Tryz.pinned : Pinned := { name := "ytjpgogmnabkgnaagreat", sum := "99bee0e3b4df4c4cd75f3b40d349481efb381e6fec36a47590ce9e720ab79ecb", checked := Tryz.checked }
namespace Rows
def none {H : Type} : Left H := { results := [], args := [] }

/-- 'gantletlaw5.ModelLoops': WHATEVER THE INPUT: true; the input reads as it did. -/
def modelLoopsSpec : ChangeSpec := { name := "modelLoops", fn := fun _ => fun
  | [d] => { results := [.lit (.bool true)], args := [d] }
  | _ => none }
def modelLoopsRow : OpenClaim := { program := "ytjpgogmnabkgnaagreat", sum := "99bee0e3b4df4c4cd75f3b40d349481efb381e6fec36a47590ce9e720ab79ecb", func := "gantlet/gantletlaw5.ModelLoops", spec := "modelLoops", unfollowed := true, recurses := true, apart := false }
def ModelLoopsSaid : Prop := modelLoopsRow.holds Tryz.pinned (OpenSpec.ofChange modelLoopsSpec)

/-- ITS FALSE NEIGHBOUR: 'it returns false'. Refute it at one input. -/
def modelLoopsWrong : ChangeSpec := { name := "modelLoops", fn := fun _ => fun
  | [d] => { results := [.lit (.bool false)], args := [d] }
  | _ => none }
def ModelLoopsWrongFalsely : Prop := modelLoopsRow.holds Tryz.pinned (OpenSpec.ofChange modelLoopsWrong)

/-- 'gantletlaw5.ModelSwitches': WHATEVER THE INPUT: true; the input reads as it did. -/
def modelSwitchesSpec : ChangeSpec := { name := "modelSwitches", fn := fun _ => fun
  | [d] => { results := [.lit (.bool true)], args := [d] }
  | _ => none }
def modelSwitchesRow : OpenClaim := { program := "ytjpgogmnabkgnaagreat", sum := "99bee0e3b4df4c4cd75f3b40d349481efb381e6fec36a47590ce9e720ab79ecb", func := "gantlet/gantletlaw5.ModelSwitches", spec := "modelSwitches", unfollowed := true, recurses := true, apart := false }
def ModelSwitchesSaid : Prop := modelSwitchesRow.holds Tryz.pinned (OpenSpec.ofChange modelSwitchesSpec)

/-- ITS FALSE NEIGHBOUR: 'it returns false'. Refute it at one input. -/
def modelSwitchesWrong : ChangeSpec := { name := "modelSwitches", fn := fun _ => fun
  | [d] => { results := [.lit (.bool false)], args := [d] }
  | _ => none }
def ModelSwitchesWrongFalsely : Prop := modelSwitchesRow.holds Tryz.pinned (OpenSpec.ofChange modelSwitchesWrong)

/-- 'gantletlaw8.LowerLoops': WHATEVER THE INPUT: true; the input reads as it did. -/
def lowerLoopsSpec : ChangeSpec := { name := "lowerLoops", fn := fun _ => fun
  | [d] => { results := [.lit (.bool true)], args := [d] }
  | _ => none }
def lowerLoopsRow : OpenClaim := { program := "ytjpgogmnabkgnaagreat", sum := "99bee0e3b4df4c4cd75f3b40d349481efb381e6fec36a47590ce9e720ab79ecb", func := "gantlet/gantletlaw8.LowerLoops", spec := "lowerLoops", unfollowed := true, recurses := true, apart := false }
def LowerLoopsSaid : Prop := lowerLoopsRow.holds Tryz.pinned (OpenSpec.ofChange lowerLoopsSpec)

/-- ITS FALSE NEIGHBOUR: 'it returns false'. Refute it at one input. -/
def lowerLoopsWrong : ChangeSpec := { name := "lowerLoops", fn := fun _ => fun
  | [d] => { results := [.lit (.bool false)], args := [d] }
  | _ => none }
def LowerLoopsWrongFalsely : Prop := lowerLoopsRow.holds Tryz.pinned (OpenSpec.ofChange lowerLoopsWrong)

/-- 'gantletlaw8.LowerSwitches': WHATEVER THE INPUT: true; the input reads as it did. -/
def lowerSwitchesSpec : ChangeSpec := { name := "lowerSwitches", fn := fun _ => fun
  | [d] => { results := [.lit (.bool true)], args := [d] }
  | _ => none }
def lowerSwitchesRow : OpenClaim := { program := "ytjpgogmnabkgnaagreat", sum := "99bee0e3b4df4c4cd75f3b40d349481efb381e6fec36a47590ce9e720ab79ecb", func := "gantlet/gantletlaw8.LowerSwitches", spec := "lowerSwitches", unfollowed := true, recurses := true, apart := false }
def LowerSwitchesSaid : Prop := lowerSwitchesRow.holds Tryz.pinned (OpenSpec.ofChange lowerSwitchesSpec)

/-- ITS FALSE NEIGHBOUR: 'it returns false'. Refute it at one input. -/
def lowerSwitchesWrong : ChangeSpec := { name := "lowerSwitches", fn := fun _ => fun
  | [d] => { results := [.lit (.bool false)], args := [d] }
  | _ => none }
def LowerSwitchesWrongFalsely : Prop := lowerSwitchesRow.holds Tryz.pinned (OpenSpec.ofChange lowerSwitchesWrong)

/- THE SECOND FORM. 'bulk': how many values and letters a reading holds, each counted each time it is reached (what is shared counts as often as it is met; a slice's spare places count too). A statement '..UptoSaid' is the law's where the arguments, and the package variables that the reading takes, are together of bulk at most 1048576: NARROWER than '..Said'. Prove '..Said' where nothing that the law and all that it calls make is longer than what came in: it says more and counts as full. Else prove '..UptoSaid'. A law counts once. -/
mutual
def uptoBulk {H : Type} : DataW H → Nat
  | .lit (.string bytes) => bytes.length + 1
  | .lit _ => 1
  | .nil => 1
  | .ptr d => uptoBulk d + 1
  | .slice elems spare => uptoBulkAll elems + uptoBulkAll spare + 1
  | .agg parts => uptoBulkAll parts + 1
  | .iface _ d => uptoBulk d + 1
  | .map entries => uptoBulkEntries entries + 1
  | .held _ => 1
def uptoBulkAll {H : Type} : List (DataW H) → Nat
  | [] => 0
  | d :: r => uptoBulk d + uptoBulkAll r
def uptoBulkEntries {H : Type} : List (Lit × DataW H) → Nat
  | [] => 0
  | x :: r => uptoBulkEntry x + uptoBulkEntries r
def uptoBulkEntry {H : Type} : Lit × DataW H → Nat
  | (.string bytes, d) => bytes.length + uptoBulk d + 1
  | (_, d) => uptoBulk d + 1
 end
def uptoSmall : (H : Type) → List (DataW H) → Bool := fun _ ds => decide (uptoBulkAll ds ≤ 1048576)
def OpenSpec.upto (s : _root_.Go.ChangeSpec) : _root_.Go.OpenSpec := { _root_.Go.OpenSpec.ofChange s with cond := some uptoSmall }

/-- 'gantletlaw5.ModelLoops', WHERE WHAT IT READS IS OF BULK AT MOST 1048576: true; the input reads as it did. -/
def modelLoopsUptoRow : OpenClaim := { program := "ytjpgogmnabkgnaagreat", sum := "99bee0e3b4df4c4cd75f3b40d349481efb381e6fec36a47590ce9e720ab79ecb", func := "gantlet/gantletlaw5.ModelLoops", spec := "modelLoops", unfollowed := true, recurses := true, apart := false, narrowed := true }
def ModelLoopsUptoSaid : Prop := modelLoopsUptoRow.holds Tryz.pinned (OpenSpec.upto modelLoopsSpec)

/-- 'gantletlaw5.ModelSwitches', WHERE WHAT IT READS IS OF BULK AT MOST 1048576: true; the input reads as it did. -/
def modelSwitchesUptoRow : OpenClaim := { program := "ytjpgogmnabkgnaagreat", sum := "99bee0e3b4df4c4cd75f3b40d349481efb381e6fec36a47590ce9e720ab79ecb", func := "gantlet/gantletlaw5.ModelSwitches", spec := "modelSwitches", unfollowed := true, recurses := true, apart := false, narrowed := true }
def ModelSwitchesUptoSaid : Prop := modelSwitchesUptoRow.holds Tryz.pinned (OpenSpec.upto modelSwitchesSpec)

/-- 'gantletlaw8.LowerLoops', WHERE WHAT IT READS IS OF BULK AT MOST 1048576: true; the input reads as it did. -/
def lowerLoopsUptoRow : OpenClaim := { program := "ytjpgogmnabkgnaagreat", sum := "99bee0e3b4df4c4cd75f3b40d349481efb381e6fec36a47590ce9e720ab79ecb", func := "gantlet/gantletlaw8.LowerLoops", spec := "lowerLoops", unfollowed := true, recurses := true, apart := false, narrowed := true }
def LowerLoopsUptoSaid : Prop := lowerLoopsUptoRow.holds Tryz.pinned (OpenSpec.upto lowerLoopsSpec)

/-- 'gantletlaw8.LowerSwitches', WHERE WHAT IT READS IS OF BULK AT MOST 1048576: true; the input reads as it did. -/
def lowerSwitchesUptoRow : OpenClaim := { program := "ytjpgogmnabkgnaagreat", sum := "99bee0e3b4df4c4cd75f3b40d349481efb381e6fec36a47590ce9e720ab79ecb", func := "gantlet/gantletlaw8.LowerSwitches", spec := "lowerSwitches", unfollowed := true, recurses := true, apart := false, narrowed := true }
def LowerSwitchesUptoSaid : Prop := lowerSwitchesUptoRow.holds Tryz.pinned (OpenSpec.upto lowerSwitchesSpec)

end Rows
end Go.Proofs.YtjpgogmnabkgnaaGreat

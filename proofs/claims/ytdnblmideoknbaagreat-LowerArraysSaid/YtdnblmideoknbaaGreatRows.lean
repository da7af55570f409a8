/-
  No cell of these rows narrows 'for every input' (looked for: loops, veiled, ifaces, maps, wideKeys, modest, calm, conditions, laid).
  DERIVED. THE GIVEN ROWS OF THIS SEAT. 3 by the template 'for every input the law returns true; each argument reads behind the call as it read before'; 0 by the template 'total and deterministic' (their statements: YtdnblmideoknbaaGreatTotals.lean).
  GIVEN WITH THE SEED: the statements are not yours to turn. If you find one false, say at which input.
  Laid BY PROGRAM, IN A SANDBOX (cutbox-rows.mjs): the forced cells as the released guide's own fill.sh prints them over the translation 4d4007e250f78fa7… (all of the seat's roots in one cut). By AI agents, Wed Nov 11 2026. No macro, syntax, notation, axiom, sorry.
-/
import Derived.Test.YtdnblmideoknbaaGreatChecked
import GoSem.Claim
import GoSem.ClaimJoined
import GoSem.ClaimMapViews
import Derived.JoinedTies
import Derived.KernelRfl
namespace Go.Proofs.YtdnblmideoknbaaGreat
/- THE CELL 'sum', in the pinned program and in every row, IS THE sha256 OF THE DUMP (.gsa) THAT YtdnblmideoknbaaGreatProg.lean LOADS. Nothing in Lean hashes anything: it is a label: what it is worth is what the hold of that sum in a sandbox is worth. -/
noncomputable def Tryz.pinned : Pinned := { name := "ytdnblmideoknbaagreat", sum := "4d4007e250f78fa75a636613850dd64829b5476be84edc9af8f9553b21fe5311", checked := Tryz.checked }
namespace Rows
def none {H : Type} : Left H := { results := [], args := [] }

/-- 'gantletlaw5.ModelArrays': WHATEVER THE INPUT: true; the input reads as it did. -/
def modelArraysSpec : ChangeSpec := { name := "modelArrays", fn := fun _ => fun
  | [d] => { results := [.lit (.bool true)], args := [d] }
  | _ => none }
def modelArraysRow : OpenClaim := { program := "ytdnblmideoknbaagreat", sum := "4d4007e250f78fa75a636613850dd64829b5476be84edc9af8f9553b21fe5311", func := "gantlet/gantletlaw5.ModelArrays", spec := "modelArrays", unfollowed := true, recurses := true, apart := false }
def ModelArraysSaid : Prop := modelArraysRow.holds Tryz.pinned (OpenSpec.ofChange modelArraysSpec)

/-- ITS FALSE NEIGHBOUR: 'it returns false'. Refute it at one input. -/
def modelArraysWrong : ChangeSpec := { name := "modelArrays", fn := fun _ => fun
  | [d] => { results := [.lit (.bool false)], args := [d] }
  | _ => none }
def ModelArraysWrongFalsely : Prop := modelArraysRow.holds Tryz.pinned (OpenSpec.ofChange modelArraysWrong)

/-- 'gantletlaw8.LowerArrays': WHATEVER THE INPUT: true; the input reads as it did. -/
def lowerArraysSpec : ChangeSpec := { name := "lowerArrays", fn := fun _ => fun
  | [d] => { results := [.lit (.bool true)], args := [d] }
  | _ => none }
def lowerArraysRow : OpenClaim := { program := "ytdnblmideoknbaagreat", sum := "4d4007e250f78fa75a636613850dd64829b5476be84edc9af8f9553b21fe5311", func := "gantlet/gantletlaw8.LowerArrays", spec := "lowerArrays", unfollowed := true, recurses := true, apart := false }
def LowerArraysSaid : Prop := lowerArraysRow.holds Tryz.pinned (OpenSpec.ofChange lowerArraysSpec)

/-- ITS FALSE NEIGHBOUR: 'it returns false'. Refute it at one input. -/
def lowerArraysWrong : ChangeSpec := { name := "lowerArrays", fn := fun _ => fun
  | [d] => { results := [.lit (.bool false)], args := [d] }
  | _ => none }
def LowerArraysWrongFalsely : Prop := lowerArraysRow.holds Tryz.pinned (OpenSpec.ofChange lowerArraysWrong)

/-- 'gantletlaw8.LowerWidths': WHATEVER THE INPUT: true; the input reads as it did. -/
def lowerWidthsSpec : ChangeSpec := { name := "lowerWidths", fn := fun _ => fun
  | [d] => { results := [.lit (.bool true)], args := [d] }
  | _ => none }
def lowerWidthsRow : OpenClaim := { program := "ytdnblmideoknbaagreat", sum := "4d4007e250f78fa75a636613850dd64829b5476be84edc9af8f9553b21fe5311", func := "gantlet/gantletlaw8.LowerWidths", spec := "lowerWidths", unfollowed := true, recurses := true, apart := false }
def LowerWidthsSaid : Prop := lowerWidthsRow.holds Tryz.pinned (OpenSpec.ofChange lowerWidthsSpec)

/-- ITS FALSE NEIGHBOUR: 'it returns false'. Refute it at one input. -/
def lowerWidthsWrong : ChangeSpec := { name := "lowerWidths", fn := fun _ => fun
  | [d] => { results := [.lit (.bool false)], args := [d] }
  | _ => none }
def LowerWidthsWrongFalsely : Prop := lowerWidthsRow.holds Tryz.pinned (OpenSpec.ofChange lowerWidthsWrong)

/- THE SECOND FORM. 'bulk': how many values and letters a reading holds, each counted each time it is reached (what is shared counts as often as it is met; a slice's spare places count too). A statement '..UptoSaid' is the law's where the arguments, and the package variables that the reading takes, are together of bulk at most 1048576: NARROWER than '..Said'. Prove '..Said' where nothing that the law and all that it calls make is longer than what came in: it says more and counts as full. Else prove '..UptoSaid'. A law counts once. -/
mutual
def uptoBulk {H : Type} : DataW H → Nat
  | .lit (.string bytes) => bytes.length + 1
  | .lit _ => 1
  | .nil => 1
  | .ptr d => uptoBulk d + 1
  | .slice elems spare => uptoBulkAll elems + uptoBulkAll spare + 1
  | .agg parts => uptoBulkAll parts + 1
  | .iface _ d => uptoBulk d + 1
  | .map entries => uptoBulkEntries entries + 1
  | .held _ => 1
def uptoBulkAll {H : Type} : List (DataW H) → Nat
  | [] => 0
  | d :: r => uptoBulk d + uptoBulkAll r
def uptoBulkEntries {H : Type} : List (Lit × DataW H) → Nat
  | [] => 0
  | x :: r => uptoBulkEntry x + uptoBulkEntries r
def uptoBulkEntry {H : Type} : Lit × DataW H → Nat
  | (.string bytes, d) => bytes.length + uptoBulk d + 1
  | (_, d) => uptoBulk d + 1
 end
def uptoSmall : (H : Type) → List (DataW H) → Bool := fun _ ds => decide (uptoBulkAll ds ≤ 1048576)
def OpenSpec.upto (s : _root_.Go.ChangeSpec) : _root_.Go.OpenSpec := { _root_.Go.OpenSpec.ofChange s with cond := some uptoSmall }

/-- 'gantletlaw5.ModelArrays', WHERE WHAT IT READS IS OF BULK AT MOST 1048576: true; the input reads as it did. -/
def modelArraysUptoRow : OpenClaim := { program := "ytdnblmideoknbaagreat", sum := "4d4007e250f78fa75a636613850dd64829b5476be84edc9af8f9553b21fe5311", func := "gantlet/gantletlaw5.ModelArrays", spec := "modelArrays", unfollowed := true, recurses := true, apart := false, narrowed := true }
def ModelArraysUptoSaid : Prop := modelArraysUptoRow.holds Tryz.pinned (OpenSpec.upto modelArraysSpec)

/-- 'gantletlaw8.LowerArrays', WHERE WHAT IT READS IS OF BULK AT MOST 1048576: true; the input reads as it did. -/
def lowerArraysUptoRow : OpenClaim := { program := "ytdnblmideoknbaagreat", sum := "4d4007e250f78fa75a636613850dd64829b5476be84edc9af8f9553b21fe5311", func := "gantlet/gantletlaw8.LowerArrays", spec := "lowerArrays", unfollowed := true, recurses := true, apart := false, narrowed := true }
def LowerArraysUptoSaid : Prop := lowerArraysUptoRow.holds Tryz.pinned (OpenSpec.upto lowerArraysSpec)

/-- 'gantletlaw8.LowerWidths', WHERE WHAT IT READS IS OF BULK AT MOST 1048576: true; the input reads as it did. -/
def lowerWidthsUptoRow : OpenClaim := { program := "ytdnblmideoknbaagreat", sum := "4d4007e250f78fa75a636613850dd64829b5476be84edc9af8f9553b21fe5311", func := "gantlet/gantletlaw8.LowerWidths", spec := "lowerWidths", unfollowed := true, recurses := true, apart := false, narrowed := true }
def LowerWidthsUptoSaid : Prop := lowerWidthsUptoRow.holds Tryz.pinned (OpenSpec.upto lowerWidthsSpec)

end Rows
end Go.Proofs.YtdnblmideoknbaaGreat

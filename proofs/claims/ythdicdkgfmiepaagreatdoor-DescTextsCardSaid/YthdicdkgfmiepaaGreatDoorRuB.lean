/- The rules that are no op's. -/
import Derived.Test.YthdicdkgfmiepaaGreatDoorRuA
namespace Go.Proofs.YthdicdkgfmiepaaGreatDoor
open Go.RowKit

def fewR : List Rule := [⟨0, pN 1, 0, [108, 105]⟩, ⟨2, pO 1 [], 0, [102, 105, 116]⟩, ⟨1, pO 1 [], 0, [97, 110, 121]⟩, ⟨1, pN 2, 0, [117, 112]⟩,
  ⟨0, pO 2 [], 0, [116, 109, 112]⟩, ⟨0, pO 3 [], 0, [108, 111, 99]⟩, ⟨0, pO 4 [], 0, [103, 108, 111]⟩, ⟨3, pN 0, 0, [98, 97, 115, 101]⟩, ⟨3, pO 12 [pN 0, pN 2], 0, [111, 102, 102]⟩]

/-- a slice of rules of the call's own -/
def Rules (B : Nat) (w : World) (rs : List Rule) (e : Ending) (w' : World) : Prop := ∃ v, e = .returned v ∧ Own w' B (fun g => B ≤ g) 47 6 v (rs.map encR) ∧ Below w.heap.size w w'

end Go.Proofs.YthdicdkgfmiepaaGreatDoor

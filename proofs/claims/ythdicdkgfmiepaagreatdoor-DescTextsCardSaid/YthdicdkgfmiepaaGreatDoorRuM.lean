/- The reference's Form, and the statement's own helpers. -/
import Derived.Test.YthdicdkgfmiepaaGreatDoorRuL
namespace Go.Proofs.YthdicdkgfmiepaaGreatDoor
open Go.RowKit

def RuleRetB (r : Rule) (b : Bool) (w : World) : Ending → World → Prop := RuleRet w.heap.size r (.bool b) w

end Go.Proofs.YthdicdkgfmiepaaGreatDoor

/- A tie: the rows that the run lays. -/
import Derived.Test.YtfmlgiafkbakcaaGreatDoorDfTieB
namespace Go.Proofs.YtfmlgiafkbakcaaGreatDoor
open Go
set_option maxRecDepth 100000
theorem tie_rb (os : Os) (tape : Tape) : laidRowsB Tryz.prog (varsWorld Tryz.prog 400 (varsId Tryz.prog) os tape).memory tieP = true := by kernel_rfl
end Go.Proofs.YtfmlgiafkbakcaaGreatDoor

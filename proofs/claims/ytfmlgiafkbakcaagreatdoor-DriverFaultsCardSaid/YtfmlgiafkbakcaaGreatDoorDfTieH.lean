/- A tie: what the run lays. -/
import Derived.Test.YtfmlgiafkbakcaaGreatDoorDfTieB
namespace Go.Proofs.YtfmlgiafkbakcaaGreatDoor
open Go
set_option maxRecDepth 100000
theorem tie_hr (os : Os) (tape : Tape) : DataW.laidRun Tryz.prog (varsWorld Tryz.prog 400 (varsId Tryz.prog) os tape).memory 8 (tieL.map (·.1)) = some (tieL, tieP) := by kernel_rfl
end Go.Proofs.YtfmlgiafkbakcaaGreatDoor

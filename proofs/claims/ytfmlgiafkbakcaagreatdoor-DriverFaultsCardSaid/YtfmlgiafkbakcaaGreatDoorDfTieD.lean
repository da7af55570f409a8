/- A tie: the run ends. -/
import Derived.Test.YtfmlgiafkbakcaaGreatDoorDfTieB
namespace Go.Proofs.YtfmlgiafkbakcaaGreatDoor
open Go
set_option maxRecDepth 100000
theorem tie_d (os : Os) (tape : Tape) : varsDone Tryz.prog 400 (varsId Tryz.prog) os tape = true := by kernel_rfl
end Go.Proofs.YtfmlgiafkbakcaaGreatDoor

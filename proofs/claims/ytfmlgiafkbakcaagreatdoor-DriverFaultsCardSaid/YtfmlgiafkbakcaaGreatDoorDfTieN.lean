/- A tie: the names. -/
import Derived.Test.YtfmlgiafkbakcaaGreatDoorDfTieB
namespace Go.Proofs.YtfmlgiafkbakcaaGreatDoor
open Go
set_option maxRecDepth 100000
theorem tie_n : varsNamedLaterB Tryz.prog (varsId Tryz.prog) tieL = true := by kernel_rfl
end Go.Proofs.YtfmlgiafkbakcaaGreatDoor

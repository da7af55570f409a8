/- DriverFaults: a fact of its row. -/
import Derived.Test.YtfmlgiafkbakcaaGreatDoorRows
import Derived.JoinedOf
namespace Go.Proofs.YtfmlgiafkbakcaaGreatDoor
open Go
set_option maxRecDepth 100000
theorem Df_j7 : Tryz.checked.prog.mayEnter = true := by kernel_rfl
end Go.Proofs.YtfmlgiafkbakcaaGreatDoor

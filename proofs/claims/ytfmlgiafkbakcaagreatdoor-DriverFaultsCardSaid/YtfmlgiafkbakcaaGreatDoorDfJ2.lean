/- DriverFaults: a fact of its row. -/
import Derived.Test.YtfmlgiafkbakcaaGreatDoorDfJ0
namespace Go.Proofs.YtfmlgiafkbakcaaGreatDoor
open Go
set_option maxRecDepth 100000

theorem Df_j2 : Tryz.checked.prog.unfollowed 3 = true := by
  unfold Program.unfollowed
  rw [Df_clo]
  kernel_rfl
theorem Df_j1 : Tryz.checked.prog.recurses 3 = true := by
  unfold Program.recurses
  rw [Df_j2]
  rfl

end Go.Proofs.YtfmlgiafkbakcaaGreatDoor

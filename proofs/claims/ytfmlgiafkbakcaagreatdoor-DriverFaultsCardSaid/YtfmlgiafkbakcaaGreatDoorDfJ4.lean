/- DriverFaults: a fact of its row. -/
import Derived.Test.YtfmlgiafkbakcaaGreatDoorDfJ0
namespace Go.Proofs.YtfmlgiafkbakcaaGreatDoor
open Go
set_option maxRecDepth 100000

theorem Df_j4 : Tryz.checked.prog.inPlace 3 = ["internal/bytealg.IndexByteString", "internal/bytealg.IndexString"] := by
  unfold Program.inPlace
  rw [Df_clo]
  kernel_rfl

end Go.Proofs.YtfmlgiafkbakcaaGreatDoor

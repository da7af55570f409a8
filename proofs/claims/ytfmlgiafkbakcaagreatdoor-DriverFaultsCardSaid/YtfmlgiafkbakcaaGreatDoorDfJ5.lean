/- DriverFaults: the closed facts of its row. -/
import Derived.Test.YtfmlgiafkbakcaaGreatDoorDfJ2
import Derived.Test.YtfmlgiafkbakcaaGreatDoorDfJ3
import Derived.Test.YtfmlgiafkbakcaaGreatDoorDfJ4
import Derived.Test.YtfmlgiafkbakcaaGreatDoorDfJ6
import Derived.Test.YtfmlgiafkbakcaaGreatDoorDfJ7
import Derived.Test.YtfmlgiafkbakcaaGreatDoorDfJ8
import Derived.Test.YtfmlgiafkbakcaaGreatDoorVh
import Derived.ProofKit
import Derived.HandedShaped
namespace Go.Proofs.YtfmlgiafkbakcaaGreatDoor
open Go.ChangeShapes Go.WideShapes Go.ChangeAt Go.RowKit

theorem Df_j9 : laidOutB Tryz.checked.prog = true := laidOut
theorem Df_j5 : joinedFacts Tryz.checked.prog 3 Tryz.f3 Rows.driverFaultsSpec Rows.driverFaultsRow = true := by
  unfold joinedFacts
  rw [Df_j1, Df_j2, Df_j3, Df_j4, Df_j6, Df_j7, Df_j8, Df_j9]
  kernel_rfl

end Go.Proofs.YtfmlgiafkbakcaaGreatDoor

/- The tie: the variables that the row lists are as the text lays them. -/
import Derived.Test.YtfmlgiafkbakcaaGreatDoorDfTieW
import Derived.Test.YtfmlgiafkbakcaaGreatDoorDfTieN
import Derived.Test.YtfmlgiafkbakcaaGreatDoorDfTieD
import Derived.Test.YtfmlgiafkbakcaaGreatDoorDfTieH
import Derived.Test.YtfmlgiafkbakcaaGreatDoorDfTieR
namespace Go.Proofs.YtfmlgiafkbakcaaGreatDoor
open Go
set_option maxRecDepth 100000

theorem tie : Tryz.prog.laidByTextLater tieL [.data, .data, .data, .data, .listed, .sentinel, .sentinel] true := laid_of_run 400 8 tieP tie_w tie_w2 tie_root tie_k tie_g tie_n tie_d tie_hr tieP_nodup tie_rb tie_p
theorem driverFaults_row_tie : Rows.driverFaultsRow.laidByTextAt .later Tryz.pinned [.data, .data, .data, .data, .listed, .sentinel, .sentinel] true := OpenClaim.laidByTextAt_later rfl rfl tie tie_u
end Go.Proofs.YtfmlgiafkbakcaaGreatDoor

/- Calls that were proved one by one: what the evaluator says. -/
import Derived.Test.YtfmlgiafkbakcaaGreatDoorDfO
import Derived.Test.YtfmlgiafkbakcaaGreatDoorProg
import Derived.ProofKit
import Derived.Test.YtfmlgiafkbakcaaGreatDoorVy
import Derived.Test.YtfmlgiafkbakcaaGreatDoorDf13
import Derived.Test.YtfmlgiafkbakcaaGreatDoorDf15
namespace Go.Proofs.YtfmlgiafkbakcaaGreatDoor
open Go.Proofs.YtfmlgiafkbakcaaGreatDoor.Ev
set_option maxRecDepth 100000

def DfE200 : Ent := ⟨26, (.cons (.sl 13855 0 53 6 false) (.cons (.agg (avs [.nils, (.sl 59056 0 1 4 false), (nu 0)])) (.cons (.agg (avs [(nu 1), (nu 0), (nu 5)])) .nil))), ⟨[DfO141, DfO142, DfO143, DfO144, DfO145, DfO146, DfO103, DfO104, DfO105, DfO147, DfO106, DfO107, DfO108, DfO109, DfO110, DfO111, DfO112, DfO113, DfO114, DfO115, DfO116, DfO117, DfO118, DfO119, DfO120, DfO121, DfO122, DfO123, DfO124, DfO125, DfO126, DfO127, DfO128, DfO129, DfO130, DfO131, DfO132, DfO133, DfO134, DfO135, DfO136, DfO137, DfO138, DfO139, DfO140, DfO148, DfO719, DfO720, DfO721, DfO722], 59057⟩, (.tup (avs [(.agg (avs [(nu 1), (.str 108 DfS10), (.str 0 0), (nu 4096)])), (nu 0)])), ⟨[DfO141, DfO142, DfO143, DfO144, DfO145, DfO146, DfO103, DfO104, DfO105, DfO147, DfO106, DfO107, DfO108, DfO109, DfO110, DfO111, DfO112, DfO113, DfO114, DfO115, DfO116, DfO117, DfO118, DfO119, DfO120, DfO121, DfO122, DfO123, DfO124, DfO125, DfO126, DfO127, DfO128, DfO129, DfO130, DfO131, DfO132, DfO133, DfO134, DfO135, DfO136, DfO137, DfO138, DfO139, DfO140, DfO148, DfO719, DfO720, DfO721, DfO722], 62837⟩⟩
theorem DfT200 : Ent.check Tryz.prog known [(457, [DfE196]), (53, [DfE199])] 990 DfE200 = true := by kernel_rfl
theorem DfK200 {W : World} (hW : LibW W) : DfE200.Ok Tryz.prog (KG W) := Ent.ok_of mixed (known_ok hW) (Tab.ok_cons (f := 457) (Ent.ok_cons (DfK196 hW) Ent.ok_nil) (Tab.ok_cons (f := 53) (Ent.ok_cons (DfK199 hW) Ent.ok_nil) Tab.ok_nil)) DfT200
end Go.Proofs.YtfmlgiafkbakcaaGreatDoor

/- Calls that were proved one by one: what the evaluator says. -/
import Derived.Test.YtfmlgiafkbakcaaGreatDoorDfO
import Derived.Test.YtfmlgiafkbakcaaGreatDoorProg
import Derived.ProofKit
import Derived.Test.YtfmlgiafkbakcaaGreatDoorVy
namespace Go.Proofs.YtfmlgiafkbakcaaGreatDoor
open Go.Proofs.YtfmlgiafkbakcaaGreatDoor.Ev
set_option maxRecDepth 100000

def DfE202 : Ent := ⟨117, DfQ2a, ⟨[], 65009⟩, DfQ2v 65009, ⟨DfQ2o 65009, 65474⟩⟩
theorem DfT202 : Ent.check Tryz.prog known [] 990 DfE202 = true := by kernel_rfl
theorem DfK202 {W : World} (hW : LibW W) : DfE202.Ok Tryz.prog (KG W) := Ent.ok_of mixed (known_ok hW) Tab.ok_nil DfT202
def DfE203 : Ent := ⟨117, DfQ2a, ⟨[], 66864⟩, DfQ2v 66864, ⟨DfQ2o 66864, 67329⟩⟩
theorem DfT203 : Ent.check Tryz.prog known [] 990 DfE203 = true := by kernel_rfl
theorem DfK203 {W : World} (hW : LibW W) : DfE203.Ok Tryz.prog (KG W) := Ent.ok_of mixed (known_ok hW) Tab.ok_nil DfT203
def DfE204 : Ent := ⟨32, (.cons (.str 108 DfS10) (.cons (.ptr 62853 0) (.cons (nu 60000) .nil))), ⟨[DfO723, DfO724, DfO725], 62855⟩, (nu 24), ⟨[DfO726, DfO727, DfO728, DfO729], 67363⟩⟩
theorem DfT204 : Ent.check Tryz.prog known [(117, [DfE202, DfE203])] 990 DfE204 = true := by kernel_rfl
theorem DfK204 {W : World} (hW : LibW W) : DfE204.Ok Tryz.prog (KG W) := Ent.ok_of mixed (known_ok hW) (Tab.ok_cons (f := 117) (Ent.ok_cons (DfK202 hW) (Ent.ok_cons (DfK203 hW) Ent.ok_nil)) Tab.ok_nil) DfT204
end Go.Proofs.YtfmlgiafkbakcaaGreatDoor

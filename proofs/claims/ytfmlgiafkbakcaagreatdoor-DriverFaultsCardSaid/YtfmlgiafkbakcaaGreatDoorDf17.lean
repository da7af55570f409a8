/- Calls that were proved one by one: what the evaluator says. -/
import Derived.Test.YtfmlgiafkbakcaaGreatDoorDfO
import Derived.Test.YtfmlgiafkbakcaaGreatDoorProg
import Derived.ProofKit
import Derived.Test.YtfmlgiafkbakcaaGreatDoorVy
import Derived.Test.YtfmlgiafkbakcaaGreatDoorDf1
import Derived.Test.YtfmlgiafkbakcaaGreatDoorDf2
import Derived.Test.YtfmlgiafkbakcaaGreatDoorDf7
import Derived.Test.YtfmlgiafkbakcaaGreatDoorDf13
import Derived.Test.YtfmlgiafkbakcaaGreatDoorDf16
namespace Go.Proofs.YtfmlgiafkbakcaaGreatDoor
open Go.Proofs.YtfmlgiafkbakcaaGreatDoor.Ev
set_option maxRecDepth 100000

def DfE201 : Ent := ⟨12, (.cons (.str 28 DfS5) (.cons (.str 1472 DfS6) (.cons (.agg (avs [(nu 1), (nu 0), (nu 5)])) .nil))), ⟨[], 7740⟩, (.tup (avs [(.agg (avs [(nu 1), (.str 108 DfS10), (.str 0 0), (nu 4096)])), (.agg (avs [(nu 0), (nu 0)]))])), ⟨[], 62837⟩⟩
theorem DfT201 : Ent.check Tryz.prog known [(37, [DfE19]), (71, [DfE23]), (47, [DfE65]), (48, [DfE125]), (49, [DfE195]), (26, [DfE200])] 990 DfE201 = true := by kernel_rfl
theorem DfK201 {W : World} (hW : LibW W) : DfE201.Ok Tryz.prog (KG W) := Ent.ok_of mixed (known_ok hW) (Tab.ok_cons (f := 37) (Ent.ok_cons (DfK19 hW) Ent.ok_nil) (Tab.ok_cons (f := 71) (Ent.ok_cons (DfK23 hW) Ent.ok_nil) (Tab.ok_cons (f := 47) (Ent.ok_cons (DfK65 hW) Ent.ok_nil) (Tab.ok_cons (f := 48) (Ent.ok_cons (DfK125 hW) Ent.ok_nil) (Tab.ok_cons (f := 49) (Ent.ok_cons (DfK195 hW) Ent.ok_nil) (Tab.ok_cons (f := 26) (Ent.ok_cons (DfK200 hW) Ent.ok_nil) Tab.ok_nil)))))) DfT201
end Go.Proofs.YtfmlgiafkbakcaaGreatDoor

/- Calls that were proved one by one: what the evaluator says. -/
import Derived.Test.YtfmlgiafkbakcaaGreatDoorDfO
import Derived.Test.YtfmlgiafkbakcaaGreatDoorProg
import Derived.ProofKit
import Derived.Test.YtfmlgiafkbakcaaGreatDoorVy
import Derived.Test.YtfmlgiafkbakcaaGreatDoorDf13
namespace Go.Proofs.YtfmlgiafkbakcaaGreatDoor
open Go.Proofs.YtfmlgiafkbakcaaGreatDoor.Ev
set_option maxRecDepth 100000

def DfE199 : Ent := ⟨53, (.cons (.agg (avs [.nils, (.sl 60412 0 1 4 false), (nu 0)])) (.cons (nu 1) .nil)), ⟨[DfO707, DfO718], 60413⟩, (.tup (avs [(.agg (avs [(nu 1), (.str 108 DfS10), (.str 0 0), (nu 4096)])), (nu 0)])), ⟨[DfO707, DfO718], 62837⟩⟩
theorem DfT199 : Ent.check Tryz.prog known [(552, [DfE197]), (107, [DfE198])] 990 DfE199 = true := by kernel_rfl
theorem DfK199 {W : World} (hW : LibW W) : DfE199.Ok Tryz.prog (KG W) := Ent.ok_of mixed (known_ok hW) (Tab.ok_cons (f := 552) (Ent.ok_cons (DfK197 hW) Ent.ok_nil) (Tab.ok_cons (f := 107) (Ent.ok_cons (DfK198 hW) Ent.ok_nil) Tab.ok_nil)) DfT199
end Go.Proofs.YtfmlgiafkbakcaaGreatDoor

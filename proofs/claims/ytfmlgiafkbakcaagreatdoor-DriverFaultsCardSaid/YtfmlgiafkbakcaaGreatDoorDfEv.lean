/- DriverFaults: what the evaluator says of the law itself. -/
import Derived.Test.YtfmlgiafkbakcaaGreatDoorVy
import Derived.Test.YtfmlgiafkbakcaaGreatDoorDf0
import Derived.Test.YtfmlgiafkbakcaaGreatDoorDf1
import Derived.Test.YtfmlgiafkbakcaaGreatDoorDf14
import Derived.Test.YtfmlgiafkbakcaaGreatDoorDf17
namespace Go.Proofs.YtfmlgiafkbakcaaGreatDoor
open Go.ChangeShapes Go.WideShapes Go.ChangeAt Go.RowKit Go.Proofs.YtfmlgiafkbakcaaGreatDoor.Ev

def DfAll : Tab := [(11, [DfE0, DfE18]), (23, [DfE1, DfE3]), (12, [DfE6, DfE11, DfE17, DfE201]), (32, [DfE204])]
theorem Df_ok {W : World} (hW : LibW W) : DfAll.Ok Tryz.prog (KG W) := (Tab.ok_cons (f := 11) (Ent.ok_cons (DfK0 hW) (Ent.ok_cons (DfK18 hW) Ent.ok_nil)) (Tab.ok_cons (f := 23) (Ent.ok_cons (DfK1 hW) (Ent.ok_cons (DfK3 hW) Ent.ok_nil)) (Tab.ok_cons (f := 12) (Ent.ok_cons (DfK6 hW) (Ent.ok_cons (DfK11 hW) (Ent.ok_cons (DfK17 hW) (Ent.ok_cons (DfK201 hW) Ent.ok_nil)))) (Tab.ok_cons (f := 32) (Ent.ok_cons (DfK204 hW) Ent.ok_nil) Tab.ok_nil))))
set_option maxRecDepth 100000 in
theorem Df_ev (la lb : Nat) (n : Int) : okB (callT Tryz.prog known DfAll 1000 3 (.cons (.agg (.cons (.slen la) (.cons (.slen lb) (.cons (.int .i64 n) .nil)))) .nil) ⟨.nil, 0⟩) = true := by kernel_rfl


end Go.Proofs.YtfmlgiafkbakcaaGreatDoor

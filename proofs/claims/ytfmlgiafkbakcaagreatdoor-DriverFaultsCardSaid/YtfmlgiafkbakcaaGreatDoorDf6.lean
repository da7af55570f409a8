/- Calls that were proved one by one: what the evaluator says. -/
import Derived.Test.YtfmlgiafkbakcaaGreatDoorDfO
import Derived.Test.YtfmlgiafkbakcaaGreatDoorProg
import Derived.ProofKit
import Derived.Test.YtfmlgiafkbakcaaGreatDoorVy
namespace Go.Proofs.YtfmlgiafkbakcaaGreatDoor
open Go.Proofs.YtfmlgiafkbakcaaGreatDoor.Ev
set_option maxRecDepth 100000

def DfE114 : Ent := ⟨93, DfQ0a, ⟨[], 31575⟩, DfQ0v 31575, ⟨DfQ0o 31575, 31903⟩⟩
theorem DfT114 : Ent.check Tryz.prog known [] 990 DfE114 = true := by kernel_rfl
theorem DfK114 {W : World} (hW : LibW W) : DfE114.Ok Tryz.prog (KG W) := Ent.ok_of mixed (known_ok hW) Tab.ok_nil DfT114
def DfE115 : Ent := ⟨93, DfQ0a, ⟨[], 31958⟩, DfQ0v 31958, ⟨DfQ0o 31958, 32286⟩⟩
theorem DfT115 : Ent.check Tryz.prog known [] 990 DfE115 = true := by kernel_rfl
theorem DfK115 {W : World} (hW : LibW W) : DfE115.Ok Tryz.prog (KG W) := Ent.ok_of mixed (known_ok hW) Tab.ok_nil DfT115
def DfE116 : Ent := ⟨93, DfQ0a, ⟨[], 32342⟩, DfQ0v 32342, ⟨DfQ0o 32342, 32670⟩⟩
theorem DfT116 : Ent.check Tryz.prog known [] 990 DfE116 = true := by kernel_rfl
theorem DfK116 {W : World} (hW : LibW W) : DfE116.Ok Tryz.prog (KG W) := Ent.ok_of mixed (known_ok hW) Tab.ok_nil DfT116
def DfE117 : Ent := ⟨93, DfQ0a, ⟨[], 32727⟩, DfQ0v 32727, ⟨DfQ0o 32727, 33055⟩⟩
theorem DfT117 : Ent.check Tryz.prog known [] 990 DfE117 = true := by kernel_rfl
theorem DfK117 {W : World} (hW : LibW W) : DfE117.Ok Tryz.prog (KG W) := Ent.ok_of mixed (known_ok hW) Tab.ok_nil DfT117
def DfE118 : Ent := ⟨93, DfQ0a, ⟨[], 33113⟩, DfQ0v 33113, ⟨DfQ0o 33113, 33441⟩⟩
theorem DfT118 : Ent.check Tryz.prog known [] 990 DfE118 = true := by kernel_rfl
theorem DfK118 {W : World} (hW : LibW W) : DfE118.Ok Tryz.prog (KG W) := Ent.ok_of mixed (known_ok hW) Tab.ok_nil DfT118
def DfE119 : Ent := ⟨93, DfQ0a, ⟨[], 33501⟩, DfQ0v 33501, ⟨DfQ0o 33501, 33829⟩⟩
theorem DfT119 : Ent.check Tryz.prog known [] 990 DfE119 = true := by kernel_rfl
theorem DfK119 {W : World} (hW : LibW W) : DfE119.Ok Tryz.prog (KG W) := Ent.ok_of mixed (known_ok hW) Tab.ok_nil DfT119
def DfE120 : Ent := ⟨93, DfQ0a, ⟨[], 33887⟩, DfQ0v 33887, ⟨DfQ0o 33887, 34215⟩⟩
theorem DfT120 : Ent.check Tryz.prog known [] 990 DfE120 = true := by kernel_rfl
theorem DfK120 {W : World} (hW : LibW W) : DfE120.Ok Tryz.prog (KG W) := Ent.ok_of mixed (known_ok hW) Tab.ok_nil DfT120
def DfE121 : Ent := ⟨93, DfQ0a, ⟨[], 34274⟩, DfQ0v 34274, ⟨DfQ0o 34274, 34602⟩⟩
theorem DfT121 : Ent.check Tryz.prog known [] 990 DfE121 = true := by kernel_rfl
theorem DfK121 {W : World} (hW : LibW W) : DfE121.Ok Tryz.prog (KG W) := Ent.ok_of mixed (known_ok hW) Tab.ok_nil DfT121
def DfE122 : Ent := ⟨93, DfQ0a, ⟨[], 34662⟩, DfQ0v 34662, ⟨DfQ0o 34662, 34990⟩⟩
theorem DfT122 : Ent.check Tryz.prog known [] 990 DfE122 = true := by kernel_rfl
theorem DfK122 {W : World} (hW : LibW W) : DfE122.Ok Tryz.prog (KG W) := Ent.ok_of mixed (known_ok hW) Tab.ok_nil DfT122
def DfE123 : Ent := ⟨93, DfQ0a, ⟨[], 35051⟩, DfQ0v 35051, ⟨DfQ0o 35051, 35379⟩⟩
theorem DfT123 : Ent.check Tryz.prog known [] 990 DfE123 = true := by kernel_rfl
theorem DfK123 {W : World} (hW : LibW W) : DfE123.Ok Tryz.prog (KG W) := Ent.ok_of mixed (known_ok hW) Tab.ok_nil DfT123
def DfE124 : Ent := ⟨93, DfQ0a, ⟨[], 35441⟩, DfQ0v 35441, ⟨DfQ0o 35441, 35769⟩⟩
theorem DfT124 : Ent.check Tryz.prog known [] 990 DfE124 = true := by kernel_rfl
theorem DfK124 {W : World} (hW : LibW W) : DfE124.Ok Tryz.prog (KG W) := Ent.ok_of mixed (known_ok hW) Tab.ok_nil DfT124
end Go.Proofs.YtfmlgiafkbakcaaGreatDoor

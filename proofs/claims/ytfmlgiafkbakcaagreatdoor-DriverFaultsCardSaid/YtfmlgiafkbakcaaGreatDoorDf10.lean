/- Calls that were proved one by one: what the evaluator says. -/
import Derived.Test.YtfmlgiafkbakcaaGreatDoorDfO
import Derived.Test.YtfmlgiafkbakcaaGreatDoorProg
import Derived.ProofKit
import Derived.Test.YtfmlgiafkbakcaaGreatDoorVy
namespace Go.Proofs.YtfmlgiafkbakcaaGreatDoor
open Go.Proofs.YtfmlgiafkbakcaaGreatDoor.Ev
set_option maxRecDepth 100000

def DfE162 : Ent := ⟨93, DfQ0a, ⟨[], 47870⟩, DfQ0v 47870, ⟨DfQ0o 47870, 48198⟩⟩
theorem DfT162 : Ent.check Tryz.prog known [] 990 DfE162 = true := by kernel_rfl
theorem DfK162 {W : World} (hW : LibW W) : DfE162.Ok Tryz.prog (KG W) := Ent.ok_of mixed (known_ok hW) Tab.ok_nil DfT162
def DfE163 : Ent := ⟨93, DfQ0a, ⟨[], 48241⟩, DfQ0v 48241, ⟨DfQ0o 48241, 48569⟩⟩
theorem DfT163 : Ent.check Tryz.prog known [] 990 DfE163 = true := by kernel_rfl
theorem DfK163 {W : World} (hW : LibW W) : DfE163.Ok Tryz.prog (KG W) := Ent.ok_of mixed (known_ok hW) Tab.ok_nil DfT163
def DfE164 : Ent := ⟨93, DfQ0a, ⟨[], 48613⟩, DfQ0v 48613, ⟨DfQ0o 48613, 48941⟩⟩
theorem DfT164 : Ent.check Tryz.prog known [] 990 DfE164 = true := by kernel_rfl
theorem DfK164 {W : World} (hW : LibW W) : DfE164.Ok Tryz.prog (KG W) := Ent.ok_of mixed (known_ok hW) Tab.ok_nil DfT164
def DfE165 : Ent := ⟨93, DfQ0a, ⟨[], 48986⟩, DfQ0v 48986, ⟨DfQ0o 48986, 49314⟩⟩
theorem DfT165 : Ent.check Tryz.prog known [] 990 DfE165 = true := by kernel_rfl
theorem DfK165 {W : World} (hW : LibW W) : DfE165.Ok Tryz.prog (KG W) := Ent.ok_of mixed (known_ok hW) Tab.ok_nil DfT165
def DfE166 : Ent := ⟨93, DfQ0a, ⟨[], 49360⟩, DfQ0v 49360, ⟨DfQ0o 49360, 49688⟩⟩
theorem DfT166 : Ent.check Tryz.prog known [] 990 DfE166 = true := by kernel_rfl
theorem DfK166 {W : World} (hW : LibW W) : DfE166.Ok Tryz.prog (KG W) := Ent.ok_of mixed (known_ok hW) Tab.ok_nil DfT166
def DfE167 : Ent := ⟨93, DfQ0a, ⟨[], 49735⟩, DfQ0v 49735, ⟨DfQ0o 49735, 50063⟩⟩
theorem DfT167 : Ent.check Tryz.prog known [] 990 DfE167 = true := by kernel_rfl
theorem DfK167 {W : World} (hW : LibW W) : DfE167.Ok Tryz.prog (KG W) := Ent.ok_of mixed (known_ok hW) Tab.ok_nil DfT167
def DfE168 : Ent := ⟨93, DfQ0a, ⟨[], 50111⟩, DfQ0v 50111, ⟨DfQ0o 50111, 50439⟩⟩
theorem DfT168 : Ent.check Tryz.prog known [] 990 DfE168 = true := by kernel_rfl
theorem DfK168 {W : World} (hW : LibW W) : DfE168.Ok Tryz.prog (KG W) := Ent.ok_of mixed (known_ok hW) Tab.ok_nil DfT168
def DfE169 : Ent := ⟨93, DfQ0a, ⟨[], 50488⟩, DfQ0v 50488, ⟨DfQ0o 50488, 50816⟩⟩
theorem DfT169 : Ent.check Tryz.prog known [] 990 DfE169 = true := by kernel_rfl
theorem DfK169 {W : World} (hW : LibW W) : DfE169.Ok Tryz.prog (KG W) := Ent.ok_of mixed (known_ok hW) Tab.ok_nil DfT169
def DfE170 : Ent := ⟨93, DfQ0a, ⟨[], 50866⟩, DfQ0v 50866, ⟨DfQ0o 50866, 51194⟩⟩
theorem DfT170 : Ent.check Tryz.prog known [] 990 DfE170 = true := by kernel_rfl
theorem DfK170 {W : World} (hW : LibW W) : DfE170.Ok Tryz.prog (KG W) := Ent.ok_of mixed (known_ok hW) Tab.ok_nil DfT170
def DfE171 : Ent := ⟨93, DfQ0a, ⟨[], 51245⟩, DfQ0v 51245, ⟨DfQ0o 51245, 51573⟩⟩
theorem DfT171 : Ent.check Tryz.prog known [] 990 DfE171 = true := by kernel_rfl
theorem DfK171 {W : World} (hW : LibW W) : DfE171.Ok Tryz.prog (KG W) := Ent.ok_of mixed (known_ok hW) Tab.ok_nil DfT171
def DfE172 : Ent := ⟨93, DfQ0a, ⟨[], 51625⟩, DfQ0v 51625, ⟨DfQ0o 51625, 51953⟩⟩
theorem DfT172 : Ent.check Tryz.prog known [] 990 DfE172 = true := by kernel_rfl
theorem DfK172 {W : World} (hW : LibW W) : DfE172.Ok Tryz.prog (KG W) := Ent.ok_of mixed (known_ok hW) Tab.ok_nil DfT172
def DfE173 : Ent := ⟨93, DfQ0a, ⟨[], 52006⟩, DfQ0v 52006, ⟨DfQ0o 52006, 52334⟩⟩
theorem DfT173 : Ent.check Tryz.prog known [] 990 DfE173 = true := by kernel_rfl
theorem DfK173 {W : World} (hW : LibW W) : DfE173.Ok Tryz.prog (KG W) := Ent.ok_of mixed (known_ok hW) Tab.ok_nil DfT173
def DfE174 : Ent := ⟨93, DfQ0a, ⟨[], 52388⟩, DfQ0v 52388, ⟨DfQ0o 52388, 52716⟩⟩
theorem DfT174 : Ent.check Tryz.prog known [] 990 DfE174 = true := by kernel_rfl
theorem DfK174 {W : World} (hW : LibW W) : DfE174.Ok Tryz.prog (KG W) := Ent.ok_of mixed (known_ok hW) Tab.ok_nil DfT174
def DfE175 : Ent := ⟨93, DfQ0a, ⟨[], 52771⟩, DfQ0v 52771, ⟨DfQ0o 52771, 53099⟩⟩
theorem DfT175 : Ent.check Tryz.prog known [] 990 DfE175 = true := by kernel_rfl
theorem DfK175 {W : World} (hW : LibW W) : DfE175.Ok Tryz.prog (KG W) := Ent.ok_of mixed (known_ok hW) Tab.ok_nil DfT175
end Go.Proofs.YtfmlgiafkbakcaaGreatDoor

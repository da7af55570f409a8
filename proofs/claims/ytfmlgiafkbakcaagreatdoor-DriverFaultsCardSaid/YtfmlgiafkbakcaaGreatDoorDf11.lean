/- Calls that were proved one by one: what the evaluator says. -/
import Derived.Test.YtfmlgiafkbakcaaGreatDoorDfO
import Derived.Test.YtfmlgiafkbakcaaGreatDoorProg
import Derived.ProofKit
import Derived.Test.YtfmlgiafkbakcaaGreatDoorVy
namespace Go.Proofs.YtfmlgiafkbakcaaGreatDoor
open Go.Proofs.YtfmlgiafkbakcaaGreatDoor.Ev
set_option maxRecDepth 100000

def DfE176 : Ent := ⟨93, DfQ0a, ⟨[], 53155⟩, DfQ0v 53155, ⟨DfQ0o 53155, 53483⟩⟩
theorem DfT176 : Ent.check Tryz.prog known [] 990 DfE176 = true := by kernel_rfl
theorem DfK176 {W : World} (hW : LibW W) : DfE176.Ok Tryz.prog (KG W) := Ent.ok_of mixed (known_ok hW) Tab.ok_nil DfT176
def DfE177 : Ent := ⟨93, DfQ0a, ⟨[], 53540⟩, DfQ0v 53540, ⟨DfQ0o 53540, 53868⟩⟩
theorem DfT177 : Ent.check Tryz.prog known [] 990 DfE177 = true := by kernel_rfl
theorem DfK177 {W : World} (hW : LibW W) : DfE177.Ok Tryz.prog (KG W) := Ent.ok_of mixed (known_ok hW) Tab.ok_nil DfT177
def DfE178 : Ent := ⟨93, DfQ0a, ⟨[], 53926⟩, DfQ0v 53926, ⟨DfQ0o 53926, 54254⟩⟩
theorem DfT178 : Ent.check Tryz.prog known [] 990 DfE178 = true := by kernel_rfl
theorem DfK178 {W : World} (hW : LibW W) : DfE178.Ok Tryz.prog (KG W) := Ent.ok_of mixed (known_ok hW) Tab.ok_nil DfT178
def DfE179 : Ent := ⟨93, DfQ0a, ⟨[], 54314⟩, DfQ0v 54314, ⟨DfQ0o 54314, 54642⟩⟩
theorem DfT179 : Ent.check Tryz.prog known [] 990 DfE179 = true := by kernel_rfl
theorem DfK179 {W : World} (hW : LibW W) : DfE179.Ok Tryz.prog (KG W) := Ent.ok_of mixed (known_ok hW) Tab.ok_nil DfT179
def DfE180 : Ent := ⟨93, DfQ0a, ⟨[], 54700⟩, DfQ0v 54700, ⟨DfQ0o 54700, 55028⟩⟩
theorem DfT180 : Ent.check Tryz.prog known [] 990 DfE180 = true := by kernel_rfl
theorem DfK180 {W : World} (hW : LibW W) : DfE180.Ok Tryz.prog (KG W) := Ent.ok_of mixed (known_ok hW) Tab.ok_nil DfT180
def DfE181 : Ent := ⟨93, DfQ0a, ⟨[], 55087⟩, DfQ0v 55087, ⟨DfQ0o 55087, 55415⟩⟩
theorem DfT181 : Ent.check Tryz.prog known [] 990 DfE181 = true := by kernel_rfl
theorem DfK181 {W : World} (hW : LibW W) : DfE181.Ok Tryz.prog (KG W) := Ent.ok_of mixed (known_ok hW) Tab.ok_nil DfT181
def DfE182 : Ent := ⟨93, DfQ0a, ⟨[], 55475⟩, DfQ0v 55475, ⟨DfQ0o 55475, 55803⟩⟩
theorem DfT182 : Ent.check Tryz.prog known [] 990 DfE182 = true := by kernel_rfl
theorem DfK182 {W : World} (hW : LibW W) : DfE182.Ok Tryz.prog (KG W) := Ent.ok_of mixed (known_ok hW) Tab.ok_nil DfT182
def DfE183 : Ent := ⟨93, DfQ0a, ⟨[], 55864⟩, DfQ0v 55864, ⟨DfQ0o 55864, 56192⟩⟩
theorem DfT183 : Ent.check Tryz.prog known [] 990 DfE183 = true := by kernel_rfl
theorem DfK183 {W : World} (hW : LibW W) : DfE183.Ok Tryz.prog (KG W) := Ent.ok_of mixed (known_ok hW) Tab.ok_nil DfT183
def DfE184 : Ent := ⟨93, DfQ0a, ⟨[], 56254⟩, DfQ0v 56254, ⟨DfQ0o 56254, 56582⟩⟩
theorem DfT184 : Ent.check Tryz.prog known [] 990 DfE184 = true := by kernel_rfl
theorem DfK184 {W : World} (hW : LibW W) : DfE184.Ok Tryz.prog (KG W) := Ent.ok_of mixed (known_ok hW) Tab.ok_nil DfT184
end Go.Proofs.YtfmlgiafkbakcaaGreatDoor

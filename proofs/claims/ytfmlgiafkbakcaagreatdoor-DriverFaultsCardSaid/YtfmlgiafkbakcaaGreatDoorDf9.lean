/- Calls that were proved one by one: what the evaluator says. -/
import Derived.Test.YtfmlgiafkbakcaaGreatDoorDfO
import Derived.Test.YtfmlgiafkbakcaaGreatDoorProg
import Derived.ProofKit
import Derived.Test.YtfmlgiafkbakcaaGreatDoorVy
namespace Go.Proofs.YtfmlgiafkbakcaaGreatDoor
open Go.Proofs.YtfmlgiafkbakcaaGreatDoor.Ev
set_option maxRecDepth 100000

def DfE148 : Ent := ⟨93, DfQ0a, ⟨[], 42816⟩, DfQ0v 42816, ⟨DfQ0o 42816, 43144⟩⟩
theorem DfT148 : Ent.check Tryz.prog known [] 990 DfE148 = true := by kernel_rfl
theorem DfK148 {W : World} (hW : LibW W) : DfE148.Ok Tryz.prog (KG W) := Ent.ok_of mixed (known_ok hW) Tab.ok_nil DfT148
def DfE149 : Ent := ⟨93, DfQ0a, ⟨[], 43168⟩, DfQ0v 43168, ⟨DfQ0o 43168, 43496⟩⟩
theorem DfT149 : Ent.check Tryz.prog known [] 990 DfE149 = true := by kernel_rfl
theorem DfK149 {W : World} (hW : LibW W) : DfE149.Ok Tryz.prog (KG W) := Ent.ok_of mixed (known_ok hW) Tab.ok_nil DfT149
def DfE150 : Ent := ⟨93, DfQ0a, ⟨[], 43521⟩, DfQ0v 43521, ⟨DfQ0o 43521, 43849⟩⟩
theorem DfT150 : Ent.check Tryz.prog known [] 990 DfE150 = true := by kernel_rfl
theorem DfK150 {W : World} (hW : LibW W) : DfE150.Ok Tryz.prog (KG W) := Ent.ok_of mixed (known_ok hW) Tab.ok_nil DfT150
def DfE151 : Ent := ⟨93, DfQ0a, ⟨[], 43875⟩, DfQ0v 43875, ⟨DfQ0o 43875, 44203⟩⟩
theorem DfT151 : Ent.check Tryz.prog known [] 990 DfE151 = true := by kernel_rfl
theorem DfK151 {W : World} (hW : LibW W) : DfE151.Ok Tryz.prog (KG W) := Ent.ok_of mixed (known_ok hW) Tab.ok_nil DfT151
def DfE152 : Ent := ⟨93, DfQ0a, ⟨[], 44230⟩, DfQ0v 44230, ⟨DfQ0o 44230, 44558⟩⟩
theorem DfT152 : Ent.check Tryz.prog known [] 990 DfE152 = true := by kernel_rfl
theorem DfK152 {W : World} (hW : LibW W) : DfE152.Ok Tryz.prog (KG W) := Ent.ok_of mixed (known_ok hW) Tab.ok_nil DfT152
def DfE153 : Ent := ⟨93, DfQ0a, ⟨[], 44586⟩, DfQ0v 44586, ⟨DfQ0o 44586, 44914⟩⟩
theorem DfT153 : Ent.check Tryz.prog known [] 990 DfE153 = true := by kernel_rfl
theorem DfK153 {W : World} (hW : LibW W) : DfE153.Ok Tryz.prog (KG W) := Ent.ok_of mixed (known_ok hW) Tab.ok_nil DfT153
def DfE154 : Ent := ⟨93, DfQ0a, ⟨[], 44944⟩, DfQ0v 44944, ⟨DfQ0o 44944, 45272⟩⟩
theorem DfT154 : Ent.check Tryz.prog known [] 990 DfE154 = true := by kernel_rfl
theorem DfK154 {W : World} (hW : LibW W) : DfE154.Ok Tryz.prog (KG W) := Ent.ok_of mixed (known_ok hW) Tab.ok_nil DfT154
def DfE155 : Ent := ⟨93, DfQ0a, ⟨[], 45304⟩, DfQ0v 45304, ⟨DfQ0o 45304, 45632⟩⟩
theorem DfT155 : Ent.check Tryz.prog known [] 990 DfE155 = true := by kernel_rfl
theorem DfK155 {W : World} (hW : LibW W) : DfE155.Ok Tryz.prog (KG W) := Ent.ok_of mixed (known_ok hW) Tab.ok_nil DfT155
def DfE156 : Ent := ⟨93, DfQ0a, ⟨[], 45666⟩, DfQ0v 45666, ⟨DfQ0o 45666, 45994⟩⟩
theorem DfT156 : Ent.check Tryz.prog known [] 990 DfE156 = true := by kernel_rfl
theorem DfK156 {W : World} (hW : LibW W) : DfE156.Ok Tryz.prog (KG W) := Ent.ok_of mixed (known_ok hW) Tab.ok_nil DfT156
def DfE157 : Ent := ⟨93, DfQ0a, ⟨[], 46030⟩, DfQ0v 46030, ⟨DfQ0o 46030, 46358⟩⟩
theorem DfT157 : Ent.check Tryz.prog known [] 990 DfE157 = true := by kernel_rfl
theorem DfK157 {W : World} (hW : LibW W) : DfE157.Ok Tryz.prog (KG W) := Ent.ok_of mixed (known_ok hW) Tab.ok_nil DfT157
def DfE158 : Ent := ⟨93, DfQ0a, ⟨[], 46396⟩, DfQ0v 46396, ⟨DfQ0o 46396, 46724⟩⟩
theorem DfT158 : Ent.check Tryz.prog known [] 990 DfE158 = true := by kernel_rfl
theorem DfK158 {W : World} (hW : LibW W) : DfE158.Ok Tryz.prog (KG W) := Ent.ok_of mixed (known_ok hW) Tab.ok_nil DfT158
def DfE159 : Ent := ⟨93, DfQ0a, ⟨[], 46763⟩, DfQ0v 46763, ⟨DfQ0o 46763, 47091⟩⟩
theorem DfT159 : Ent.check Tryz.prog known [] 990 DfE159 = true := by kernel_rfl
theorem DfK159 {W : World} (hW : LibW W) : DfE159.Ok Tryz.prog (KG W) := Ent.ok_of mixed (known_ok hW) Tab.ok_nil DfT159
def DfE160 : Ent := ⟨93, DfQ0a, ⟨[], 47131⟩, DfQ0v 47131, ⟨DfQ0o 47131, 47459⟩⟩
theorem DfT160 : Ent.check Tryz.prog known [] 990 DfE160 = true := by kernel_rfl
theorem DfK160 {W : World} (hW : LibW W) : DfE160.Ok Tryz.prog (KG W) := Ent.ok_of mixed (known_ok hW) Tab.ok_nil DfT160
def DfE161 : Ent := ⟨93, DfQ0a, ⟨[], 47500⟩, DfQ0v 47500, ⟨DfQ0o 47500, 47828⟩⟩
theorem DfT161 : Ent.check Tryz.prog known [] 990 DfE161 = true := by kernel_rfl
theorem DfK161 {W : World} (hW : LibW W) : DfE161.Ok Tryz.prog (KG W) := Ent.ok_of mixed (known_ok hW) Tab.ok_nil DfT161
end Go.Proofs.YtfmlgiafkbakcaaGreatDoor

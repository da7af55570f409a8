/- Calls that were proved one by one: what the evaluator says. -/
import Derived.Test.YtfmlgiafkbakcaaGreatDoorDfO
import Derived.Test.YtfmlgiafkbakcaaGreatDoorProg
import Derived.ProofKit
import Derived.Test.YtfmlgiafkbakcaaGreatDoorVy
namespace Go.Proofs.YtfmlgiafkbakcaaGreatDoor
open Go.Proofs.YtfmlgiafkbakcaaGreatDoor.Ev
set_option maxRecDepth 100000

def DfE100 : Ent := ⟨93, DfQ0a, ⟨[], 26318⟩, DfQ0v 26318, ⟨DfQ0o 26318, 26646⟩⟩
theorem DfT100 : Ent.check Tryz.prog known [] 990 DfE100 = true := by kernel_rfl
theorem DfK100 {W : World} (hW : LibW W) : DfE100.Ok Tryz.prog (KG W) := Ent.ok_of mixed (known_ok hW) Tab.ok_nil DfT100
def DfE101 : Ent := ⟨93, DfQ0a, ⟨[], 26687⟩, DfQ0v 26687, ⟨DfQ0o 26687, 27015⟩⟩
theorem DfT101 : Ent.check Tryz.prog known [] 990 DfE101 = true := by kernel_rfl
theorem DfK101 {W : World} (hW : LibW W) : DfE101.Ok Tryz.prog (KG W) := Ent.ok_of mixed (known_ok hW) Tab.ok_nil DfT101
def DfE102 : Ent := ⟨93, DfQ0a, ⟨[], 27057⟩, DfQ0v 27057, ⟨DfQ0o 27057, 27385⟩⟩
theorem DfT102 : Ent.check Tryz.prog known [] 990 DfE102 = true := by kernel_rfl
theorem DfK102 {W : World} (hW : LibW W) : DfE102.Ok Tryz.prog (KG W) := Ent.ok_of mixed (known_ok hW) Tab.ok_nil DfT102
def DfE103 : Ent := ⟨93, DfQ0a, ⟨[], 27428⟩, DfQ0v 27428, ⟨DfQ0o 27428, 27756⟩⟩
theorem DfT103 : Ent.check Tryz.prog known [] 990 DfE103 = true := by kernel_rfl
theorem DfK103 {W : World} (hW : LibW W) : DfE103.Ok Tryz.prog (KG W) := Ent.ok_of mixed (known_ok hW) Tab.ok_nil DfT103
def DfE104 : Ent := ⟨93, DfQ0a, ⟨[], 27800⟩, DfQ0v 27800, ⟨DfQ0o 27800, 28128⟩⟩
theorem DfT104 : Ent.check Tryz.prog known [] 990 DfE104 = true := by kernel_rfl
theorem DfK104 {W : World} (hW : LibW W) : DfE104.Ok Tryz.prog (KG W) := Ent.ok_of mixed (known_ok hW) Tab.ok_nil DfT104
def DfE105 : Ent := ⟨93, DfQ0a, ⟨[], 28173⟩, DfQ0v 28173, ⟨DfQ0o 28173, 28501⟩⟩
theorem DfT105 : Ent.check Tryz.prog known [] 990 DfE105 = true := by kernel_rfl
theorem DfK105 {W : World} (hW : LibW W) : DfE105.Ok Tryz.prog (KG W) := Ent.ok_of mixed (known_ok hW) Tab.ok_nil DfT105
def DfE106 : Ent := ⟨93, DfQ0a, ⟨[], 28547⟩, DfQ0v 28547, ⟨DfQ0o 28547, 28875⟩⟩
theorem DfT106 : Ent.check Tryz.prog known [] 990 DfE106 = true := by kernel_rfl
theorem DfK106 {W : World} (hW : LibW W) : DfE106.Ok Tryz.prog (KG W) := Ent.ok_of mixed (known_ok hW) Tab.ok_nil DfT106
def DfE107 : Ent := ⟨93, DfQ0a, ⟨[], 28922⟩, DfQ0v 28922, ⟨DfQ0o 28922, 29250⟩⟩
theorem DfT107 : Ent.check Tryz.prog known [] 990 DfE107 = true := by kernel_rfl
theorem DfK107 {W : World} (hW : LibW W) : DfE107.Ok Tryz.prog (KG W) := Ent.ok_of mixed (known_ok hW) Tab.ok_nil DfT107
def DfE108 : Ent := ⟨93, DfQ0a, ⟨[], 29298⟩, DfQ0v 29298, ⟨DfQ0o 29298, 29626⟩⟩
theorem DfT108 : Ent.check Tryz.prog known [] 990 DfE108 = true := by kernel_rfl
theorem DfK108 {W : World} (hW : LibW W) : DfE108.Ok Tryz.prog (KG W) := Ent.ok_of mixed (known_ok hW) Tab.ok_nil DfT108
def DfE109 : Ent := ⟨93, DfQ0a, ⟨[], 29675⟩, DfQ0v 29675, ⟨DfQ0o 29675, 30003⟩⟩
theorem DfT109 : Ent.check Tryz.prog known [] 990 DfE109 = true := by kernel_rfl
theorem DfK109 {W : World} (hW : LibW W) : DfE109.Ok Tryz.prog (KG W) := Ent.ok_of mixed (known_ok hW) Tab.ok_nil DfT109
def DfE110 : Ent := ⟨93, DfQ0a, ⟨[], 30053⟩, DfQ0v 30053, ⟨DfQ0o 30053, 30381⟩⟩
theorem DfT110 : Ent.check Tryz.prog known [] 990 DfE110 = true := by kernel_rfl
theorem DfK110 {W : World} (hW : LibW W) : DfE110.Ok Tryz.prog (KG W) := Ent.ok_of mixed (known_ok hW) Tab.ok_nil DfT110
def DfE111 : Ent := ⟨93, DfQ0a, ⟨[], 30432⟩, DfQ0v 30432, ⟨DfQ0o 30432, 30760⟩⟩
theorem DfT111 : Ent.check Tryz.prog known [] 990 DfE111 = true := by kernel_rfl
theorem DfK111 {W : World} (hW : LibW W) : DfE111.Ok Tryz.prog (KG W) := Ent.ok_of mixed (known_ok hW) Tab.ok_nil DfT111
def DfE112 : Ent := ⟨93, DfQ0a, ⟨[], 30812⟩, DfQ0v 30812, ⟨DfQ0o 30812, 31140⟩⟩
theorem DfT112 : Ent.check Tryz.prog known [] 990 DfE112 = true := by kernel_rfl
theorem DfK112 {W : World} (hW : LibW W) : DfE112.Ok Tryz.prog (KG W) := Ent.ok_of mixed (known_ok hW) Tab.ok_nil DfT112
def DfE113 : Ent := ⟨93, DfQ0a, ⟨[], 31193⟩, DfQ0v 31193, ⟨DfQ0o 31193, 31521⟩⟩
theorem DfT113 : Ent.check Tryz.prog known [] 990 DfE113 = true := by kernel_rfl
theorem DfK113 {W : World} (hW : LibW W) : DfE113.Ok Tryz.prog (KG W) := Ent.ok_of mixed (known_ok hW) Tab.ok_nil DfT113
end Go.Proofs.YtfmlgiafkbakcaaGreatDoor

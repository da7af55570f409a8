/- Calls that were proved one by one: what the evaluator says. -/
import Derived.Test.YtfmlgiafkbakcaaGreatDoorDfO
import Derived.Test.YtfmlgiafkbakcaaGreatDoorProg
import Derived.ProofKit
import Derived.Test.YtfmlgiafkbakcaaGreatDoorVy
import Derived.Test.YtfmlgiafkbakcaaGreatDoorDf2
import Derived.Test.YtfmlgiafkbakcaaGreatDoorDf3
import Derived.Test.YtfmlgiafkbakcaaGreatDoorDf4
import Derived.Test.YtfmlgiafkbakcaaGreatDoorDf5
import Derived.Test.YtfmlgiafkbakcaaGreatDoorDf6
namespace Go.Proofs.YtfmlgiafkbakcaaGreatDoor
open Go.Proofs.YtfmlgiafkbakcaaGreatDoor.Ev
set_option maxRecDepth 100000

def DfE125 : Ent := ⟨48, (.cons (.sl 13855 0 53 6 false) .nil), ⟨[DfO141, DfO142, DfO143, DfO144, DfO145, DfO146, DfO103, DfO104, DfO105, DfO147, DfO106, DfO107, DfO108, DfO109, DfO110, DfO111, DfO112, DfO113, DfO114, DfO115, DfO116, DfO117, DfO118, DfO119, DfO120, DfO121, DfO122, DfO123, DfO124, DfO125, DfO126, DfO127, DfO128, DfO129, DfO130, DfO131, DfO132, DfO133, DfO134, DfO135, DfO136, DfO137, DfO138, DfO139, DfO140, DfO148], 15016⟩, (nu 0), ⟨[DfO141, DfO142, DfO143, DfO144, DfO145, DfO146, DfO103, DfO104, DfO105, DfO147, DfO106, DfO107, DfO108, DfO109, DfO110, DfO111, DfO112, DfO113, DfO114, DfO115, DfO116, DfO117, DfO118, DfO119, DfO120, DfO121, DfO122, DfO123, DfO124, DfO125, DfO126, DfO127, DfO128, DfO129, DfO130, DfO131, DfO132, DfO133, DfO134, DfO135, DfO136, DfO137, DfO138, DfO139, DfO140, DfO148], 35829⟩⟩
theorem DfT125 : Ent.check Tryz.prog known [(90, [DfE66]), (93, [DfE67, DfE68, DfE69, DfE70, DfE71, DfE72, DfE73, DfE74, DfE75, DfE76, DfE77, DfE78, DfE80, DfE82, DfE84, DfE86, DfE88, DfE89, DfE90, DfE91, DfE92, DfE93, DfE94, DfE95, DfE96, DfE97, DfE98, DfE99, DfE100, DfE101, DfE102, DfE103, DfE104, DfE105, DfE106, DfE107, DfE108, DfE109, DfE110, DfE111, DfE112, DfE113, DfE114, DfE115, DfE116, DfE117, DfE118, DfE119, DfE120, DfE121, DfE122, DfE123, DfE124]), (176, [DfE79, DfE81, DfE83, DfE85, DfE87])] 990 DfE125 = true := by kernel_rfl
theorem DfK125 {W : World} (hW : LibW W) : DfE125.Ok Tryz.prog (KG W) := Ent.ok_of mixed (known_ok hW) (Tab.ok_cons (f := 90) (Ent.ok_cons (DfK66 hW) Ent.ok_nil) (Tab.ok_cons (f := 93) (Ent.ok_cons (DfK67 hW) (Ent.ok_cons (DfK68 hW) (Ent.ok_cons (DfK69 hW) (Ent.ok_cons (DfK70 hW) (Ent.ok_cons (DfK71 hW) (Ent.ok_cons (DfK72 hW) (Ent.ok_cons (DfK73 hW) (Ent.ok_cons (DfK74 hW) (Ent.ok_cons (DfK75 hW) (Ent.ok_cons (DfK76 hW) (Ent.ok_cons (DfK77 hW) (Ent.ok_cons (DfK78 hW) (Ent.ok_cons (DfK80 hW) (Ent.ok_cons (DfK82 hW) (Ent.ok_cons (DfK84 hW) (Ent.ok_cons (DfK86 hW) (Ent.ok_cons (DfK88 hW) (Ent.ok_cons (DfK89 hW) (Ent.ok_cons (DfK90 hW) (Ent.ok_cons (DfK91 hW) (Ent.ok_cons (DfK92 hW) (Ent.ok_cons (DfK93 hW) (Ent.ok_cons (DfK94 hW) (Ent.ok_cons (DfK95 hW) (Ent.ok_cons (DfK96 hW) (Ent.ok_cons (DfK97 hW) (Ent.ok_cons (DfK98 hW) (Ent.ok_cons (DfK99 hW) (Ent.ok_cons (DfK100 hW) (Ent.ok_cons (DfK101 hW) (Ent.ok_cons (DfK102 hW) (Ent.ok_cons (DfK103 hW) (Ent.ok_cons (DfK104 hW) (Ent.ok_cons (DfK105 hW) (Ent.ok_cons (DfK106 hW) (Ent.ok_cons (DfK107 hW) (Ent.ok_cons (DfK108 hW) (Ent.ok_cons (DfK109 hW) (Ent.ok_cons (DfK110 hW) (Ent.ok_cons (DfK111 hW) (Ent.ok_cons (DfK112 hW) (Ent.ok_cons (DfK113 hW) (Ent.ok_cons (DfK114 hW) (Ent.ok_cons (DfK115 hW) (Ent.ok_cons (DfK116 hW) (Ent.ok_cons (DfK117 hW) (Ent.ok_cons (DfK118 hW) (Ent.ok_cons (DfK119 hW) (Ent.ok_cons (DfK120 hW) (Ent.ok_cons (DfK121 hW) (Ent.ok_cons (DfK122 hW) (Ent.ok_cons (DfK123 hW) (Ent.ok_cons (DfK124 hW) Ent.ok_nil))))))))))))))))))))))))))))))))))))))))))))))))))))) (Tab.ok_cons (f := 176) (Ent.ok_cons (DfK79 hW) (Ent.ok_cons (DfK81 hW) (Ent.ok_cons (DfK83 hW) (Ent.ok_cons (DfK85 hW) (Ent.ok_cons (DfK87 hW) Ent.ok_nil))))) Tab.ok_nil))) DfT125
def DfE126 : Ent := ⟨90, (.cons (.sl 13855 0 53 6 false) .nil), ⟨[DfO141, DfO142, DfO143, DfO144, DfO145, DfO146, DfO103, DfO104, DfO105, DfO147, DfO106, DfO107, DfO108, DfO109, DfO110, DfO111, DfO112, DfO113, DfO114, DfO115, DfO116, DfO117, DfO118, DfO119, DfO120, DfO121, DfO122, DfO123, DfO124, DfO125, DfO126, DfO127, DfO128, DfO129, DfO130, DfO131, DfO132, DfO133, DfO134, DfO135, DfO136, DfO137, DfO138, DfO139, DfO140, DfO148], 35829⟩, (.bool true), ⟨[DfO141, DfO142, DfO143, DfO144, DfO145, DfO146, DfO103, DfO104, DfO105, DfO147, DfO106, DfO107, DfO108, DfO109, DfO110, DfO111, DfO112, DfO113, DfO114, DfO115, DfO116, DfO117, DfO118, DfO119, DfO120, DfO121, DfO122, DfO123, DfO124, DfO125, DfO126, DfO127, DfO128, DfO129, DfO130, DfO131, DfO132, DfO133, DfO134, DfO135, DfO136, DfO137, DfO138, DfO139, DfO140, DfO148], 36989⟩⟩
theorem DfT126 : Ent.check Tryz.prog known [] 990 DfE126 = true := by kernel_rfl
theorem DfK126 {W : World} (hW : LibW W) : DfE126.Ok Tryz.prog (KG W) := Ent.ok_of mixed (known_ok hW) Tab.ok_nil DfT126
def DfE127 : Ent := ⟨93, DfQ0a, ⟨[], 36992⟩, DfQ0v 36992, ⟨DfQ0o 36992, 37320⟩⟩
theorem DfT127 : Ent.check Tryz.prog known [] 990 DfE127 = true := by kernel_rfl
theorem DfK127 {W : World} (hW : LibW W) : DfE127.Ok Tryz.prog (KG W) := Ent.ok_of mixed (known_ok hW) Tab.ok_nil DfT127
def DfE128 : Ent := ⟨93, DfQ0a, ⟨[], 37327⟩, DfQ0v 37327, ⟨DfQ0o 37327, 37655⟩⟩
theorem DfT128 : Ent.check Tryz.prog known [] 990 DfE128 = true := by kernel_rfl
theorem DfK128 {W : World} (hW : LibW W) : DfE128.Ok Tryz.prog (KG W) := Ent.ok_of mixed (known_ok hW) Tab.ok_nil DfT128
def DfE129 : Ent := ⟨93, DfQ0a, ⟨[], 37663⟩, DfQ0v 37663, ⟨DfQ0o 37663, 37991⟩⟩
theorem DfT129 : Ent.check Tryz.prog known [] 990 DfE129 = true := by kernel_rfl
theorem DfK129 {W : World} (hW : LibW W) : DfE129.Ok Tryz.prog (KG W) := Ent.ok_of mixed (known_ok hW) Tab.ok_nil DfT129
end Go.Proofs.YtfmlgiafkbakcaaGreatDoor

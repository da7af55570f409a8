/- Calls that were proved one by one: what the evaluator says. -/
import Derived.Test.YtfmlgiafkbakcaaGreatDoorDfO
import Derived.Test.YtfmlgiafkbakcaaGreatDoorProg
import Derived.ProofKit
import Derived.Test.YtfmlgiafkbakcaaGreatDoorVy
import Derived.Test.YtfmlgiafkbakcaaGreatDoorDf12
namespace Go.Proofs.YtfmlgiafkbakcaaGreatDoor
open Go.Proofs.YtfmlgiafkbakcaaGreatDoor.Ev
set_option maxRecDepth 100000

def DfE195 : Ent := ⟨49, (.cons (.sl 13855 0 53 6 false) .nil), ⟨[DfO141, DfO142, DfO143, DfO144, DfO145, DfO146, DfO103, DfO104, DfO105, DfO147, DfO106, DfO107, DfO108, DfO109, DfO110, DfO111, DfO112, DfO113, DfO114, DfO115, DfO116, DfO117, DfO118, DfO119, DfO120, DfO121, DfO122, DfO123, DfO124, DfO125, DfO126, DfO127, DfO128, DfO129, DfO130, DfO131, DfO132, DfO133, DfO134, DfO135, DfO136, DfO137, DfO138, DfO139, DfO140, DfO148], 35829⟩, (.tup (avs [(.bool true), (nu 0)])), ⟨[DfO141, DfO142, DfO143, DfO144, DfO145, DfO146, DfO103, DfO104, DfO105, DfO147, DfO106, DfO107, DfO108, DfO109, DfO110, DfO111, DfO112, DfO113, DfO114, DfO115, DfO116, DfO117, DfO118, DfO119, DfO120, DfO121, DfO122, DfO123, DfO124, DfO125, DfO126, DfO127, DfO128, DfO129, DfO130, DfO131, DfO132, DfO133, DfO134, DfO135, DfO136, DfO137, DfO138, DfO139, DfO140, DfO148], 58839⟩⟩
theorem DfT195 : Ent.check Tryz.prog known [(48, [DfE185]), (93, [DfE186]), (176, [DfE187, DfE188, DfE189, DfE190, DfE191, DfE192, DfE193, DfE194])] 990 DfE195 = true := by kernel_rfl
theorem DfK195 {W : World} (hW : LibW W) : DfE195.Ok Tryz.prog (KG W) := Ent.ok_of mixed (known_ok hW) (Tab.ok_cons (f := 48) (Ent.ok_cons (DfK185 hW) Ent.ok_nil) (Tab.ok_cons (f := 93) (Ent.ok_cons (DfK186 hW) Ent.ok_nil) (Tab.ok_cons (f := 176) (Ent.ok_cons (DfK187 hW) (Ent.ok_cons (DfK188 hW) (Ent.ok_cons (DfK189 hW) (Ent.ok_cons (DfK190 hW) (Ent.ok_cons (DfK191 hW) (Ent.ok_cons (DfK192 hW) (Ent.ok_cons (DfK193 hW) (Ent.ok_cons (DfK194 hW) Ent.ok_nil)))))))) Tab.ok_nil))) DfT195
def DfE196 : Ent := ⟨457, (.cons (.ptr 59071 0) (.cons (.agg (avs [(nu 1), (.bool true), (nu 0), (nu 0), (nu 0), (nu 0), (nu 0), (nu 0), (nu 0), (nu 0), (nu 0), (nu 0), (nu 0), (nu 0), (nu 0), (nu 0), (nu 0), (nu 0)])) .nil)), ⟨[DfO141, DfO142, DfO143, DfO144, DfO145, DfO146, DfO103, DfO104, DfO105, DfO147, DfO106, DfO107, DfO108, DfO109, DfO110, DfO111, DfO112, DfO113, DfO114, DfO115, DfO116, DfO117, DfO118, DfO119, DfO120, DfO121, DfO122, DfO123, DfO124, DfO125, DfO126, DfO127, DfO128, DfO129, DfO130, DfO131, DfO132, DfO133, DfO134, DfO135, DfO136, DfO137, DfO138, DfO139, DfO140, DfO148, DfO705, DfO706], 59145⟩, (.agg (avs [(nu 1), (nu 0), (nu 0), (nu 1), (nu 0), (nu 2), (nu 1), (nu 7)])), ⟨[DfO141, DfO142, DfO143, DfO144, DfO145, DfO146, DfO103, DfO104, DfO105, DfO147, DfO106, DfO107, DfO108, DfO109, DfO110, DfO111, DfO112, DfO113, DfO114, DfO115, DfO116, DfO117, DfO118, DfO119, DfO120, DfO121, DfO122, DfO123, DfO124, DfO125, DfO126, DfO127, DfO128, DfO129, DfO130, DfO131, DfO132, DfO133, DfO134, DfO135, DfO136, DfO137, DfO138, DfO139, DfO140, DfO148, DfO705, DfO706], 59852⟩⟩
theorem DfT196 : Ent.check Tryz.prog known [] 990 DfE196 = true := by kernel_rfl
theorem DfK196 {W : World} (hW : LibW W) : DfE196.Ok Tryz.prog (KG W) := Ent.ok_of mixed (known_ok hW) Tab.ok_nil DfT196
def DfE197 : Ent := ⟨552, (.cons (.ptr 60557 0) (.cons (.ptr 60526 0) .nil)), ⟨[DfO707, DfO708, DfO709, DfO710, DfO711, DfO712, DfO713], 60703⟩, (.tup (avs [])), ⟨[DfO707, DfO714, DfO709, DfO710, DfO711, DfO712, DfO715], 61291⟩⟩
theorem DfT197 : Ent.check Tryz.prog known [] 990 DfE197 = true := by kernel_rfl
theorem DfK197 {W : World} (hW : LibW W) : DfE197.Ok Tryz.prog (KG W) := Ent.ok_of mixed (known_ok hW) Tab.ok_nil DfT197
def DfE198 : Ent := ⟨107, (.cons (nu 1) (.cons (.sl 62019 0 12 6 false) .nil)), ⟨[DfO716], 62339⟩, (.tup (avs [(.str 108 DfS10), (.sl 62397 0 12 1 true), (nu 0)])), ⟨[DfO716, DfO717], 62837⟩⟩
theorem DfT198 : Ent.check Tryz.prog known [] 990 DfE198 = true := by kernel_rfl
theorem DfK198 {W : World} (hW : LibW W) : DfE198.Ok Tryz.prog (KG W) := Ent.ok_of mixed (known_ok hW) Tab.ok_nil DfT198
end Go.Proofs.YtfmlgiafkbakcaaGreatDoor

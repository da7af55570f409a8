/- Calls that were proved one by one: what the evaluator says. -/
import Derived.Test.YtfmlgiafkbakcaaGreatDoorDfO
import Derived.Test.YtfmlgiafkbakcaaGreatDoorProg
import Derived.ProofKit
import Derived.Test.YtfmlgiafkbakcaaGreatDoorVy
import Derived.Test.YtfmlgiafkbakcaaGreatDoorDf1
namespace Go.Proofs.YtfmlgiafkbakcaaGreatDoor
open Go.Proofs.YtfmlgiafkbakcaaGreatDoor.Ev
set_option maxRecDepth 100000

def DfE57 : Ent := ⟨171, (.cons (.str 13 3280354259547491956060109235564) (.cons (nu 8) .nil)), ⟨[], 13455⟩, (.tup (avs [(.agg (avs [(nu 30), (nu 0), (.sl 13467 0 2 3 false)])), (.str 0 0), (.bool true)])), ⟨[DfO134], 13468⟩⟩
theorem DfT57 : Ent.check Tryz.prog known [] 990 DfE57 = true := by kernel_rfl
theorem DfK57 {W : World} (hW : LibW W) : DfE57.Ok Tryz.prog (KG W) := Ent.ok_of mixed (known_ok hW) Tab.ok_nil DfT57
def DfE58 : Ent := ⟨171, (.cons (.str 9 763766993697717385317) (.cons (nu 8) .nil)), ⟨[], 13522⟩, (.tup (avs [(.agg (avs [(nu 31), (nu 0), (.sl 13529 0 1 3 false)])), (.str 0 0), (.bool true)])), ⟨[DfO135], 13530⟩⟩
theorem DfT58 : Ent.check Tryz.prog known [] 990 DfE58 = true := by kernel_rfl
theorem DfK58 {W : World} (hW : LibW W) : DfE58.Ok Tryz.prog (KG W) := Ent.ok_of mixed (known_ok hW) Tab.ok_nil DfT58
def DfE59 : Ent := ⟨171, (.cons (.str 10 195524350386605936375909) (.cons (nu 8) .nil)), ⟨[], 13584⟩, (.tup (avs [(.agg (avs [(nu 32), (nu 0), (.sl 13591 0 1 3 false)])), (.str 0 0), (.bool true)])), ⟨[DfO136], 13592⟩⟩
theorem DfT59 : Ent.check Tryz.prog known [] 990 DfE59 = true := by kernel_rfl
theorem DfK59 {W : World} (hW : LibW W) : DfE59.Ok Tryz.prog (KG W) := Ent.ok_of mixed (known_ok hW) Tab.ok_nil DfT59
def DfE60 : Ent := ⟨171, (.cons (.str 10 195524350386588790061157) (.cons (nu 8) .nil)), ⟨[], 13646⟩, (.tup (avs [(.agg (avs [(nu 33), (nu 0), (.sl 13653 0 1 3 false)])), (.str 0 0), (.bool true)])), ⟨[DfO137], 13654⟩⟩
theorem DfT60 : Ent.check Tryz.prog known [] 990 DfE60 = true := by kernel_rfl
theorem DfK60 {W : World} (hW : LibW W) : DfE60.Ok Tryz.prog (KG W) := Ent.ok_of mixed (known_ok hW) Tab.ok_nil DfT60
def DfE61 : Ent := ⟨171, (.cons (.str 10 195524350386615650641274) (.cons (nu 8) .nil)), ⟨[], 13708⟩, (.tup (avs [(.agg (avs [(nu 34), (nu 0), (.sl 13715 0 1 3 false)])), (.str 0 0), (.bool true)])), ⟨[DfO138], 13716⟩⟩
theorem DfT61 : Ent.check Tryz.prog known [] 990 DfE61 = true := by kernel_rfl
theorem DfK61 {W : World} (hW : LibW W) : DfE61.Ok Tryz.prog (KG W) := Ent.ok_of mixed (known_ok hW) Tab.ok_nil DfT61
def DfE62 : Ent := ⟨171, (.cons (.str 11 50054233698971119712232826) (.cons (nu 8) .nil)), ⟨[], 13770⟩, (.tup (avs [(.agg (avs [(nu 35), (nu 0), (.sl 13777 0 1 3 false)])), (.str 0 0), (.bool true)])), ⟨[DfO139], 13778⟩⟩
theorem DfT62 : Ent.check Tryz.prog known [] 990 DfE62 = true := by kernel_rfl
theorem DfK62 {W : World} (hW : LibW W) : DfE62.Ok Tryz.prog (KG W) := Ent.ok_of mixed (known_ok hW) Tab.ok_nil DfT62
def DfE63 : Ent := ⟨171, (.cons (.str 11 50054233698966730255656314) (.cons (nu 8) .nil)), ⟨[], 13832⟩, (.tup (avs [(.agg (avs [(nu 36), (nu 0), (.sl 13839 0 1 3 false)])), (.str 0 0), (.bool true)])), ⟨[DfO140], 13840⟩⟩
theorem DfT63 : Ent.check Tryz.prog known [] 990 DfE63 = true := by kernel_rfl
theorem DfK63 {W : World} (hW : LibW W) : DfE63.Ok Tryz.prog (KG W) := Ent.ok_of mixed (known_ok hW) Tab.ok_nil DfT63
def DfE64 : Ent := ⟨90, (.cons (.sl 13855 0 53 6 false) .nil), ⟨[DfO141, DfO142, DfO143, DfO144, DfO145, DfO146, DfO103, DfO104, DfO105, DfO147, DfO106, DfO107, DfO108, DfO109, DfO110, DfO111, DfO112, DfO113, DfO114, DfO115, DfO116, DfO117, DfO118, DfO119, DfO120, DfO121, DfO122, DfO123, DfO124, DfO125, DfO126, DfO127, DfO128, DfO129, DfO130, DfO131, DfO132, DfO133, DfO134, DfO135, DfO136, DfO137, DfO138, DfO139, DfO140, DfO148], 13856⟩, (.bool true), ⟨[DfO141, DfO142, DfO143, DfO144, DfO145, DfO146, DfO103, DfO104, DfO105, DfO147, DfO106, DfO107, DfO108, DfO109, DfO110, DfO111, DfO112, DfO113, DfO114, DfO115, DfO116, DfO117, DfO118, DfO119, DfO120, DfO121, DfO122, DfO123, DfO124, DfO125, DfO126, DfO127, DfO128, DfO129, DfO130, DfO131, DfO132, DfO133, DfO134, DfO135, DfO136, DfO137, DfO138, DfO139, DfO140, DfO148], 15016⟩⟩
theorem DfT64 : Ent.check Tryz.prog known [] 990 DfE64 = true := by kernel_rfl
theorem DfK64 {W : World} (hW : LibW W) : DfE64.Ok Tryz.prog (KG W) := Ent.ok_of mixed (known_ok hW) Tab.ok_nil DfT64
def DfE65 : Ent := ⟨47, (.cons (.str 1472 DfS6) .nil), ⟨[], 10453⟩, (.tup (avs [(.sl 13855 0 53 6 false), (nu 0)])), ⟨[DfO141, DfO142, DfO143, DfO144, DfO145, DfO146, DfO103, DfO104, DfO105, DfO147, DfO106, DfO107, DfO108, DfO109, DfO110, DfO111, DfO112, DfO113, DfO114, DfO115, DfO116, DfO117, DfO118, DfO119, DfO120, DfO121, DfO122, DfO123, DfO124, DfO125, DfO126, DfO127, DfO128, DfO129, DfO130, DfO131, DfO132, DfO133, DfO134, DfO135, DfO136, DfO137, DfO138, DfO139, DfO140, DfO148], 15016⟩⟩
theorem DfT65 : Ent.check Tryz.prog known [(171, [DfE24, DfE25, DfE26, DfE27, DfE28, DfE29, DfE30, DfE31, DfE32, DfE33, DfE34, DfE35, DfE36, DfE37, DfE38, DfE39, DfE40, DfE41, DfE42, DfE43, DfE44, DfE45, DfE46, DfE47, DfE48, DfE49, DfE50, DfE51, DfE52, DfE53, DfE54, DfE55, DfE56, DfE57, DfE58, DfE59, DfE60, DfE61, DfE62, DfE63]), (90, [DfE64])] 990 DfE65 = true := by kernel_rfl
theorem DfK65 {W : World} (hW : LibW W) : DfE65.Ok Tryz.prog (KG W) := Ent.ok_of mixed (known_ok hW) (Tab.ok_cons (f := 171) (Ent.ok_cons (DfK24 hW) (Ent.ok_cons (DfK25 hW) (Ent.ok_cons (DfK26 hW) (Ent.ok_cons (DfK27 hW) (Ent.ok_cons (DfK28 hW) (Ent.ok_cons (DfK29 hW) (Ent.ok_cons (DfK30 hW) (Ent.ok_cons (DfK31 hW) (Ent.ok_cons (DfK32 hW) (Ent.ok_cons (DfK33 hW) (Ent.ok_cons (DfK34 hW) (Ent.ok_cons (DfK35 hW) (Ent.ok_cons (DfK36 hW) (Ent.ok_cons (DfK37 hW) (Ent.ok_cons (DfK38 hW) (Ent.ok_cons (DfK39 hW) (Ent.ok_cons (DfK40 hW) (Ent.ok_cons (DfK41 hW) (Ent.ok_cons (DfK42 hW) (Ent.ok_cons (DfK43 hW) (Ent.ok_cons (DfK44 hW) (Ent.ok_cons (DfK45 hW) (Ent.ok_cons (DfK46 hW) (Ent.ok_cons (DfK47 hW) (Ent.ok_cons (DfK48 hW) (Ent.ok_cons (DfK49 hW) (Ent.ok_cons (DfK50 hW) (Ent.ok_cons (DfK51 hW) (Ent.ok_cons (DfK52 hW) (Ent.ok_cons (DfK53 hW) (Ent.ok_cons (DfK54 hW) (Ent.ok_cons (DfK55 hW) (Ent.ok_cons (DfK56 hW) (Ent.ok_cons (DfK57 hW) (Ent.ok_cons (DfK58 hW) (Ent.ok_cons (DfK59 hW) (Ent.ok_cons (DfK60 hW) (Ent.ok_cons (DfK61 hW) (Ent.ok_cons (DfK62 hW) (Ent.ok_cons (DfK63 hW) Ent.ok_nil)))))))))))))))))))))))))))))))))))))))) (Tab.ok_cons (f := 90) (Ent.ok_cons (DfK64 hW) Ent.ok_nil) Tab.ok_nil)) DfT65
def DfE66 : Ent := ⟨90, (.cons (.sl 13855 0 53 6 false) .nil), ⟨[DfO141, DfO142, DfO143, DfO144, DfO145, DfO146, DfO103, DfO104, DfO105, DfO147, DfO106, DfO107, DfO108, DfO109, DfO110, DfO111, DfO112, DfO113, DfO114, DfO115, DfO116, DfO117, DfO118, DfO119, DfO120, DfO121, DfO122, DfO123, DfO124, DfO125, DfO126, DfO127, DfO128, DfO129, DfO130, DfO131, DfO132, DfO133, DfO134, DfO135, DfO136, DfO137, DfO138, DfO139, DfO140, DfO148], 15016⟩, (.bool true), ⟨[DfO141, DfO142, DfO143, DfO144, DfO145, DfO146, DfO103, DfO104, DfO105, DfO147, DfO106, DfO107, DfO108, DfO109, DfO110, DfO111, DfO112, DfO113, DfO114, DfO115, DfO116, DfO117, DfO118, DfO119, DfO120, DfO121, DfO122, DfO123, DfO124, DfO125, DfO126, DfO127, DfO128, DfO129, DfO130, DfO131, DfO132, DfO133, DfO134, DfO135, DfO136, DfO137, DfO138, DfO139, DfO140, DfO148], 16176⟩⟩
theorem DfT66 : Ent.check Tryz.prog known [] 990 DfE66 = true := by kernel_rfl
theorem DfK66 {W : World} (hW : LibW W) : DfE66.Ok Tryz.prog (KG W) := Ent.ok_of mixed (known_ok hW) Tab.ok_nil DfT66
def DfE67 : Ent := ⟨93, DfQ0a, ⟨[], 16179⟩, DfQ0v 16179, ⟨DfQ0o 16179, 16507⟩⟩
theorem DfT67 : Ent.check Tryz.prog known [] 990 DfE67 = true := by kernel_rfl
theorem DfK67 {W : World} (hW : LibW W) : DfE67.Ok Tryz.prog (KG W) := Ent.ok_of mixed (known_ok hW) Tab.ok_nil DfT67
end Go.Proofs.YtfmlgiafkbakcaaGreatDoor

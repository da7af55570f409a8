/- Calls that were proved one by one: what the evaluator says. -/
import Derived.Test.YtfmlgiafkbakcaaGreatDoorDfO
import Derived.Test.YtfmlgiafkbakcaaGreatDoorProg
import Derived.ProofKit
import Derived.Test.YtfmlgiafkbakcaaGreatDoorVy
namespace Go.Proofs.YtfmlgiafkbakcaaGreatDoor
open Go.Proofs.YtfmlgiafkbakcaaGreatDoor.Ev
set_option maxRecDepth 100000

def DfE0 : Ent := ⟨11, (.cons (.fn 9 .nil .nil) (.cons (.fn 7 .nil .nil) .nil)), ⟨[], 2⟩, (.str 1378 DfS0), ⟨[], 3⟩⟩
theorem DfT0 : Ent.check Tryz.prog known [] 990 DfE0 = true := by kernel_rfl
theorem DfK0 {W : World} (hW : LibW W) : DfE0.Ok Tryz.prog (KG W) := Ent.ok_of mixed (known_ok hW) Tab.ok_nil DfT0
def DfE1 : Ent := ⟨23, (.cons (.str 11 151697324354981899632143977) .nil), ⟨[], 113⟩, (.tup (avs [(.agg (avs [.nils, .nils])), (.agg (avs [(nu 4), (nu 9)]))])), ⟨[], 645⟩⟩
theorem DfT1 : Ent.check Tryz.prog known [] 990 DfE1 = true := by kernel_rfl
theorem DfK1 {W : World} (hW : LibW W) : DfE1.Ok Tryz.prog (KG W) := Ent.ok_of mixed (known_ok hW) Tab.ok_nil DfT1
def DfE2 : Ent := ⟨383, (.cons (.ptr 748 0) (.cons (nu 3) (.cons (nu 2) .nil))), ⟨[DfO0, DfO1], 1139⟩, (.agg (avs [(nu 2), (nu 0), (nu 0), (nu 0), (.str 1 120), (nu 0), .nils, (nu 11)])), ⟨[DfO0, DfO2], 1549⟩⟩
theorem DfT2 : Ent.check Tryz.prog known [] 990 DfE2 = true := by kernel_rfl
theorem DfK2 {W : World} (hW : LibW W) : DfE2.Ok Tryz.prog (KG W) := Ent.ok_of mixed (known_ok hW) Tab.ok_nil DfT2
def DfE3 : Ent := ⟨23, (.cons (.str 14 2540012949138217624477002852757097) .nil), ⟨[], 683⟩, (.tup (avs [(.agg (avs [.nils, (.sl 1736 0 1 8 false)])), (.agg (avs [(nu 0), (nu 0)]))])), ⟨[DfO3, DfO4, DfO5], 1749⟩⟩
theorem DfT3 : Ent.check Tryz.prog known [(383, [DfE2])] 990 DfE3 = true := by kernel_rfl
theorem DfK3 {W : World} (hW : LibW W) : DfE3.Ok Tryz.prog (KG W) := Ent.ok_of mixed (known_ok hW) (Tab.ok_cons (f := 383) (Ent.ok_cons (DfK2 hW) Ent.ok_nil) Tab.ok_nil) DfT3
def DfE4 : Ent := ⟨383, (.cons (.ptr 1992 0) (.cons (nu 3) (.cons (nu 2) .nil))), ⟨[DfO6, DfO7], 2545⟩, (.agg (avs [(nu 1), (nu 0), (nu 0), (nu 0), (.str 0 0), (nu 0), .nils, (nu 18)])), ⟨[DfO6, DfO8], 2942⟩⟩
theorem DfT4 : Ent.check Tryz.prog known [] 990 DfE4 = true := by kernel_rfl
theorem DfK4 {W : World} (hW : LibW W) : DfE4.Ok Tryz.prog (KG W) := Ent.ok_of mixed (known_ok hW) Tab.ok_nil DfT4
def DfE5 : Ent := ⟨40, (.cons (.ptr 1992 0) (.cons (.ptr 1993 0) .nil)), ⟨[DfO6, DfO9, DfO10], 2006⟩, (.tup (avs [])), ⟨[DfO6, DfO11, DfO12, DfO13, DfO14, DfO15], 3130⟩⟩
theorem DfT5 : Ent.check Tryz.prog known [(383, [DfE4])] 990 DfE5 = true := by kernel_rfl
theorem DfK5 {W : World} (hW : LibW W) : DfE5.Ok Tryz.prog (KG W) := Ent.ok_of mixed (known_ok hW) (Tab.ok_cons (f := 383) (Ent.ok_cons (DfK4 hW) Ent.ok_nil) Tab.ok_nil) DfT5
def DfE6 : Ent := ⟨12, (.cons (.str 21 DfS1) (.cons (.str 1 120) (.cons (.agg (avs [(nu 2), (nu 0), (nu 8)])) .nil))), ⟨[], 1918⟩, (.tup (avs [(.agg (avs [(nu 0), (.str 0 0), (.str 0 0), (nu 0)])), (.agg (avs [(nu 1), (nu 0)]))])), ⟨[], 3300⟩⟩
theorem DfT6 : Ent.check Tryz.prog known [(40, [DfE5])] 990 DfE6 = true := by kernel_rfl
theorem DfK6 {W : World} (hW : LibW W) : DfE6.Ok Tryz.prog (KG W) := Ent.ok_of mixed (known_ok hW) (Tab.ok_cons (f := 40) (Ent.ok_cons (DfK5 hW) Ent.ok_nil) Tab.ok_nil) DfT6
def DfE7 : Ent := ⟨383, (.cons (.ptr 3402 0) (.cons (nu 3) (.cons (nu 2) .nil))), ⟨[DfO16, DfO17], 3955⟩, (.agg (avs [(nu 1), (nu 0), (nu 0), (nu 0), (.str 0 0), (nu 0), .nils, (nu 18)])), ⟨[DfO16, DfO18], 4352⟩⟩
theorem DfT7 : Ent.check Tryz.prog known [] 990 DfE7 = true := by kernel_rfl
theorem DfK7 {W : World} (hW : LibW W) : DfE7.Ok Tryz.prog (KG W) := Ent.ok_of mixed (known_ok hW) Tab.ok_nil DfT7
def DfE8 : Ent := ⟨40, (.cons (.ptr 3402 0) (.cons (.ptr 3403 0) .nil)), ⟨[DfO16, DfO19, DfO20], 3416⟩, (.tup (avs [])), ⟨[DfO16, DfO21, DfO22, DfO23, DfO24, DfO25], 4540⟩⟩
theorem DfT8 : Ent.check Tryz.prog known [(383, [DfE7])] 990 DfE8 = true := by kernel_rfl
theorem DfK8 {W : World} (hW : LibW W) : DfE8.Ok Tryz.prog (KG W) := Ent.ok_of mixed (known_ok hW) (Tab.ok_cons (f := 383) (Ent.ok_cons (DfK7 hW) Ent.ok_nil) Tab.ok_nil) DfT8
def DfE9 : Ent := ⟨93, DfQ0a, ⟨[], 4771⟩, DfQ0v 4771, ⟨DfQ0o 4771, 5099⟩⟩
theorem DfT9 : Ent.check Tryz.prog known [] 990 DfE9 = true := by kernel_rfl
theorem DfK9 {W : World} (hW : LibW W) : DfE9.Ok Tryz.prog (KG W) := Ent.ok_of mixed (known_ok hW) Tab.ok_nil DfT9
def DfE10 : Ent := ⟨176, (.cons (.sl 5098 0 60 6 false) (.cons (.fn 177 .nil (.cons (.ptr 4769 0) .nil)) .nil)), ⟨[DfO26, DfO27, DfO28, DfO29, DfO30, DfO31, DfO32, DfO33, DfO34, DfO35, DfO36, DfO37, DfO38, DfO39, DfO40, DfO41, DfO42, DfO43, DfO44, DfO45, DfO46, DfO47, DfO48, DfO49, DfO50, DfO51, DfO52, DfO53, DfO54, DfO55, DfO56, DfO57, DfO58, DfO59, DfO60, DfO61, DfO62, DfO63, DfO64, DfO65, DfO66, DfO67, DfO68, DfO69, DfO70, DfO71, DfO72, DfO73, DfO74, DfO75, DfO76, DfO77, DfO78, DfO79], 5099⟩, (nu (-1)), ⟨[DfO26, DfO27, DfO28, DfO29, DfO30, DfO31, DfO32, DfO33, DfO34, DfO35, DfO36, DfO37, DfO38, DfO39, DfO40, DfO41, DfO42, DfO43, DfO44, DfO45, DfO46, DfO47, DfO48, DfO49, DfO50, DfO51, DfO52, DfO53, DfO54, DfO55, DfO56, DfO57, DfO58, DfO59, DfO60, DfO61, DfO62, DfO63, DfO64, DfO65, DfO66, DfO67, DfO68, DfO69, DfO70, DfO71, DfO72, DfO73, DfO74, DfO75, DfO76, DfO77, DfO78, DfO79], 5159⟩⟩
theorem DfT10 : Ent.check Tryz.prog known [] 990 DfE10 = true := by kernel_rfl
theorem DfK10 {W : World} (hW : LibW W) : DfE10.Ok Tryz.prog (KG W) := Ent.ok_of mixed (known_ok hW) Tab.ok_nil DfT10
def DfE11 : Ent := ⟨12, (.cons (.str 21 DfS1) (.cons (.str 18 DfS2) (.cons (.agg (avs [(nu 2), (nu 0), (nu 8)])) .nil))), ⟨[], 3328⟩, (.tup (avs [(.agg (avs [(nu 0), (.str 0 0), (.str 0 0), (nu 0)])), (.agg (avs [(nu 9), (nu 0)]))])), ⟨[], 5160⟩⟩
theorem DfT11 : Ent.check Tryz.prog known [(40, [DfE8]), (93, [DfE9]), (176, [DfE10])] 990 DfE11 = true := by kernel_rfl
theorem DfK11 {W : World} (hW : LibW W) : DfE11.Ok Tryz.prog (KG W) := Ent.ok_of mixed (known_ok hW) (Tab.ok_cons (f := 40) (Ent.ok_cons (DfK8 hW) Ent.ok_nil) (Tab.ok_cons (f := 93) (Ent.ok_cons (DfK9 hW) Ent.ok_nil) (Tab.ok_cons (f := 176) (Ent.ok_cons (DfK10 hW) Ent.ok_nil) Tab.ok_nil))) DfT11
def DfE12 : Ent := ⟨383, (.cons (.ptr 5262 0) (.cons (nu 3) (.cons (nu 2) .nil))), ⟨[DfO80, DfO81], 5815⟩, (.agg (avs [(nu 1), (nu 0), (nu 0), (nu 0), (.str 0 0), (nu 0), .nils, (nu 18)])), ⟨[DfO80, DfO82], 6212⟩⟩
theorem DfT12 : Ent.check Tryz.prog known [] 990 DfE12 = true := by kernel_rfl
theorem DfK12 {W : World} (hW : LibW W) : DfE12.Ok Tryz.prog (KG W) := Ent.ok_of mixed (known_ok hW) Tab.ok_nil DfT12
def DfE13 : Ent := ⟨40, (.cons (.ptr 5262 0) (.cons (.ptr 5263 0) .nil)), ⟨[DfO80, DfO83, DfO84], 5276⟩, (.tup (avs [])), ⟨[DfO80, DfO85, DfO86, DfO87, DfO88, DfO89], 6400⟩⟩
theorem DfT13 : Ent.check Tryz.prog known [(383, [DfE12])] 990 DfE13 = true := by kernel_rfl
theorem DfK13 {W : World} (hW : LibW W) : DfE13.Ok Tryz.prog (KG W) := Ent.ok_of mixed (known_ok hW) (Tab.ok_cons (f := 383) (Ent.ok_cons (DfK12 hW) Ent.ok_nil) Tab.ok_nil) DfT13
def DfE14 : Ent := ⟨93, DfQ0a, ⟨[], 6631⟩, DfQ0v 6631, ⟨DfQ0o 6631, 6959⟩⟩
theorem DfT14 : Ent.check Tryz.prog known [] 990 DfE14 = true := by kernel_rfl
theorem DfK14 {W : World} (hW : LibW W) : DfE14.Ok Tryz.prog (KG W) := Ent.ok_of mixed (known_ok hW) Tab.ok_nil DfT14
def DfE15 : Ent := ⟨93, DfQ0a, ⟨[], 6968⟩, DfQ0v 6968, ⟨DfQ0o 6968, 7296⟩⟩
theorem DfT15 : Ent.check Tryz.prog known [] 990 DfE15 = true := by kernel_rfl
theorem DfK15 {W : World} (hW : LibW W) : DfE15.Ok Tryz.prog (KG W) := Ent.ok_of mixed (known_ok hW) Tab.ok_nil DfT15
def DfE16 : Ent := ⟨93, DfQ0a, ⟨[], 7300⟩, DfQ0v 7300, ⟨DfQ0o 7300, 7628⟩⟩
theorem DfT16 : Ent.check Tryz.prog known [] 990 DfE16 = true := by kernel_rfl
theorem DfK16 {W : World} (hW : LibW W) : DfE16.Ok Tryz.prog (KG W) := Ent.ok_of mixed (known_ok hW) Tab.ok_nil DfT16
def DfE17 : Ent := ⟨12, (.cons (.str 21 DfS1) (.cons (.str 18 DfS3) (.cons (.agg (avs [(nu 2), (nu 0), (nu 8)])) .nil))), ⟨[], 5188⟩, (.tup (avs [(.agg (avs [(nu 0), (.str 0 0), (.str 0 0), (nu 0)])), (.agg (avs [(nu 8), (nu 0)]))])), ⟨[], 7636⟩⟩
theorem DfT17 : Ent.check Tryz.prog known [(40, [DfE13]), (93, [DfE14, DfE15, DfE16])] 990 DfE17 = true := by kernel_rfl
theorem DfK17 {W : World} (hW : LibW W) : DfE17.Ok Tryz.prog (KG W) := Ent.ok_of mixed (known_ok hW) (Tab.ok_cons (f := 40) (Ent.ok_cons (DfK13 hW) Ent.ok_nil) (Tab.ok_cons (f := 93) (Ent.ok_cons (DfK14 hW) (Ent.ok_cons (DfK15 hW) (Ent.ok_cons (DfK16 hW) Ent.ok_nil))) Tab.ok_nil)) DfT17
end Go.Proofs.YtfmlgiafkbakcaaGreatDoor

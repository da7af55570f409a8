/- Calls that were proved one by one: what the evaluator says. -/
import Derived.Test.YtpepepkfjimoeaaGreatMfO
import Derived.Test.YtpepepkfjimoeaaGreatMfOx1
import Derived.Test.YtpepepkfjimoeaaGreatProg
import Derived.ProofKit
import Derived.Test.YtpepepkfjimoeaaGreatVh
import Derived.Test.YtpepepkfjimoeaaGreatMf0
namespace Go.Proofs.YtpepepkfjimoeaaGreat
open Go.Proofs.YtpepepkfjimoeaaGreat.Ev
set_option maxRecDepth 100000

def MfE9 : Ent := ⟨134, (.cons (.ptr 20703 0) (.cons (.agg (avs [(nu 7), (.sl 19598 0 3 8 false), (.sl 19613 0 1 9 false), (nu 0), (nu 0), (nu 0), (.str 0 0), (nu 0), (nu 17)])) .nil)), ⟨[MfO59, MfO60, MfO61, MfO62, MfO63, MfO64, MfO54, MfO65, MfO66, MfO70, MfO88, MfO89, MfO90, MfO91, MfO92, MfO93], 20831⟩, (nu 0), ⟨[MfO59, MfO60, MfO61, MfO62, MfO63, MfO64, MfO54, MfO65, MfO66, MfO70, MfO94, MfO89, MfO95, MfO91, MfO92, MfO93, MfO96, MfO97, MfO98], 22515⟩⟩
theorem MfT9 : Ent.check Tryz.prog [] 990 MfE9 = true := by kernel_rfl
theorem MfK9 : MfE9.Ok Tryz.prog := Ent.ok_of mixed Tab.ok_nil MfT9
def MfE10 : Ent := ⟨20, (.cons (.agg (avs [.nils, (.sl 19617 0 1 8 false)])) (.cons .nils (.cons (nu 2000) .nil))), ⟨[MfO59, MfO60, MfO61, MfO62, MfO63, MfO64, MfO54, MfO65, MfO66, MfO70], 20119⟩, (.tup (avs [(.agg (avs [(nu 1), (nu 0), (.sl 22204 0 3 1 false), (nu 34), (nu 1)])), (nu 0)])), ⟨[MfO59, MfO60, MfO61, MfO62, MfO63, MfO64, MfO54, MfO65, MfO66, MfO70, MfO96, MfO97, MfO98], 22574⟩⟩
theorem MfT10 : Ent.check Tryz.prog [(67, [MfE8]), (134, [MfE9])] 990 MfE10 = true := by kernel_rfl
theorem MfK10 : MfE10.Ok Tryz.prog := Ent.ok_of mixed (Tab.ok_cons (f := 67) (Ent.ok_cons MfK8 Ent.ok_nil) (Tab.ok_cons (f := 134) (Ent.ok_cons MfK9 Ent.ok_nil) Tab.ok_nil)) MfT10
def MfE11 : Ent := ⟨22, (.cons (.str 37 62280334485612495167842879895509712085310513342958002874839230978706743452352059131850345) .nil), ⟨[], 22625⟩, (.tup (avs [(.sl 36754 0 22 4 false), (.agg (avs [(nu 0), (nu 0)]))])), ⟨[MfO99, MfO100, MfO101, MfO102, MfO103, MfO104, MfO105, MfO106, MfO107, MfO108, MfO109, MfO110, MfO111, MfO112, MfO113, MfO114, MfO115, MfO116, MfO117, MfO118, MfO119, MfO120], 36755⟩⟩
theorem MfT11 : Ent.check Tryz.prog [] 990 MfE11 = true := by kernel_rfl
theorem MfK11 : MfE11.Ok Tryz.prog := Ent.ok_of mixed Tab.ok_nil MfT11
def MfE12 : Ent := ⟨87, (.cons (.ptr 36756 0) (.cons (nu 2) .nil)), ⟨[MfO99, MfO100, MfO101, MfO102, MfO103, MfO104, MfO105, MfO106, MfO107, MfO108, MfO109, MfO110, MfO111, MfO112, MfO113, MfO114, MfO115, MfO116, MfO117, MfO118, MfO119, MfO120, MfO121], 36790⟩, (.agg (avs [(nu 2), (.sl 37094 0 1 8 true), .nils, (nu 5), (nu 0), (nu 0), (.str 1 105), (nu 0), (nu 11)])), ⟨[MfO99, MfO100, MfO101, MfO102, MfO103, MfO104, MfO105, MfO106, MfO107, MfO108, MfO109, MfO110, MfO111, MfO112, MfO113, MfO114, MfO115, MfO116, MfO117, MfO118, MfO119, MfO120, MfO122, MfO123], 37098⟩⟩
theorem MfT12 : Ent.check Tryz.prog [] 990 MfE12 = true := by kernel_rfl
theorem MfK12 : MfE12.Ok Tryz.prog := Ent.ok_of mixed Tab.ok_nil MfT12
def MfE13 : Ent := ⟨229, (.cons (.ptr 36756 0) (.cons (nu 4) .nil)), ⟨[MfO99, MfO100, MfO101, MfO102, MfO103, MfO104, MfO105, MfO106, MfO107, MfO108, MfO109, MfO110, MfO111, MfO112, MfO113, MfO114, MfO115, MfO116, MfO117, MfO118, MfO119, MfO120, MfO124], 37438⟩, (.agg (avs [(nu 35), (nu 0), (nu 0), (nu 0), (.str 3 7632240), (nu 0), (.sl 37741 0 1 8 false), (nu 27)])), ⟨[MfO99, MfO100, MfO101, MfO102, MfO103, MfO104, MfO105, MfO106, MfO107, MfO108, MfO109, MfO110, MfO111, MfO112, MfO113, MfO114, MfO115, MfO116, MfO117, MfO118, MfO119, MfO120, MfO125, MfO126, MfO127], 37746⟩⟩
theorem MfT13 : Ent.check Tryz.prog [] 990 MfE13 = true := by kernel_rfl
theorem MfK13 : MfE13.Ok Tryz.prog := Ent.ok_of mixed Tab.ok_nil MfT13
def MfE14 : Ent := ⟨87, (.cons (.ptr 36756 0) (.cons (nu 3) .nil)), ⟨[MfO99, MfO100, MfO101, MfO102, MfO103, MfO104, MfO105, MfO106, MfO107, MfO108, MfO109, MfO110, MfO111, MfO112, MfO113, MfO114, MfO115, MfO116, MfO117, MfO118, MfO119, MfO120, MfO124], 37395⟩, (.agg (avs [(nu 1), (.sl 37988 0 1 8 true), .nils, (nu 0), (nu 0), (nu 0), (.str 0 0), (nu 0), (nu 27)])), ⟨[MfO99, MfO100, MfO101, MfO102, MfO103, MfO104, MfO105, MfO106, MfO107, MfO108, MfO109, MfO110, MfO111, MfO112, MfO113, MfO114, MfO115, MfO116, MfO117, MfO118, MfO119, MfO120, MfO128, MfO126, MfO127, MfO129], 37992⟩⟩
theorem MfT14 : Ent.check Tryz.prog [(229, [MfE13])] 990 MfE14 = true := by kernel_rfl
theorem MfK14 : MfE14.Ok Tryz.prog := Ent.ok_of mixed (Tab.ok_cons (f := 229) (Ent.ok_cons MfK13 Ent.ok_nil) Tab.ok_nil) MfT14
def MfE15 : Ent := ⟨87, (.cons (.ptr 36756 0) (.cons (nu 2) .nil)), ⟨[MfO99, MfO100, MfO101, MfO102, MfO103, MfO104, MfO105, MfO106, MfO107, MfO108, MfO109, MfO110, MfO111, MfO112, MfO113, MfO114, MfO115, MfO116, MfO117, MfO118, MfO119, MfO120, MfO122], 37101⟩, (.agg (avs [(nu 5), (.sl 37394 0 1 8 true), (.sl 37992 0 1 9 true), (nu 0), (nu 0), (nu 0), (.str 0 0), (nu 0), (nu 19)])), ⟨[MfO99, MfO100, MfO101, MfO102, MfO103, MfO104, MfO105, MfO106, MfO107, MfO108, MfO109, MfO110, MfO111, MfO112, MfO113, MfO114, MfO115, MfO116, MfO117, MfO118, MfO119, MfO120, MfO128, MfO130, MfO126, MfO127, MfO129, MfO131], 37993⟩⟩
theorem MfT15 : Ent.check Tryz.prog [(87, [MfE14])] 990 MfE15 = true := by kernel_rfl
theorem MfK15 : MfE15.Ok Tryz.prog := Ent.ok_of mixed (Tab.ok_cons (f := 87) (Ent.ok_cons MfK14 Ent.ok_nil) Tab.ok_nil) MfT15
def MfE16 : Ent := ⟨19, (.cons (.str 37 62280334485612495167842879895509712085310513342958002874839230978706743452352059131850345) .nil), ⟨[], 22622⟩, (.tup (avs [(.agg (avs [.nils, (.sl 38065 0 1 8 false)])), (.bool true)])), ⟨[MfO132, MfO133, MfO134, MfO135, MfO136, MfO137, MfO138, MfO139, MfO140], 38385⟩⟩
theorem MfT16 : Ent.check Tryz.prog [(22, [MfE11]), (87, [MfE12, MfE15])] 990 MfE16 = true := by kernel_rfl
theorem MfK16 : MfE16.Ok Tryz.prog := Ent.ok_of mixed (Tab.ok_cons (f := 22) (Ent.ok_cons MfK11 Ent.ok_nil) (Tab.ok_cons (f := 87) (Ent.ok_cons MfK12 (Ent.ok_cons MfK15 Ent.ok_nil)) Tab.ok_nil)) MfT16
def MfE17 : Ent := ⟨31, (.cons (.agg (avs [.nils, (.sl 38065 0 1 8 false)])) .nil), ⟨[MfO132, MfO133, MfO134, MfO135, MfO136, MfO137, MfO138, MfO139, MfO140], 38388⟩, (.bool true), ⟨[MfO132, MfO133, MfO134, MfO135, MfO136, MfO137, MfO138, MfO139, MfO140], 38823⟩⟩
theorem MfT17 : Ent.check Tryz.prog [] 990 MfE17 = true := by kernel_rfl
theorem MfK17 : MfE17.Ok Tryz.prog := Ent.ok_of mixed Tab.ok_nil MfT17
def MfE18 : Ent := ⟨134, (.cons (.ptr 38823 0) (.cons (.agg (avs [(nu 5), (.sl 38041 0 1 8 false), (.sl 38061 0 1 9 false), (nu 0), (nu 0), (nu 0), (.str 0 0), (nu 0), (nu 19)])) .nil)), ⟨[MfO132, MfO133, MfO134, MfO135, MfO136, MfO137, MfO138, MfO139, MfO140, MfO141, MfO142, MfO143, MfO144, MfO145, MfO146], 38971⟩, (nu 0), ⟨[MfO132, MfO133, MfO134, MfO135, MfO136, MfO137, MfO138, MfO139, MfO140, MfO147, MfO142, MfO148, MfO144, MfO145, MfO146, MfO149, MfO150, MfO151], 39844⟩⟩
theorem MfT18 : Ent.check Tryz.prog [] 990 MfE18 = true := by kernel_rfl
theorem MfK18 : MfE18.Ok Tryz.prog := Ent.ok_of mixed Tab.ok_nil MfT18
end Go.Proofs.YtpepepkfjimoeaaGreat

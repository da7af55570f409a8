/- Calls that were proved one by one: what the evaluator says. -/
import Derived.Test.YtdnblmideoknbaaGreatMaO
import Derived.Test.YtdnblmideoknbaaGreatProg
import Derived.ProofKit
import Derived.Test.YtdnblmideoknbaaGreatWeA
import Derived.Test.YtdnblmideoknbaaGreatMa0
import Derived.Test.YtdnblmideoknbaaGreatMa1
namespace Go.Proofs.YtdnblmideoknbaaGreat
open Go.Proofs.YtdnblmideoknbaaGreat.Ev
set_option maxRecDepth 100000

def MaE13 : Ent := ⟨329, (.cons (.ptr 51169 0) (.cons (nu 3) .nil)), ⟨[MaO0, MaO41], 56048⟩, (.agg (avs [(nu 35), (nu 0), (nu 0), (nu 0), (.str 3 7632240), (nu 0), (.sl 56345 0 1 8 false), (nu 100)])), ⟨[MaO0, MaO42, MaO43], 56355⟩⟩
theorem MaT13 [In4] : @Ent.check envGen Tryz.prog (@knownA envGen) [] 990 MaE13 = true := by kernel_rfl
theorem MaK13 [In4] : MaE13.Ok Tryz.prog Keep.none :=
  letI := envGen
  Ent.ok_of mixed (X := knownA) knownA_ok Tab.ok_nil MaT13
def MaE14 : Ent := ⟨121, (.cons (.ptr 51169 0) (.cons (nu 2) .nil)), ⟨[MaO0, MaO41], 56006⟩, (.agg (avs [(nu 1), (.sl 56592 0 1 8 true), .nils, (nu 0), (nu 0), (nu 0), (.str 0 0), (nu 0), (nu 100)])), ⟨[MaO0, MaO44, MaO43, MaO45], 56596⟩⟩
theorem MaT14 [In4] : @Ent.check envGen Tryz.prog (@knownA envGen) [(329, [MaE13])] 990 MaE14 = true := by kernel_rfl
theorem MaK14 [In4] : MaE14.Ok Tryz.prog Keep.none :=
  letI := envGen
  Ent.ok_of mixed (X := knownA) knownA_ok (Tab.ok_cons (f := 329) (Ent.ok_cons MaK13 Ent.ok_nil) Tab.ok_nil) MaT14
def MaE15 : Ent := ⟨329, (.cons (.ptr 51169 0) (.cons (nu 4) .nil)), ⟨[MaO0, MaO46], 56688⟩, (.agg (avs [(nu 3), (nu 0), (nu 0), (nu 0), (.str 0 0), (nu 0), (.sl 56979 0 2 8 true), (nu 112)])), ⟨[MaO0, MaO47, MaO48], 56984⟩⟩
theorem MaT15 [In4] : @Ent.check envGen Tryz.prog (@knownA envGen) [] 990 MaE15 = true := by kernel_rfl
theorem MaK15 [In4] : MaE15.Ok Tryz.prog Keep.none :=
  letI := envGen
  Ent.ok_of mixed (X := knownA) knownA_ok Tab.ok_nil MaT15
def MaE16 : Ent := ⟨302, (.cons (.ptr 51169 0) (.cons (nu 3) .nil)), ⟨[MaO0, MaO44], 56628⟩, (.agg (avs [(nu 35), (nu 0), (nu 0), (nu 0), (.str 3 7632240), (nu 0), (.sl 57221 0 1 8 false), (nu 107)])), ⟨[MaO0, MaO49, MaO48, MaO50], 57231⟩⟩
theorem MaT16 [In4] : @Ent.check envGen Tryz.prog (@knownA envGen) [(329, [MaE15])] 990 MaE16 = true := by kernel_rfl
theorem MaK16 [In4] : MaE16.Ok Tryz.prog Keep.none :=
  letI := envGen
  Ent.ok_of mixed (X := knownA) knownA_ok (Tab.ok_cons (f := 329) (Ent.ok_cons MaK15 Ent.ok_nil) Tab.ok_nil) MaT16
def MaE17 : Ent := ⟨121, (.cons (.ptr 51169 0) (.cons (nu 2) .nil)), ⟨[MaO0, MaO51], 57475⟩, (.agg (avs [(nu 13), (.sl 57768 0 1 8 true), .nils, (nu 0), (nu 0), (nu 0), (.str 0 0), (nu 0), (nu 117)])), ⟨[MaO0, MaO52, MaO53], 57772⟩⟩
theorem MaT17 [In4] : @Ent.check envGen Tryz.prog (@knownA envGen) [] 990 MaE17 = true := by kernel_rfl
theorem MaK17 [In4] : MaE17.Ok Tryz.prog Keep.none :=
  letI := envGen
  Ent.ok_of mixed (X := knownA) knownA_ok Tab.ok_nil MaT17
def MaE18 : Ent := ⟨80, (.cons (.ptr 51169 0) (.cons (nu 1) .nil)), ⟨[MaO0, MaO54], 51199⟩, (.sl 57773 0 10 9 false), ⟨[MaO0, MaO55, MaO3, MaO5, MaO8, MaO11, MaO21, MaO22, MaO17, MaO18, MaO14, MaO15, MaO19, MaO23, MaO24, MaO27, MaO29, MaO56, MaO32, MaO57, MaO35, MaO36, MaO37, MaO38, MaO40, MaO58, MaO59, MaO43, MaO45, MaO48, MaO50, MaO60, MaO53, MaO61], 57778⟩⟩
theorem MaT18 [In4] : @Ent.check envGen Tryz.prog (@knownA envGen) [(121, [MaE1, MaE2, MaE7, MaE14, MaE17]), (263, [MaE9, MaE10]), (162, [MaE12]), (302, [MaE16])] 990 MaE18 = true := by kernel_rfl
theorem MaK18 [In4] : MaE18.Ok Tryz.prog Keep.none :=
  letI := envGen
  Ent.ok_of mixed (X := knownA) knownA_ok (Tab.ok_cons (f := 121) (Ent.ok_cons MaK1 (Ent.ok_cons MaK2 (Ent.ok_cons MaK7 (Ent.ok_cons MaK14 (Ent.ok_cons MaK17 Ent.ok_nil))))) (Tab.ok_cons (f := 263) (Ent.ok_cons MaK9 (Ent.ok_cons MaK10 Ent.ok_nil)) (Tab.ok_cons (f := 162) (Ent.ok_cons MaK12 Ent.ok_nil) (Tab.ok_cons (f := 302) (Ent.ok_cons MaK16 Ent.ok_nil) Tab.ok_nil)))) MaT18
def MaE19 : Ent := ⟨170, (.cons (.ptr 58075 0) (.cons (.ptr 58072 36) .nil)), ⟨[MaO62, MaO63, MaO64, MaO65, MaO66, MaO67, MaO68, MaO69, MaO70, MaO71, MaO72, MaO73, MaO74, MaO75, MaO76, MaO77, MaO78, MaO79, MaO80, MaO81, MaO82, MaO83, MaO84, MaO85, MaO86, MaO87, MaO88, MaO89, MaO90, MaO91, MaO92, MaO93, MaO94, MaO95, MaO96, MaO97, MaO98], 58616⟩, (.tup (avs [])), ⟨[MaO62, MaO63, MaO99, MaO100, MaO101, MaO102, MaO103, MaO104, MaO105, MaO106, MaO107, MaO108, MaO74, MaO75, MaO76, MaO77, MaO78, MaO79, MaO80, MaO81, MaO82, MaO83, MaO84, MaO85, MaO86, MaO87, MaO88, MaO89, MaO90, MaO91, MaO92, MaO93, MaO94, MaO109, MaO96, MaO97, MaO98], 59292⟩⟩
theorem MaT19 [In4] : @Ent.check envGen Tryz.prog (@knownA envGen) [] 990 MaE19 = true := by kernel_rfl
theorem MaK19 [In4] : MaE19.Ok Tryz.prog Keep.none :=
  letI := envGen
  Ent.ok_of mixed (X := knownA) knownA_ok Tab.ok_nil MaT19
def MaE20 : Ent := ⟨125, (.cons (.ptr 58075 0) (.cons (.ptr 58020 0) .nil)), ⟨[MaO62, MaO63, MaO99, MaO100, MaO101, MaO102, MaO103, MaO104, MaO105, MaO106, MaO107, MaO108, MaO74, MaO110, MaO111, MaO112, MaO113, MaO114, MaO80, MaO81, MaO82, MaO83, MaO84, MaO85, MaO86, MaO87, MaO88, MaO89, MaO90, MaO91, MaO92, MaO93, MaO94, MaO115, MaO96, MaO97, MaO98], 59790⟩, (.tup (avs [])), ⟨[MaO62, MaO63, MaO99, MaO100, MaO101, MaO102, MaO103, MaO104, MaO105, MaO106, MaO107, MaO108, MaO74, MaO110, MaO111, MaO112, MaO113, MaO114, MaO116, MaO117, MaO118, MaO119, MaO120, MaO121, MaO86, MaO87, MaO88, MaO89, MaO90, MaO91, MaO92, MaO93, MaO94, MaO122, MaO96, MaO97, MaO98], 60248⟩⟩
theorem MaT20 [In4] : @Ent.check envGen Tryz.prog (@knownA envGen) [] 990 MaE20 = true := by kernel_rfl
theorem MaK20 [In4] : MaE20.Ok Tryz.prog Keep.none :=
  letI := envGen
  Ent.ok_of mixed (X := knownA) knownA_ok Tab.ok_nil MaT20
def MaE21 : Ent := ⟨92, (.cons (.ptr 58075 0) (.cons (.sl 58072 0 10 9 false) .nil)), ⟨[MaO123, MaO124, MaO64, MaO65, MaO66, MaO67, MaO68, MaO69, MaO70, MaO71, MaO72, MaO73, MaO74, MaO75, MaO76, MaO77, MaO78, MaO79, MaO80, MaO81, MaO82, MaO83, MaO84, MaO85, MaO86, MaO87, MaO88, MaO89, MaO90, MaO91, MaO92, MaO125, MaO126, MaO127, MaO128], 58103⟩, (.tup (avs [])), ⟨[MaO62, MaO63, MaO99, MaO100, MaO101, MaO102, MaO103, MaO104, MaO105, MaO106, MaO107, MaO108, MaO74, MaO110, MaO111, MaO112, MaO113, MaO114, MaO116, MaO117, MaO118, MaO119, MaO120, MaO121, MaO86, MaO129, MaO130, MaO131, MaO132, MaO133, MaO134, MaO93, MaO94, MaO135, MaO96, MaO97, MaO98], 60618⟩⟩
theorem MaT21 [In4] : @Ent.check envGen Tryz.prog (@knownA envGen) [(170, [MaE19]), (125, [MaE20])] 990 MaE21 = true := by kernel_rfl
theorem MaK21 [In4] : MaE21.Ok Tryz.prog Keep.none :=
  letI := envGen
  Ent.ok_of mixed (X := knownA) knownA_ok (Tab.ok_cons (f := 170) (Ent.ok_cons MaK19 Ent.ok_nil) (Tab.ok_cons (f := 125) (Ent.ok_cons MaK20 Ent.ok_nil) Tab.ok_nil)) MaT21
def MaE22 : Ent := ⟨24, (.cons (.agg (avs [.nils, (.sl 57791 0 1 8 false)])) .nil), ⟨[MaO3, MaO5, MaO8, MaO11, MaO21, MaO22, MaO17, MaO18, MaO14, MaO15, MaO19, MaO23, MaO24, MaO27, MaO29, MaO56, MaO32, MaO57, MaO35, MaO36, MaO37, MaO38, MaO40, MaO58, MaO59, MaO43, MaO45, MaO48, MaO50, MaO60, MaO53, MaO61, MaO136], 57794⟩, (.tup (avs [(.agg (avs [.nils, (.sl 58074 0 1 8 false)])), (.agg (avs [(nu 0), (nu 0)]))])), ⟨[MaO3, MaO5, MaO8, MaO11, MaO21, MaO22, MaO17, MaO18, MaO14, MaO15, MaO19, MaO23, MaO24, MaO27, MaO29, MaO56, MaO32, MaO57, MaO35, MaO36, MaO37, MaO38, MaO40, MaO58, MaO59, MaO43, MaO45, MaO48, MaO50, MaO60, MaO53, MaO61, MaO136, MaO62, MaO63, MaO99, MaO100, MaO101, MaO102, MaO103, MaO104, MaO105, MaO106, MaO107, MaO108, MaO74, MaO110, MaO111, MaO112, MaO113, MaO114, MaO116, MaO117, MaO118, MaO119, MaO120, MaO121, MaO86, MaO129, MaO130, MaO131, MaO132, MaO133, MaO134, MaO93, MaO94, MaO98], 60630⟩⟩
theorem MaT22 [In4] : @Ent.check envGen Tryz.prog (@knownA envGen) [(92, [MaE21])] 990 MaE22 = true := by kernel_rfl
theorem MaK22 [In4] : MaE22.Ok Tryz.prog Keep.none :=
  letI := envGen
  Ent.ok_of mixed (X := knownA) knownA_ok (Tab.ok_cons (f := 92) (Ent.ok_cons MaK21 Ent.ok_nil) Tab.ok_nil) MaT22
def MaE23 : Ent := ⟨14, (.cons (.sstr (avs [(.int .u8 105), (.int .u8 110), (.int .u8 116), (.int .u8 32), (.int .u8 109), (.int .u8 97), (.int .u8 105), (.int .u8 110), (.int .u8 40), (.int .u8 41), (.int .u8 123), (.int .u8 105), (.int .u8 110), (.int .u8 116), (.int .u8 32), (.int .u8 97), (.int .u8 91), (.sym .u8 (.lin 48 [(0, 1)])), (.int .u8 93), (.int .u8 59), (.int .u8 105), (.int .u8 110), (.int .u8 116), (.int .u8 32), (.int .u8 105), (.int .u8 59), (.int .u8 105), (.int .u8 110), (.int .u8 116), (.int .u8 32), (.int .u8 115), (.int .u8 61), (.int .u8 48), (.int .u8 59), (.int .u8 105), (.int .u8 110), (.int .u8 116), (.int .u8 42), (.int .u8 112), (.int .u8 61), (.int .u8 97), (.int .u8 59), (.int .u8 102), (.int .u8 111), (.int .u8 114), (.int .u8 40), (.int .u8 105), (.int .u8 61), (.int .u8 48), (.int .u8 59), (.int .u8 105), (.int .u8 60), (.sym .u8 (.lin 48 [(0, 1)])), (.int .u8 59), (.int .u8 105), (.int .u8 43), (.int .u8 43), (.int .u8 41), (.int .u8 42), (.int .u8 112), (.int .u8 43), (.int .u8 43), (.int .u8 61), (.int .u8 105), (.int .u8 42), (.sym .u8 (.lin 48 [(2, 1)])), (.int .u8 43), (.sym .u8 (.lin 48 [(3, 1)])), (.int .u8 59), (.int .u8 112), (.int .u8 117), (.int .u8 116), (.int .u8 40), (.int .u8 112), (.int .u8 45), (.int .u8 97), (.int .u8 41), (.int .u8 59), (.int .u8 119), (.int .u8 104), (.int .u8 105), (.int .u8 108), (.int .u8 101), (.int .u8 40), (.int .u8 112), (.int .u8 33), (.int .u8 61), (.int .u8 97), (.int .u8 41), (.int .u8 115), (.int .u8 61), (.int .u8 115), (.int .u8 42), (.int .u8 51), (.int .u8 43), (.int .u8 42), (.int .u8 45), (.int .u8 45), (.int .u8 112), (.int .u8 59), (.int .u8 112), (.int .u8 117), (.int .u8 116), (.int .u8 40), (.int .u8 115), (.int .u8 41), (.int .u8 59), (.int .u8 112), (.int .u8 117), (.int .u8 116), (.int .u8 40), (.int .u8 112), (.int .u8 91), (.sym .u8 (.lin 48 [(1, 1)])), (.int .u8 93), (.int .u8 41), (.int .u8 59), (.int .u8 114), (.int .u8 101), (.int .u8 116), (.int .u8 117), (.int .u8 114), (.int .u8 110), (.int .u8 32), (.int .u8 48), (.int .u8 59), (.int .u8 125)])) .nil), ⟨[], 64⟩, (.tup (avs [(.agg (avs [.nils, (.sl 58074 0 1 8 false)])), (.bool true)])), ⟨[MaO62, MaO63, MaO99, MaO100, MaO101, MaO102, MaO103, MaO104, MaO105, MaO106, MaO107, MaO108, MaO74, MaO110, MaO111, MaO112, MaO113, MaO114, MaO116, MaO117, MaO118, MaO119, MaO120, MaO121, MaO86, MaO129, MaO130, MaO131, MaO132, MaO133, MaO134, MaO93, MaO94, MaO98], 60637⟩⟩
theorem MaT23 [In4] : @Ent.check envGen Tryz.prog (@knownA envGen) [(36, [MaE0]), (80, [MaE18]), (24, [MaE22])] 990 MaE23 = true := by kernel_rfl
theorem MaK23 [In4] : MaE23.Ok Tryz.prog Keep.none :=
  letI := envGen
  Ent.ok_of mixed (X := knownA) knownA_ok (Tab.ok_cons (f := 36) (Ent.ok_cons MaK0 Ent.ok_nil) (Tab.ok_cons (f := 80) (Ent.ok_cons MaK18 Ent.ok_nil) (Tab.ok_cons (f := 24) (Ent.ok_cons MaK22 Ent.ok_nil) Tab.ok_nil))) MaT23
end Go.Proofs.YtdnblmideoknbaaGreat

/- Calls that were proved one by one: what the evaluator says. -/
import Derived.Test.YtdnblmideoknbaaGreatLaO
import Derived.Test.YtdnblmideoknbaaGreatProg
import Derived.ProofKit
import Derived.Test.YtdnblmideoknbaaGreatWeA
import Derived.Test.YtdnblmideoknbaaGreatLa0
import Derived.Test.YtdnblmideoknbaaGreatLa1
namespace Go.Proofs.YtdnblmideoknbaaGreat
open Go.Proofs.YtdnblmideoknbaaGreat.Ev
set_option maxRecDepth 100000

def LaE13 : Ent := ⟨329, (.cons (.ptr 51169 0) (.cons (nu 3) .nil)), ⟨[LaO0, LaO41], 56048⟩, (.agg (avs [(nu 35), (nu 0), (nu 0), (nu 0), (.str 3 7632240), (nu 0), (.sl 56345 0 1 8 false), (nu 100)])), ⟨[LaO0, LaO42, LaO43], 56355⟩⟩
theorem LaT13 [In4] : @Ent.check envGen Tryz.prog (@knownA envGen) [] 990 LaE13 = true := by kernel_rfl
theorem LaK13 [In4] : LaE13.Ok Tryz.prog Keep.none :=
  letI := envGen
  Ent.ok_of mixed (X := knownA) knownA_ok Tab.ok_nil LaT13
def LaE14 : Ent := ⟨121, (.cons (.ptr 51169 0) (.cons (nu 2) .nil)), ⟨[LaO0, LaO41], 56006⟩, (.agg (avs [(nu 1), (.sl 56592 0 1 8 true), .nils, (nu 0), (nu 0), (nu 0), (.str 0 0), (nu 0), (nu 100)])), ⟨[LaO0, LaO44, LaO43, LaO45], 56596⟩⟩
theorem LaT14 [In4] : @Ent.check envGen Tryz.prog (@knownA envGen) [(329, [LaE13])] 990 LaE14 = true := by kernel_rfl
theorem LaK14 [In4] : LaE14.Ok Tryz.prog Keep.none :=
  letI := envGen
  Ent.ok_of mixed (X := knownA) knownA_ok (Tab.ok_cons (f := 329) (Ent.ok_cons LaK13 Ent.ok_nil) Tab.ok_nil) LaT14
def LaE15 : Ent := ⟨329, (.cons (.ptr 51169 0) (.cons (nu 4) .nil)), ⟨[LaO0, LaO46], 56688⟩, (.agg (avs [(nu 3), (nu 0), (nu 0), (nu 0), (.str 0 0), (nu 0), (.sl 56979 0 2 8 true), (nu 112)])), ⟨[LaO0, LaO47, LaO48], 56984⟩⟩
theorem LaT15 [In4] : @Ent.check envGen Tryz.prog (@knownA envGen) [] 990 LaE15 = true := by kernel_rfl
theorem LaK15 [In4] : LaE15.Ok Tryz.prog Keep.none :=
  letI := envGen
  Ent.ok_of mixed (X := knownA) knownA_ok Tab.ok_nil LaT15
def LaE16 : Ent := ⟨302, (.cons (.ptr 51169 0) (.cons (nu 3) .nil)), ⟨[LaO0, LaO44], 56628⟩, (.agg (avs [(nu 35), (nu 0), (nu 0), (nu 0), (.str 3 7632240), (nu 0), (.sl 57221 0 1 8 false), (nu 107)])), ⟨[LaO0, LaO49, LaO48, LaO50], 57231⟩⟩
theorem LaT16 [In4] : @Ent.check envGen Tryz.prog (@knownA envGen) [(329, [LaE15])] 990 LaE16 = true := by kernel_rfl
theorem LaK16 [In4] : LaE16.Ok Tryz.prog Keep.none :=
  letI := envGen
  Ent.ok_of mixed (X := knownA) knownA_ok (Tab.ok_cons (f := 329) (Ent.ok_cons LaK15 Ent.ok_nil) Tab.ok_nil) LaT16
def LaE17 : Ent := ⟨121, (.cons (.ptr 51169 0) (.cons (nu 2) .nil)), ⟨[LaO0, LaO51], 57475⟩, (.agg (avs [(nu 13), (.sl 57768 0 1 8 true), .nils, (nu 0), (nu 0), (nu 0), (.str 0 0), (nu 0), (nu 117)])), ⟨[LaO0, LaO52, LaO53], 57772⟩⟩
theorem LaT17 [In4] : @Ent.check envGen Tryz.prog (@knownA envGen) [] 990 LaE17 = true := by kernel_rfl
theorem LaK17 [In4] : LaE17.Ok Tryz.prog Keep.none :=
  letI := envGen
  Ent.ok_of mixed (X := knownA) knownA_ok Tab.ok_nil LaT17
def LaE18 : Ent := ⟨80, (.cons (.ptr 51169 0) (.cons (nu 1) .nil)), ⟨[LaO0, LaO54], 51199⟩, (.sl 57773 0 10 9 false), ⟨[LaO0, LaO55, LaO3, LaO5, LaO8, LaO11, LaO21, LaO22, LaO17, LaO18, LaO14, LaO15, LaO19, LaO23, LaO24, LaO27, LaO29, LaO56, LaO32, LaO57, LaO35, LaO36, LaO37, LaO38, LaO40, LaO58, LaO59, LaO43, LaO45, LaO48, LaO50, LaO60, LaO53, LaO61], 57778⟩⟩
theorem LaT18 [In4] : @Ent.check envGen Tryz.prog (@knownA envGen) [(121, [LaE1, LaE2, LaE7, LaE14, LaE17]), (263, [LaE9, LaE10]), (162, [LaE12]), (302, [LaE16])] 990 LaE18 = true := by kernel_rfl
theorem LaK18 [In4] : LaE18.Ok Tryz.prog Keep.none :=
  letI := envGen
  Ent.ok_of mixed (X := knownA) knownA_ok (Tab.ok_cons (f := 121) (Ent.ok_cons LaK1 (Ent.ok_cons LaK2 (Ent.ok_cons LaK7 (Ent.ok_cons LaK14 (Ent.ok_cons LaK17 Ent.ok_nil))))) (Tab.ok_cons (f := 263) (Ent.ok_cons LaK9 (Ent.ok_cons LaK10 Ent.ok_nil)) (Tab.ok_cons (f := 162) (Ent.ok_cons LaK12 Ent.ok_nil) (Tab.ok_cons (f := 302) (Ent.ok_cons LaK16 Ent.ok_nil) Tab.ok_nil)))) LaT18
def LaE19 : Ent := ⟨170, (.cons (.ptr 58075 0) (.cons (.ptr 58072 36) .nil)), ⟨[LaO62, LaO63, LaO64, LaO65, LaO66, LaO67, LaO68, LaO69, LaO70, LaO71, LaO72, LaO73, LaO74, LaO75, LaO76, LaO77, LaO78, LaO79, LaO80, LaO81, LaO82, LaO83, LaO84, LaO85, LaO86, LaO87, LaO88, LaO89, LaO90, LaO91, LaO92, LaO93, LaO94, LaO95, LaO96, LaO97, LaO98], 58616⟩, (.tup (avs [])), ⟨[LaO62, LaO63, LaO99, LaO100, LaO101, LaO102, LaO103, LaO104, LaO105, LaO106, LaO107, LaO108, LaO74, LaO75, LaO76, LaO77, LaO78, LaO79, LaO80, LaO81, LaO82, LaO83, LaO84, LaO85, LaO86, LaO87, LaO88, LaO89, LaO90, LaO91, LaO92, LaO93, LaO94, LaO109, LaO96, LaO97, LaO98], 59292⟩⟩
theorem LaT19 [In4] : @Ent.check envGen Tryz.prog (@knownA envGen) [] 990 LaE19 = true := by kernel_rfl
theorem LaK19 [In4] : LaE19.Ok Tryz.prog Keep.none :=
  letI := envGen
  Ent.ok_of mixed (X := knownA) knownA_ok Tab.ok_nil LaT19
def LaE20 : Ent := ⟨125, (.cons (.ptr 58075 0) (.cons (.ptr 58020 0) .nil)), ⟨[LaO62, LaO63, LaO99, LaO100, LaO101, LaO102, LaO103, LaO104, LaO105, LaO106, LaO107, LaO108, LaO74, LaO110, LaO111, LaO112, LaO113, LaO114, LaO80, LaO81, LaO82, LaO83, LaO84, LaO85, LaO86, LaO87, LaO88, LaO89, LaO90, LaO91, LaO92, LaO93, LaO94, LaO115, LaO96, LaO97, LaO98], 59790⟩, (.tup (avs [])), ⟨[LaO62, LaO63, LaO99, LaO100, LaO101, LaO102, LaO103, LaO104, LaO105, LaO106, LaO107, LaO108, LaO74, LaO110, LaO111, LaO112, LaO113, LaO114, LaO116, LaO117, LaO118, LaO119, LaO120, LaO121, LaO86, LaO87, LaO88, LaO89, LaO90, LaO91, LaO92, LaO93, LaO94, LaO122, LaO96, LaO97, LaO98], 60248⟩⟩
theorem LaT20 [In4] : @Ent.check envGen Tryz.prog (@knownA envGen) [] 990 LaE20 = true := by kernel_rfl
theorem LaK20 [In4] : LaE20.Ok Tryz.prog Keep.none :=
  letI := envGen
  Ent.ok_of mixed (X := knownA) knownA_ok Tab.ok_nil LaT20
def LaE21 : Ent := ⟨92, (.cons (.ptr 58075 0) (.cons (.sl 58072 0 10 9 false) .nil)), ⟨[LaO123, LaO124, LaO64, LaO65, LaO66, LaO67, LaO68, LaO69, LaO70, LaO71, LaO72, LaO73, LaO74, LaO75, LaO76, LaO77, LaO78, LaO79, LaO80, LaO81, LaO82, LaO83, LaO84, LaO85, LaO86, LaO87, LaO88, LaO89, LaO90, LaO91, LaO92, LaO125, LaO126, LaO127, LaO128], 58103⟩, (.tup (avs [])), ⟨[LaO62, LaO63, LaO99, LaO100, LaO101, LaO102, LaO103, LaO104, LaO105, LaO106, LaO107, LaO108, LaO74, LaO110, LaO111, LaO112, LaO113, LaO114, LaO116, LaO117, LaO118, LaO119, LaO120, LaO121, LaO86, LaO129, LaO130, LaO131, LaO132, LaO133, LaO134, LaO93, LaO94, LaO135, LaO96, LaO97, LaO98], 60618⟩⟩
theorem LaT21 [In4] : @Ent.check envGen Tryz.prog (@knownA envGen) [(170, [LaE19]), (125, [LaE20])] 990 LaE21 = true := by kernel_rfl
theorem LaK21 [In4] : LaE21.Ok Tryz.prog Keep.none :=
  letI := envGen
  Ent.ok_of mixed (X := knownA) knownA_ok (Tab.ok_cons (f := 170) (Ent.ok_cons LaK19 Ent.ok_nil) (Tab.ok_cons (f := 125) (Ent.ok_cons LaK20 Ent.ok_nil) Tab.ok_nil)) LaT21
def LaE22 : Ent := ⟨24, (.cons (.agg (avs [.nils, (.sl 57791 0 1 8 false)])) .nil), ⟨[LaO3, LaO5, LaO8, LaO11, LaO21, LaO22, LaO17, LaO18, LaO14, LaO15, LaO19, LaO23, LaO24, LaO27, LaO29, LaO56, LaO32, LaO57, LaO35, LaO36, LaO37, LaO38, LaO40, LaO58, LaO59, LaO43, LaO45, LaO48, LaO50, LaO60, LaO53, LaO61, LaO136], 57794⟩, (.tup (avs [(.agg (avs [.nils, (.sl 58074 0 1 8 false)])), (.agg (avs [(nu 0), (nu 0)]))])), ⟨[LaO3, LaO5, LaO8, LaO11, LaO21, LaO22, LaO17, LaO18, LaO14, LaO15, LaO19, LaO23, LaO24, LaO27, LaO29, LaO56, LaO32, LaO57, LaO35, LaO36, LaO37, LaO38, LaO40, LaO58, LaO59, LaO43, LaO45, LaO48, LaO50, LaO60, LaO53, LaO61, LaO136, LaO62, LaO63, LaO99, LaO100, LaO101, LaO102, LaO103, LaO104, LaO105, LaO106, LaO107, LaO108, LaO74, LaO110, LaO111, LaO112, LaO113, LaO114, LaO116, LaO117, LaO118, LaO119, LaO120, LaO121, LaO86, LaO129, LaO130, LaO131, LaO132, LaO133, LaO134, LaO93, LaO94, LaO98], 60630⟩⟩
theorem LaT22 [In4] : @Ent.check envGen Tryz.prog (@knownA envGen) [(92, [LaE21])] 990 LaE22 = true := by kernel_rfl
theorem LaK22 [In4] : LaE22.Ok Tryz.prog Keep.none :=
  letI := envGen
  Ent.ok_of mixed (X := knownA) knownA_ok (Tab.ok_cons (f := 92) (Ent.ok_cons LaK21 Ent.ok_nil) Tab.ok_nil) LaT22
def LaE23 : Ent := ⟨14, (.cons (.sstr (avs [(.int .u8 105), (.int .u8 110), (.int .u8 116), (.int .u8 32), (.int .u8 109), (.int .u8 97), (.int .u8 105), (.int .u8 110), (.int .u8 40), (.int .u8 41), (.int .u8 123), (.int .u8 105), (.int .u8 110), (.int .u8 116), (.int .u8 32), (.int .u8 97), (.int .u8 91), (.sym .u8 (.lin 48 [(0, 1)])), (.int .u8 93), (.int .u8 59), (.int .u8 105), (.int .u8 110), (.int .u8 116), (.int .u8 32), (.int .u8 105), (.int .u8 59), (.int .u8 105), (.int .u8 110), (.int .u8 116), (.int .u8 32), (.int .u8 115), (.int .u8 61), (.int .u8 48), (.int .u8 59), (.int .u8 105), (.int .u8 110), (.int .u8 116), (.int .u8 42), (.int .u8 112), (.int .u8 61), (.int .u8 97), (.int .u8 59), (.int .u8 102), (.int .u8 111), (.int .u8 114), (.int .u8 40), (.int .u8 105), (.int .u8 61), (.int .u8 48), (.int .u8 59), (.int .u8 105), (.int .u8 60), (.sym .u8 (.lin 48 [(0, 1)])), (.int .u8 59), (.int .u8 105), (.int .u8 43), (.int .u8 43), (.int .u8 41), (.int .u8 42), (.int .u8 112), (.int .u8 43), (.int .u8 43), (.int .u8 61), (.int .u8 105), (.int .u8 42), (.sym .u8 (.lin 48 [(2, 1)])), (.int .u8 43), (.sym .u8 (.lin 48 [(3, 1)])), (.int .u8 59), (.int .u8 112), (.int .u8 117), (.int .u8 116), (.int .u8 40), (.int .u8 112), (.int .u8 45), (.int .u8 97), (.int .u8 41), (.int .u8 59), (.int .u8 119), (.int .u8 104), (.int .u8 105), (.int .u8 108), (.int .u8 101), (.int .u8 40), (.int .u8 112), (.int .u8 33), (.int .u8 61), (.int .u8 97), (.int .u8 41), (.int .u8 115), (.int .u8 61), (.int .u8 115), (.int .u8 42), (.int .u8 51), (.int .u8 43), (.int .u8 42), (.int .u8 45), (.int .u8 45), (.int .u8 112), (.int .u8 59), (.int .u8 112), (.int .u8 117), (.int .u8 116), (.int .u8 40), (.int .u8 115), (.int .u8 41), (.int .u8 59), (.int .u8 112), (.int .u8 117), (.int .u8 116), (.int .u8 40), (.int .u8 112), (.int .u8 91), (.sym .u8 (.lin 48 [(1, 1)])), (.int .u8 93), (.int .u8 41), (.int .u8 59), (.int .u8 114), (.int .u8 101), (.int .u8 116), (.int .u8 117), (.int .u8 114), (.int .u8 110), (.int .u8 32), (.int .u8 48), (.int .u8 59), (.int .u8 125)])) .nil), ⟨[], 64⟩, (.tup (avs [(.agg (avs [.nils, (.sl 58074 0 1 8 false)])), (.bool true)])), ⟨[LaO62, LaO63, LaO99, LaO100, LaO101, LaO102, LaO103, LaO104, LaO105, LaO106, LaO107, LaO108, LaO74, LaO110, LaO111, LaO112, LaO113, LaO114, LaO116, LaO117, LaO118, LaO119, LaO120, LaO121, LaO86, LaO129, LaO130, LaO131, LaO132, LaO133, LaO134, LaO93, LaO94, LaO98], 60637⟩⟩
theorem LaT23 [In4] : @Ent.check envGen Tryz.prog (@knownA envGen) [(36, [LaE0]), (80, [LaE18]), (24, [LaE22])] 990 LaE23 = true := by kernel_rfl
theorem LaK23 [In4] : LaE23.Ok Tryz.prog Keep.none :=
  letI := envGen
  Ent.ok_of mixed (X := knownA) knownA_ok (Tab.ok_cons (f := 36) (Ent.ok_cons LaK0 Ent.ok_nil) (Tab.ok_cons (f := 80) (Ent.ok_cons LaK18 Ent.ok_nil) (Tab.ok_cons (f := 24) (Ent.ok_cons LaK22 Ent.ok_nil) Tab.ok_nil))) LaT23
end Go.Proofs.YtdnblmideoknbaaGreat

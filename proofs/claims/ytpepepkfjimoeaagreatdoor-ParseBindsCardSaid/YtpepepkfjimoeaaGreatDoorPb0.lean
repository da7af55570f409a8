/- Calls that were proved one by one: what the evaluator says. -/
import Derived.Test.YtpepepkfjimoeaaGreatDoorPbO
import Derived.Test.YtpepepkfjimoeaaGreatDoorProg
import Derived.ProofKit
import Derived.Test.YtpepepkfjimoeaaGreatDoorVy
namespace Go.Proofs.YtpepepkfjimoeaaGreatDoor
open Go.Proofs.YtpepepkfjimoeaaGreatDoor.Ev
set_option maxRecDepth 100000

def PbE0 : Ent := ⟨15, (.cons (.str 18 PbS0) .nil), ⟨[], 4⟩, (.tup (avs [(.sl 99 0 13 4 false), (.agg (avs [(nu 0), (nu 0)]))])), ⟨[PbO0], 100⟩⟩
theorem PbT0 : Ent.check Tryz.prog known [] 990 PbE0 = true := by kernel_rfl
theorem PbK0 {W : World} (hW : LibW W) : PbE0.Ok Tryz.prog (KG W) := Ent.ok_of mixed (known_ok hW) Tab.ok_nil PbT0
def PbE1 : Ent := ⟨161, (.cons (.ptr 101 0) (.cons (nu 3) (.cons (nu 8) .nil))), ⟨[PbO0, PbO1], 498⟩, (.agg (avs [(nu 18), (nu 0), (nu 0), (nu 0), (.str 0 0), (nu 0), (.sl 734 0 2 8 true), (nu 12)])), ⟨[PbO0, PbO2, PbO3, PbO4], 1150⟩⟩
theorem PbT1 : Ent.check Tryz.prog known [] 990 PbE1 = true := by kernel_rfl
theorem PbK1 {W : World} (hW : LibW W) : PbE1.Ok Tryz.prog (KG W) := Ent.ok_of mixed (known_ok hW) Tab.ok_nil PbT1
def PbE2 : Ent := ⟨161, (.cons (.ptr 101 0) (.cons (nu 3) (.cons (nu 3) .nil))), ⟨[PbO0, PbO1], 493⟩, (.agg (avs [(nu 18), (nu 0), (nu 0), (nu 0), (.str 0 0), (nu 0), (.sl 734 0 2 8 true), (nu 12)])), ⟨[PbO0, PbO2, PbO3, PbO4], 1310⟩⟩
theorem PbT2 : Ent.check Tryz.prog known [(161, [PbE1])] 990 PbE2 = true := by kernel_rfl
theorem PbK2 {W : World} (hW : LibW W) : PbE2.Ok Tryz.prog (KG W) := Ent.ok_of mixed (known_ok hW) (Tab.ok_cons (f := 161) (Ent.ok_cons (PbK1 hW) Ent.ok_nil) Tab.ok_nil) PbT2
def PbE3 : Ent := ⟨119, (.cons (.ptr 101 0) (.cons (nu 3) .nil)), ⟨[PbO0, PbO1], 488⟩, (.agg (avs [(nu 18), (nu 0), (nu 0), (nu 0), (.str 0 0), (nu 0), (.sl 734 0 2 8 true), (nu 12)])), ⟨[PbO0, PbO2, PbO3, PbO4], 1448⟩⟩
theorem PbT3 : Ent.check Tryz.prog known [(161, [PbE2])] 990 PbE3 = true := by kernel_rfl
theorem PbK3 {W : World} (hW : LibW W) : PbE3.Ok Tryz.prog (KG W) := Ent.ok_of mixed (known_ok hW) (Tab.ok_cons (f := 161) (Ent.ok_cons (PbK2 hW) Ent.ok_nil) Tab.ok_nil) PbT3
def PbE4 : Ent := ⟨5, (.cons (.str 18 PbS0) .nil), ⟨[], 2⟩, (.tup (avs [(.agg (avs [.nils, (.sl 1529 0 1 8 false)])), (.agg (avs [(nu 0), (nu 0)]))])), ⟨[PbO3, PbO4, PbO5, PbO6, PbO7], 1542⟩⟩
theorem PbT4 : Ent.check Tryz.prog known [(15, [PbE0]), (119, [PbE3])] 990 PbE4 = true := by kernel_rfl
theorem PbK4 {W : World} (hW : LibW W) : PbE4.Ok Tryz.prog (KG W) := Ent.ok_of mixed (known_ok hW) (Tab.ok_cons (f := 15) (Ent.ok_cons (PbK0 hW) Ent.ok_nil) (Tab.ok_cons (f := 119) (Ent.ok_cons (PbK3 hW) Ent.ok_nil) Tab.ok_nil)) PbT4
def PbE5 : Ent := ⟨15, (.cons (.str 20 PbS1) .nil), ⟨[], 1546⟩, (.tup (avs [(.sl 1649 0 15 4 false), (.agg (avs [(nu 0), (nu 0)]))])), ⟨[PbO8], 1650⟩⟩
theorem PbT5 : Ent.check Tryz.prog known [] 990 PbE5 = true := by kernel_rfl
theorem PbK5 {W : World} (hW : LibW W) : PbE5.Ok Tryz.prog (KG W) := Ent.ok_of mixed (known_ok hW) Tab.ok_nil PbT5
def PbE6 : Ent := ⟨161, (.cons (.ptr 1651 0) (.cons (nu 4) (.cons (nu 8) .nil))), ⟨[PbO8, PbO9], 2405⟩, (.agg (avs [(nu 15), (nu 0), (nu 0), (nu 0), (.str 0 0), (nu 0), (.sl 2608 0 2 8 true), (nu 15)])), ⟨[PbO8, PbO10, PbO11], 2820⟩⟩
theorem PbT6 : Ent.check Tryz.prog known [] 990 PbE6 = true := by kernel_rfl
theorem PbK6 {W : World} (hW : LibW W) : PbE6.Ok Tryz.prog (KG W) := Ent.ok_of mixed (known_ok hW) Tab.ok_nil PbT6
def PbE7 : Ent := ⟨161, (.cons (.ptr 1651 0) (.cons (nu 4) (.cons (nu 3) .nil))), ⟨[PbO8, PbO9], 2400⟩, (.agg (avs [(nu 15), (nu 0), (nu 0), (nu 0), (.str 0 0), (nu 0), (.sl 2608 0 2 8 true), (nu 15)])), ⟨[PbO8, PbO10, PbO11], 2980⟩⟩
theorem PbT7 : Ent.check Tryz.prog known [(161, [PbE6])] 990 PbE7 = true := by kernel_rfl
theorem PbK7 {W : World} (hW : LibW W) : PbE7.Ok Tryz.prog (KG W) := Ent.ok_of mixed (known_ok hW) (Tab.ok_cons (f := 161) (Ent.ok_cons (PbK6 hW) Ent.ok_nil) Tab.ok_nil) PbT7
def PbE8 : Ent := ⟨119, (.cons (.ptr 1651 0) (.cons (nu 4) .nil)), ⟨[PbO8, PbO9], 2395⟩, (.agg (avs [(nu 15), (nu 0), (nu 0), (nu 0), (.str 0 0), (nu 0), (.sl 2608 0 2 8 true), (nu 15)])), ⟨[PbO8, PbO10, PbO11], 3118⟩⟩
theorem PbT8 : Ent.check Tryz.prog known [(161, [PbE7])] 990 PbE8 = true := by kernel_rfl
theorem PbK8 {W : World} (hW : LibW W) : PbE8.Ok Tryz.prog (KG W) := Ent.ok_of mixed (known_ok hW) (Tab.ok_cons (f := 161) (Ent.ok_cons (PbK7 hW) Ent.ok_nil) Tab.ok_nil) PbT8
def PbE9 : Ent := ⟨161, (.cons (.ptr 1651 0) (.cons (nu 3) (.cons (nu 8) .nil))), ⟨[PbO8, PbO12], 2048⟩, (.agg (avs [(nu 18), (nu 0), (nu 0), (nu 0), (.str 0 0), (nu 0), (.sl 2284 0 2 8 true), (nu 12)])), ⟨[PbO8, PbO13, PbO14, PbO11], 3263⟩⟩
theorem PbT9 : Ent.check Tryz.prog known [(119, [PbE8])] 990 PbE9 = true := by kernel_rfl
theorem PbK9 {W : World} (hW : LibW W) : PbE9.Ok Tryz.prog (KG W) := Ent.ok_of mixed (known_ok hW) (Tab.ok_cons (f := 119) (Ent.ok_cons (PbK8 hW) Ent.ok_nil) Tab.ok_nil) PbT9
def PbE10 : Ent := ⟨161, (.cons (.ptr 1651 0) (.cons (nu 3) (.cons (nu 3) .nil))), ⟨[PbO8, PbO12], 2043⟩, (.agg (avs [(nu 18), (nu 0), (nu 0), (nu 0), (.str 0 0), (nu 0), (.sl 2284 0 2 8 true), (nu 12)])), ⟨[PbO8, PbO13, PbO14, PbO11], 3423⟩⟩
theorem PbT10 : Ent.check Tryz.prog known [(161, [PbE9])] 990 PbE10 = true := by kernel_rfl
theorem PbK10 {W : World} (hW : LibW W) : PbE10.Ok Tryz.prog (KG W) := Ent.ok_of mixed (known_ok hW) (Tab.ok_cons (f := 161) (Ent.ok_cons (PbK9 hW) Ent.ok_nil) Tab.ok_nil) PbT10
def PbE11 : Ent := ⟨119, (.cons (.ptr 1651 0) (.cons (nu 3) .nil)), ⟨[PbO8, PbO12], 2038⟩, (.agg (avs [(nu 18), (nu 0), (nu 0), (nu 0), (.str 0 0), (nu 0), (.sl 2284 0 2 8 true), (nu 12)])), ⟨[PbO8, PbO13, PbO14, PbO11], 3561⟩⟩
theorem PbT11 : Ent.check Tryz.prog known [(161, [PbE10])] 990 PbE11 = true := by kernel_rfl
theorem PbK11 {W : World} (hW : LibW W) : PbE11.Ok Tryz.prog (KG W) := Ent.ok_of mixed (known_ok hW) (Tab.ok_cons (f := 161) (Ent.ok_cons (PbK10 hW) Ent.ok_nil) Tab.ok_nil) PbT11
def PbE12 : Ent := ⟨5, (.cons (.str 20 PbS1) .nil), ⟨[], 1544⟩, (.tup (avs [(.agg (avs [.nils, (.sl 3642 0 1 8 false)])), (.agg (avs [(nu 0), (nu 0)]))])), ⟨[PbO14, PbO11, PbO15, PbO16, PbO17], 3655⟩⟩
theorem PbT12 : Ent.check Tryz.prog known [(15, [PbE5]), (119, [PbE11])] 990 PbE12 = true := by kernel_rfl
theorem PbK12 {W : World} (hW : LibW W) : PbE12.Ok Tryz.prog (KG W) := Ent.ok_of mixed (known_ok hW) (Tab.ok_cons (f := 15) (Ent.ok_cons (PbK5 hW) Ent.ok_nil) (Tab.ok_cons (f := 119) (Ent.ok_cons (PbK11 hW) Ent.ok_nil) Tab.ok_nil)) PbT12
def PbE13 : Ent := ⟨15, (.cons (.str 18 PbS2) .nil), ⟨[], 3843⟩, (.tup (avs [(.sl 3938 0 13 4 false), (.agg (avs [(nu 0), (nu 0)]))])), ⟨[PbO18], 3939⟩⟩
theorem PbT13 : Ent.check Tryz.prog known [] 990 PbE13 = true := by kernel_rfl
theorem PbK13 {W : World} (hW : LibW W) : PbE13.Ok Tryz.prog (KG W) := Ent.ok_of mixed (known_ok hW) Tab.ok_nil PbT13
def PbE14 : Ent := ⟨161, (.cons (.ptr 3940 0) (.cons (nu 3) (.cons (nu 8) .nil))), ⟨[PbO18, PbO19], 4337⟩, (.agg (avs [(nu 19), (nu 0), (nu 0), (nu 0), (.str 0 0), (nu 0), (.sl 4810 0 2 8 true), (nu 14)])), ⟨[PbO18, PbO20, PbO21, PbO22], 5023⟩⟩
theorem PbT14 : Ent.check Tryz.prog known [] 990 PbE14 = true := by kernel_rfl
theorem PbK14 {W : World} (hW : LibW W) : PbE14.Ok Tryz.prog (KG W) := Ent.ok_of mixed (known_ok hW) Tab.ok_nil PbT14
def PbE15 : Ent := ⟨161, (.cons (.ptr 3940 0) (.cons (nu 3) (.cons (nu 3) .nil))), ⟨[PbO18, PbO19], 4332⟩, (.agg (avs [(nu 19), (nu 0), (nu 0), (nu 0), (.str 0 0), (nu 0), (.sl 4810 0 2 8 true), (nu 14)])), ⟨[PbO18, PbO20, PbO21, PbO22], 5183⟩⟩
theorem PbT15 : Ent.check Tryz.prog known [(161, [PbE14])] 990 PbE15 = true := by kernel_rfl
theorem PbK15 {W : World} (hW : LibW W) : PbE15.Ok Tryz.prog (KG W) := Ent.ok_of mixed (known_ok hW) (Tab.ok_cons (f := 161) (Ent.ok_cons (PbK14 hW) Ent.ok_nil) Tab.ok_nil) PbT15
def PbE16 : Ent := ⟨119, (.cons (.ptr 3940 0) (.cons (nu 3) .nil)), ⟨[PbO18, PbO19], 4327⟩, (.agg (avs [(nu 19), (nu 0), (nu 0), (nu 0), (.str 0 0), (nu 0), (.sl 4810 0 2 8 true), (nu 14)])), ⟨[PbO18, PbO20, PbO21, PbO22], 5321⟩⟩
theorem PbT16 : Ent.check Tryz.prog known [(161, [PbE15])] 990 PbE16 = true := by kernel_rfl
theorem PbK16 {W : World} (hW : LibW W) : PbE16.Ok Tryz.prog (KG W) := Ent.ok_of mixed (known_ok hW) (Tab.ok_cons (f := 161) (Ent.ok_cons (PbK15 hW) Ent.ok_nil) Tab.ok_nil) PbT16
def PbE17 : Ent := ⟨5, (.cons (.str 18 PbS2) .nil), ⟨[], 3841⟩, (.tup (avs [(.agg (avs [.nils, (.sl 5402 0 1 8 false)])), (.agg (avs [(nu 0), (nu 0)]))])), ⟨[PbO21, PbO22, PbO23, PbO24, PbO25], 5415⟩⟩
theorem PbT17 : Ent.check Tryz.prog known [(15, [PbE13]), (119, [PbE16])] 990 PbE17 = true := by kernel_rfl
theorem PbK17 {W : World} (hW : LibW W) : PbE17.Ok Tryz.prog (KG W) := Ent.ok_of mixed (known_ok hW) (Tab.ok_cons (f := 15) (Ent.ok_cons (PbK13 hW) Ent.ok_nil) (Tab.ok_cons (f := 119) (Ent.ok_cons (PbK16 hW) Ent.ok_nil) Tab.ok_nil)) PbT17
def PbE18 : Ent := ⟨15, (.cons (.str 20 PbS3) .nil), ⟨[], 5419⟩, (.tup (avs [(.sl 5522 0 15 4 false), (.agg (avs [(nu 0), (nu 0)]))])), ⟨[PbO26], 5523⟩⟩
theorem PbT18 : Ent.check Tryz.prog known [] 990 PbE18 = true := by kernel_rfl
theorem PbK18 {W : World} (hW : LibW W) : PbE18.Ok Tryz.prog (KG W) := Ent.ok_of mixed (known_ok hW) Tab.ok_nil PbT18
def PbE19 : Ent := ⟨161, (.cons (.ptr 5524 0) (.cons (nu 4) (.cons (nu 8) .nil))), ⟨[PbO26, PbO27], 6040⟩, (.agg (avs [(nu 19), (nu 0), (nu 0), (nu 0), (.str 0 0), (nu 0), (.sl 6276 0 2 8 true), (nu 13)])), ⟨[PbO26, PbO28, PbO29], 6489⟩⟩
theorem PbT19 : Ent.check Tryz.prog known [] 990 PbE19 = true := by kernel_rfl
theorem PbK19 {W : World} (hW : LibW W) : PbE19.Ok Tryz.prog (KG W) := Ent.ok_of mixed (known_ok hW) Tab.ok_nil PbT19
def PbE20 : Ent := ⟨161, (.cons (.ptr 5524 0) (.cons (nu 4) (.cons (nu 3) .nil))), ⟨[PbO26, PbO27], 6035⟩, (.agg (avs [(nu 19), (nu 0), (nu 0), (nu 0), (.str 0 0), (nu 0), (.sl 6276 0 2 8 true), (nu 13)])), ⟨[PbO26, PbO28, PbO29], 6649⟩⟩
theorem PbT20 : Ent.check Tryz.prog known [(161, [PbE19])] 990 PbE20 = true := by kernel_rfl
theorem PbK20 {W : World} (hW : LibW W) : PbE20.Ok Tryz.prog (KG W) := Ent.ok_of mixed (known_ok hW) (Tab.ok_cons (f := 161) (Ent.ok_cons (PbK19 hW) Ent.ok_nil) Tab.ok_nil) PbT20
def PbE21 : Ent := ⟨119, (.cons (.ptr 5524 0) (.cons (nu 4) .nil)), ⟨[PbO26, PbO27], 6030⟩, (.agg (avs [(nu 19), (nu 0), (nu 0), (nu 0), (.str 0 0), (nu 0), (.sl 6276 0 2 8 true), (nu 13)])), ⟨[PbO26, PbO28, PbO29], 6787⟩⟩
theorem PbT21 : Ent.check Tryz.prog known [(161, [PbE20])] 990 PbE21 = true := by kernel_rfl
theorem PbK21 {W : World} (hW : LibW W) : PbE21.Ok Tryz.prog (KG W) := Ent.ok_of mixed (known_ok hW) (Tab.ok_cons (f := 161) (Ent.ok_cons (PbK20 hW) Ent.ok_nil) Tab.ok_nil) PbT21
def PbE22 : Ent := ⟨161, (.cons (.ptr 5524 0) (.cons (nu 3) (.cons (nu 8) .nil))), ⟨[PbO26, PbO30], 5921⟩, (.agg (avs [(nu 19), (nu 0), (nu 0), (nu 0), (.str 0 0), (nu 0), (.sl 6957 0 2 8 true), (nu 16)])), ⟨[PbO26, PbO31, PbO29, PbO32], 7170⟩⟩
theorem PbT22 : Ent.check Tryz.prog known [(119, [PbE21])] 990 PbE22 = true := by kernel_rfl
theorem PbK22 {W : World} (hW : LibW W) : PbE22.Ok Tryz.prog (KG W) := Ent.ok_of mixed (known_ok hW) (Tab.ok_cons (f := 119) (Ent.ok_cons (PbK21 hW) Ent.ok_nil) Tab.ok_nil) PbT22
def PbE23 : Ent := ⟨161, (.cons (.ptr 5524 0) (.cons (nu 3) (.cons (nu 3) .nil))), ⟨[PbO26, PbO30], 5916⟩, (.agg (avs [(nu 19), (nu 0), (nu 0), (nu 0), (.str 0 0), (nu 0), (.sl 6957 0 2 8 true), (nu 16)])), ⟨[PbO26, PbO31, PbO29, PbO32], 7330⟩⟩
theorem PbT23 : Ent.check Tryz.prog known [(161, [PbE22])] 990 PbE23 = true := by kernel_rfl
theorem PbK23 {W : World} (hW : LibW W) : PbE23.Ok Tryz.prog (KG W) := Ent.ok_of mixed (known_ok hW) (Tab.ok_cons (f := 161) (Ent.ok_cons (PbK22 hW) Ent.ok_nil) Tab.ok_nil) PbT23
def PbE24 : Ent := ⟨119, (.cons (.ptr 5524 0) (.cons (nu 3) .nil)), ⟨[PbO26, PbO30], 5911⟩, (.agg (avs [(nu 19), (nu 0), (nu 0), (nu 0), (.str 0 0), (nu 0), (.sl 6957 0 2 8 true), (nu 16)])), ⟨[PbO26, PbO31, PbO29, PbO32], 7468⟩⟩
theorem PbT24 : Ent.check Tryz.prog known [(161, [PbE23])] 990 PbE24 = true := by kernel_rfl
theorem PbK24 {W : World} (hW : LibW W) : PbE24.Ok Tryz.prog (KG W) := Ent.ok_of mixed (known_ok hW) (Tab.ok_cons (f := 161) (Ent.ok_cons (PbK23 hW) Ent.ok_nil) Tab.ok_nil) PbT24
def PbE25 : Ent := ⟨5, (.cons (.str 20 PbS3) .nil), ⟨[], 5417⟩, (.tup (avs [(.agg (avs [.nils, (.sl 7549 0 1 8 false)])), (.agg (avs [(nu 0), (nu 0)]))])), ⟨[PbO29, PbO32, PbO33, PbO34, PbO35], 7562⟩⟩
theorem PbT25 : Ent.check Tryz.prog known [(15, [PbE18]), (119, [PbE24])] 990 PbE25 = true := by kernel_rfl
theorem PbK25 {W : World} (hW : LibW W) : PbE25.Ok Tryz.prog (KG W) := Ent.ok_of mixed (known_ok hW) (Tab.ok_cons (f := 15) (Ent.ok_cons (PbK18 hW) Ent.ok_nil) (Tab.ok_cons (f := 119) (Ent.ok_cons (PbK24 hW) Ent.ok_nil) Tab.ok_nil)) PbT25
def PbE26 : Ent := ⟨15, (.cons (.str 19 PbS4) .nil), ⟨[], 7750⟩, (.tup (avs [(.sl 7845 0 13 4 false), (.agg (avs [(nu 0), (nu 0)]))])), ⟨[PbO36], 7846⟩⟩
theorem PbT26 : Ent.check Tryz.prog known [] 990 PbE26 = true := by kernel_rfl
theorem PbK26 {W : World} (hW : LibW W) : PbE26.Ok Tryz.prog (KG W) := Ent.ok_of mixed (known_ok hW) Tab.ok_nil PbT26
def PbE27 : Ent := ⟨161, (.cons (.ptr 7847 0) (.cons (nu 3) (.cons (nu 6) .nil))), ⟨[PbO36, PbO37], 8242⟩, (.agg (avs [(nu 22), (nu 0), (nu 0), (nu 0), (.str 0 0), (nu 0), (.sl 8546 0 2 8 true), (nu 12)])), ⟨[PbO36, PbO38, PbO39], 8829⟩⟩
theorem PbT27 : Ent.check Tryz.prog known [] 990 PbE27 = true := by kernel_rfl
theorem PbK27 {W : World} (hW : LibW W) : PbE27.Ok Tryz.prog (KG W) := Ent.ok_of mixed (known_ok hW) Tab.ok_nil PbT27
def PbE28 : Ent := ⟨161, (.cons (.ptr 7847 0) (.cons (nu 3) (.cons (nu 6) .nil))), ⟨[PbO36, PbO40], 8887⟩, (.agg (avs [(nu 2), (nu 0), (nu 0), (nu 0), (.str 1 99), (nu 0), .nils, (nu 16)])), ⟨[PbO36, PbO41], 9165⟩⟩
theorem PbT28 : Ent.check Tryz.prog known [] 990 PbE28 = true := by kernel_rfl
theorem PbK28 {W : World} (hW : LibW W) : PbE28.Ok Tryz.prog (KG W) := Ent.ok_of mixed (known_ok hW) Tab.ok_nil PbT28
def PbE29 : Ent := ⟨161, (.cons (.ptr 7847 0) (.cons (nu 3) (.cons (nu 2) .nil))), ⟨[PbO36, PbO37], 8238⟩, (.agg (avs [(nu 26), (nu 0), (nu 0), (nu 0), (.str 0 0), (nu 0), (.sl 8884 0 2 8 true), (nu 14)])), ⟨[PbO36, PbO41, PbO39, PbO42], 9292⟩⟩
theorem PbT29 : Ent.check Tryz.prog known [(161, [PbE27, PbE28])] 990 PbE29 = true := by kernel_rfl
theorem PbK29 {W : World} (hW : LibW W) : PbE29.Ok Tryz.prog (KG W) := Ent.ok_of mixed (known_ok hW) (Tab.ok_cons (f := 161) (Ent.ok_cons (PbK27 hW) (Ent.ok_cons (PbK28 hW) Ent.ok_nil)) Tab.ok_nil) PbT29
def PbE30 : Ent := ⟨50, (.cons (.ptr 7847 0) (.cons (nu 1) .nil)), ⟨[PbO36, PbO43], 8107⟩, (.sl 9427 0 1 9 false), ⟨[PbO36, PbO44, PbO39, PbO42, PbO45, PbO46], 9468⟩⟩
theorem PbT30 : Ent.check Tryz.prog known [(161, [PbE29])] 990 PbE30 = true := by kernel_rfl
theorem PbK30 {W : World} (hW : LibW W) : PbE30.Ok Tryz.prog (KG W) := Ent.ok_of mixed (known_ok hW) (Tab.ok_cons (f := 161) (Ent.ok_cons (PbK29 hW) Ent.ok_nil) Tab.ok_nil) PbT30
def PbE31 : Ent := ⟨15, (.cons (.str 21 PbS5) .nil), ⟨[], 9496⟩, (.tup (avs [(.sl 9599 0 15 4 false), (.agg (avs [(nu 0), (nu 0)]))])), ⟨[PbO47], 9600⟩⟩
theorem PbT31 : Ent.check Tryz.prog known [] 990 PbE31 = true := by kernel_rfl
theorem PbK31 {W : World} (hW : LibW W) : PbE31.Ok Tryz.prog (KG W) := Ent.ok_of mixed (known_ok hW) Tab.ok_nil PbT31
def PbE32 : Ent := ⟨161, (.cons (.ptr 9601 0) (.cons (nu 4) (.cons (nu 6) .nil))), ⟨[PbO47, PbO48], 10115⟩, (.agg (avs [(nu 22), (nu 0), (nu 0), (nu 0), (.str 0 0), (nu 0), (.sl 10419 0 2 8 true), (nu 13)])), ⟨[PbO47, PbO49, PbO50], 10698⟩⟩
theorem PbT32 : Ent.check Tryz.prog known [] 990 PbE32 = true := by kernel_rfl
theorem PbK32 {W : World} (hW : LibW W) : PbE32.Ok Tryz.prog (KG W) := Ent.ok_of mixed (known_ok hW) Tab.ok_nil PbT32
def PbE33 : Ent := ⟨161, (.cons (.ptr 9601 0) (.cons (nu 4) (.cons (nu 1) .nil))), ⟨[PbO47, PbO48], 10110⟩, (.agg (avs [(nu 22), (nu 0), (nu 0), (nu 0), (.str 0 0), (nu 0), (.sl 10419 0 2 8 true), (nu 13)])), ⟨[PbO47, PbO49, PbO50], 10858⟩⟩
theorem PbT33 : Ent.check Tryz.prog known [(161, [PbE32])] 990 PbE33 = true := by kernel_rfl
theorem PbK33 {W : World} (hW : LibW W) : PbE33.Ok Tryz.prog (KG W) := Ent.ok_of mixed (known_ok hW) (Tab.ok_cons (f := 161) (Ent.ok_cons (PbK32 hW) Ent.ok_nil) Tab.ok_nil) PbT33
def PbE34 : Ent := ⟨161, (.cons (.ptr 9601 0) (.cons (nu 3) (.cons (nu 9) .nil))), ⟨[PbO47, PbO51], 9999⟩, (.agg (avs [(nu 22), (nu 0), (nu 0), (nu 0), (.str 0 0), (nu 0), (.sl 10419 0 2 8 true), (nu 13)])), ⟨[PbO47, PbO52, PbO50], 11047⟩⟩
theorem PbT34 : Ent.check Tryz.prog known [(161, [PbE33])] 990 PbE34 = true := by kernel_rfl
theorem PbK34 {W : World} (hW : LibW W) : PbE34.Ok Tryz.prog (KG W) := Ent.ok_of mixed (known_ok hW) (Tab.ok_cons (f := 161) (Ent.ok_cons (PbK33 hW) Ent.ok_nil) Tab.ok_nil) PbT34
end Go.Proofs.YtpepepkfjimoeaaGreatDoor

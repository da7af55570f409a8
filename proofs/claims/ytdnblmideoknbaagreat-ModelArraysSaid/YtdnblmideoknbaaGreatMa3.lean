/- Calls that were proved one by one: what the evaluator says. -/
import Derived.Test.YtdnblmideoknbaaGreatMaO
import Derived.Test.YtdnblmideoknbaaGreatProg
import Derived.ProofKit
import Derived.Test.YtdnblmideoknbaaGreatWeA
namespace Go.Proofs.YtdnblmideoknbaaGreat
open Go.Proofs.YtdnblmideoknbaaGreat.Ev
set_option maxRecDepth 100000

def MaE24 : Ent := ⟨233, (.cons (.ptr 61014 0) (.cons (.ptr 60687 36) .nil)), ⟨[MaO137, MaO138, MaO139, MaO140, MaO141, MaO142, MaO143, MaO144, MaO145, MaO146, MaO147, MaO148, MaO149, MaO150, MaO151, MaO152, MaO153, MaO154, MaO155, MaO156, MaO157, MaO158, MaO159, MaO160, MaO161, MaO162, MaO163, MaO164, MaO165, MaO166, MaO167, MaO168, MaO169, MaO170, MaO171, MaO172, MaO173, MaO174], 61497⟩, (.tup (avs [])), ⟨[MaO137, MaO138, MaO139, MaO140, MaO141, MaO142, MaO143, MaO144, MaO145, MaO146, MaO147, MaO148, MaO149, MaO150, MaO151, MaO152, MaO153, MaO154, MaO155, MaO156, MaO157, MaO158, MaO159, MaO160, MaO161, MaO162, MaO163, MaO164, MaO165, MaO166, MaO167, MaO168, MaO169, MaO175, MaO171, MaO172, MaO173, MaO174], 61941⟩⟩
theorem MaT24 [In4] : @Ent.check envGen Tryz.prog (@knownA envGen) [] 990 MaE24 = true := by kernel_rfl
theorem MaK24 [In4] : MaE24.Ok Tryz.prog Keep.none :=
  letI := envGen
  Ent.ok_of mixed (X := knownA) knownA_ok Tab.ok_nil MaT24
def MaE25 : Ent := ⟨183, (.cons (.ptr 61014 0) (.cons (.ptr 60687 54) .nil)), ⟨[MaO137, MaO138, MaO139, MaO140, MaO141, MaO142, MaO143, MaO144, MaO145, MaO146, MaO147, MaO148, MaO149, MaO150, MaO151, MaO152, MaO153, MaO154, MaO155, MaO156, MaO157, MaO158, MaO159, MaO160, MaO161, MaO162, MaO163, MaO164, MaO165, MaO166, MaO167, MaO168, MaO169, MaO176, MaO171, MaO172, MaO173, MaO174], 62102⟩, (.tup (avs [])), ⟨[MaO137, MaO138, MaO139, MaO140, MaO141, MaO142, MaO143, MaO144, MaO145, MaO146, MaO147, MaO148, MaO149, MaO150, MaO151, MaO152, MaO153, MaO154, MaO155, MaO156, MaO157, MaO158, MaO159, MaO160, MaO161, MaO162, MaO163, MaO164, MaO165, MaO166, MaO167, MaO168, MaO169, MaO177, MaO171, MaO172, MaO173, MaO174], 62507⟩⟩
theorem MaT25 [In4] : @Ent.check envGen Tryz.prog (@knownA envGen) [] 990 MaE25 = true := by kernel_rfl
theorem MaK25 [In4] : MaE25.Ok Tryz.prog Keep.none :=
  letI := envGen
  Ent.ok_of mixed (X := knownA) knownA_ok Tab.ok_nil MaT25
def MaE26 : Ent := ⟨139, (.cons (.ptr 61014 0) (.cons (.sl 60687 0 10 9 false) .nil)), ⟨[MaO178, MaO138, MaO139, MaO140, MaO141, MaO142, MaO143, MaO144, MaO145, MaO146, MaO147, MaO148, MaO149, MaO150, MaO151, MaO152, MaO153, MaO154, MaO155, MaO156, MaO157, MaO158, MaO159, MaO160, MaO161, MaO162, MaO163, MaO164, MaO165, MaO166, MaO167, MaO168, MaO169, MaO179, MaO180, MaO172, MaO173], 61036⟩, (.tup (avs [])), ⟨[MaO137, MaO138, MaO139, MaO140, MaO141, MaO142, MaO143, MaO144, MaO145, MaO146, MaO147, MaO148, MaO149, MaO150, MaO151, MaO152, MaO153, MaO154, MaO155, MaO156, MaO157, MaO158, MaO159, MaO160, MaO161, MaO162, MaO163, MaO164, MaO165, MaO166, MaO167, MaO168, MaO169, MaO181, MaO171, MaO172, MaO173, MaO174], 62714⟩⟩
theorem MaT26 [In4] : @Ent.check envGen Tryz.prog (@knownA envGen) [(233, [MaE24]), (183, [MaE25])] 990 MaE26 = true := by kernel_rfl
theorem MaK26 [In4] : MaE26.Ok Tryz.prog Keep.none :=
  letI := envGen
  Ent.ok_of mixed (X := knownA) knownA_ok (Tab.ok_cons (f := 233) (Ent.ok_cons MaK24 Ent.ok_nil) (Tab.ok_cons (f := 183) (Ent.ok_cons MaK25 Ent.ok_nil) Tab.ok_nil)) MaT26
def MaE27 : Ent := ⟨101, (.cons (.sl 60687 0 10 9 false) (.cons (.sl 58072 0 10 9 false) (.cons (.fn 102 .nil .nil) .nil))), ⟨[MaO62, MaO63, MaO99, MaO100, MaO101, MaO102, MaO103, MaO104, MaO105, MaO106, MaO107, MaO108, MaO74, MaO110, MaO111, MaO112, MaO113, MaO114, MaO116, MaO117, MaO118, MaO119, MaO120, MaO121, MaO86, MaO129, MaO130, MaO131, MaO132, MaO133, MaO134, MaO93, MaO138, MaO139, MaO140, MaO141, MaO142, MaO143, MaO144, MaO145, MaO146, MaO147, MaO148, MaO149, MaO150, MaO151, MaO152, MaO153, MaO154, MaO155, MaO156, MaO157, MaO158, MaO159, MaO160, MaO161, MaO162, MaO163, MaO164, MaO165, MaO166, MaO167, MaO168, MaO169], 62750⟩, (.bool true), ⟨[MaO62, MaO63, MaO99, MaO100, MaO101, MaO102, MaO103, MaO104, MaO105, MaO106, MaO107, MaO108, MaO74, MaO110, MaO111, MaO112, MaO113, MaO114, MaO116, MaO117, MaO118, MaO119, MaO120, MaO121, MaO86, MaO129, MaO130, MaO131, MaO132, MaO133, MaO134, MaO93, MaO138, MaO139, MaO140, MaO141, MaO142, MaO143, MaO144, MaO145, MaO146, MaO147, MaO148, MaO149, MaO150, MaO151, MaO152, MaO153, MaO154, MaO155, MaO156, MaO157, MaO158, MaO159, MaO160, MaO161, MaO162, MaO163, MaO164, MaO165, MaO166, MaO167, MaO168, MaO169], 62966⟩⟩
theorem MaT27 [In4] : @Ent.check envGen Tryz.prog (@knownA envGen) [] 990 MaE27 = true := by kernel_rfl
theorem MaK27 [In4] : MaE27.Ok Tryz.prog Keep.none :=
  letI := envGen
  Ent.ok_of mixed (X := knownA) knownA_ok Tab.ok_nil MaT27
def MaE28 : Ent := ⟨25, (.cons (.agg (avs [.nils, (.sl 58074 0 1 8 false)])) .nil), ⟨[MaO62, MaO63, MaO99, MaO100, MaO101, MaO102, MaO103, MaO104, MaO105, MaO106, MaO107, MaO108, MaO74, MaO110, MaO111, MaO112, MaO113, MaO114, MaO116, MaO117, MaO118, MaO119, MaO120, MaO121, MaO86, MaO129, MaO130, MaO131, MaO132, MaO133, MaO134, MaO93, MaO94, MaO98], 60640⟩, (.bool true), ⟨[MaO62, MaO63, MaO99, MaO100, MaO101, MaO102, MaO103, MaO104, MaO105, MaO106, MaO107, MaO108, MaO74, MaO110, MaO111, MaO112, MaO113, MaO114, MaO116, MaO117, MaO118, MaO119, MaO120, MaO121, MaO86, MaO129, MaO130, MaO131, MaO132, MaO133, MaO134, MaO93, MaO94, MaO98], 62966⟩⟩
theorem MaT28 [In4] : @Ent.check envGen Tryz.prog (@knownA envGen) [(139, [MaE26]), (101, [MaE27])] 990 MaE28 = true := by kernel_rfl
theorem MaK28 [In4] : MaE28.Ok Tryz.prog Keep.none :=
  letI := envGen
  Ent.ok_of mixed (X := knownA) knownA_ok (Tab.ok_cons (f := 139) (Ent.ok_cons MaK26 Ent.ok_nil) (Tab.ok_cons (f := 101) (Ent.ok_cons MaK27 Ent.ok_nil) Tab.ok_nil)) MaT28
def MaE32 : Ent := ⟨36, (.cons (.str 28 MaS0) .nil), ⟨[], 100004⟩, (.tup (avs [(.sl 110329 0 15 4 false), (.agg (avs [(nu 0), (nu 0)]))])), ⟨[MaO182], 110330⟩⟩
theorem MaT32 [In4] : @Ent.check envGen Tryz.prog (@knownA envGen) [] 990 MaE32 = true := by kernel_rfl
theorem MaK32 [In4] : MaE32.Ok Tryz.prog Keep.none :=
  letI := envGen
  Ent.ok_of mixed (X := knownA) knownA_ok Tab.ok_nil MaT32
def MaE33 : Ent := ⟨329, (.cons (.ptr 110331 0) (.cons (nu 3) .nil)), ⟨[MaO182, MaO183], 110407⟩, (.agg (avs [(nu 35), (nu 0), (nu 0), (nu 0), (.str 3 7632240), (nu 0), (.sl 110702 0 1 8 false), (nu 11)])), ⟨[MaO182, MaO184, MaO185], 110712⟩⟩
theorem MaT33 [In4] : @Ent.check envGen Tryz.prog (@knownA envGen) [] 990 MaE33 = true := by kernel_rfl
theorem MaK33 [In4] : MaE33.Ok Tryz.prog Keep.none :=
  letI := envGen
  Ent.ok_of mixed (X := knownA) knownA_ok Tab.ok_nil MaT33
def MaE34 : Ent := ⟨121, (.cons (.ptr 110331 0) (.cons (nu 2) .nil)), ⟨[MaO182, MaO183], 110365⟩, (.agg (avs [(nu 1), (.sl 110949 0 1 8 true), .nils, (nu 0), (nu 0), (nu 0), (.str 0 0), (nu 0), (nu 11)])), ⟨[MaO182, MaO186, MaO185, MaO187], 110953⟩⟩
theorem MaT34 [In4] : @Ent.check envGen Tryz.prog (@knownA envGen) [(329, [MaE33])] 990 MaE34 = true := by kernel_rfl
theorem MaK34 [In4] : MaE34.Ok Tryz.prog Keep.none :=
  letI := envGen
  Ent.ok_of mixed (X := knownA) knownA_ok (Tab.ok_cons (f := 329) (Ent.ok_cons MaK33 Ent.ok_nil) Tab.ok_nil) MaT34
def MaE35 : Ent := ⟨121, (.cons (.ptr 110331 0) (.cons (nu 2) .nil)), ⟨[MaO182, MaO186], 110956⟩, (.agg (avs [(nu 13), (.sl 111249 0 1 8 true), .nils, (nu 0), (nu 0), (nu 0), (.str 0 0), (nu 0), (nu 18)])), ⟨[MaO182, MaO188, MaO189], 111253⟩⟩
theorem MaT35 [In4] : @Ent.check envGen Tryz.prog (@knownA envGen) [] 990 MaE35 = true := by kernel_rfl
theorem MaK35 [In4] : MaE35.Ok Tryz.prog Keep.none :=
  letI := envGen
  Ent.ok_of mixed (X := knownA) knownA_ok Tab.ok_nil MaT35
end Go.Proofs.YtdnblmideoknbaaGreat

/- Calls that were proved one by one: what the evaluator says. -/
import Derived.Test.YtdnblmideoknbaaGreatMaO
import Derived.Test.YtdnblmideoknbaaGreatProg
import Derived.ProofKit
import Derived.Test.YtdnblmideoknbaaGreatWeA
namespace Go.Proofs.YtdnblmideoknbaaGreat
open Go.Proofs.YtdnblmideoknbaaGreat.Ev
set_option maxRecDepth 100000

def MaE1 : Ent := ⟨121, (.cons (.ptr 51169 0) (.cons (nu 2) .nil)), ⟨[MaO0, MaO1], 51279⟩, (.agg (avs [(nu 2), (.sl 51583 0 1 8 true), .nils, (nu 5), (nu 0), (nu 0), (.str 1 115), (nu 0), (nu 26)])), ⟨[MaO0, MaO2, MaO3], 51587⟩⟩
theorem MaT1 [In4] : @Ent.check envGen Tryz.prog (@knownA envGen) [] 990 MaE1 = true := by kernel_rfl
theorem MaK1 [In4] : MaE1.Ok Tryz.prog Keep.none :=
  letI := envGen
  Ent.ok_of mixed (X := knownA) knownA_ok Tab.ok_nil MaT1
def MaE2 : Ent := ⟨121, (.cons (.ptr 51169 0) (.cons (nu 2) .nil)), ⟨[MaO0, MaO2], 51590⟩, (.agg (avs [(nu 2), (.sl 51899 0 1 8 true), .nils, (nu 5), (nu 1), (nu 0), (.str 1 112), (nu 0), (nu 34)])), ⟨[MaO0, MaO4, MaO5], 51903⟩⟩
theorem MaT2 [In4] : @Ent.check envGen Tryz.prog (@knownA envGen) [] 990 MaE2 = true := by kernel_rfl
theorem MaK2 [In4] : MaE2.Ok Tryz.prog Keep.none :=
  letI := envGen
  Ent.ok_of mixed (X := knownA) knownA_ok Tab.ok_nil MaT2
def MaE3 : Ent := ⟨162, (.cons (.ptr 51169 0) (.cons (nu 3) .nil)), ⟨[MaO0, MaO6], 51924⟩, (.agg (avs [(nu 34), (nu 0), (nu 0), (nu 0), (.str 0 0), (nu 0), (.sl 52480 0 2 8 true), (nu 47)])), ⟨[MaO0, MaO7, MaO8], 52487⟩⟩
theorem MaT3 [In4] : @Ent.check envGen Tryz.prog (@knownA envGen) [] 990 MaE3 = true := by kernel_rfl
theorem MaK3 [In4] : MaE3.Ok Tryz.prog Keep.none :=
  letI := envGen
  Ent.ok_of mixed (X := knownA) knownA_ok Tab.ok_nil MaT3
def MaE4 : Ent := ⟨263, (.cons (.ptr 51169 0) (.cons (nu 3) (.cons (nu 5) .nil))), ⟨[MaO0, MaO9], 52501⟩, (.agg (avs [(nu 22), (nu 0), (nu 0), (nu 0), (.str 0 0), (nu 0), (.sl 52732 0 2 8 true), (nu 51)])), ⟨[MaO0, MaO10, MaO11], 52804⟩⟩
theorem MaT4 [In4] : @Ent.check envGen Tryz.prog (@knownA envGen) [] 990 MaE4 = true := by kernel_rfl
theorem MaK4 [In4] : MaE4.Ok Tryz.prog Keep.none :=
  letI := envGen
  Ent.ok_of mixed (X := knownA) knownA_ok Tab.ok_nil MaT4
def MaE5 : Ent := ⟨263, (.cons (.ptr 51169 0) (.cons (nu 5) (.cons (nu 8) .nil))), ⟨[MaO0, MaO12], 53540⟩, (.agg (avs [(nu 18), (nu 0), (nu 0), (nu 0), (.str 0 0), (nu 0), (.sl 53758 0 2 8 true), (nu 66)])), ⟨[MaO0, MaO13, MaO14, MaO15], 53807⟩⟩
theorem MaT5 [In4] : @Ent.check envGen Tryz.prog (@knownA envGen) [] 990 MaE5 = true := by kernel_rfl
theorem MaK5 [In4] : MaE5.Ok Tryz.prog Keep.none :=
  letI := envGen
  Ent.ok_of mixed (X := knownA) knownA_ok Tab.ok_nil MaT5
def MaE6 : Ent := ⟨162, (.cons (.ptr 51169 0) (.cons (nu 4) .nil)), ⟨[MaO0, MaO16], 53237⟩, (.agg (avs [(nu 34), (nu 0), (nu 0), (nu 0), (.str 0 0), (nu 0), (.sl 54004 0 2 8 true), (nu 62)])), ⟨[MaO0, MaO13, MaO17, MaO18, MaO14, MaO15, MaO19], 54011⟩⟩
theorem MaT6 [In4] : @Ent.check envGen Tryz.prog (@knownA envGen) [(263, [MaE5])] 990 MaE6 = true := by kernel_rfl
theorem MaK6 [In4] : MaE6.Ok Tryz.prog Keep.none :=
  letI := envGen
  Ent.ok_of mixed (X := knownA) knownA_ok (Tab.ok_cons (f := 263) (Ent.ok_cons MaK5 Ent.ok_nil) Tab.ok_nil) MaT6
def MaE7 : Ent := ⟨121, (.cons (.ptr 51169 0) (.cons (nu 2) .nil)), ⟨[MaO0, MaO4], 51906⟩, (.agg (avs [(nu 7), (.sl 53220 0 3 8 true), (.sl 54015 0 1 9 true), (nu 0), (nu 0), (nu 0), (.str 0 0), (nu 0), (nu 42)])), ⟨[MaO0, MaO20, MaO8, MaO11, MaO21, MaO22, MaO17, MaO18, MaO14, MaO15, MaO19, MaO23, MaO24], 54016⟩⟩
theorem MaT7 [In4] : @Ent.check envGen Tryz.prog (@knownA envGen) [(162, [MaE3, MaE6]), (263, [MaE4])] 990 MaE7 = true := by kernel_rfl
theorem MaK7 [In4] : MaE7.Ok Tryz.prog Keep.none :=
  letI := envGen
  Ent.ok_of mixed (X := knownA) knownA_ok (Tab.ok_cons (f := 162) (Ent.ok_cons MaK3 (Ent.ok_cons MaK6 Ent.ok_nil)) (Tab.ok_cons (f := 263) (Ent.ok_cons MaK4 Ent.ok_nil) Tab.ok_nil)) MaT7
def MaE8 : Ent := ⟨263, (.cons (.ptr 51169 0) (.cons (nu 4) (.cons (nu 4) .nil))), ⟨[MaO0, MaO25], 54088⟩, (.agg (avs [(nu 19), (nu 0), (nu 0), (nu 0), (.str 0 0), (nu 0), (.sl 54228 0 2 8 true), (nu 74)])), ⟨[MaO0, MaO26, MaO27], 54369⟩⟩
theorem MaT8 [In4] : @Ent.check envGen Tryz.prog (@knownA envGen) [] 990 MaE8 = true := by kernel_rfl
theorem MaK8 [In4] : MaE8.Ok Tryz.prog Keep.none :=
  letI := envGen
  Ent.ok_of mixed (X := knownA) knownA_ok Tab.ok_nil MaT8
def MaE9 : Ent := ⟨263, (.cons (.ptr 51169 0) (.cons (nu 3) (.cons (nu 2) .nil))), ⟨[MaO0, MaO20], 54039⟩, (.agg (avs [(nu 35), (nu 0), (nu 0), (nu 0), (.str 3 7632240), (nu 0), (.sl 54468 0 1 8 false), (nu 69)])), ⟨[MaO0, MaO28, MaO27, MaO29], 54662⟩⟩
theorem MaT9 [In4] : @Ent.check envGen Tryz.prog (@knownA envGen) [(263, [MaE8])] 990 MaE9 = true := by kernel_rfl
theorem MaK9 [In4] : MaE9.Ok Tryz.prog Keep.none :=
  letI := envGen
  Ent.ok_of mixed (X := knownA) knownA_ok (Tab.ok_cons (f := 263) (Ent.ok_cons MaK8 Ent.ok_nil) Tab.ok_nil) MaT9
def MaE10 : Ent := ⟨263, (.cons (.ptr 51169 0) (.cons (nu 3) (.cons (nu 5) .nil))), ⟨[MaO0, MaO30], 54742⟩, (.agg (avs [(nu 27), (nu 0), (nu 0), (nu 0), (.str 0 0), (nu 0), (.sl 55022 0 2 8 true), (nu 85)])), ⟨[MaO0, MaO31, MaO32], 55071⟩⟩
theorem MaT10 [In4] : @Ent.check envGen Tryz.prog (@knownA envGen) [] 990 MaE10 = true := by kernel_rfl
theorem MaK10 [In4] : MaE10.Ok Tryz.prog Keep.none :=
  letI := envGen
  Ent.ok_of mixed (X := knownA) knownA_ok Tab.ok_nil MaT10
def MaE11 : Ent := ⟨263, (.cons (.ptr 51169 0) (.cons (nu 5) (.cons (nu 8) .nil))), ⟨[MaO0, MaO33], 55500⟩, (.agg (avs [(nu 18), (nu 0), (nu 0), (nu 0), (.str 0 0), (nu 0), (.sl 55745 0 2 8 true), (nu 94)])), ⟨[MaO0, MaO34, MaO35, MaO36, MaO37, MaO38], 55794⟩⟩
theorem MaT11 [In4] : @Ent.check envGen Tryz.prog (@knownA envGen) [] 990 MaE11 = true := by kernel_rfl
theorem MaK11 [In4] : MaE11.Ok Tryz.prog Keep.none :=
  letI := envGen
  Ent.ok_of mixed (X := knownA) knownA_ok Tab.ok_nil MaT11
def MaE12 : Ent := ⟨162, (.cons (.ptr 51169 0) (.cons (nu 4) .nil)), ⟨[MaO0, MaO39], 55214⟩, (.agg (avs [(nu 34), (nu 0), (nu 0), (nu 0), (.str 0 0), (nu 0), (.sl 55991 0 2 8 true), (nu 90)])), ⟨[MaO0, MaO34, MaO35, MaO36, MaO37, MaO38, MaO40], 55998⟩⟩
theorem MaT12 [In4] : @Ent.check envGen Tryz.prog (@knownA envGen) [(263, [MaE11])] 990 MaE12 = true := by kernel_rfl
theorem MaK12 [In4] : MaE12.Ok Tryz.prog Keep.none :=
  letI := envGen
  Ent.ok_of mixed (X := knownA) knownA_ok (Tab.ok_cons (f := 263) (Ent.ok_cons MaK11 Ent.ok_nil) Tab.ok_nil) MaT12
end Go.Proofs.YtdnblmideoknbaaGreat

/- Calls that were proved one by one: what the evaluator says. -/
import Derived.Test.YtdnblmideoknbaaGreatLaO
import Derived.Test.YtdnblmideoknbaaGreatProg
import Derived.ProofKit
import Derived.Test.YtdnblmideoknbaaGreatWeA
namespace Go.Proofs.YtdnblmideoknbaaGreat
open Go.Proofs.YtdnblmideoknbaaGreat.Ev
set_option maxRecDepth 100000

def LaE1 : Ent := ⟨121, (.cons (.ptr 51169 0) (.cons (nu 2) .nil)), ⟨[LaO0, LaO1], 51279⟩, (.agg (avs [(nu 2), (.sl 51583 0 1 8 true), .nils, (nu 5), (nu 0), (nu 0), (.str 1 115), (nu 0), (nu 26)])), ⟨[LaO0, LaO2, LaO3], 51587⟩⟩
theorem LaT1 [In4] : @Ent.check envGen Tryz.prog (@knownA envGen) [] 990 LaE1 = true := by kernel_rfl
theorem LaK1 [In4] : LaE1.Ok Tryz.prog Keep.none :=
  letI := envGen
  Ent.ok_of mixed (X := knownA) knownA_ok Tab.ok_nil LaT1
def LaE2 : Ent := ⟨121, (.cons (.ptr 51169 0) (.cons (nu 2) .nil)), ⟨[LaO0, LaO2], 51590⟩, (.agg (avs [(nu 2), (.sl 51899 0 1 8 true), .nils, (nu 5), (nu 1), (nu 0), (.str 1 112), (nu 0), (nu 34)])), ⟨[LaO0, LaO4, LaO5], 51903⟩⟩
theorem LaT2 [In4] : @Ent.check envGen Tryz.prog (@knownA envGen) [] 990 LaE2 = true := by kernel_rfl
theorem LaK2 [In4] : LaE2.Ok Tryz.prog Keep.none :=
  letI := envGen
  Ent.ok_of mixed (X := knownA) knownA_ok Tab.ok_nil LaT2
def LaE3 : Ent := ⟨162, (.cons (.ptr 51169 0) (.cons (nu 3) .nil)), ⟨[LaO0, LaO6], 51924⟩, (.agg (avs [(nu 34), (nu 0), (nu 0), (nu 0), (.str 0 0), (nu 0), (.sl 52480 0 2 8 true), (nu 47)])), ⟨[LaO0, LaO7, LaO8], 52487⟩⟩
theorem LaT3 [In4] : @Ent.check envGen Tryz.prog (@knownA envGen) [] 990 LaE3 = true := by kernel_rfl
theorem LaK3 [In4] : LaE3.Ok Tryz.prog Keep.none :=
  letI := envGen
  Ent.ok_of mixed (X := knownA) knownA_ok Tab.ok_nil LaT3
def LaE4 : Ent := ⟨263, (.cons (.ptr 51169 0) (.cons (nu 3) (.cons (nu 5) .nil))), ⟨[LaO0, LaO9], 52501⟩, (.agg (avs [(nu 22), (nu 0), (nu 0), (nu 0), (.str 0 0), (nu 0), (.sl 52732 0 2 8 true), (nu 51)])), ⟨[LaO0, LaO10, LaO11], 52804⟩⟩
theorem LaT4 [In4] : @Ent.check envGen Tryz.prog (@knownA envGen) [] 990 LaE4 = true := by kernel_rfl
theorem LaK4 [In4] : LaE4.Ok Tryz.prog Keep.none :=
  letI := envGen
  Ent.ok_of mixed (X := knownA) knownA_ok Tab.ok_nil LaT4
def LaE5 : Ent := ⟨263, (.cons (.ptr 51169 0) (.cons (nu 5) (.cons (nu 8) .nil))), ⟨[LaO0, LaO12], 53540⟩, (.agg (avs [(nu 18), (nu 0), (nu 0), (nu 0), (.str 0 0), (nu 0), (.sl 53758 0 2 8 true), (nu 66)])), ⟨[LaO0, LaO13, LaO14, LaO15], 53807⟩⟩
theorem LaT5 [In4] : @Ent.check envGen Tryz.prog (@knownA envGen) [] 990 LaE5 = true := by kernel_rfl
theorem LaK5 [In4] : LaE5.Ok Tryz.prog Keep.none :=
  letI := envGen
  Ent.ok_of mixed (X := knownA) knownA_ok Tab.ok_nil LaT5
def LaE6 : Ent := ⟨162, (.cons (.ptr 51169 0) (.cons (nu 4) .nil)), ⟨[LaO0, LaO16], 53237⟩, (.agg (avs [(nu 34), (nu 0), (nu 0), (nu 0), (.str 0 0), (nu 0), (.sl 54004 0 2 8 true), (nu 62)])), ⟨[LaO0, LaO13, LaO17, LaO18, LaO14, LaO15, LaO19], 54011⟩⟩
theorem LaT6 [In4] : @Ent.check envGen Tryz.prog (@knownA envGen) [(263, [LaE5])] 990 LaE6 = true := by kernel_rfl
theorem LaK6 [In4] : LaE6.Ok Tryz.prog Keep.none :=
  letI := envGen
  Ent.ok_of mixed (X := knownA) knownA_ok (Tab.ok_cons (f := 263) (Ent.ok_cons LaK5 Ent.ok_nil) Tab.ok_nil) LaT6
def LaE7 : Ent := ⟨121, (.cons (.ptr 51169 0) (.cons (nu 2) .nil)), ⟨[LaO0, LaO4], 51906⟩, (.agg (avs [(nu 7), (.sl 53220 0 3 8 true), (.sl 54015 0 1 9 true), (nu 0), (nu 0), (nu 0), (.str 0 0), (nu 0), (nu 42)])), ⟨[LaO0, LaO20, LaO8, LaO11, LaO21, LaO22, LaO17, LaO18, LaO14, LaO15, LaO19, LaO23, LaO24], 54016⟩⟩
theorem LaT7 [In4] : @Ent.check envGen Tryz.prog (@knownA envGen) [(162, [LaE3, LaE6]), (263, [LaE4])] 990 LaE7 = true := by kernel_rfl
theorem LaK7 [In4] : LaE7.Ok Tryz.prog Keep.none :=
  letI := envGen
  Ent.ok_of mixed (X := knownA) knownA_ok (Tab.ok_cons (f := 162) (Ent.ok_cons LaK3 (Ent.ok_cons LaK6 Ent.ok_nil)) (Tab.ok_cons (f := 263) (Ent.ok_cons LaK4 Ent.ok_nil) Tab.ok_nil)) LaT7
def LaE8 : Ent := ⟨263, (.cons (.ptr 51169 0) (.cons (nu 4) (.cons (nu 4) .nil))), ⟨[LaO0, LaO25], 54088⟩, (.agg (avs [(nu 19), (nu 0), (nu 0), (nu 0), (.str 0 0), (nu 0), (.sl 54228 0 2 8 true), (nu 74)])), ⟨[LaO0, LaO26, LaO27], 54369⟩⟩
theorem LaT8 [In4] : @Ent.check envGen Tryz.prog (@knownA envGen) [] 990 LaE8 = true := by kernel_rfl
theorem LaK8 [In4] : LaE8.Ok Tryz.prog Keep.none :=
  letI := envGen
  Ent.ok_of mixed (X := knownA) knownA_ok Tab.ok_nil LaT8
def LaE9 : Ent := ⟨263, (.cons (.ptr 51169 0) (.cons (nu 3) (.cons (nu 2) .nil))), ⟨[LaO0, LaO20], 54039⟩, (.agg (avs [(nu 35), (nu 0), (nu 0), (nu 0), (.str 3 7632240), (nu 0), (.sl 54468 0 1 8 false), (nu 69)])), ⟨[LaO0, LaO28, LaO27, LaO29], 54662⟩⟩
theorem LaT9 [In4] : @Ent.check envGen Tryz.prog (@knownA envGen) [(263, [LaE8])] 990 LaE9 = true := by kernel_rfl
theorem LaK9 [In4] : LaE9.Ok Tryz.prog Keep.none :=
  letI := envGen
  Ent.ok_of mixed (X := knownA) knownA_ok (Tab.ok_cons (f := 263) (Ent.ok_cons LaK8 Ent.ok_nil) Tab.ok_nil) LaT9
def LaE10 : Ent := ⟨263, (.cons (.ptr 51169 0) (.cons (nu 3) (.cons (nu 5) .nil))), ⟨[LaO0, LaO30], 54742⟩, (.agg (avs [(nu 27), (nu 0), (nu 0), (nu 0), (.str 0 0), (nu 0), (.sl 55022 0 2 8 true), (nu 85)])), ⟨[LaO0, LaO31, LaO32], 55071⟩⟩
theorem LaT10 [In4] : @Ent.check envGen Tryz.prog (@knownA envGen) [] 990 LaE10 = true := by kernel_rfl
theorem LaK10 [In4] : LaE10.Ok Tryz.prog Keep.none :=
  letI := envGen
  Ent.ok_of mixed (X := knownA) knownA_ok Tab.ok_nil LaT10
def LaE11 : Ent := ⟨263, (.cons (.ptr 51169 0) (.cons (nu 5) (.cons (nu 8) .nil))), ⟨[LaO0, LaO33], 55500⟩, (.agg (avs [(nu 18), (nu 0), (nu 0), (nu 0), (.str 0 0), (nu 0), (.sl 55745 0 2 8 true), (nu 94)])), ⟨[LaO0, LaO34, LaO35, LaO36, LaO37, LaO38], 55794⟩⟩
theorem LaT11 [In4] : @Ent.check envGen Tryz.prog (@knownA envGen) [] 990 LaE11 = true := by kernel_rfl
theorem LaK11 [In4] : LaE11.Ok Tryz.prog Keep.none :=
  letI := envGen
  Ent.ok_of mixed (X := knownA) knownA_ok Tab.ok_nil LaT11
def LaE12 : Ent := ⟨162, (.cons (.ptr 51169 0) (.cons (nu 4) .nil)), ⟨[LaO0, LaO39], 55214⟩, (.agg (avs [(nu 34), (nu 0), (nu 0), (nu 0), (.str 0 0), (nu 0), (.sl 55991 0 2 8 true), (nu 90)])), ⟨[LaO0, LaO34, LaO35, LaO36, LaO37, LaO38, LaO40], 55998⟩⟩
theorem LaT12 [In4] : @Ent.check envGen Tryz.prog (@knownA envGen) [(263, [LaE11])] 990 LaE12 = true := by kernel_rfl
theorem LaK12 [In4] : LaE12.Ok Tryz.prog Keep.none :=
  letI := envGen
  Ent.ok_of mixed (X := knownA) knownA_ok (Tab.ok_cons (f := 263) (Ent.ok_cons LaK11 Ent.ok_nil) Tab.ok_nil) LaT12
end Go.Proofs.YtdnblmideoknbaaGreat

/- Calls that were proved one by one: what the evaluator says. -/
import Derived.Test.YtlpmpjechbkpkaaGreatMwO
import Derived.Test.YtlpmpjechbkpkaaGreatProg
import Derived.ProofKit
import Derived.Test.YtlpmpjechbkpkaaGreatWdB
namespace Go.Proofs.YtlpmpjechbkpkaaGreat
open Go.Proofs.YtlpmpjechbkpkaaGreat.Ev
set_option maxRecDepth 100000

def MwE1 : Ent := ⟨93, (.cons (.ptr 65659 0) (.cons (nu 2) .nil)), ⟨[MwO0, MwO1], 65693⟩, (.agg (avs [(nu 2), (.sl 66005 0 1 8 true), .nils, (nu 7), (nu 0), (nu 0), (.str 1 97), (nu 0), (nu 11)])), ⟨[MwO0, MwO2, MwO3], 66009⟩⟩
theorem MwT1 [In2] : Ent.check Tryz.prog (knownG Tryz.prog In2.z) [] 990 MwE1 = true := by kernel_rfl
theorem MwK1 [In2] : MwE1.Ok Tryz.prog K0 := Ent.ok_of mixed known_ok Tab.ok_nil MwT1
def MwE2 : Ent := ⟨93, (.cons (.ptr 65659 0) (.cons (nu 2) .nil)), ⟨[MwO0, MwO2], 66012⟩, (.agg (avs [(nu 2), (.sl 66324 0 1 8 true), .nils, (nu 7), (nu 0), (nu 0), (.str 1 98), (nu 0), (nu 24)])), ⟨[MwO0, MwO4, MwO5], 66328⟩⟩
theorem MwT2 [In2] : Ent.check Tryz.prog (knownG Tryz.prog In2.z) [] 990 MwE2 = true := by kernel_rfl
theorem MwK2 [In2] : MwE2.Ok Tryz.prog K0 := Ent.ok_of mixed known_ok Tab.ok_nil MwT2
def MwE3 : Ent := ⟨93, (.cons (.ptr 65659 0) (.cons (nu 2) .nil)), ⟨[MwO0, MwO4], 66331⟩, (.agg (avs [(nu 2), (.sl 66635 0 1 8 true), .nils, (nu 1), (nu 0), (nu 0), (.str 1 99), (nu 0), (nu 37)])), ⟨[MwO0, MwO6, MwO7], 66639⟩⟩
theorem MwT3 [In2] : Ent.check Tryz.prog (knownG Tryz.prog In2.z) [] 990 MwE3 = true := by kernel_rfl
theorem MwK3 [In2] : MwE3.Ok Tryz.prog K0 := Ent.ok_of mixed known_ok Tab.ok_nil MwT3
def MwE4 : Ent := ⟨93, (.cons (.ptr 65659 0) (.cons (nu 2) .nil)), ⟨[MwO0, MwO6], 66642⟩, (.agg (avs [(nu 2), (.sl 66949 0 1 8 true), .nils, (nu 4), (nu 0), (nu 0), (.str 1 102), (nu 0), (nu 46)])), ⟨[MwO0, MwO8, MwO9], 66953⟩⟩
theorem MwT4 [In2] : Ent.check Tryz.prog (knownG Tryz.prog In2.z) [] 990 MwE4 = true := by kernel_rfl
theorem MwK4 [In2] : MwE4.Ok Tryz.prog K0 := Ent.ok_of mixed known_ok Tab.ok_nil MwT4
def MwE5 : Ent := ⟨93, (.cons (.ptr 65659 0) (.cons (nu 2) .nil)), ⟨[MwO0, MwO8], 66956⟩, (.agg (avs [(nu 2), (.sl 67264 0 1 8 true), .nils, (nu 6), (nu 0), (nu 0), (.str 1 104), (nu 0), (nu 65)])), ⟨[MwO0, MwO10, MwO11], 67268⟩⟩
theorem MwT5 [In2] : Ent.check Tryz.prog (knownG Tryz.prog In2.z) [] 990 MwE5 = true := by kernel_rfl
theorem MwK5 [In2] : MwE5.Ok Tryz.prog K0 := Ent.ok_of mixed known_ok Tab.ok_nil MwT5
def MwE6 : Ent := ⟨172, (.cons (.ptr 65659 0) (.cons (nu 4) (.cons (nu 2) .nil))), ⟨[MwO0, MwO12], 67338⟩, (.agg (avs [(nu 15), (nu 0), (nu 0), (nu 0), (.str 0 0), (nu 0), (.sl 67433 0 2 8 true), (nu 87)])), ⟨[MwO0, MwO13, MwO14], 67643⟩⟩
theorem MwT6 [In2] : Ent.check Tryz.prog (knownG Tryz.prog In2.z) [] 990 MwE6 = true := by kernel_rfl
theorem MwK6 [In2] : MwE6.Ok Tryz.prog K0 := Ent.ok_of mixed known_ok Tab.ok_nil MwT6
def MwE7 : Ent := ⟨172, (.cons (.ptr 65659 0) (.cons (nu 3) (.cons (nu 0) .nil))), ⟨[MwO0, MwO10], 67289⟩, (.agg (avs [(nu 35), (nu 0), (nu 0), (nu 0), (.str 3 7632240), (nu 0), (.sl 67696 0 1 8 false), (nu 82)])), ⟨[MwO0, MwO15, MwO14, MwO16], 67936⟩⟩
theorem MwT7 [In2] : Ent.check Tryz.prog (knownG Tryz.prog In2.z) [(172, [MwE6])] 990 MwE7 = true := by kernel_rfl
theorem MwK7 [In2] : MwE7.Ok Tryz.prog K0 := Ent.ok_of mixed known_ok (Tab.ok_cons (f := 172) (Ent.ok_cons MwK6 Ent.ok_nil) Tab.ok_nil) MwT7
def MwE8 : Ent := ⟨172, (.cons (.ptr 65659 0) (.cons (nu 4) (.cons (nu 3) .nil))), ⟨[MwO0, MwO17], 68018⟩, (.agg (avs [(nu 16), (nu 0), (nu 0), (nu 0), (.str 0 0), (nu 0), (.sl 68112 0 2 8 true), (nu 96)])), ⟨[MwO0, MwO18, MwO19], 68299⟩⟩
theorem MwT8 [In2] : Ent.check Tryz.prog (knownG Tryz.prog In2.z) [] 990 MwE8 = true := by kernel_rfl
theorem MwK8 [In2] : MwE8.Ok Tryz.prog K0 := Ent.ok_of mixed known_ok Tab.ok_nil MwT8
def MwE9 : Ent := ⟨172, (.cons (.ptr 65659 0) (.cons (nu 3) (.cons (nu 1) .nil))), ⟨[MwO0, MwO20], 67969⟩, (.agg (avs [(nu 35), (nu 0), (nu 0), (nu 0), (.str 3 7632240), (nu 0), (.sl 68375 0 1 8 false), (nu 91)])), ⟨[MwO0, MwO21, MwO19, MwO22], 68592⟩⟩
theorem MwT9 [In2] : Ent.check Tryz.prog (knownG Tryz.prog In2.z) [(172, [MwE8])] 990 MwE9 = true := by kernel_rfl
theorem MwK9 [In2] : MwE9.Ok Tryz.prog K0 := Ent.ok_of mixed known_ok (Tab.ok_cons (f := 172) (Ent.ok_cons MwK8 Ent.ok_nil) Tab.ok_nil) MwT9
def MwE10 : Ent := ⟨172, (.cons (.ptr 65659 0) (.cons (nu 4) (.cons (nu 3) .nil))), ⟨[MwO0, MwO23], 68697⟩, (.agg (avs [(nu 17), (nu 0), (nu 0), (nu 0), (.str 0 0), (nu 0), (.sl 68791 0 2 8 true), (nu 105)])), ⟨[MwO0, MwO24, MwO25], 68978⟩⟩
theorem MwT10 [In2] : Ent.check Tryz.prog (knownG Tryz.prog In2.z) [] 990 MwE10 = true := by kernel_rfl
theorem MwK10 [In2] : MwE10.Ok Tryz.prog K0 := Ent.ok_of mixed known_ok Tab.ok_nil MwT10
def MwE11 : Ent := ⟨172, (.cons (.ptr 65659 0) (.cons (nu 3) (.cons (nu 1) .nil))), ⟨[MwO0, MwO26], 68648⟩, (.agg (avs [(nu 35), (nu 0), (nu 0), (nu 0), (.str 3 7632240), (nu 0), (.sl 69054 0 1 8 false), (nu 100)])), ⟨[MwO0, MwO27, MwO25, MwO28], 69271⟩⟩
theorem MwT11 [In2] : Ent.check Tryz.prog (knownG Tryz.prog In2.z) [(172, [MwE10])] 990 MwE11 = true := by kernel_rfl
theorem MwK11 [In2] : MwE11.Ok Tryz.prog K0 := Ent.ok_of mixed known_ok (Tab.ok_cons (f := 172) (Ent.ok_cons MwK10 Ent.ok_nil) Tab.ok_nil) MwT11
def MwE12 : Ent := ⟨172, (.cons (.ptr 65659 0) (.cons (nu 4) (.cons (nu 5) .nil))), ⟨[MwO0, MwO29], 69378⟩, (.agg (avs [(nu 21), (nu 0), (nu 0), (nu 0), (.str 0 0), (nu 0), (.sl 69562 0 2 8 true), (nu 114)])), ⟨[MwO0, MwO30, MwO31], 69657⟩⟩
theorem MwT12 [In2] : Ent.check Tryz.prog (knownG Tryz.prog In2.z) [] 990 MwE12 = true := by kernel_rfl
theorem MwK12 [In2] : MwE12.Ok Tryz.prog K0 := Ent.ok_of mixed known_ok Tab.ok_nil MwT12
def MwE13 : Ent := ⟨172, (.cons (.ptr 65659 0) (.cons (nu 3) (.cons (nu 3) .nil))), ⟨[MwO0, MwO32], 69329⟩, (.agg (avs [(nu 35), (nu 0), (nu 0), (nu 0), (.str 3 7632240), (nu 0), (.sl 69779 0 1 8 false), (nu 109)])), ⟨[MwO0, MwO33, MwO31, MwO34], 69950⟩⟩
theorem MwT13 [In2] : Ent.check Tryz.prog (knownG Tryz.prog In2.z) [(172, [MwE12])] 990 MwE13 = true := by kernel_rfl
theorem MwK13 [In2] : MwE13.Ok Tryz.prog K0 := Ent.ok_of mixed known_ok (Tab.ok_cons (f := 172) (Ent.ok_cons MwK12 Ent.ok_nil) Tab.ok_nil) MwT13
def MwE14 : Ent := ⟨172, (.cons (.ptr 65659 0) (.cons (nu 4) (.cons (nu 6) .nil))), ⟨[MwO0, MwO35], 70104⟩, (.agg (avs [(nu 22), (nu 0), (nu 0), (nu 0), (.str 0 0), (nu 0), (.sl 70336 0 2 8 true), (nu 124)])), ⟨[MwO0, MwO36, MwO37], 70385⟩⟩
theorem MwT14 [In2] : Ent.check Tryz.prog (knownG Tryz.prog In2.z) [] 990 MwE14 = true := by kernel_rfl
theorem MwK14 [In2] : MwE14.Ok Tryz.prog K0 := Ent.ok_of mixed known_ok Tab.ok_nil MwT14
end Go.Proofs.YtlpmpjechbkpkaaGreat

/- Calls that were proved one by one: what the evaluator says. -/
import Derived.Test.YtdnblmideoknbaaGreatLwO
import Derived.Test.YtdnblmideoknbaaGreatProg
import Derived.ProofKit
import Derived.Test.YtdnblmideoknbaaGreatWdB
namespace Go.Proofs.YtdnblmideoknbaaGreat
open Go.Proofs.YtdnblmideoknbaaGreat.Ev
set_option maxRecDepth 100000

def LwE1 : Ent := ⟨121, (.cons (.ptr 65659 0) (.cons (nu 2) .nil)), ⟨[LwO0, LwO1], 65693⟩, (.agg (avs [(nu 2), (.sl 66005 0 1 8 true), .nils, (nu 7), (nu 0), (nu 0), (.str 1 97), (nu 0), (nu 11)])), ⟨[LwO0, LwO2, LwO3], 66009⟩⟩
theorem LwT1 [In2] : Ent.check Tryz.prog (knownG Tryz.prog In2.z) [] 990 LwE1 = true := by kernel_rfl
theorem LwK1 [In2] : LwE1.Ok Tryz.prog K0 := Ent.ok_of mixed known_ok Tab.ok_nil LwT1
def LwE2 : Ent := ⟨121, (.cons (.ptr 65659 0) (.cons (nu 2) .nil)), ⟨[LwO0, LwO2], 66012⟩, (.agg (avs [(nu 2), (.sl 66324 0 1 8 true), .nils, (nu 7), (nu 0), (nu 0), (.str 1 98), (nu 0), (nu 24)])), ⟨[LwO0, LwO4, LwO5], 66328⟩⟩
theorem LwT2 [In2] : Ent.check Tryz.prog (knownG Tryz.prog In2.z) [] 990 LwE2 = true := by kernel_rfl
theorem LwK2 [In2] : LwE2.Ok Tryz.prog K0 := Ent.ok_of mixed known_ok Tab.ok_nil LwT2
def LwE3 : Ent := ⟨121, (.cons (.ptr 65659 0) (.cons (nu 2) .nil)), ⟨[LwO0, LwO4], 66331⟩, (.agg (avs [(nu 2), (.sl 66635 0 1 8 true), .nils, (nu 1), (nu 0), (nu 0), (.str 1 99), (nu 0), (nu 37)])), ⟨[LwO0, LwO6, LwO7], 66639⟩⟩
theorem LwT3 [In2] : Ent.check Tryz.prog (knownG Tryz.prog In2.z) [] 990 LwE3 = true := by kernel_rfl
theorem LwK3 [In2] : LwE3.Ok Tryz.prog K0 := Ent.ok_of mixed known_ok Tab.ok_nil LwT3
def LwE4 : Ent := ⟨121, (.cons (.ptr 65659 0) (.cons (nu 2) .nil)), ⟨[LwO0, LwO6], 66642⟩, (.agg (avs [(nu 2), (.sl 66949 0 1 8 true), .nils, (nu 4), (nu 0), (nu 0), (.str 1 102), (nu 0), (nu 46)])), ⟨[LwO0, LwO8, LwO9], 66953⟩⟩
theorem LwT4 [In2] : Ent.check Tryz.prog (knownG Tryz.prog In2.z) [] 990 LwE4 = true := by kernel_rfl
theorem LwK4 [In2] : LwE4.Ok Tryz.prog K0 := Ent.ok_of mixed known_ok Tab.ok_nil LwT4
def LwE5 : Ent := ⟨121, (.cons (.ptr 65659 0) (.cons (nu 2) .nil)), ⟨[LwO0, LwO8], 66956⟩, (.agg (avs [(nu 2), (.sl 67264 0 1 8 true), .nils, (nu 6), (nu 0), (nu 0), (.str 1 104), (nu 0), (nu 65)])), ⟨[LwO0, LwO10, LwO11], 67268⟩⟩
theorem LwT5 [In2] : Ent.check Tryz.prog (knownG Tryz.prog In2.z) [] 990 LwE5 = true := by kernel_rfl
theorem LwK5 [In2] : LwE5.Ok Tryz.prog K0 := Ent.ok_of mixed known_ok Tab.ok_nil LwT5
def LwE6 : Ent := ⟨263, (.cons (.ptr 65659 0) (.cons (nu 4) (.cons (nu 2) .nil))), ⟨[LwO0, LwO12], 67338⟩, (.agg (avs [(nu 15), (nu 0), (nu 0), (nu 0), (.str 0 0), (nu 0), (.sl 67433 0 2 8 true), (nu 87)])), ⟨[LwO0, LwO13, LwO14], 67643⟩⟩
theorem LwT6 [In2] : Ent.check Tryz.prog (knownG Tryz.prog In2.z) [] 990 LwE6 = true := by kernel_rfl
theorem LwK6 [In2] : LwE6.Ok Tryz.prog K0 := Ent.ok_of mixed known_ok Tab.ok_nil LwT6
def LwE7 : Ent := ⟨263, (.cons (.ptr 65659 0) (.cons (nu 3) (.cons (nu 0) .nil))), ⟨[LwO0, LwO10], 67289⟩, (.agg (avs [(nu 35), (nu 0), (nu 0), (nu 0), (.str 3 7632240), (nu 0), (.sl 67696 0 1 8 false), (nu 82)])), ⟨[LwO0, LwO15, LwO14, LwO16], 67936⟩⟩
theorem LwT7 [In2] : Ent.check Tryz.prog (knownG Tryz.prog In2.z) [(263, [LwE6])] 990 LwE7 = true := by kernel_rfl
theorem LwK7 [In2] : LwE7.Ok Tryz.prog K0 := Ent.ok_of mixed known_ok (Tab.ok_cons (f := 263) (Ent.ok_cons LwK6 Ent.ok_nil) Tab.ok_nil) LwT7
def LwE8 : Ent := ⟨263, (.cons (.ptr 65659 0) (.cons (nu 4) (.cons (nu 3) .nil))), ⟨[LwO0, LwO17], 68018⟩, (.agg (avs [(nu 16), (nu 0), (nu 0), (nu 0), (.str 0 0), (nu 0), (.sl 68112 0 2 8 true), (nu 96)])), ⟨[LwO0, LwO18, LwO19], 68299⟩⟩
theorem LwT8 [In2] : Ent.check Tryz.prog (knownG Tryz.prog In2.z) [] 990 LwE8 = true := by kernel_rfl
theorem LwK8 [In2] : LwE8.Ok Tryz.prog K0 := Ent.ok_of mixed known_ok Tab.ok_nil LwT8
def LwE9 : Ent := ⟨263, (.cons (.ptr 65659 0) (.cons (nu 3) (.cons (nu 1) .nil))), ⟨[LwO0, LwO20], 67969⟩, (.agg (avs [(nu 35), (nu 0), (nu 0), (nu 0), (.str 3 7632240), (nu 0), (.sl 68375 0 1 8 false), (nu 91)])), ⟨[LwO0, LwO21, LwO19, LwO22], 68592⟩⟩
theorem LwT9 [In2] : Ent.check Tryz.prog (knownG Tryz.prog In2.z) [(263, [LwE8])] 990 LwE9 = true := by kernel_rfl
theorem LwK9 [In2] : LwE9.Ok Tryz.prog K0 := Ent.ok_of mixed known_ok (Tab.ok_cons (f := 263) (Ent.ok_cons LwK8 Ent.ok_nil) Tab.ok_nil) LwT9
def LwE10 : Ent := ⟨263, (.cons (.ptr 65659 0) (.cons (nu 4) (.cons (nu 3) .nil))), ⟨[LwO0, LwO23], 68697⟩, (.agg (avs [(nu 17), (nu 0), (nu 0), (nu 0), (.str 0 0), (nu 0), (.sl 68791 0 2 8 true), (nu 105)])), ⟨[LwO0, LwO24, LwO25], 68978⟩⟩
theorem LwT10 [In2] : Ent.check Tryz.prog (knownG Tryz.prog In2.z) [] 990 LwE10 = true := by kernel_rfl
theorem LwK10 [In2] : LwE10.Ok Tryz.prog K0 := Ent.ok_of mixed known_ok Tab.ok_nil LwT10
def LwE11 : Ent := ⟨263, (.cons (.ptr 65659 0) (.cons (nu 3) (.cons (nu 1) .nil))), ⟨[LwO0, LwO26], 68648⟩, (.agg (avs [(nu 35), (nu 0), (nu 0), (nu 0), (.str 3 7632240), (nu 0), (.sl 69054 0 1 8 false), (nu 100)])), ⟨[LwO0, LwO27, LwO25, LwO28], 69271⟩⟩
theorem LwT11 [In2] : Ent.check Tryz.prog (knownG Tryz.prog In2.z) [(263, [LwE10])] 990 LwE11 = true := by kernel_rfl
theorem LwK11 [In2] : LwE11.Ok Tryz.prog K0 := Ent.ok_of mixed known_ok (Tab.ok_cons (f := 263) (Ent.ok_cons LwK10 Ent.ok_nil) Tab.ok_nil) LwT11
def LwE12 : Ent := ⟨263, (.cons (.ptr 65659 0) (.cons (nu 4) (.cons (nu 5) .nil))), ⟨[LwO0, LwO29], 69378⟩, (.agg (avs [(nu 21), (nu 0), (nu 0), (nu 0), (.str 0 0), (nu 0), (.sl 69562 0 2 8 true), (nu 114)])), ⟨[LwO0, LwO30, LwO31], 69657⟩⟩
theorem LwT12 [In2] : Ent.check Tryz.prog (knownG Tryz.prog In2.z) [] 990 LwE12 = true := by kernel_rfl
theorem LwK12 [In2] : LwE12.Ok Tryz.prog K0 := Ent.ok_of mixed known_ok Tab.ok_nil LwT12
def LwE13 : Ent := ⟨263, (.cons (.ptr 65659 0) (.cons (nu 3) (.cons (nu 3) .nil))), ⟨[LwO0, LwO32], 69329⟩, (.agg (avs [(nu 35), (nu 0), (nu 0), (nu 0), (.str 3 7632240), (nu 0), (.sl 69779 0 1 8 false), (nu 109)])), ⟨[LwO0, LwO33, LwO31, LwO34], 69950⟩⟩
theorem LwT13 [In2] : Ent.check Tryz.prog (knownG Tryz.prog In2.z) [(263, [LwE12])] 990 LwE13 = true := by kernel_rfl
theorem LwK13 [In2] : LwE13.Ok Tryz.prog K0 := Ent.ok_of mixed known_ok (Tab.ok_cons (f := 263) (Ent.ok_cons LwK12 Ent.ok_nil) Tab.ok_nil) LwT13
def LwE14 : Ent := ⟨263, (.cons (.ptr 65659 0) (.cons (nu 4) (.cons (nu 6) .nil))), ⟨[LwO0, LwO35], 70104⟩, (.agg (avs [(nu 22), (nu 0), (nu 0), (nu 0), (.str 0 0), (nu 0), (.sl 70336 0 2 8 true), (nu 124)])), ⟨[LwO0, LwO36, LwO37], 70385⟩⟩
theorem LwT14 [In2] : Ent.check Tryz.prog (knownG Tryz.prog In2.z) [] 990 LwE14 = true := by kernel_rfl
theorem LwK14 [In2] : LwE14.Ok Tryz.prog K0 := Ent.ok_of mixed known_ok Tab.ok_nil LwT14
end Go.Proofs.YtdnblmideoknbaaGreat

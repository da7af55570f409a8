/- Calls that were proved one by one: what the evaluator says. -/
import Derived.Test.YtdnblmideoknbaaGreatLwO
import Derived.Test.YtdnblmideoknbaaGreatProg
import Derived.ProofKit
import Derived.Test.YtdnblmideoknbaaGreatWdB
namespace Go.Proofs.YtdnblmideoknbaaGreat
open Go.Proofs.YtdnblmideoknbaaGreat.Ev
set_option maxRecDepth 100000

def LwE34 : Ent := ⟨36, (.cons (.str 28 LwS1) .nil), ⟨[], 88887⟩, (.tup (avs [(.sl 99212 0 15 4 false), (.agg (avs [(nu 0), (nu 0)]))])), ⟨[LwO266], 99213⟩⟩
theorem LwT34 [In2] : Ent.check Tryz.prog (knownG Tryz.prog In2.z) [] 990 LwE34 = true := by kernel_rfl
theorem LwK34 [In2] : LwE34.Ok Tryz.prog K0 := Ent.ok_of mixed known_ok Tab.ok_nil LwT34
def LwE35 : Ent := ⟨329, (.cons (.ptr 99214 0) (.cons (nu 3) .nil)), ⟨[LwO266, LwO267], 99290⟩, (.agg (avs [(nu 35), (nu 0), (nu 0), (nu 0), (.str 3 7632240), (nu 0), (.sl 99585 0 1 8 false), (nu 11)])), ⟨[LwO266, LwO268, LwO269], 99595⟩⟩
theorem LwT35 [In2] : Ent.check Tryz.prog (knownG Tryz.prog In2.z) [] 990 LwE35 = true := by kernel_rfl
theorem LwK35 [In2] : LwE35.Ok Tryz.prog K0 := Ent.ok_of mixed known_ok Tab.ok_nil LwT35
def LwE36 : Ent := ⟨121, (.cons (.ptr 99214 0) (.cons (nu 2) .nil)), ⟨[LwO266, LwO267], 99248⟩, (.agg (avs [(nu 1), (.sl 99832 0 1 8 true), .nils, (nu 0), (nu 0), (nu 0), (.str 0 0), (nu 0), (nu 11)])), ⟨[LwO266, LwO270, LwO269, LwO271], 99836⟩⟩
theorem LwT36 [In2] : Ent.check Tryz.prog (knownG Tryz.prog In2.z) [(329, [LwE35])] 990 LwE36 = true := by kernel_rfl
theorem LwK36 [In2] : LwE36.Ok Tryz.prog K0 := Ent.ok_of mixed known_ok (Tab.ok_cons (f := 329) (Ent.ok_cons LwK35 Ent.ok_nil) Tab.ok_nil) LwT36
def LwE37 : Ent := ⟨121, (.cons (.ptr 99214 0) (.cons (nu 2) .nil)), ⟨[LwO266, LwO270], 99839⟩, (.agg (avs [(nu 13), (.sl 100132 0 1 8 true), .nils, (nu 0), (nu 0), (nu 0), (.str 0 0), (nu 0), (nu 18)])), ⟨[LwO266, LwO272, LwO273], 100136⟩⟩
theorem LwT37 [In2] : Ent.check Tryz.prog (knownG Tryz.prog In2.z) [] 990 LwE37 = true := by kernel_rfl
theorem LwK37 [In2] : LwE37.Ok Tryz.prog K0 := Ent.ok_of mixed known_ok Tab.ok_nil LwT37
def LwE38 : Ent := ⟨19, (.cons (.agg (avs [.nils, (.sl 100193 0 1 8 false)])) .nil), ⟨[LwO274, LwO275, LwO276, LwO277, LwO278], 100364⟩, (.tup (avs [(.agg (avs [.nils, (.sl 100820 0 1 4 false), (nu 0)])), (nu 0)])), ⟨[LwO274, LwO275, LwO276, LwO277, LwO278, LwO279, LwO280, LwO281, LwO282], 100821⟩⟩
theorem LwT38 [In2] : Ent.check Tryz.prog (knownG Tryz.prog In2.z) [] 990 LwE38 = true := by kernel_rfl
theorem LwK38 [In2] : LwE38.Ok Tryz.prog K0 := Ent.ok_of mixed known_ok Tab.ok_nil LwT38
def LwE39 : Ent := ⟨10, .nil, ⟨[], 88884⟩, (.bool true), ⟨[], 101103⟩⟩
theorem LwT39 [In2] : Ent.check Tryz.prog (knownG Tryz.prog In2.z) [(36, [LwE34]), (121, [LwE36, LwE37]), (19, [LwE38])] 990 LwE39 = true := by kernel_rfl
theorem LwK39 [In2] : LwE39.Ok Tryz.prog K0 := Ent.ok_of mixed known_ok (Tab.ok_cons (f := 36) (Ent.ok_cons LwK34 Ent.ok_nil) (Tab.ok_cons (f := 121) (Ent.ok_cons LwK36 (Ent.ok_cons LwK37 Ent.ok_nil)) (Tab.ok_cons (f := 19) (Ent.ok_cons LwK38 Ent.ok_nil) Tab.ok_nil))) LwT39
end Go.Proofs.YtdnblmideoknbaaGreat

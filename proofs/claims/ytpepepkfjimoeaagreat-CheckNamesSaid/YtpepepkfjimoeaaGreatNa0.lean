/- Calls that were proved one by one: what the evaluator says. -/
import Derived.Test.YtpepepkfjimoeaaGreatNaO
import Derived.Test.YtpepepkfjimoeaaGreatProg
import Derived.ProofKit
import Derived.Test.YtpepepkfjimoeaaGreatVh
namespace Go.Proofs.YtpepepkfjimoeaaGreat
open Go.Proofs.YtpepepkfjimoeaaGreat.Ev
set_option maxRecDepth 100000

def NaE0 : Ent := ⟨22, (.cons (.str 24 3076787540213774205770591321020056033113733432963411242601) .nil), ⟨[], 4⟩, (.tup (avs [(.sl 7794 0 13 4 false), (.agg (avs [(nu 0), (nu 0)]))])), ⟨[NaO0, NaO1, NaO2, NaO3, NaO4, NaO5, NaO6, NaO7, NaO8, NaO9, NaO10, NaO11, NaO12], 7795⟩⟩
theorem NaT0 : Ent.check Tryz.prog [] 990 NaE0 = true := by kernel_rfl
theorem NaK0 : NaE0.Ok Tryz.prog := Ent.ok_of mixed Tab.ok_nil NaT0
def NaE1 : Ent := ⟨22, (.cons (.str 24 3076787540213774205770591321040513516932598025915651616361) .nil), ⟨[], 8061⟩, (.tup (avs [(.sl 18811 0 13 4 false), (.agg (avs [(nu 0), (nu 0)]))])), ⟨[NaO13, NaO14, NaO15, NaO16, NaO17, NaO18, NaO19, NaO20, NaO21, NaO22, NaO23, NaO24, NaO25], 18812⟩⟩
theorem NaT1 : Ent.check Tryz.prog [] 990 NaE1 = true := by kernel_rfl
theorem NaK1 : NaE1.Ok Tryz.prog := Ent.ok_of mixed Tab.ok_nil NaT1
def NaE2 : Ent := ⟨22, (.cons (.str 20 716370423374179332929335376485269377945468956265) .nil), ⟨[], 19034⟩, (.tup (avs [(.sl 25617 0 10 4 false), (.agg (avs [(nu 0), (nu 0)]))])), ⟨[NaO26, NaO27, NaO28, NaO29, NaO30, NaO31, NaO32, NaO33, NaO34, NaO35], 25618⟩⟩
theorem NaT2 : Ent.check Tryz.prog [] 990 NaE2 = true := by kernel_rfl
theorem NaK2 : NaE2.Ok Tryz.prog := Ent.ok_of mixed Tab.ok_nil NaT2
end Go.Proofs.YtpepepkfjimoeaaGreat

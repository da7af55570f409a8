/- Calls that were proved one by one: what the evaluator says. -/
import Derived.Test.YtpepepkfjimoeaaGreatNaO
import Derived.Test.YtpepepkfjimoeaaGreatProg
import Derived.ProofKit
import Derived.Test.YtpepepkfjimoeaaGreatVh
namespace Go.Proofs.YtpepepkfjimoeaaGreat
open Go.Proofs.YtpepepkfjimoeaaGreat.Ev
set_option maxRecDepth 100000

def NaE12 : Ent := ⟨22, (.cons (.str 32 56756712323501828054506286322271550136353707718615896662821666345682969325161) .nil), ⟨[], 120953⟩, (.tup (avs [(.sl 132926 0 18 4 false), (.agg (avs [(nu 0), (nu 0)]))])), ⟨[NaO168, NaO169, NaO170, NaO171, NaO172, NaO173, NaO174, NaO175, NaO176, NaO177, NaO178, NaO179, NaO180, NaO181, NaO182, NaO183, NaO184, NaO185], 132927⟩⟩
theorem NaT12 : Ent.check Tryz.prog [] 990 NaE12 = true := by kernel_rfl
theorem NaK12 : NaE12.Ok Tryz.prog := Ent.ok_of mixed Tab.ok_nil NaT12
def NaE13 : Ent := ⟨22, (.cons (.str 19 2792773651684334662140315926166647622568537705) .nil), ⟨[], 133343⟩, (.tup (avs [(.sl 139926 0 10 4 false), (.agg (avs [(nu 0), (nu 0)]))])), ⟨[NaO186, NaO187, NaO188, NaO189, NaO190, NaO191, NaO192, NaO193, NaO194, NaO195], 139927⟩⟩
theorem NaT13 : Ent.check Tryz.prog [] 990 NaE13 = true := by kernel_rfl
theorem NaK13 : NaE13.Ok Tryz.prog := Ent.ok_of mixed Tab.ok_nil NaT13
def NaE14 : Ent := ⟨22, (.cons (.str 17 42614023908608085946870613333987713904233) .nil), ⟨[], 140166⟩, (.tup (avs [(.sl 149065 0 12 4 false), (.agg (avs [(nu 0), (nu 0)]))])), ⟨[NaO196, NaO197, NaO198, NaO199, NaO200, NaO201, NaO202, NaO203, NaO204, NaO205, NaO206, NaO207], 149066⟩⟩
theorem NaT14 : Ent.check Tryz.prog [] 990 NaE14 = true := by kernel_rfl
theorem NaK14 : NaE14.Ok Tryz.prog := Ent.ok_of mixed Tab.ok_nil NaT14
end Go.Proofs.YtpepepkfjimoeaaGreat

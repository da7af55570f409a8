/- Calls that were proved one by one: what the evaluator says. -/
import Derived.Test.YtpepepkfjimoeaaGreatNaO
import Derived.Test.YtpepepkfjimoeaaGreatProg
import Derived.ProofKit
import Derived.Test.YtpepepkfjimoeaaGreatVh
import Derived.Test.YtpepepkfjimoeaaGreatNa0
import Derived.Test.YtpepepkfjimoeaaGreatNa1
import Derived.Test.YtpepepkfjimoeaaGreatNa2
import Derived.Test.YtpepepkfjimoeaaGreatNa3
import Derived.Test.YtpepepkfjimoeaaGreatNa4
import Derived.Test.YtpepepkfjimoeaaGreatNa5
namespace Go.Proofs.YtpepepkfjimoeaaGreat
open Go.Proofs.YtpepepkfjimoeaaGreat.Ev
set_option maxRecDepth 100000

def NaE19 : Ent := ⟨22, (.cons (.str 30 864321581018700701055806008861368996582443997140908299057764293640744553) .nil), ⟨[], 178025⟩, (.tup (avs [(.sl 189982 0 16 4 false), (.agg (avs [(nu 0), (nu 0)]))])), ⟨[NaO252, NaO253, NaO254, NaO255, NaO256, NaO257, NaO258, NaO259, NaO260, NaO261, NaO262, NaO263, NaO264, NaO265, NaO266, NaO267], 189983⟩⟩
theorem NaT19 : Ent.check Tryz.prog [] 990 NaE19 = true := by kernel_rfl
theorem NaK19 : NaE19.Ok Tryz.prog := Ent.ok_of mixed Tab.ok_nil NaT19
def NaE20 : Ent := ⟨22, (.cons (.str 21 183027214036441647010847385142690503854034871676521) .nil), ⟨[], 190590⟩, (.tup (avs [(.sl 197173 0 10 4 false), (.agg (avs [(nu 0), (nu 0)]))])), ⟨[NaO268, NaO269, NaO270, NaO271, NaO272, NaO273, NaO274, NaO275, NaO276, NaO277], 197174⟩⟩
theorem NaT20 : Ent.check Tryz.prog [] 990 NaE20 = true := by kernel_rfl
theorem NaK20 : NaE20.Ok Tryz.prog := Ent.ok_of mixed Tab.ok_nil NaT20
def NaE21 : Ent := ⟨10, (.cons (.sl 0 0 18 1 true) (.cons (.sl 1 0 18 1 true) .nil)), ⟨[NaO278, NaO279], 2⟩, (.bool true), ⟨[NaO278, NaO279], 197667⟩⟩
theorem NaT21 : Ent.check Tryz.prog [(22, [NaE0, NaE1, NaE2, NaE3, NaE4, NaE5, NaE6, NaE7, NaE9, NaE10, NaE11, NaE12, NaE13, NaE14, NaE15, NaE16, NaE17, NaE19, NaE20]), (48, [NaE8]), (23, [NaE18])] 990 NaE21 = true := by kernel_rfl
theorem NaK21 : NaE21.Ok Tryz.prog := Ent.ok_of mixed (Tab.ok_cons (f := 22) (Ent.ok_cons NaK0 (Ent.ok_cons NaK1 (Ent.ok_cons NaK2 (Ent.ok_cons NaK3 (Ent.ok_cons NaK4 (Ent.ok_cons NaK5 (Ent.ok_cons NaK6 (Ent.ok_cons NaK7 (Ent.ok_cons NaK9 (Ent.ok_cons NaK10 (Ent.ok_cons NaK11 (Ent.ok_cons NaK12 (Ent.ok_cons NaK13 (Ent.ok_cons NaK14 (Ent.ok_cons NaK15 (Ent.ok_cons NaK16 (Ent.ok_cons NaK17 (Ent.ok_cons NaK19 (Ent.ok_cons NaK20 Ent.ok_nil))))))))))))))))))) (Tab.ok_cons (f := 48) (Ent.ok_cons NaK8 Ent.ok_nil) (Tab.ok_cons (f := 23) (Ent.ok_cons NaK18 Ent.ok_nil) Tab.ok_nil))) NaT21
end Go.Proofs.YtpepepkfjimoeaaGreat

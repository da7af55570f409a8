/- Calls that were proved one by one: what the evaluator says. -/
import Derived.Test.YtpepepkfjimoeaaGreatMpO
import Derived.Test.YtpepepkfjimoeaaGreatMpOx1
import Derived.Test.YtpepepkfjimoeaaGreatProg
import Derived.ProofKit
import Derived.Test.YtpepepkfjimoeaaGreatVh
namespace Go.Proofs.YtpepepkfjimoeaaGreat
open Go.Proofs.YtpepepkfjimoeaaGreat.Ev
set_option maxRecDepth 100000

def MpE0 : Ent := ⟨22, (.cons (.str 70 1846161974607207561253685302398863135216730407549569942522489085634139010419446147252795457384790550599692587935695359579630262895959895134433847305422918470756302351977) .nil), ⟨[], 13⟩, (.tup (avs [(.sl 39880 0 58 4 false), (.agg (avs [(nu 0), (nu 0)]))])), ⟨[MpO0, MpO1, MpO2, MpO3, MpO4, MpO5, MpO6, MpO7, MpO8, MpO9, MpO10, MpO11, MpO12, MpO13, MpO14, MpO15, MpO16, MpO17, MpO18, MpO19, MpO20, MpO21, MpO22, MpO23, MpO24, MpO25, MpO26, MpO27, MpO28, MpO29, MpO30, MpO31, MpO32, MpO33, MpO34, MpO35, MpO36, MpO37, MpO38, MpO39, MpO40, MpO41, MpO42, MpO43, MpO44, MpO45, MpO46, MpO47, MpO48, MpO49, MpO50, MpO51, MpO52, MpO53, MpO54, MpO55, MpO56, MpO57], 39881⟩⟩
theorem MpT0 : Ent.check Tryz.prog [] 990 MpE0 = true := by kernel_rfl
theorem MpK0 : MpE0.Ok Tryz.prog := Ent.ok_of mixed Tab.ok_nil MpT0
end Go.Proofs.YtpepepkfjimoeaaGreat

/- The evaluator, and what it says. -/
import Derived.Test.YtpepepkfjimoeaaGreatPlO
import Derived.Test.YtpepepkfjimoeaaGreatProg
import Derived.ProofKit
namespace Go.Proofs.YtpepepkfjimoeaaGreat
open Go.Proofs.YtpepepkfjimoeaaGreat.Ev
set_option maxRecDepth 100000

def PlE6 : Ent := ⟨16, (.cons (.str 21 183026701624598357463657697131633722098406651096681) .nil), ⟨[PlO0, PlO1, PlO25, PlO26], 28923⟩, (.tup (.cons (.agg (.cons .nils (.cons (.sl 37965 0 1 8 false) .nil))) (.cons (.agg (.cons (nu 0) (.cons (nu 0) .nil))) .nil))), ⟨[PlO0, PlO1, PlO25, PlO26, PlO27, PlO28, PlO29, PlO30, PlO31], 37966⟩⟩
theorem PlT6 : Ent.check Tryz.prog [] 990 PlE6 = true := by kernel_rfl
def PlE7 : Ent := ⟨17, (.cons (.agg (.cons .nils (.cons (.sl 37965 0 1 8 false) .nil))) .nil), ⟨[PlO0, PlO1, PlO27, PlO28, PlO29, PlO30, PlO31, PlO32, PlO33], 37968⟩, (.tup (.cons (.agg (.cons .nils (.cons (.sl 37983 0 1 8 false) .nil))) (.cons (.agg (.cons (nu 0) (.cons (nu 0) .nil))) .nil))), ⟨[PlO0, PlO1, PlO27, PlO28, PlO29, PlO30, PlO31, PlO32, PlO33, PlO34, PlO35, PlO36, PlO37, PlO38], 38234⟩⟩
theorem PlT7 : Ent.check Tryz.prog [] 990 PlE7 = true := by kernel_rfl
end Go.Proofs.YtpepepkfjimoeaaGreat

/- The evaluator, and what it says. -/
import Derived.Test.YtpepepkfjimoeaaGreatPlO
import Derived.Test.YtpepepkfjimoeaaGreatProg
import Derived.ProofKit
namespace Go.Proofs.YtpepepkfjimoeaaGreat
open Go.Proofs.YtpepepkfjimoeaaGreat.Ev
set_option maxRecDepth 100000

def PlE36 : Ent := ⟨16, (.cons (.str 22 46854579222645992084750626748507884992815972769623657) .nil), ⟨[PlO0, PlO1, PlO192, PlO193], 196737⟩, (.tup (.cons (.agg (.cons .nils (.cons (.sl 210701 0 1 8 false) .nil))) (.cons (.agg (.cons (nu 0) (.cons (nu 0) .nil))) .nil))), ⟨[PlO0, PlO1, PlO192, PlO193, PlO194, PlO195, PlO196, PlO197, PlO198], 210702⟩⟩
theorem PlT36 : Ent.check Tryz.prog [] 990 PlE36 = true := by kernel_rfl
def PlE37 : Ent := ⟨17, (.cons (.agg (.cons .nils (.cons (.sl 210701 0 1 8 false) .nil))) .nil), ⟨[PlO0, PlO1, PlO194, PlO195, PlO196, PlO197, PlO198, PlO199, PlO200], 210704⟩, (.tup (.cons (.agg (.cons .nils (.cons .nils .nil))) (.cons (.agg (.cons (nu 7) (.cons (nu 18) .nil))) .nil))), ⟨[PlO0, PlO1, PlO194, PlO195, PlO196, PlO197, PlO198, PlO199, PlO200], 210881⟩⟩
theorem PlT37 : Ent.check Tryz.prog [] 990 PlE37 = true := by kernel_rfl
end Go.Proofs.YtpepepkfjimoeaaGreat

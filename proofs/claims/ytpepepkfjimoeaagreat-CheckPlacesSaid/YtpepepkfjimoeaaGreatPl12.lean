/- The evaluator, and what it says. -/
import Derived.Test.YtpepepkfjimoeaaGreatPlO
import Derived.Test.YtpepepkfjimoeaaGreatProg
import Derived.ProofKit
namespace Go.Proofs.YtpepepkfjimoeaaGreat
open Go.Proofs.YtpepepkfjimoeaaGreat.Ev
set_option maxRecDepth 100000

def PlE24 : Ent := ⟨16, (.cons (.str 21 183025838706994675200323568127443664698532175310441) .nil), ⟨[PlO0, PlO1, PlO117, PlO118], 106261⟩, (.tup (.cons (.agg (.cons .nils (.cons (.sl 114078 0 1 8 false) .nil))) (.cons (.agg (.cons (nu 0) (.cons (nu 0) .nil))) .nil))), ⟨[PlO0, PlO1, PlO117, PlO118, PlO119, PlO120, PlO121], 114079⟩⟩
theorem PlT24 : Ent.check Tryz.prog [] 990 PlE24 = true := by kernel_rfl
def PlE25 : Ent := ⟨17, (.cons (.agg (.cons .nils (.cons (.sl 114078 0 1 8 false) .nil))) .nil), ⟨[PlO0, PlO1, PlO119, PlO120, PlO121, PlO122, PlO123], 114081⟩, (.tup (.cons (.agg (.cons .nils (.cons .nils .nil))) (.cons (.agg (.cons (nu 7) (.cons (nu 11) .nil))) .nil))), ⟨[PlO0, PlO1, PlO119, PlO120, PlO121, PlO122, PlO123], 114213⟩⟩
theorem PlT25 : Ent.check Tryz.prog [] 990 PlE25 = true := by kernel_rfl
end Go.Proofs.YtpepepkfjimoeaaGreat

/- The evaluator, and what it says. -/
import Derived.Test.YtpepepkfjimoeaaGreatPlO
import Derived.Test.YtpepepkfjimoeaaGreatProg
import Derived.ProofKit
namespace Go.Proofs.YtpepepkfjimoeaaGreat
open Go.Proofs.YtpepepkfjimoeaaGreat.Ev
set_option maxRecDepth 100000

def PlE4 : Ent := ⟨16, (.cons (.str 15 650237663572754712949136954548842089) .nil), ⟨[PlO0, PlO1, PlO17, PlO18], 20985⟩, (.tup (.cons (.agg (.cons .nils (.cons (.sl 28778 0 1 8 false) .nil))) (.cons (.agg (.cons (nu 0) (.cons (nu 0) .nil))) .nil))), ⟨[PlO0, PlO1, PlO17, PlO18, PlO19, PlO20, PlO21, PlO22], 28779⟩⟩
theorem PlT4 : Ent.check Tryz.prog [] 990 PlE4 = true := by kernel_rfl
def PlE5 : Ent := ⟨17, (.cons (.agg (.cons .nils (.cons (.sl 28778 0 1 8 false) .nil))) .nil), ⟨[PlO0, PlO1, PlO19, PlO20, PlO21, PlO22, PlO23, PlO24], 28781⟩, (.tup (.cons (.agg (.cons .nils (.cons .nils .nil))) (.cons (.agg (.cons (nu 7) (.cons (nu 11) .nil))) .nil))), ⟨[PlO0, PlO1, PlO19, PlO20, PlO21, PlO22, PlO23, PlO24], 28909⟩⟩
theorem PlT5 : Ent.check Tryz.prog [] 990 PlE5 = true := by kernel_rfl
end Go.Proofs.YtpepepkfjimoeaaGreat

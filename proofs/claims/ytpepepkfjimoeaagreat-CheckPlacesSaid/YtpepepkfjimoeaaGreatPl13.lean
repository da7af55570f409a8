/- The evaluator, and what it says. -/
import Derived.Test.YtpepepkfjimoeaaGreatPlO
import Derived.Test.YtpepepkfjimoeaaGreatProg
import Derived.ProofKit
namespace Go.Proofs.YtpepepkfjimoeaaGreat
open Go.Proofs.YtpepepkfjimoeaaGreat.Ev
set_option maxRecDepth 100000

def PlE26 : Ent := ⟨16, (.cons (.str 39 4090015751352628555226709529842857754003305250448387653624527019541208603722994502124673724009) .nil), ⟨[PlO0, PlO1, PlO124, PlO125], 114227⟩, (.tup (.cons (.agg (.cons .nils (.cons (.sl 130118 0 1 8 false) .nil))) (.cons (.agg (.cons (nu 0) (.cons (nu 0) .nil))) .nil))), ⟨[PlO0, PlO1, PlO124, PlO125, PlO126, PlO127, PlO128, PlO129, PlO130, PlO131, PlO132, PlO133], 130119⟩⟩
theorem PlT26 : Ent.check Tryz.prog [] 990 PlE26 = true := by kernel_rfl
def PlE27 : Ent := ⟨17, (.cons (.agg (.cons .nils (.cons (.sl 130118 0 1 8 false) .nil))) .nil), ⟨[PlO0, PlO1, PlO126, PlO127, PlO128, PlO129, PlO130, PlO131, PlO132, PlO133, PlO134, PlO135], 130121⟩, (.tup (.cons (.agg (.cons .nils (.cons .nils .nil))) (.cons (.agg (.cons (nu 5) (.cons (nu 29) .nil))) .nil))), ⟨[PlO0, PlO1, PlO126, PlO127, PlO128, PlO129, PlO130, PlO131, PlO132, PlO133, PlO134, PlO135], 130454⟩⟩
theorem PlT27 : Ent.check Tryz.prog [] 990 PlE27 = true := by kernel_rfl
end Go.Proofs.YtpepepkfjimoeaaGreat

/- The evaluator, and what it says. -/
import Derived.Test.YtpepepkfjimoeaaGreatPlO
import Derived.Test.YtpepepkfjimoeaaGreatProg
import Derived.ProofKit
namespace Go.Proofs.YtpepepkfjimoeaaGreat
open Go.Proofs.YtpepepkfjimoeaaGreat.Ev
set_option maxRecDepth 100000

def PlE0 : Ent := ⟨16, (.cons (.str 16 166460863956479792616615038085101809257) .nil), ⟨[PlO0, PlO1], 2⟩, (.tup (.cons (.agg (.cons .nils (.cons (.sl 8303 0 1 8 false) .nil))) (.cons (.agg (.cons (nu 0) (.cons (nu 0) .nil))) .nil))), ⟨[PlO0, PlO1, PlO2, PlO3, PlO4, PlO5], 8304⟩⟩
theorem PlT0 : Ent.check Tryz.prog [] 990 PlE0 = true := by kernel_rfl
def PlE1 : Ent := ⟨17, (.cons (.agg (.cons .nils (.cons (.sl 8303 0 1 8 false) .nil))) .nil), ⟨[PlO0, PlO1, PlO2, PlO3, PlO4, PlO5, PlO6, PlO7], 8306⟩, (.tup (.cons (.agg (.cons .nils (.cons .nils .nil))) (.cons (.agg (.cons (nu 7) (.cons (nu 12) .nil))) .nil))), ⟨[PlO0, PlO1, PlO2, PlO3, PlO4, PlO5, PlO6, PlO7], 8439⟩⟩
theorem PlT1 : Ent.check Tryz.prog [] 990 PlE1 = true := by kernel_rfl
end Go.Proofs.YtpepepkfjimoeaaGreat

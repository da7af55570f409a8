/- The evaluator, and what it says. -/
import Derived.Test.YtpepepkfjimoeaaGreatPlO
import Derived.Test.YtpepepkfjimoeaaGreatProg
import Derived.ProofKit
namespace Go.Proofs.YtpepepkfjimoeaaGreat
open Go.Proofs.YtpepepkfjimoeaaGreat.Ev
set_option maxRecDepth 100000

def PlE18 : Ent := ⟨16, (.cons (.str 30 864319615052074322538373236114301410854429009236462804488266578809613929) .nil), ⟨[PlO0, PlO1, PlO86, PlO87, PlO88, PlO89, PlO90, PlO91], 78931⟩, (.tup (.cons (.agg (.cons .nils (.cons (.sl 88434 0 1 8 false) .nil))) (.cons (.agg (.cons (nu 0) (.cons (nu 0) .nil))) .nil))), ⟨[PlO0, PlO1, PlO86, PlO87, PlO88, PlO89, PlO90, PlO91, PlO92, PlO93, PlO94, PlO95], 88435⟩⟩
theorem PlT18 : Ent.check Tryz.prog [] 990 PlE18 = true := by kernel_rfl
def PlE19 : Ent := ⟨17, (.cons (.agg (.cons .nils (.cons (.sl 88434 0 1 8 false) .nil))) .nil), ⟨[PlO0, PlO1, PlO92, PlO93, PlO94, PlO95, PlO96, PlO97], 88437⟩, (.tup (.cons (.agg (.cons .nils (.cons .nils .nil))) (.cons (.agg (.cons (nu 7) (.cons (nu 20) .nil))) .nil))), ⟨[PlO0, PlO1, PlO92, PlO93, PlO94, PlO95, PlO96, PlO97], 88616⟩⟩
theorem PlT19 : Ent.check Tryz.prog [] 990 PlE19 = true := by kernel_rfl
end Go.Proofs.YtpepepkfjimoeaaGreat

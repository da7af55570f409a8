/- The evaluator, and what it says. -/
import Derived.Test.YtpepepkfjimoeaaGreatPlO
import Derived.Test.YtpepepkfjimoeaaGreatProg
import Derived.ProofKit
namespace Go.Proofs.YtpepepkfjimoeaaGreat
open Go.Proofs.YtpepepkfjimoeaaGreat.Ev
set_option maxRecDepth 100000

def PlE2 : Ent := ⟨16, (.cons (.str 25 786089013165449228420307751758466938770176499876557820817001) .nil), ⟨[PlO0, PlO1, PlO8, PlO9], 8453⟩, (.tup (.cons (.agg (.cons .nils (.cons (.sl 20692 0 1 8 false) .nil))) (.cons (.agg (.cons (nu 0) (.cons (nu 0) .nil))) .nil))), ⟨[PlO0, PlO1, PlO8, PlO9, PlO10, PlO11, PlO12, PlO13, PlO14], 20693⟩⟩
theorem PlT2 : Ent.check Tryz.prog [] 990 PlE2 = true := by kernel_rfl
def PlE3 : Ent := ⟨17, (.cons (.agg (.cons .nils (.cons (.sl 20692 0 1 8 false) .nil))) .nil), ⟨[PlO0, PlO1, PlO10, PlO11, PlO12, PlO13, PlO14, PlO15, PlO16], 20695⟩, (.tup (.cons (.agg (.cons .nils (.cons .nils .nil))) (.cons (.agg (.cons (nu 7) (.cons (nu 21) .nil))) .nil))), ⟨[PlO0, PlO1, PlO10, PlO11, PlO12, PlO13, PlO14, PlO15, PlO16], 20971⟩⟩
theorem PlT3 : Ent.check Tryz.prog [] 990 PlE3 = true := by kernel_rfl
end Go.Proofs.YtpepepkfjimoeaaGreat

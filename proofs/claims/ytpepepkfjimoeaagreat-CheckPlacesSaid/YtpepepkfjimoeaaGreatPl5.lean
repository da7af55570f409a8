/- The evaluator, and what it says. -/
import Derived.Test.YtpepepkfjimoeaaGreatPlO
import Derived.Test.YtpepepkfjimoeaaGreatProg
import Derived.ProofKit
namespace Go.Proofs.YtpepepkfjimoeaaGreat
open Go.Proofs.YtpepepkfjimoeaaGreat.Ev
set_option maxRecDepth 100000

def PlE10 : Ent := ⟨16, (.cons (.str 16 166460720553505641798163993770551701097) .nil), ⟨[PlO0, PlO1, PlO51, PlO52, PlO53, PlO54, PlO55, PlO56, PlO57, PlO58, PlO59], 48510⟩, (.tup (.cons (.agg (.cons .nils (.cons (.sl 55538 0 1 8 false) .nil))) (.cons (.agg (.cons (nu 0) (.cons (nu 0) .nil))) .nil))), ⟨[PlO0, PlO1, PlO51, PlO52, PlO53, PlO54, PlO55, PlO56, PlO57, PlO58, PlO59, PlO60, PlO61, PlO62, PlO63], 55539⟩⟩
theorem PlT10 : Ent.check Tryz.prog [] 990 PlE10 = true := by kernel_rfl
def PlE11 : Ent := ⟨17, (.cons (.agg (.cons .nils (.cons (.sl 55538 0 1 8 false) .nil))) .nil), ⟨[PlO0, PlO1, PlO60, PlO61, PlO62, PlO63, PlO64, PlO65], 55541⟩, (.tup (.cons (.agg (.cons .nils (.cons .nils .nil))) (.cons (.agg (.cons (nu 7) (.cons (nu 12) .nil))) .nil))), ⟨[PlO0, PlO1, PlO60, PlO61, PlO62, PlO63, PlO64, PlO65], 55669⟩⟩
theorem PlT11 : Ent.check Tryz.prog [] 990 PlE11 = true := by kernel_rfl
end Go.Proofs.YtpepepkfjimoeaaGreat

/- The evaluator, and what it says. -/
import Derived.Test.YtpepepkfjimoeaaGreatPlO
import Derived.Test.YtpepepkfjimoeaaGreatProg
import Derived.ProofKit
namespace Go.Proofs.YtpepepkfjimoeaaGreat
open Go.Proofs.YtpepepkfjimoeaaGreat.Ev
set_option maxRecDepth 100000

def PlE28 : Ent := ⟨16, (.cons (.str 41 268043272314114285554418250603862557857464389880165262062340374576580776432545936617217561933934185) .nil), ⟨[PlO0, PlO1, PlO136, PlO137], 130468⟩, (.tup (.cons (.agg (.cons .nils (.cons (.sl 146349 0 1 8 false) .nil))) (.cons (.agg (.cons (nu 0) (.cons (nu 0) .nil))) .nil))), ⟨[PlO0, PlO1, PlO136, PlO137, PlO138, PlO139, PlO140, PlO141, PlO142, PlO143, PlO144, PlO145], 146350⟩⟩
theorem PlT28 : Ent.check Tryz.prog [] 990 PlE28 = true := by kernel_rfl
def PlE29 : Ent := ⟨17, (.cons (.agg (.cons .nils (.cons (.sl 146349 0 1 8 false) .nil))) .nil), ⟨[PlO0, PlO1, PlO138, PlO139, PlO140, PlO141, PlO142, PlO143, PlO144, PlO145, PlO146, PlO147], 146352⟩, (.tup (.cons (.agg (.cons .nils (.cons .nils .nil))) (.cons (.agg (.cons (nu 5) (.cons (nu 30) .nil))) .nil))), ⟨[PlO0, PlO1, PlO138, PlO139, PlO140, PlO141, PlO142, PlO143, PlO144, PlO145, PlO146, PlO147], 146665⟩⟩
theorem PlT29 : Ent.check Tryz.prog [] 990 PlE29 = true := by kernel_rfl
end Go.Proofs.YtpepepkfjimoeaaGreat

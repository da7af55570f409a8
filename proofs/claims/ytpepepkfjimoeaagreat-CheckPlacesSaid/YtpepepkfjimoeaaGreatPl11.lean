/- The evaluator, and what it says. -/
import Derived.Test.YtpepepkfjimoeaaGreatPlO
import Derived.Test.YtpepepkfjimoeaaGreatProg
import Derived.ProofKit
namespace Go.Proofs.YtpepepkfjimoeaaGreat
open Go.Proofs.YtpepepkfjimoeaaGreat.Ev
set_option maxRecDepth 100000

def PlE22 : Ent := ⟨16, (.cons (.str 20 714944659549175326555637223554480958271284080233) .nil), ⟨[PlO0, PlO1, PlO106, PlO107, PlO108, PlO109, PlO110, PlO111], 98290⟩, (.tup (.cons (.agg (.cons .nils (.cons (.sl 106112 0 1 8 false) .nil))) (.cons (.agg (.cons (nu 0) (.cons (nu 0) .nil))) .nil))), ⟨[PlO0, PlO1, PlO106, PlO107, PlO108, PlO109, PlO110, PlO111, PlO112, PlO113, PlO114], 106113⟩⟩
theorem PlT22 : Ent.check Tryz.prog [] 990 PlE22 = true := by kernel_rfl
def PlE23 : Ent := ⟨17, (.cons (.agg (.cons .nils (.cons (.sl 106112 0 1 8 false) .nil))) .nil), ⟨[PlO0, PlO1, PlO112, PlO113, PlO114, PlO115, PlO116], 106115⟩, (.tup (.cons (.agg (.cons .nils (.cons .nils .nil))) (.cons (.agg (.cons (nu 7) (.cons (nu 11) .nil))) .nil))), ⟨[PlO0, PlO1, PlO112, PlO113, PlO114, PlO115, PlO116], 106247⟩⟩
theorem PlT23 : Ent.check Tryz.prog [] 990 PlE23 = true := by kernel_rfl
end Go.Proofs.YtpepepkfjimoeaaGreat

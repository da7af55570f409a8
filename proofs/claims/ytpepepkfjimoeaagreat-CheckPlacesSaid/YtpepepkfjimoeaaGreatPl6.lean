/- The evaluator, and what it says. -/
import Derived.Test.YtpepepkfjimoeaaGreatPlO
import Derived.Test.YtpepepkfjimoeaaGreatProg
import Derived.ProofKit
namespace Go.Proofs.YtpepepkfjimoeaaGreat
open Go.Proofs.YtpepepkfjimoeaaGreat.Ev
set_option maxRecDepth 100000

def PlE12 : Ent := ⟨16, (.cons (.str 18 10909255134224296322967653217747052816264809) .nil), ⟨[PlO0, PlO1, PlO66, PlO67], 55683⟩, (.tup (.cons (.agg (.cons .nils (.cons (.sl 62334 0 1 8 false) .nil))) (.cons (.agg (.cons (nu 0) (.cons (nu 0) .nil))) .nil))), ⟨[PlO0, PlO1, PlO66, PlO67, PlO68, PlO69], 62335⟩⟩
theorem PlT12 : Ent.check Tryz.prog [] 990 PlE12 = true := by kernel_rfl
def PlE13 : Ent := ⟨17, (.cons (.agg (.cons .nils (.cons (.sl 62334 0 1 8 false) .nil))) .nil), ⟨[PlO0, PlO1, PlO68, PlO69, PlO70, PlO71], 62337⟩, (.tup (.cons (.agg (.cons .nils (.cons .nils .nil))) (.cons (.agg (.cons (nu 7) (.cons (nu 11) .nil))) .nil))), ⟨[PlO0, PlO1, PlO68, PlO69, PlO70, PlO71], 62447⟩⟩
theorem PlT13 : Ent.check Tryz.prog [] 990 PlE13 = true := by kernel_rfl
end Go.Proofs.YtpepepkfjimoeaaGreat

/- The evaluator, and what it says. -/
import Derived.Test.YtpepepkfjimoeaaGreatPlO
import Derived.Test.YtpepepkfjimoeaaGreatProg
import Derived.ProofKit
namespace Go.Proofs.YtpepepkfjimoeaaGreat
open Go.Proofs.YtpepepkfjimoeaaGreat.Ev
set_option maxRecDepth 100000

def PlE34 : Ent := ⟨16, (.cons (.str 23 11994859840195547906678963729558011387445674008150044265) .nil), ⟨[PlO0, PlO1, PlO183, PlO184], 185110⟩, (.tup (.cons (.agg (.cons .nils (.cons (.sl 196447 0 1 8 false) .nil))) (.cons (.agg (.cons (nu 0) (.cons (nu 0) .nil))) .nil))), ⟨[PlO0, PlO1, PlO183, PlO184, PlO185, PlO186, PlO187, PlO188, PlO189], 196448⟩⟩
theorem PlT34 : Ent.check Tryz.prog [] 990 PlE34 = true := by kernel_rfl
def PlE35 : Ent := ⟨17, (.cons (.agg (.cons .nils (.cons (.sl 196447 0 1 8 false) .nil))) .nil), ⟨[PlO0, PlO1, PlO185, PlO186, PlO187, PlO188, PlO189, PlO190, PlO191], 196450⟩, (.tup (.cons (.agg (.cons .nils (.cons .nils .nil))) (.cons (.agg (.cons (nu 2) (.cons (nu 19) .nil))) .nil))), ⟨[PlO0, PlO1, PlO185, PlO186, PlO187, PlO188, PlO189, PlO190, PlO191], 196723⟩⟩
theorem PlT35 : Ent.check Tryz.prog [] 990 PlE35 = true := by kernel_rfl
end Go.Proofs.YtpepepkfjimoeaaGreat

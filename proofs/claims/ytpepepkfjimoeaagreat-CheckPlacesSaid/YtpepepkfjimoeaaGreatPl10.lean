/- The evaluator, and what it says. -/
import Derived.Test.YtpepepkfjimoeaaGreatPlO
import Derived.Test.YtpepepkfjimoeaaGreatProg
import Derived.ProofKit
namespace Go.Proofs.YtpepepkfjimoeaaGreat
open Go.Proofs.YtpepepkfjimoeaaGreat.Ev
set_option maxRecDepth 100000

def PlE20 : Ent := ⟨16, (.cons (.str 29 3376248496297165322415520453571485944973611964877239237577674849545833) .nil), ⟨[PlO0, PlO1, PlO98, PlO99], 88630⟩, (.tup (.cons (.agg (.cons .nils (.cons (.sl 98132 0 1 8 false) .nil))) (.cons (.agg (.cons (nu 0) (.cons (nu 0) .nil))) .nil))), ⟨[PlO0, PlO1, PlO98, PlO99, PlO100, PlO101, PlO102, PlO103], 98133⟩⟩
theorem PlT20 : Ent.check Tryz.prog [] 990 PlE20 = true := by kernel_rfl
def PlE21 : Ent := ⟨17, (.cons (.agg (.cons .nils (.cons (.sl 98132 0 1 8 false) .nil))) .nil), ⟨[PlO0, PlO1, PlO100, PlO101, PlO102, PlO103, PlO104, PlO105], 98135⟩, (.tup (.cons (.agg (.cons .nils (.cons (.sl 98150 0 1 8 false) .nil))) (.cons (.agg (.cons (nu 0) (.cons (nu 0) .nil))) .nil))), ⟨[PlO0, PlO1, PlO100, PlO101, PlO102, PlO103, PlO104, PlO105, PlO106, PlO107, PlO108, PlO109], 98276⟩⟩
theorem PlT21 : Ent.check Tryz.prog [] 990 PlE21 = true := by kernel_rfl
end Go.Proofs.YtpepepkfjimoeaaGreat

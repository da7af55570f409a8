/- The evaluator, and what it says. -/
import Derived.Test.YtpepepkfjimoeaaGreatPlO
import Derived.Test.YtpepepkfjimoeaaGreatProg
import Derived.ProofKit
namespace Go.Proofs.YtpepepkfjimoeaaGreat
open Go.Proofs.YtpepepkfjimoeaaGreat.Ev
set_option maxRecDepth 100000

def PlE32 : Ent := ⟨16, (.cons (.str 55 1391760240629936620028461439056045457993538566887342964178337377014314151468165652054846721367638735810196325549665159964465042845289) .nil), ⟨[PlO0, PlO1, PlO162, PlO163, PlO164, PlO165, PlO166, PlO167, PlO168, PlO169, PlO170, PlO171], 167479⟩, (.tup (.cons (.agg (.cons .nils (.cons (.sl 184617 0 1 8 false) .nil))) (.cons (.agg (.cons (nu 0) (.cons (nu 0) .nil))) .nil))), ⟨[PlO0, PlO1, PlO162, PlO163, PlO164, PlO165, PlO166, PlO167, PlO168, PlO169, PlO170, PlO171, PlO172, PlO173, PlO174, PlO175, PlO176, PlO177, PlO178, PlO179, PlO180], 184618⟩⟩
theorem PlT32 : Ent.check Tryz.prog [] 990 PlE32 = true := by kernel_rfl
def PlE33 : Ent := ⟨17, (.cons (.agg (.cons .nils (.cons (.sl 184617 0 1 8 false) .nil))) .nil), ⟨[PlO0, PlO1, PlO172, PlO173, PlO174, PlO175, PlO176, PlO177, PlO178, PlO179, PlO180, PlO181, PlO182], 184620⟩, (.tup (.cons (.agg (.cons .nils (.cons .nils .nil))) (.cons (.agg (.cons (nu 5) (.cons (nu 36) .nil))) .nil))), ⟨[PlO0, PlO1, PlO172, PlO173, PlO174, PlO175, PlO176, PlO177, PlO178, PlO179, PlO180, PlO181, PlO182], 185096⟩⟩
theorem PlT33 : Ent.check Tryz.prog [] 990 PlE33 = true := by kernel_rfl
end Go.Proofs.YtpepepkfjimoeaaGreat

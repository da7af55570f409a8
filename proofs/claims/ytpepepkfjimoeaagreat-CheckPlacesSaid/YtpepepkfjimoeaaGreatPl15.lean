/- The evaluator, and what it says. -/
import Derived.Test.YtpepepkfjimoeaaGreatPlO
import Derived.Test.YtpepepkfjimoeaaGreatProg
import Derived.ProofKit
namespace Go.Proofs.YtpepepkfjimoeaaGreat
open Go.Proofs.YtpepepkfjimoeaaGreat.Ev
set_option maxRecDepth 100000

def PlE30 : Ent := ⟨16, (.cons (.str 49 4944565327847906463408783782313484473149730866127194342681820980590790750279799159992532248414851434571155403296763497) .nil), ⟨[PlO0, PlO1, PlO148, PlO149], 146679⟩, (.tup (.cons (.agg (.cons .nils (.cons (.sl 167047 0 1 8 false) .nil))) (.cons (.agg (.cons (nu 0) (.cons (nu 0) .nil))) .nil))), ⟨[PlO0, PlO1, PlO148, PlO149, PlO150, PlO151, PlO152, PlO153, PlO154, PlO155, PlO156, PlO157, PlO158, PlO159], 167048⟩⟩
theorem PlT30 : Ent.check Tryz.prog [] 990 PlE30 = true := by kernel_rfl
def PlE31 : Ent := ⟨17, (.cons (.agg (.cons .nils (.cons (.sl 167047 0 1 8 false) .nil))) .nil), ⟨[PlO0, PlO1, PlO150, PlO151, PlO152, PlO153, PlO154, PlO155, PlO156, PlO157, PlO158, PlO159, PlO160, PlO161], 167050⟩, (.tup (.cons (.agg (.cons .nils (.cons (.sl 167065 0 1 8 false) .nil))) (.cons (.agg (.cons (nu 0) (.cons (nu 0) .nil))) .nil))), ⟨[PlO0, PlO1, PlO150, PlO151, PlO152, PlO153, PlO154, PlO155, PlO156, PlO157, PlO158, PlO159, PlO160, PlO161, PlO162, PlO163, PlO164, PlO165, PlO166, PlO167, PlO168, PlO169], 167465⟩⟩
theorem PlT31 : Ent.check Tryz.prog [] 990 PlE31 = true := by kernel_rfl
end Go.Proofs.YtpepepkfjimoeaaGreat

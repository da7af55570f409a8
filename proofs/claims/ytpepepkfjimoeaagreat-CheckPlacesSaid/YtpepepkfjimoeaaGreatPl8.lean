/- The evaluator, and what it says. -/
import Derived.Test.YtpepepkfjimoeaaGreatPlO
import Derived.Test.YtpepepkfjimoeaaGreatProg
import Derived.ProofKit
namespace Go.Proofs.YtpepepkfjimoeaaGreat
open Go.Proofs.YtpepepkfjimoeaaGreat.Ev
set_option maxRecDepth 100000

def PlE16 : Ent := ⟨16, (.cons (.str 27 51517500798934409070126126369132975490159923372345297672804265577) .nil), ⟨[PlO0, PlO1, PlO78, PlO79], 69240⟩, (.tup (.cons (.agg (.cons .nils (.cons (.sl 78742 0 1 8 false) .nil))) (.cons (.agg (.cons (nu 0) (.cons (nu 0) .nil))) .nil))), ⟨[PlO0, PlO1, PlO78, PlO79, PlO80, PlO81, PlO82, PlO83], 78743⟩⟩
theorem PlT16 : Ent.check Tryz.prog [] 990 PlE16 = true := by kernel_rfl
def PlE17 : Ent := ⟨17, (.cons (.agg (.cons .nils (.cons (.sl 78742 0 1 8 false) .nil))) .nil), ⟨[PlO0, PlO1, PlO80, PlO81, PlO82, PlO83, PlO84, PlO85], 78745⟩, (.tup (.cons (.agg (.cons .nils (.cons (.sl 78760 0 1 8 false) .nil))) (.cons (.agg (.cons (nu 0) (.cons (nu 0) .nil))) .nil))), ⟨[PlO0, PlO1, PlO80, PlO81, PlO82, PlO83, PlO84, PlO85, PlO86, PlO87, PlO88, PlO89], 78917⟩⟩
theorem PlT17 : Ent.check Tryz.prog [] 990 PlE17 = true := by kernel_rfl
end Go.Proofs.YtpepepkfjimoeaaGreat

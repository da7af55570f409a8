/- The evaluator, and what it says. -/
import Derived.Test.YtpepepkfjimoeaaGreatPlO
import Derived.Test.YtpepepkfjimoeaaGreatProg
import Derived.ProofKit
namespace Go.Proofs.YtpepepkfjimoeaaGreat
open Go.Proofs.YtpepepkfjimoeaaGreat.Ev
set_option maxRecDepth 100000

def PlE38 : Ent := ⟨16, (.cons (.str 21 183027214036441647010847385142690503854034871676521) .nil), ⟨[PlO0, PlO1, PlO201, PlO202], 210895⟩, (.tup (.cons (.agg (.cons .nils (.cons (.sl 217834 0 1 8 false) .nil))) (.cons (.agg (.cons (nu 0) (.cons (nu 0) .nil))) .nil))), ⟨[PlO0, PlO1, PlO201, PlO202, PlO203, PlO204, PlO205], 217835⟩⟩
theorem PlT38 : Ent.check Tryz.prog [] 990 PlE38 = true := by kernel_rfl
def PlE39 : Ent := ⟨17, (.cons (.agg (.cons .nils (.cons (.sl 217834 0 1 8 false) .nil))) .nil), ⟨[PlO0, PlO1, PlO203, PlO204, PlO205, PlO206, PlO207], 217837⟩, (.tup (.cons (.agg (.cons .nils (.cons .nils .nil))) (.cons (.agg (.cons (nu 5) (.cons (nu 18) .nil))) .nil))), ⟨[PlO0, PlO1, PlO203, PlO204, PlO205, PlO206, PlO207], 217972⟩⟩
theorem PlT39 : Ent.check Tryz.prog [] 990 PlE39 = true := by kernel_rfl
end Go.Proofs.YtpepepkfjimoeaaGreat

/- The evaluator, and what it says. -/
import Derived.Test.YtpepepkfjimoeaaGreatPlO
import Derived.Test.YtpepepkfjimoeaaGreatProg
import Derived.ProofKit
namespace Go.Proofs.YtpepepkfjimoeaaGreat
open Go.Proofs.YtpepepkfjimoeaaGreat.Ev
set_option maxRecDepth 100000

def PlE14 : Ent := ⟨16, (.cons (.str 21 183026797726815210763462919877476319112624747081321) .nil), ⟨[PlO0, PlO1, PlO72, PlO73], 62461⟩, (.tup (.cons (.agg (.cons .nils (.cons (.sl 69113 0 1 8 false) .nil))) (.cons (.agg (.cons (nu 0) (.cons (nu 0) .nil))) .nil))), ⟨[PlO0, PlO1, PlO72, PlO73, PlO74, PlO75], 69114⟩⟩
theorem PlT14 : Ent.check Tryz.prog [] 990 PlE14 = true := by kernel_rfl
def PlE15 : Ent := ⟨17, (.cons (.agg (.cons .nils (.cons (.sl 69113 0 1 8 false) .nil))) .nil), ⟨[PlO0, PlO1, PlO74, PlO75, PlO76, PlO77], 69116⟩, (.tup (.cons (.agg (.cons .nils (.cons .nils .nil))) (.cons (.agg (.cons (nu 7) (.cons (nu 11) .nil))) .nil))), ⟨[PlO0, PlO1, PlO74, PlO75, PlO76, PlO77], 69226⟩⟩
theorem PlT15 : Ent.check Tryz.prog [] 990 PlE15 = true := by kernel_rfl
end Go.Proofs.YtpepepkfjimoeaaGreat

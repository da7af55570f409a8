/- The evaluator, and what it says. -/
import Derived.Test.YtpepepkfjimoeaaGreatPlO
import Derived.Test.YtpepepkfjimoeaaGreatProg
import Derived.ProofKit
namespace Go.Proofs.YtpepepkfjimoeaaGreat
open Go.Proofs.YtpepepkfjimoeaaGreat.Ev
set_option maxRecDepth 100000

def PlE8 : Ent := ⟨16, (.cons (.str 26 201239987102597473618742441167594544695767501555674300051385961) .nil), ⟨[PlO0, PlO1, PlO34, PlO35, PlO36, PlO37, PlO38, PlO39, PlO40], 38248⟩, (.tup (.cons (.agg (.cons .nils (.cons (.sl 48138 0 1 8 false) .nil))) (.cons (.agg (.cons (nu 0) (.cons (nu 0) .nil))) .nil))), ⟨[PlO0, PlO1, PlO34, PlO35, PlO36, PlO37, PlO38, PlO39, PlO40, PlO41, PlO42, PlO43, PlO44, PlO45, PlO46, PlO47, PlO48], 48139⟩⟩
theorem PlT8 : Ent.check Tryz.prog [] 990 PlE8 = true := by kernel_rfl
def PlE9 : Ent := ⟨17, (.cons (.agg (.cons .nils (.cons (.sl 48138 0 1 8 false) .nil))) .nil), ⟨[PlO0, PlO1, PlO41, PlO42, PlO43, PlO44, PlO45, PlO46, PlO47, PlO48, PlO49, PlO50], 48141⟩, (.tup (.cons (.agg (.cons .nils (.cons (.sl 48156 0 1 8 false) .nil))) (.cons (.agg (.cons (nu 0) (.cons (nu 0) .nil))) .nil))), ⟨[PlO0, PlO1, PlO41, PlO42, PlO43, PlO44, PlO45, PlO46, PlO47, PlO48, PlO49, PlO50, PlO51, PlO52, PlO53, PlO54, PlO55, PlO56, PlO57], 48496⟩⟩
theorem PlT9 : Ent.check Tryz.prog [] 990 PlE9 = true := by kernel_rfl
end Go.Proofs.YtpepepkfjimoeaaGreat

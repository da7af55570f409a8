/- Calls that were proved one by one: what the evaluator says. -/
import Derived.Test.YtpepepkfjimoeaaGreatNaO
import Derived.Test.YtpepepkfjimoeaaGreatProg
import Derived.ProofKit
import Derived.Test.YtpepepkfjimoeaaGreatVh
namespace Go.Proofs.YtpepepkfjimoeaaGreat
open Go.Proofs.YtpepepkfjimoeaaGreat.Ev
set_option maxRecDepth 100000

def NaE10 : Ent := ⟨22, (.cons (.str 25 786088334849289020395588525275803058793124083928108341948009) .nil), ⟨[], 90751⟩, (.tup (avs [(.sl 105247 0 17 4 false), (.agg (avs [(nu 0), (nu 0)]))])), ⟨[NaO134, NaO135, NaO136, NaO137, NaO138, NaO139, NaO140, NaO141, NaO142, NaO143, NaO144, NaO145, NaO146, NaO147, NaO148, NaO149, NaO150], 105248⟩⟩
theorem NaT10 : Ent.check Tryz.prog [] 990 NaE10 = true := by kernel_rfl
theorem NaK10 : NaE10.Ok Tryz.prog := Ent.ok_of mixed Tab.ok_nil NaT10
def NaE11 : Ent := ⟨22, (.cons (.str 25 787657610282617851078477382294308676297403124519174610906729) .nil), ⟨[], 105852⟩, (.tup (avs [(.sl 120348 0 17 4 false), (.agg (avs [(nu 0), (nu 0)]))])), ⟨[NaO151, NaO152, NaO153, NaO154, NaO155, NaO156, NaO157, NaO158, NaO159, NaO160, NaO161, NaO162, NaO163, NaO164, NaO165, NaO166, NaO167], 120349⟩⟩
theorem NaT11 : Ent.check Tryz.prog [] 990 NaE11 = true := by kernel_rfl
theorem NaK11 : NaE11.Ok Tryz.prog := Ent.ok_of mixed Tab.ok_nil NaT11
end Go.Proofs.YtpepepkfjimoeaaGreat

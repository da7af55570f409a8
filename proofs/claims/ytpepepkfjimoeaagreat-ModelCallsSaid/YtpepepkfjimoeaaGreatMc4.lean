/- Calls that were proved one by one: what the evaluator says. -/
import Derived.Test.YtpepepkfjimoeaaGreatMcO
import Derived.Test.YtpepepkfjimoeaaGreatMcOx1
import Derived.Test.YtpepepkfjimoeaaGreatMcOx2
import Derived.Test.YtpepepkfjimoeaaGreatProg
import Derived.ProofKit
import Derived.Test.YtpepepkfjimoeaaGreatVh
namespace Go.Proofs.YtpepepkfjimoeaaGreat
open Go.Proofs.YtpepepkfjimoeaaGreat.Ev
set_option maxRecDepth 100000

def McE47 : Ent := ⟨22, (.cons (.str 113 66158903575677074302148760484288714661085898926499234755295441967006741850278545892472423329782959026056729662257277244806433456089564136474114269269276339765622709874835107014586361474006139669786403041971190323841715682458084741163491739694897780450419328141599706476137) .nil), ⟨[], 62810⟩, (.tup (avs [(.sl 105144 0 63 4 false), (.agg (avs [(nu 0), (nu 0)]))])), ⟨[McO443, McO444, McO445, McO446, McO447, McO448, McO449, McO450, McO451, McO452, McO453, McO454, McO455, McO456, McO457, McO458, McO459, McO460, McO461, McO462, McO463, McO464, McO465, McO466, McO467, McO468, McO469, McO470, McO471, McO472, McO473, McO474, McO475, McO476, McO477, McO478, McO479, McO480, McO481, McO482, McO483, McO484, McO485, McO486, McO487, McO488, McO489, McO490, McO491, McO492, McO493, McO494, McO495, McO496, McO497, McO498, McO499, McO500, McO501, McO502, McO503, McO504, McO505], 105145⟩⟩
theorem McT47 : Ent.check Tryz.prog [] 990 McE47 = true := by kernel_rfl
theorem McK47 : McE47.Ok Tryz.prog := Ent.ok_of mixed Tab.ok_nil McT47
end Go.Proofs.YtpepepkfjimoeaaGreat

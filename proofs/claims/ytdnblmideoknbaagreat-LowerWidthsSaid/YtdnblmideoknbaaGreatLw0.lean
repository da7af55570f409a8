/- Calls that were proved one by one: what the evaluator says. -/
import Derived.Test.YtdnblmideoknbaaGreatLwO
import Derived.Test.YtdnblmideoknbaaGreatProg
import Derived.ProofKit
import Derived.Test.YtdnblmideoknbaaGreatWdB
namespace Go.Proofs.YtdnblmideoknbaaGreat
open Go.Proofs.YtdnblmideoknbaaGreat.Ev
set_option maxRecDepth 100000

def LwE0 : Ent := ⟨36, (.cons (.str 178 LwS0) .nil), ⟨[], 14⟩, (.tup (avs [(.sl 65657 0 104 4 false), (.agg (avs [(nu 0), (nu 0)]))])), ⟨[LwO0], 65658⟩⟩
theorem LwT0 [In2] : Ent.check Tryz.prog (knownG Tryz.prog In2.z) [] 990 LwE0 = true := by kernel_rfl
theorem LwK0 [In2] : LwE0.Ok Tryz.prog K0 := Ent.ok_of mixed known_ok Tab.ok_nil LwT0
end Go.Proofs.YtdnblmideoknbaaGreat

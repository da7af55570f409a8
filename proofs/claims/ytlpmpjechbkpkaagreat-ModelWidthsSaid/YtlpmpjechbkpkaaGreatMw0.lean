/- Calls that were proved one by one: what the evaluator says. -/
import Derived.Test.YtlpmpjechbkpkaaGreatMwO
import Derived.Test.YtlpmpjechbkpkaaGreatProg
import Derived.ProofKit
import Derived.Test.YtlpmpjechbkpkaaGreatWdB
namespace Go.Proofs.YtlpmpjechbkpkaaGreat
open Go.Proofs.YtlpmpjechbkpkaaGreat.Ev
set_option maxRecDepth 100000

def MwE0 : Ent := ⟨18, (.cons (.str 178 MwS0) .nil), ⟨[], 14⟩, (.tup (avs [(.sl 65657 0 104 4 false), (.agg (avs [(nu 0), (nu 0)]))])), ⟨[MwO0], 65658⟩⟩
theorem MwT0 [In2] : Ent.check Tryz.prog (knownG Tryz.prog In2.z) [] 990 MwE0 = true := by kernel_rfl
theorem MwK0 [In2] : MwE0.Ok Tryz.prog K0 := Ent.ok_of mixed known_ok Tab.ok_nil MwT0
end Go.Proofs.YtlpmpjechbkpkaaGreat

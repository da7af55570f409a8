/- Calls that were proved one by one: what the evaluator says. -/
import Derived.Test.YtdnblmideoknbaaGreatLaO
import Derived.Test.YtdnblmideoknbaaGreatProg
import Derived.ProofKit
import Derived.Test.YtdnblmideoknbaaGreatWeA
namespace Go.Proofs.YtdnblmideoknbaaGreat
open Go.Proofs.YtdnblmideoknbaaGreat.Ev
set_option maxRecDepth 100000

def LaE0 : Ent := ⟨36, (.cons (.sstr (avs [(.int .u8 105), (.int .u8 110), (.int .u8 116), (.int .u8 32), (.int .u8 109), (.int .u8 97), (.int .u8 105), (.int .u8 110), (.int .u8 40), (.int .u8 41), (.int .u8 123), (.int .u8 105), (.int .u8 110), (.int .u8 116), (.int .u8 32), (.int .u8 97), (.int .u8 91), (.sym .u8 (.lin 48 [(0, 1)])), (.int .u8 93), (.int .u8 59), (.int .u8 105), (.int .u8 110), (.int .u8 116), (.int .u8 32), (.int .u8 105), (.int .u8 59), (.int .u8 105), (.int .u8 110), (.int .u8 116), (.int .u8 32), (.int .u8 115), (.int .u8 61), (.int .u8 48), (.int .u8 59), (.int .u8 105), (.int .u8 110), (.int .u8 116), (.int .u8 42), (.int .u8 112), (.int .u8 61), (.int .u8 97), (.int .u8 59), (.int .u8 102), (.int .u8 111), (.int .u8 114), (.int .u8 40), (.int .u8 105), (.int .u8 61), (.int .u8 48), (.int .u8 59), (.int .u8 105), (.int .u8 60), (.sym .u8 (.lin 48 [(0, 1)])), (.int .u8 59), (.int .u8 105), (.int .u8 43), (.int .u8 43), (.int .u8 41), (.int .u8 42), (.int .u8 112), (.int .u8 43), (.int .u8 43), (.int .u8 61), (.int .u8 105), (.int .u8 42), (.sym .u8 (.lin 48 [(2, 1)])), (.int .u8 43), (.sym .u8 (.lin 48 [(3, 1)])), (.int .u8 59), (.int .u8 112), (.int .u8 117), (.int .u8 116), (.int .u8 40), (.int .u8 112), (.int .u8 45), (.int .u8 97), (.int .u8 41), (.int .u8 59), (.int .u8 119), (.int .u8 104), (.int .u8 105), (.int .u8 108), (.int .u8 101), (.int .u8 40), (.int .u8 112), (.int .u8 33), (.int .u8 61), (.int .u8 97), (.int .u8 41), (.int .u8 115), (.int .u8 61), (.int .u8 115), (.int .u8 42), (.int .u8 51), (.int .u8 43), (.int .u8 42), (.int .u8 45), (.int .u8 45), (.int .u8 112), (.int .u8 59), (.int .u8 112), (.int .u8 117), (.int .u8 116), (.int .u8 40), (.int .u8 115), (.int .u8 41), (.int .u8 59), (.int .u8 112), (.int .u8 117), (.int .u8 116), (.int .u8 40), (.int .u8 112), (.int .u8 91), (.sym .u8 (.lin 48 [(1, 1)])), (.int .u8 93), (.int .u8 41), (.int .u8 59), (.int .u8 114), (.int .u8 101), (.int .u8 116), (.int .u8 117), (.int .u8 114), (.int .u8 110), (.int .u8 32), (.int .u8 48), (.int .u8 59), (.int .u8 125)])) .nil), ⟨[], 67⟩, (.tup (avs [(.sl 51167 0 89 4 false), (.agg (avs [(nu 0), (nu 0)]))])), ⟨[LaO0], 51168⟩⟩
theorem LaT0 [In4] : @Ent.check envGen Tryz.prog (@knownA envGen) [] 990 LaE0 = true := by kernel_rfl
theorem LaK0 [In4] : LaE0.Ok Tryz.prog Keep.none :=
  letI := envGen
  Ent.ok_of mixed (X := knownA) knownA_ok Tab.ok_nil LaT0
end Go.Proofs.YtdnblmideoknbaaGreat

/- The law at some lengths and places: what the evaluator says. -/
import Derived.Test.YtdnblmideoknbaaGreatLaTab
import Derived.Test.YtdnblmideoknbaaGreatLaN
import Derived.ProofKit
namespace Go.Proofs.YtdnblmideoknbaaGreat
open Go.RowKit Go.Proofs.YtdnblmideoknbaaGreat.Ev
set_option maxRecDepth 100000

theorem La_p8_7 [In4] (hn : In4.n = (8 : Nat)) (ha : In4.a = (7 : Nat)) : okB (@callT (envSpec 8 7 hn ha) Tryz.prog (@knownL (envSpec 8 7 hn ha) 8 7 LaPads) LaAll8 1000 4 (.cons (.agg (.cons (.sym .i64 (.var 10)) (.cons (.sym .i64 (.var 11)) (.cons (.sym .i64 (.var 12)) (.cons (.sym .i64 (.var 13)) .nil))))) .nil) ⟨.nil, 0⟩) = true := by kernel_rfl
end Go.Proofs.YtdnblmideoknbaaGreat

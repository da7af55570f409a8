/- The law at some lengths and places: what the evaluator says. -/
import Derived.Test.YtdnblmideoknbaaGreatLaTab
import Derived.ProofKit
namespace Go.Proofs.YtdnblmideoknbaaGreat
open Go.RowKit Go.Proofs.YtdnblmideoknbaaGreat.Ev
set_option maxRecDepth 100000

theorem La_p6_5 [In4] (hn : In4.n = (6 : Nat)) (ha : In4.a = (5 : Nat)) : okB (@callT (envSpec 6 5 hn ha) Tryz.prog (@knownL (envSpec 6 5 hn ha) 6 5 LaPads) LaAll 1000 4 (.cons (.agg (.cons (.sym .i64 (.var 10)) (.cons (.sym .i64 (.var 11)) (.cons (.sym .i64 (.var 12)) (.cons (.sym .i64 (.var 13)) .nil))))) .nil) ⟨.nil, 0⟩) = true := by kernel_rfl
end Go.Proofs.YtdnblmideoknbaaGreat

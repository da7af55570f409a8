/- The law at some lengths and places: what the evaluator says. -/
import Derived.Test.YtdnblmideoknbaaGreatLaTab
import Derived.ProofKit
namespace Go.Proofs.YtdnblmideoknbaaGreat
open Go.RowKit Go.Proofs.YtdnblmideoknbaaGreat.Ev
set_option maxRecDepth 100000

theorem La_p3_1 [In4] (hn : In4.n = (3 : Nat)) (ha : In4.a = (1 : Nat)) : okB (@callT (envSpec 3 1 hn ha) Tryz.prog (@knownL (envSpec 3 1 hn ha) 3 1 LaPads) LaAll 1000 4 (.cons (.agg (.cons (.sym .i64 (.var 10)) (.cons (.sym .i64 (.var 11)) (.cons (.sym .i64 (.var 12)) (.cons (.sym .i64 (.var 13)) .nil))))) .nil) ⟨.nil, 0⟩) = true := by kernel_rfl
theorem La_p7_1 [In4] (hn : In4.n = (7 : Nat)) (ha : In4.a = (1 : Nat)) : okB (@callT (envSpec 7 1 hn ha) Tryz.prog (@knownL (envSpec 7 1 hn ha) 7 1 LaPads) LaAll 1000 4 (.cons (.agg (.cons (.sym .i64 (.var 10)) (.cons (.sym .i64 (.var 11)) (.cons (.sym .i64 (.var 12)) (.cons (.sym .i64 (.var 13)) .nil))))) .nil) ⟨.nil, 0⟩) = true := by kernel_rfl
end Go.Proofs.YtdnblmideoknbaaGreat

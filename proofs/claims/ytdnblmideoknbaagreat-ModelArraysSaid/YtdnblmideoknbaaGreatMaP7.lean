/- The law at some lengths and places: what the evaluator says. -/
import Derived.Test.YtdnblmideoknbaaGreatMaTab
import Derived.ProofKit
namespace Go.Proofs.YtdnblmideoknbaaGreat
open Go.RowKit Go.Proofs.YtdnblmideoknbaaGreat.Ev
set_option maxRecDepth 100000

theorem Ma_p2_0 [In4] (hn : In4.n = (2 : Nat)) (ha : In4.a = (0 : Nat)) : okB (@callT (envSpec 2 0 hn ha) Tryz.prog (@knownL (envSpec 2 0 hn ha) 2 0 MaPads) MaAll 1000 3 (.cons (.agg (.cons (.sym .i64 (.var 10)) (.cons (.sym .i64 (.var 11)) (.cons (.sym .i64 (.var 12)) (.cons (.sym .i64 (.var 13)) .nil))))) .nil) ⟨.nil, 0⟩) = true := by kernel_rfl
theorem Ma_p6_0 [In4] (hn : In4.n = (6 : Nat)) (ha : In4.a = (0 : Nat)) : okB (@callT (envSpec 6 0 hn ha) Tryz.prog (@knownL (envSpec 6 0 hn ha) 6 0 MaPads) MaAll 1000 3 (.cons (.agg (.cons (.sym .i64 (.var 10)) (.cons (.sym .i64 (.var 11)) (.cons (.sym .i64 (.var 12)) (.cons (.sym .i64 (.var 13)) .nil))))) .nil) ⟨.nil, 0⟩) = true := by kernel_rfl
theorem Ma_p7_6 [In4] (hn : In4.n = (7 : Nat)) (ha : In4.a = (6 : Nat)) : okB (@callT (envSpec 7 6 hn ha) Tryz.prog (@knownL (envSpec 7 6 hn ha) 7 6 MaPads) MaAll 1000 3 (.cons (.agg (.cons (.sym .i64 (.var 10)) (.cons (.sym .i64 (.var 11)) (.cons (.sym .i64 (.var 12)) (.cons (.sym .i64 (.var 13)) .nil))))) .nil) ⟨.nil, 0⟩) = true := by kernel_rfl
end Go.Proofs.YtdnblmideoknbaaGreat

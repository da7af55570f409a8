/- LowerWidths: what the evaluator says. -/
import Derived.Test.YtdnblmideoknbaaGreatWdB
import Derived.Test.YtdnblmideoknbaaGreatLw0
import Derived.Test.YtdnblmideoknbaaGreatLw2
import Derived.Test.YtdnblmideoknbaaGreatLw3
import Derived.Test.YtdnblmideoknbaaGreatLw4
import Derived.Test.YtdnblmideoknbaaGreatLw5
namespace Go.Proofs.YtdnblmideoknbaaGreat
open Go.ChangeShapes Go.WideShapes Go.ChangeAt Go.RowKit Go.Proofs.YtdnblmideoknbaaGreat.Ev

def LwAll : Tab := [(36, [LwE0]), (80, [LwE25]), (24, [LwE27]), (43, [LwE29]), (101, [LwE30]), (112, [LwE31]), (33, [LwE32]), (35, [LwE33]), (10, [LwE39])]
theorem Lw_ok [In2] : LwAll.Ok Tryz.prog K0 := (Tab.ok_cons (f := 36) (Ent.ok_cons LwK0 Ent.ok_nil) (Tab.ok_cons (f := 80) (Ent.ok_cons LwK25 Ent.ok_nil) (Tab.ok_cons (f := 24) (Ent.ok_cons LwK27 Ent.ok_nil) (Tab.ok_cons (f := 43) (Ent.ok_cons LwK29 Ent.ok_nil) (Tab.ok_cons (f := 101) (Ent.ok_cons LwK30 Ent.ok_nil) (Tab.ok_cons (f := 112) (Ent.ok_cons LwK31 Ent.ok_nil) (Tab.ok_cons (f := 33) (Ent.ok_cons LwK32 Ent.ok_nil) (Tab.ok_cons (f := 35) (Ent.ok_cons LwK33 Ent.ok_nil) (Tab.ok_cons (f := 10) (Ent.ok_cons LwK39 Ent.ok_nil) Tab.ok_nil)))))))))
set_option maxRecDepth 100000 in
theorem Lw_ev_false_false (a b : Int) (ha : I64 a) (hb : I64 b) (hz : decide (b = 0) = false) (hl : decide (IntKind.u32.wrap (IntKind.i8.wrap a) < IntKind.u32.wrap b) = false) :
    letI : In2 := ⟨a, b, ha, hb, false, false, hz, hl⟩; okB (callT Tryz.prog (knownG Tryz.prog false) LwAll 1000 5 (.cons (.agg (.cons (.sym .i64 (.var 0)) (.cons (.sym .i64 (.var 1)) .nil))) .nil) ⟨.nil, 0⟩) = true := by kernel_rfl
set_option maxRecDepth 100000 in
theorem Lw_ev_false_true (a b : Int) (ha : I64 a) (hb : I64 b) (hz : decide (b = 0) = false) (hl : decide (IntKind.u32.wrap (IntKind.i8.wrap a) < IntKind.u32.wrap b) = true) :
    letI : In2 := ⟨a, b, ha, hb, false, true, hz, hl⟩; okB (callT Tryz.prog (knownG Tryz.prog false) LwAll 1000 5 (.cons (.agg (.cons (.sym .i64 (.var 0)) (.cons (.sym .i64 (.var 1)) .nil))) .nil) ⟨.nil, 0⟩) = true := by kernel_rfl
set_option maxRecDepth 100000 in
theorem Lw_ev_true_false (a b : Int) (ha : I64 a) (hb : I64 b) (hz : decide (b = 0) = true) (hl : decide (IntKind.u32.wrap (IntKind.i8.wrap a) < IntKind.u32.wrap b) = false) :
    letI : In2 := ⟨a, b, ha, hb, true, false, hz, hl⟩; okB (callT Tryz.prog (knownG Tryz.prog true) LwAll 1000 5 (.cons (.agg (.cons (.sym .i64 (.var 0)) (.cons (.sym .i64 (.var 1)) .nil))) .nil) ⟨.nil, 0⟩) = true := by kernel_rfl
set_option maxRecDepth 100000 in
theorem Lw_ev_true_true (a b : Int) (ha : I64 a) (hb : I64 b) (hz : decide (b = 0) = true) (hl : decide (IntKind.u32.wrap (IntKind.i8.wrap a) < IntKind.u32.wrap b) = true) :
    letI : In2 := ⟨a, b, ha, hb, true, true, hz, hl⟩; okB (callT Tryz.prog (knownG Tryz.prog true) LwAll 1000 5 (.cons (.agg (.cons (.sym .i64 (.var 0)) (.cons (.sym .i64 (.var 1)) .nil))) .nil) ⟨.nil, 0⟩) = true := by kernel_rfl

theorem Lw_calls (a b : Int) (ha : I64 a) (hb : I64 b) (W : World) : Calls Tryz.prog 5 #[.agg #[.int .i64 a, .int .i64 b]] W fun e w' => e = .returned (.bool true) ∧ Below W.heap.size W w' := by
  cases hz : decide (b = 0) <;> cases hl : decide (IntKind.u32.wrap (IntKind.i8.wrap a) < IntKind.u32.wrap b)
  · letI : In2 := ⟨a, b, ha, hb, false, false, hz, hl⟩
    exact closed_law mixed known_ok Lw_ok (Lw_ev_false_false a b ha hb hz hl) two_in W trivial
  · letI : In2 := ⟨a, b, ha, hb, false, true, hz, hl⟩
    exact closed_law mixed known_ok Lw_ok (Lw_ev_false_true a b ha hb hz hl) two_in W trivial
  · letI : In2 := ⟨a, b, ha, hb, true, false, hz, hl⟩
    exact closed_law mixed known_ok Lw_ok (Lw_ev_true_false a b ha hb hz hl) two_in W trivial
  · letI : In2 := ⟨a, b, ha, hb, true, true, hz, hl⟩
    exact closed_law mixed known_ok Lw_ok (Lw_ev_true_true a b ha hb hz hl) two_in W trivial


end Go.Proofs.YtdnblmideoknbaaGreat

/- ModelWidths, whatever the argument: the law returns true, and its argument reads as it did. -/
import Derived.Test.YtlpmpjechbkpkaaGreatWdB
import Derived.Test.YtlpmpjechbkpkaaGreatMw0
import Derived.Test.YtlpmpjechbkpkaaGreatMw2
import Derived.Test.YtlpmpjechbkpkaaGreatMw3
import Derived.Test.YtlpmpjechbkpkaaGreatMw4
namespace Go.Proofs.YtlpmpjechbkpkaaGreat
open Go.ChangeShapes Go.WideShapes Go.ChangeAt Go.RowKit Go.Proofs.YtlpmpjechbkpkaaGreat.Ev

def MwAll : Tab := [(18, [MwE0]), (54, [MwE25]), (10, [MwE27]), (9, [MwE29]), (143, [MwE30]), (116, [MwE31]), (40, [MwE37])]
theorem Mw_ok [In2] : MwAll.Ok Tryz.prog K0 := (Tab.ok_cons (f := 18) (Ent.ok_cons MwK0 Ent.ok_nil) (Tab.ok_cons (f := 54) (Ent.ok_cons MwK25 Ent.ok_nil) (Tab.ok_cons (f := 10) (Ent.ok_cons MwK27 Ent.ok_nil) (Tab.ok_cons (f := 9) (Ent.ok_cons MwK29 Ent.ok_nil) (Tab.ok_cons (f := 143) (Ent.ok_cons MwK30 Ent.ok_nil) (Tab.ok_cons (f := 116) (Ent.ok_cons MwK31 Ent.ok_nil) (Tab.ok_cons (f := 40) (Ent.ok_cons MwK37 Ent.ok_nil) Tab.ok_nil)))))))
set_option maxRecDepth 100000 in
theorem Mw_ev_false_false (a b : Int) (ha : I64 a) (hb : I64 b) (hz : decide (b = 0) = false) (hl : decide (IntKind.u32.wrap (IntKind.i8.wrap a) < IntKind.u32.wrap b) = false) :
    letI : In2 := ⟨a, b, ha, hb, false, false, hz, hl⟩; okB (callT Tryz.prog (knownG Tryz.prog false) MwAll 1000 5 (.cons (.agg (.cons (.sym .i64 (.var 0)) (.cons (.sym .i64 (.var 1)) .nil))) .nil) ⟨.nil, 0⟩) = true := by kernel_rfl
set_option maxRecDepth 100000 in
theorem Mw_ev_false_true (a b : Int) (ha : I64 a) (hb : I64 b) (hz : decide (b = 0) = false) (hl : decide (IntKind.u32.wrap (IntKind.i8.wrap a) < IntKind.u32.wrap b) = true) :
    letI : In2 := ⟨a, b, ha, hb, false, true, hz, hl⟩; okB (callT Tryz.prog (knownG Tryz.prog false) MwAll 1000 5 (.cons (.agg (.cons (.sym .i64 (.var 0)) (.cons (.sym .i64 (.var 1)) .nil))) .nil) ⟨.nil, 0⟩) = true := by kernel_rfl
set_option maxRecDepth 100000 in
theorem Mw_ev_true_false (a b : Int) (ha : I64 a) (hb : I64 b) (hz : decide (b = 0) = true) (hl : decide (IntKind.u32.wrap (IntKind.i8.wrap a) < IntKind.u32.wrap b) = false) :
    letI : In2 := ⟨a, b, ha, hb, true, false, hz, hl⟩; okB (callT Tryz.prog (knownG Tryz.prog true) MwAll 1000 5 (.cons (.agg (.cons (.sym .i64 (.var 0)) (.cons (.sym .i64 (.var 1)) .nil))) .nil) ⟨.nil, 0⟩) = true := by kernel_rfl
set_option maxRecDepth 100000 in
theorem Mw_ev_true_true (a b : Int) (ha : I64 a) (hb : I64 b) (hz : decide (b = 0) = true) (hl : decide (IntKind.u32.wrap (IntKind.i8.wrap a) < IntKind.u32.wrap b) = true) :
    letI : In2 := ⟨a, b, ha, hb, true, true, hz, hl⟩; okB (callT Tryz.prog (knownG Tryz.prog true) MwAll 1000 5 (.cons (.agg (.cons (.sym .i64 (.var 0)) (.cons (.sym .i64 (.var 1)) .nil))) .nil) ⟨.nil, 0⟩) = true := by kernel_rfl

theorem Mw_calls (a b : Int) (ha : I64 a) (hb : I64 b) (W : World) : Calls Tryz.prog 5 #[.agg #[.int .i64 a, .int .i64 b]] W fun e w' => e = .returned (.bool true) ∧ Below W.heap.size W w' := by
  cases hz : decide (b = 0) <;> cases hl : decide (IntKind.u32.wrap (IntKind.i8.wrap a) < IntKind.u32.wrap b)
  · letI : In2 := ⟨a, b, ha, hb, false, false, hz, hl⟩
    exact closed_law mixed known_ok Mw_ok (Mw_ev_false_false a b ha hb hz hl) two_in W trivial
  · letI : In2 := ⟨a, b, ha, hb, false, true, hz, hl⟩
    exact closed_law mixed known_ok Mw_ok (Mw_ev_false_true a b ha hb hz hl) two_in W trivial
  · letI : In2 := ⟨a, b, ha, hb, true, false, hz, hl⟩
    exact closed_law mixed known_ok Mw_ok (Mw_ev_true_false a b ha hb hz hl) two_in W trivial
  · letI : In2 := ⟨a, b, ha, hb, true, true, hz, hl⟩
    exact closed_law mixed known_ok Mw_ok (Mw_ev_true_true a b ha hb hz hl) two_in W trivial

set_option maxRecDepth 100000 in
theorem modelWidths_lifted (os : Os) (started : os.Started) (H : Type) (enc : TypeId × Value → H) :
    ReturnsInHanded {} Tryz.checked os 5 .any (Rows.modelWidthsSpec.pre6 enc Tryz.prog Tryz.f5 Rows.modelWidthsRow.domain false) (Rows.modelWidthsSpec.post enc Tryz.prog Tryz.f5 false true false false) := by
  refine returnsInHanded_of_change_shaped (C := Tryz.checked) own started (by kernel_rfl) Tryz.func5
    (ChangeSpec.witness6 (enc := enc) (C := Tryz.checked) false ⟨#[], #[.agg #[.int .i64 0, .int .i64 0]], []⟩ 8 (by kernel_rfl) (by kernel_rfl) (by kernel_rfl) (by kernel_rfl)) ?_
  intro W base args ds gs before hval0 hW _ _ hsh _
  have hval : ∀ (j : Nat) t v, Tryz.f5.params[j]? = some t → args[j]? = some v → Value.okWide Tryz.prog W .any base t v := hval0
  have hW' := hW
  obtain ⟨p, q, hA0, hV, rfl, _, _⟩ := hW
  have hA : DataW.TrodAll enc Tryz.prog W 0 (fun _ => true) true Tryz.f5.params.toList args.toList ds p := hA0
  rw [Tryz.params5] at hA hval
  obtain ⟨v0, d0, rfl, rfl, h0⟩ := trodAll_one hA
  obtain ⟨rfl, rfl⟩ := trodVars_none hV
  obtain ⟨a, b, rfl, ha, hb⟩ := arg_two Tryz.underlying37 (by kernel_rfl) (show Tryz.prog.cellTypes Tryz.prog.depth 37 = some [2, 2] by kernel_rfl) Tryz.underlying2 (hval 0 37 v0 rfl rfl)
  clear hA0 hval0
  simp only [List.append_nil] at hW'
  have hlt : ∀ x ∈ p, x.block < W.heap.size := fun x hx => by simpa using hW'.lt x hx
  refine (Mw_calls a b ha hb W).mono fun e W' ⟨he, hnx⟩ => ?_
  subst he
  refine ⟨_, rfl, _, _, _, [] ++ [], p, [], hW', ?_, ?_, rfl, hnx.frame _, fun h => by cases h⟩
  · exact trodAll_mk1 (shut_bool Tryz.underlying4 true)
  · exact trodAll_mk1 (Below.trod laidOut (by kernel_rfl) (of_decide_eq_true (by kernel_rfl)) h0 hnx hlt)

theorem modelWidths_holds : Rows.ModelWidthsSaid :=
  OpenClaim.holds_of_wide 5 Tryz.f5 rfl rfl rfl rfl rfl rfl rfl ⟨rfl, rfl, rfl, rfl, rfl⟩ rfl rfl rfl rfl rfl (by kernel_rfl) Tryz.func5 (by kernel_rfl)
    (of_decide_eq_true (by kernel_rfl)) (by unfold Func.isWrapper; first | (rw [if_pos (by decide +kernel)]; kernel_rfl) | (rw [if_neg (by decide +kernel)]; exact ⟨rfl, rfl⟩))
    (fun os started H enc _ => modelWidths_lifted os started H enc)

end Go.Proofs.YtlpmpjechbkpkaaGreat

/- ModelCalls, whatever the argument: the law returns true, and its argument reads as it did. -/
import Derived.Test.YtpepepkfjimoeaaGreatVh
import Derived.Test.YtpepepkfjimoeaaGreatMc1
import Derived.Test.YtpepepkfjimoeaaGreatMc3
import Derived.Test.YtpepepkfjimoeaaGreatMc5
import Derived.Test.YtpepepkfjimoeaaGreatMc6
import Derived.Test.YtpepepkfjimoeaaGreatMc7
import Derived.Test.YtpepepkfjimoeaaGreatMc8
import Derived.Test.YtpepepkfjimoeaaGreatMc9
import Derived.Test.YtpepepkfjimoeaaGreatMc10
import Derived.Test.YtpepepkfjimoeaaGreatMc12
namespace Go.Proofs.YtpepepkfjimoeaaGreat
open Go.ChangeShapes Go.WideShapes Go.ChangeAt Go.RowKit Go.Proofs.YtpepepkfjimoeaaGreat.Ev

def McAll : Tab := [(16, [McE9, McE59, McE133]), (30, [McE11, McE60, McE97, McE134]), (17, [McE13, McE98]), (82, [McE46]), (20, [McE76, McE90, McE136]), (22, [McE77, McE91]), (87, [McE79, McE81, McE83, McE85, McE87, McE96]), (105, [McE88]), (23, [McE94]), (34, [McE125]), (13, [McE142])]
theorem Mc_ok : McAll.Ok Tryz.prog := (Tab.ok_cons (f := 16) (Ent.ok_cons McK9 (Ent.ok_cons McK59 (Ent.ok_cons McK133 Ent.ok_nil))) (Tab.ok_cons (f := 30) (Ent.ok_cons McK11 (Ent.ok_cons McK60 (Ent.ok_cons McK97 (Ent.ok_cons McK134 Ent.ok_nil)))) (Tab.ok_cons (f := 17) (Ent.ok_cons McK13 (Ent.ok_cons McK98 Ent.ok_nil)) (Tab.ok_cons (f := 82) (Ent.ok_cons McK46 Ent.ok_nil) (Tab.ok_cons (f := 20) (Ent.ok_cons McK76 (Ent.ok_cons McK90 (Ent.ok_cons McK136 Ent.ok_nil))) (Tab.ok_cons (f := 22) (Ent.ok_cons McK77 (Ent.ok_cons McK91 Ent.ok_nil)) (Tab.ok_cons (f := 87) (Ent.ok_cons McK79 (Ent.ok_cons McK81 (Ent.ok_cons McK83 (Ent.ok_cons McK85 (Ent.ok_cons McK87 (Ent.ok_cons McK96 Ent.ok_nil)))))) (Tab.ok_cons (f := 105) (Ent.ok_cons McK88 Ent.ok_nil) (Tab.ok_cons (f := 23) (Ent.ok_cons McK94 Ent.ok_nil) (Tab.ok_cons (f := 34) (Ent.ok_cons McK125 Ent.ok_nil) (Tab.ok_cons (f := 13) (Ent.ok_cons McK142 Ent.ok_nil) Tab.ok_nil)))))))))))
set_option maxRecDepth 100000 in
theorem Mc_ev (la lb : Nat) (n : Int) : okB (callT Tryz.prog McAll 1000 9 (.cons (.agg (.cons (.slen la) (.cons (.slen lb) (.cons (.int .i64 n) .nil)))) .nil) ⟨.nil, 0⟩) = true := by kernel_rfl

set_option maxRecDepth 100000 in
theorem modelCalls_lifted (os : Os) (started : os.Started) (H : Type) (enc : TypeId × Value → H) :
    ReturnsInHanded {} Tryz.checked os 9 .any (Rows.modelCallsSpec.pre6 enc Tryz.prog Tryz.f9 Rows.modelCallsRow.domain false) (Rows.modelCallsSpec.post enc Tryz.prog Tryz.f9 false true false false) := by
  refine returnsInHanded_of_change_shaped (C := Tryz.checked) own started (by kernel_rfl) Tryz.func9
    (ChangeSpec.witness6 (enc := enc) (C := Tryz.checked) false ⟨#[], #[.agg #[.slice none 0 0, .slice none 0 0, .int .i64 0]], []⟩ 8 (by kernel_rfl) (by kernel_rfl) (by kernel_rfl) (by kernel_rfl)) ?_
  intro W base args ds gs before hval0 hW _ _ hsh _
  have hval : ∀ (j : Nat) t v, Tryz.f9.params[j]? = some t → args[j]? = some v → Value.okWide Tryz.prog W .any base t v := hval0
  have hW' := hW
  obtain ⟨p, q, hA0, hV, rfl, _, _⟩ := hW
  have hA : DataW.TrodAll enc Tryz.prog W 0 (fun _ => true) true Tryz.f9.params.toList args.toList ds p := hA0
  rw [Tryz.params9] at hA hval
  obtain ⟨v0, d0, rfl, rfl, h0⟩ := trodAll_one hA
  obtain ⟨rfl, rfl⟩ := trodVars_none hV
  obtain ⟨la, lb, n, hv⟩ := arg_ask3 Tryz.underlying28 (by kernel_rfl) (show Tryz.prog.cellTypes Tryz.prog.depth 28 = some [22, 26, 3] by kernel_rfl) Tryz.underlying22 Tryz.underlying26 Tryz.underlying3 (hval 0 28 v0 rfl rfl)
  clear hA0 hval0
  simp only [List.append_nil] at hW'
  have hlt : ∀ x ∈ p, x.block < W.heap.size := fun x hx => by simpa using hW'.lt x hx
  refine (closed_law mixed Mc_ok (Mc_ev la lb n) hv W).mono fun e W' ⟨he, hnx⟩ => ?_
  subst he
  refine ⟨_, rfl, _, _, _, [] ++ [], p, [], hW', ?_, ?_, rfl, hnx.frame _, fun h => by cases h⟩
  · exact trodAll_mk1 (shut_bool Tryz.underlying4 true)
  · exact trodAll_mk1 (Below.trod laidOut (by kernel_rfl) (of_decide_eq_true (by kernel_rfl)) h0 hnx hlt)

theorem modelCalls_holds : Rows.ModelCallsSaid :=
  OpenClaim.holds_of_wide 9 Tryz.f9 rfl rfl rfl rfl rfl rfl rfl ⟨rfl, rfl, rfl, rfl, rfl⟩ rfl rfl rfl rfl rfl (by kernel_rfl) Tryz.func9 (by kernel_rfl)
    (of_decide_eq_true (by kernel_rfl)) (by unfold Func.isWrapper; first | (rw [if_pos (by decide +kernel)]; kernel_rfl) | (rw [if_neg (by decide +kernel)]; exact ⟨rfl, rfl⟩))
    (fun os started H enc _ => modelCalls_lifted os started H enc)

end Go.Proofs.YtpepepkfjimoeaaGreat

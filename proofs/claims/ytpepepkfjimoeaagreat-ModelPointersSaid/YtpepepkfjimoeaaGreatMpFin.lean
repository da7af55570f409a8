/- ModelPointers, whatever the argument: the law returns true, and its argument reads as it did. -/
import Derived.Test.YtpepepkfjimoeaaGreatVh
import Derived.Test.YtpepepkfjimoeaaGreatMp12
import Derived.Test.YtpepepkfjimoeaaGreatMp13
import Derived.Test.YtpepepkfjimoeaaGreatMp14
import Derived.Test.YtpepepkfjimoeaaGreatMp15
import Derived.Test.YtpepepkfjimoeaaGreatMp16
import Derived.Test.YtpepepkfjimoeaaGreatMp17
import Derived.Test.YtpepepkfjimoeaaGreatMp18
namespace Go.Proofs.YtpepepkfjimoeaaGreat
open Go.ChangeShapes Go.WideShapes Go.ChangeAt Go.RowKit Go.Proofs.YtpepepkfjimoeaaGreat.Ev

def MpAll : Tab := [(11, [MpE94]), (19, [MpE98, MpE103, MpE108, MpE113, MpE124, MpE128]), (20, [MpE99, MpE104, MpE109, MpE114, MpE135]), (13, [MpE120, MpE141]), (31, [MpE125]), (22, [MpE129]), (48, [MpE132]), (30, [MpE133])]
theorem Mp_ok : MpAll.Ok Tryz.prog := (Tab.ok_cons (f := 11) (Ent.ok_cons MpK94 Ent.ok_nil) (Tab.ok_cons (f := 19) (Ent.ok_cons MpK98 (Ent.ok_cons MpK103 (Ent.ok_cons MpK108 (Ent.ok_cons MpK113 (Ent.ok_cons MpK124 (Ent.ok_cons MpK128 Ent.ok_nil)))))) (Tab.ok_cons (f := 20) (Ent.ok_cons MpK99 (Ent.ok_cons MpK104 (Ent.ok_cons MpK109 (Ent.ok_cons MpK114 (Ent.ok_cons MpK135 Ent.ok_nil))))) (Tab.ok_cons (f := 13) (Ent.ok_cons MpK120 (Ent.ok_cons MpK141 Ent.ok_nil)) (Tab.ok_cons (f := 31) (Ent.ok_cons MpK125 Ent.ok_nil) (Tab.ok_cons (f := 22) (Ent.ok_cons MpK129 Ent.ok_nil) (Tab.ok_cons (f := 48) (Ent.ok_cons MpK132 Ent.ok_nil) (Tab.ok_cons (f := 30) (Ent.ok_cons MpK133 Ent.ok_nil) Tab.ok_nil))))))))
set_option maxRecDepth 100000 in
theorem Mp_ev (la lb : Nat) (n : Int) : okB (callT Tryz.prog MpAll 1000 8 (.cons (.agg (.cons (.slen la) (.cons (.slen lb) (.cons (.int .i64 n) .nil)))) .nil) ⟨.nil, 0⟩) = true := by kernel_rfl

set_option maxRecDepth 100000 in
theorem modelPointers_lifted (os : Os) (started : os.Started) (H : Type) (enc : TypeId × Value → H) :
    ReturnsInHanded {} Tryz.checked os 8 .any (Rows.modelPointersSpec.pre6 enc Tryz.prog Tryz.f8 Rows.modelPointersRow.domain false) (Rows.modelPointersSpec.post enc Tryz.prog Tryz.f8 false true false false) := by
  refine returnsInHanded_of_change_shaped (C := Tryz.checked) own started (by kernel_rfl) Tryz.func8
    (ChangeSpec.witness6 (enc := enc) (C := Tryz.checked) false ⟨#[], #[.agg #[.slice none 0 0, .slice none 0 0, .int .i64 0]], []⟩ 8 (by kernel_rfl) (by kernel_rfl) (by kernel_rfl) (by kernel_rfl)) ?_
  intro W base args ds gs before hval0 hW _ _ hsh _
  have hval : ∀ (j : Nat) t v, Tryz.f8.params[j]? = some t → args[j]? = some v → Value.okWide Tryz.prog W .any base t v := hval0
  have hW' := hW
  obtain ⟨p, q, hA0, hV, rfl, _, _⟩ := hW
  have hA : DataW.TrodAll enc Tryz.prog W 0 (fun _ => true) true Tryz.f8.params.toList args.toList ds p := hA0
  rw [Tryz.params8] at hA hval
  obtain ⟨v0, d0, rfl, rfl, h0⟩ := trodAll_one hA
  obtain ⟨rfl, rfl⟩ := trodVars_none hV
  obtain ⟨la, lb, n, hv⟩ := arg_ask3 Tryz.underlying28 (by kernel_rfl) (show Tryz.prog.cellTypes Tryz.prog.depth 28 = some [22, 26, 3] by kernel_rfl) Tryz.underlying22 Tryz.underlying26 Tryz.underlying3 (hval 0 28 v0 rfl rfl)
  clear hA0 hval0
  simp only [List.append_nil] at hW'
  have hlt : ∀ x ∈ p, x.block < W.heap.size := fun x hx => by simpa using hW'.lt x hx
  refine (closed_law mixed Mp_ok (Mp_ev la lb n) hv W).mono fun e W' ⟨he, hnx⟩ => ?_
  subst he
  refine ⟨_, rfl, _, _, _, [] ++ [], p, [], hW', ?_, ?_, rfl, hnx.frame _, fun h => by cases h⟩
  · exact trodAll_mk1 (shut_bool Tryz.underlying4 true)
  · exact trodAll_mk1 (Below.trod laidOut (by kernel_rfl) (of_decide_eq_true (by kernel_rfl)) h0 hnx hlt)

theorem modelPointers_holds : Rows.ModelPointersSaid :=
  OpenClaim.holds_of_wide 8 Tryz.f8 rfl rfl rfl rfl rfl rfl rfl ⟨rfl, rfl, rfl, rfl, rfl⟩ rfl rfl rfl rfl rfl (by kernel_rfl) Tryz.func8 (by kernel_rfl)
    (of_decide_eq_true (by kernel_rfl)) (by unfold Func.isWrapper; first | (rw [if_pos (by decide +kernel)]; kernel_rfl) | (rw [if_neg (by decide +kernel)]; exact ⟨rfl, rfl⟩))
    (fun os started H enc _ => modelPointers_lifted os started H enc)

end Go.Proofs.YtpepepkfjimoeaaGreat

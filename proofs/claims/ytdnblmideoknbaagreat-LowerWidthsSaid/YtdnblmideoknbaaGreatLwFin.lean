/- LowerWidths, whatever the argument: the law returns true, and its argument reads as it did. -/
import Derived.Test.YtdnblmideoknbaaGreatLwEv
namespace Go.Proofs.YtdnblmideoknbaaGreat
open Go.ChangeShapes Go.WideShapes Go.ChangeAt Go.RowKit Go.Proofs.YtdnblmideoknbaaGreat.Ev

set_option maxRecDepth 100000 in
theorem lowerWidths_lifted (os : Os) (started : os.Started) (H : Type) (enc : TypeId × Value → H) :
    ReturnsInHanded {} Tryz.checked os 5 .any (Rows.lowerWidthsSpec.pre6 enc Tryz.prog Tryz.f5 Rows.lowerWidthsRow.domain false) (Rows.lowerWidthsSpec.post enc Tryz.prog Tryz.f5 false true false false) := by
  refine returnsInHanded_of_change_shaped (C := Tryz.checked) own started (by kernel_rfl) Tryz.func5
    (ChangeSpec.witness6 (enc := enc) (C := Tryz.checked) false ⟨#[], #[.agg #[.int .i64 0, .int .i64 0]], []⟩ 8 (by kernel_rfl) (by kernel_rfl) (by kernel_rfl) (by kernel_rfl)) ?_
  intro W base args ds gs before hval0 hW _ _ hsh _
  have hval : ∀ (j : Nat) t v, Tryz.f5.params[j]? = some t → args[j]? = some v → Value.okWide Tryz.prog W .any base t v := hval0
  have hW' := hW
  obtain ⟨p, q, hA0, hV, rfl, _, _⟩ := hW
  have hA : DataW.TrodAll enc Tryz.prog W 0 (fun _ => true) true Tryz.f5.params.toList args.toList ds p := hA0
  rw [Tryz.params5] at hA hval
  obtain ⟨v0, d0, rfl, rfl, h0⟩ := trodAll_one hA
  obtain ⟨rfl, rfl⟩ := trodVars_none hV
  obtain ⟨a, b, rfl, ha, hb⟩ := arg_two Tryz.underlying29 (by kernel_rfl) (show Tryz.prog.cellTypes Tryz.prog.depth 29 = some [2, 2] by kernel_rfl) Tryz.underlying2 (hval 0 29 v0 rfl rfl)
  clear hA0 hval0
  simp only [List.append_nil] at hW'
  have hlt : ∀ x ∈ p, x.block < W.heap.size := fun x hx => by simpa using hW'.lt x hx
  refine (Lw_calls a b ha hb W).mono fun e W' ⟨he, hnx⟩ => ?_
  subst he
  refine ⟨_, rfl, _, _, _, [] ++ [], p, [], hW', ?_, ?_, rfl, hnx.frame _, fun h => by cases h⟩
  · exact trodAll_mk1 (shut_bool Tryz.underlying4 true)
  · exact trodAll_mk1 (Below.trod laidOut (by kernel_rfl) (of_decide_eq_true (by kernel_rfl)) h0 hnx hlt)

theorem Lw_j1 : Tryz.checked.prog.recurses 5 = true := by kernel_rfl
theorem Lw_j2 : Tryz.checked.prog.unfollowed 5 = true := by kernel_rfl
theorem Lw_j3 : Tryz.checked.prog.varsNamed 5 = [] := by kernel_rfl
theorem Lw_j4 : Tryz.checked.prog.inPlace 5 = [] := by kernel_rfl
theorem Lw_j5 : joinedFacts Tryz.checked.prog 5 Tryz.f5 Rows.lowerWidthsSpec Rows.lowerWidthsRow = true := by
  unfold joinedFacts
  rw [Lw_j1, Lw_j2, Lw_j3, Lw_j4]
  kernel_rfl

theorem lowerWidths_holds : Rows.LowerWidthsSaid :=
  OpenClaim.holds_of_wide 5 Tryz.f5 rfl rfl rfl rfl rfl rfl rfl ⟨rfl, rfl, rfl, rfl, rfl⟩ rfl rfl rfl rfl rfl (by kernel_rfl) Tryz.func5 Lw_j5
    (of_decide_eq_true (by kernel_rfl)) (by unfold Func.isWrapper; first | (rw [if_pos (by decide +kernel)]; kernel_rfl) | (rw [if_neg (by decide +kernel)]; exact ⟨rfl, rfl⟩))
    (fun os started H enc _ => lowerWidths_lifted os started H enc)

end Go.Proofs.YtdnblmideoknbaaGreat

/- LowerSwitches, whatever the argument: the law returns true, and its argument reads as it did. -/
import Derived.Test.YtjpgogmnabkgnaaGreatLsP0
import Derived.Test.YtjpgogmnabkgnaaGreatLsP1
import Derived.Test.YtjpgogmnabkgnaaGreatLsP2
namespace Go.Proofs.YtjpgogmnabkgnaaGreat
open Go.ChangeShapes Go.WideShapes Go.ChangeAt Go.RowKit Go.Proofs.YtjpgogmnabkgnaaGreat.Ev
theorem Ls_calls [InW] (W : World) : Calls Tryz.prog 6 #[.agg #[.int .i64 InW.f0, .int .i64 InW.f1, .int .i64 InW.f2, .int .i64 InW.f3]] W fun e w' => e = .returned (.bool true) ∧ Below W.heap.size W w' := by
  by_cases h1 : InW.fi ≤ 9
  · exact Ls1_calls h1 W
  · by_cases h2 : InW.fi ≤ 99
    · exact Ls2_calls ⟨by omega, h2⟩ W
    · exact Ls3_calls (by omega) W

set_option maxRecDepth 100000 in
theorem lowerSwitches_lifted (os : Os) (started : os.Started) (H : Type) (enc : TypeId × Value → H) :
    ReturnsInHanded {} Tryz.checked os 6 .any (Rows.lowerSwitchesSpec.pre6 enc Tryz.prog Tryz.f6 Rows.lowerSwitchesRow.domain false) (Rows.lowerSwitchesSpec.post enc Tryz.prog Tryz.f6 false true false false) := by
  refine returnsInHanded_of_change_shaped (C := Tryz.checked) own started (by kernel_rfl) Tryz.func6
    (ChangeSpec.witness6 (enc := enc) (C := Tryz.checked) false ⟨#[], #[.agg #[.int .i64 0, .int .i64 0, .int .i64 0, .int .i64 0]], []⟩ 8 (by kernel_rfl) (by kernel_rfl) (by kernel_rfl) (by kernel_rfl)) ?_
  intro W base args ds gs before hval0 hW _ _ hsh _
  have hval : ∀ (j : Nat) t v, Tryz.f6.params[j]? = some t → args[j]? = some v → Value.okWide Tryz.prog W .any base t v := hval0
  have hW' := hW
  obtain ⟨p, q, hA0, hV, rfl, _, _⟩ := hW
  have hA : DataW.TrodAll enc Tryz.prog W 0 (fun _ => true) true Tryz.f6.params.toList args.toList ds p := hA0
  rw [Tryz.params6] at hA hval
  obtain ⟨v0, d0, rfl, rfl, h0⟩ := trodAll_one hA
  obtain ⟨rfl, rfl⟩ := trodVars_none hV
  obtain ⟨a, b, c, d, rfl, ha, hb, hc, hd⟩ := arg_four Tryz.underlying22 (by kernel_rfl) (show Tryz.prog.cellTypes Tryz.prog.depth 22 = some [3, 3, 3, 3] by kernel_rfl) Tryz.underlying3 (hval 0 22 v0 rfl rfl)
  clear hA0 hval0
  simp only [List.append_nil] at hW'
  have hlt : ∀ x ∈ p, x.block < W.heap.size := fun x hx => by simpa using hW'.lt x hx
  letI : InW := ⟨a, b, c, d, ha, hb, hc, hd⟩
  refine (Ls_calls W).mono fun e W' ⟨he, hnx⟩ => ?_
  subst he
  refine ⟨_, rfl, _, _, _, [] ++ [], p, [], hW', ?_, ?_, rfl, hnx.frame _, fun h => by cases h⟩
  · exact trodAll_mk1 (shut_bool Tryz.underlying4 true)
  · exact trodAll_mk1 (Below.trod laidOut (by kernel_rfl) (of_decide_eq_true (by kernel_rfl)) h0 hnx hlt)

theorem Ls_j1 : Tryz.checked.prog.recurses 6 = true := by kernel_rfl
theorem Ls_j2 : Tryz.checked.prog.unfollowed 6 = true := by kernel_rfl
theorem Ls_j3 : Tryz.checked.prog.varsNamed 6 = [] := by kernel_rfl
theorem Ls_j4 : Tryz.checked.prog.inPlace 6 = [] := by kernel_rfl
theorem Ls_j5 : joinedFacts Tryz.checked.prog 6 Tryz.f6 Rows.lowerSwitchesSpec Rows.lowerSwitchesRow = true := by
  unfold joinedFacts
  rw [Ls_j1, Ls_j2, Ls_j3, Ls_j4]
  kernel_rfl

theorem lowerSwitches_holds : Rows.LowerSwitchesSaid :=
  OpenClaim.holds_of_wide 6 Tryz.f6 rfl rfl rfl rfl rfl rfl rfl ⟨rfl, rfl, rfl, rfl, rfl⟩ rfl rfl rfl rfl rfl (by kernel_rfl) Tryz.func6 Ls_j5
    (of_decide_eq_true (by kernel_rfl)) (by unfold Func.isWrapper; first | (rw [if_pos (by decide +kernel)]; kernel_rfl) | (rw [if_neg (by decide +kernel)]; exact ⟨rfl, rfl⟩))
    (fun os started H enc _ => lowerSwitches_lifted os started H enc)

end Go.Proofs.YtjpgogmnabkgnaaGreat

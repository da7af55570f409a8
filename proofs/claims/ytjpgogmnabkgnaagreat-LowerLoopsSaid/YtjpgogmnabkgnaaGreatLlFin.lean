/- LowerLoops, whatever the argument: the law returns true, and its argument reads as it did. -/
import Derived.Test.YtjpgogmnabkgnaaGreatLlP0
import Derived.Test.YtjpgogmnabkgnaaGreatLlP1
import Derived.Test.YtjpgogmnabkgnaaGreatLlP2
import Derived.Test.YtjpgogmnabkgnaaGreatLlP3
import Derived.Test.YtjpgogmnabkgnaaGreatLlP4
import Derived.Test.YtjpgogmnabkgnaaGreatLlP5
import Derived.Test.YtjpgogmnabkgnaaGreatLlP6
import Derived.Test.YtjpgogmnabkgnaaGreatLlP7
import Derived.Test.YtjpgogmnabkgnaaGreatLlP8
import Derived.Test.YtjpgogmnabkgnaaGreatLlP9
import Derived.Test.YtjpgogmnabkgnaaGreatLlP10
import Derived.Test.YtjpgogmnabkgnaaGreatLlP11
import Derived.Test.YtjpgogmnabkgnaaGreatLlP12
import Derived.Test.YtjpgogmnabkgnaaGreatLlP13
namespace Go.Proofs.YtjpgogmnabkgnaaGreat
open Go.ChangeShapes Go.WideShapes Go.ChangeAt Go.RowKit Go.Proofs.YtjpgogmnabkgnaaGreat.Ev
theorem Ll_calls [InL] (W : World) : Calls Tryz.prog 5 #[.agg #[.int .i64 InL.f0, .int .i64 InL.f1, .int .i64 InL.f2, .int .i64 InL.f3]] W fun e w' => e = .returned (.bool true) ∧ Below W.heap.size W w' := by
  have q0 := InL.fr_rng
  have q1 := InL.to_rng
  have q3 := InL.sp_rng
  have e0 : (-9 ≤ InL.fr ∧ InL.fr ≤ -1) ∨ (0 ≤ InL.fr ∧ InL.fr ≤ 9) ∨ (10 ≤ InL.fr ∧ InL.fr ≤ 10) := by omega
  have e1 : (-9 ≤ InL.to ∧ InL.to ≤ -1) ∨ (0 ≤ InL.to ∧ InL.to ≤ 9) ∨ (10 ≤ InL.to ∧ InL.to ≤ 15) := by omega
  have e3 : (-9 ≤ InL.sp ∧ InL.sp ≤ -1) ∨ (0 ≤ InL.sp ∧ InL.sp ≤ 9) ∨ (10 ≤ InL.sp ∧ InL.sp ≤ 15) := by omega
  rcases e0 with e0 | e0 | e0
  · rcases e1 with e1 | e1 | e1
    · rcases e3 with e3 | e3 | e3
      · exact Ll0_calls e0 e1 e3 W
      · exact Ll1_calls e0 e1 e3 W
      · exact Ll2_calls e0 e1 e3 W
    · rcases e3 with e3 | e3 | e3
      · exact Ll3_calls e0 e1 e3 W
      · exact Ll4_calls e0 e1 e3 W
      · exact Ll5_calls e0 e1 e3 W
    · rcases e3 with e3 | e3 | e3
      · exact Ll6_calls e0 e1 e3 W
      · exact Ll7_calls e0 e1 e3 W
      · exact Ll8_calls e0 e1 e3 W
  · rcases e1 with e1 | e1 | e1
    · rcases e3 with e3 | e3 | e3
      · exact Ll9_calls e0 e1 e3 W
      · exact Ll10_calls e0 e1 e3 W
      · exact Ll11_calls e0 e1 e3 W
    · rcases e3 with e3 | e3 | e3
      · exact Ll12_calls e0 e1 e3 W
      · exact Ll13_calls e0 e1 e3 W
      · exact Ll14_calls e0 e1 e3 W
    · rcases e3 with e3 | e3 | e3
      · exact Ll15_calls e0 e1 e3 W
      · exact Ll16_calls e0 e1 e3 W
      · exact Ll17_calls e0 e1 e3 W
  · rcases e1 with e1 | e1 | e1
    · rcases e3 with e3 | e3 | e3
      · exact Ll18_calls e0 e1 e3 W
      · exact Ll19_calls e0 e1 e3 W
      · exact Ll20_calls e0 e1 e3 W
    · rcases e3 with e3 | e3 | e3
      · exact Ll21_calls e0 e1 e3 W
      · exact Ll22_calls e0 e1 e3 W
      · exact Ll23_calls e0 e1 e3 W
    · rcases e3 with e3 | e3 | e3
      · exact Ll24_calls e0 e1 e3 W
      · exact Ll25_calls e0 e1 e3 W
      · exact Ll26_calls e0 e1 e3 W

set_option maxRecDepth 100000 in
theorem lowerLoops_lifted (os : Os) (started : os.Started) (H : Type) (enc : TypeId × Value → H) :
    ReturnsInHanded {} Tryz.checked os 5 .any (Rows.lowerLoopsSpec.pre6 enc Tryz.prog Tryz.f5 Rows.lowerLoopsRow.domain false) (Rows.lowerLoopsSpec.post enc Tryz.prog Tryz.f5 false true false false) := by
  refine returnsInHanded_of_change_shaped (C := Tryz.checked) own started (by kernel_rfl) Tryz.func5
    (ChangeSpec.witness6 (enc := enc) (C := Tryz.checked) false ⟨#[], #[.agg #[.int .i64 0, .int .i64 0, .int .i64 0, .int .i64 0]], []⟩ 8 (by kernel_rfl) (by kernel_rfl) (by kernel_rfl) (by kernel_rfl)) ?_
  intro W base args ds gs before hval0 hW _ _ hsh _
  have hval : ∀ (j : Nat) t v, Tryz.f5.params[j]? = some t → args[j]? = some v → Value.okWide Tryz.prog W .any base t v := hval0
  have hW' := hW
  obtain ⟨p, q, hA0, hV, rfl, _, _⟩ := hW
  have hA : DataW.TrodAll enc Tryz.prog W 0 (fun _ => true) true Tryz.f5.params.toList args.toList ds p := hA0
  rw [Tryz.params5] at hA hval
  obtain ⟨v0, d0, rfl, rfl, h0⟩ := trodAll_one hA
  obtain ⟨rfl, rfl⟩ := trodVars_none hV
  obtain ⟨a, b, c, d, rfl, ha, hb, hc, hd⟩ := arg_four Tryz.underlying22 (by kernel_rfl) (show Tryz.prog.cellTypes Tryz.prog.depth 22 = some [3, 3, 3, 3] by kernel_rfl) Tryz.underlying3 (hval 0 22 v0 rfl rfl)
  clear hA0 hval0
  simp only [List.append_nil] at hW'
  have hlt : ∀ x ∈ p, x.block < W.heap.size := fun x hx => by simpa using hW'.lt x hx
  letI : InL := ⟨a, b, c, d, ha, hb, hc, hd⟩
  refine (Ll_calls W).mono fun e W' ⟨he, hnx⟩ => ?_
  subst he
  refine ⟨_, rfl, _, _, _, [] ++ [], p, [], hW', ?_, ?_, rfl, hnx.frame _, fun h => by cases h⟩
  · exact trodAll_mk1 (shut_bool Tryz.underlying4 true)
  · exact trodAll_mk1 (Below.trod laidOut (by kernel_rfl) (of_decide_eq_true (by kernel_rfl)) h0 hnx hlt)

theorem Ll_j1 : Tryz.checked.prog.recurses 5 = true := by kernel_rfl
theorem Ll_j2 : Tryz.checked.prog.unfollowed 5 = true := by kernel_rfl
theorem Ll_j3 : Tryz.checked.prog.varsNamed 5 = [] := by kernel_rfl
theorem Ll_j4 : Tryz.checked.prog.inPlace 5 = [] := by kernel_rfl
theorem Ll_j5 : joinedFacts Tryz.checked.prog 5 Tryz.f5 Rows.lowerLoopsSpec Rows.lowerLoopsRow = true := by
  unfold joinedFacts
  rw [Ll_j1, Ll_j2, Ll_j3, Ll_j4]
  kernel_rfl

theorem lowerLoops_holds : Rows.LowerLoopsSaid :=
  OpenClaim.holds_of_wide 5 Tryz.f5 rfl rfl rfl rfl rfl rfl rfl ⟨rfl, rfl, rfl, rfl, rfl⟩ rfl rfl rfl rfl rfl (by kernel_rfl) Tryz.func5 Ll_j5
    (of_decide_eq_true (by kernel_rfl)) (by unfold Func.isWrapper; first | (rw [if_pos (by decide +kernel)]; kernel_rfl) | (rw [if_neg (by decide +kernel)]; exact ⟨rfl, rfl⟩))
    (fun os started H enc _ => lowerLoops_lifted os started H enc)

end Go.Proofs.YtjpgogmnabkgnaaGreat

/- ModelArrays, whatever the argument: the law returns true, and its argument reads as it did. -/
import Derived.Test.YtdnblmideoknbaaGreatMaP0
import Derived.Test.YtdnblmideoknbaaGreatMaP1
import Derived.Test.YtdnblmideoknbaaGreatMaP10
import Derived.Test.YtdnblmideoknbaaGreatMaP11
import Derived.Test.YtdnblmideoknbaaGreatMaP12
import Derived.Test.YtdnblmideoknbaaGreatMaP13
import Derived.Test.YtdnblmideoknbaaGreatMaP2
import Derived.Test.YtdnblmideoknbaaGreatMaP3
import Derived.Test.YtdnblmideoknbaaGreatMaP4
import Derived.Test.YtdnblmideoknbaaGreatMaP5
import Derived.Test.YtdnblmideoknbaaGreatMaP6
import Derived.Test.YtdnblmideoknbaaGreatMaP7
import Derived.Test.YtdnblmideoknbaaGreatMaP8
import Derived.Test.YtdnblmideoknbaaGreatMaP9
namespace Go.Proofs.YtdnblmideoknbaaGreat
open Go.ChangeShapes Go.WideShapes Go.ChangeAt Go.RowKit Go.Proofs.YtdnblmideoknbaaGreat.Ev

theorem Ma_calls [In4] (W : World) : Calls Tryz.prog 3 #[.agg #[.int .i64 In4.f0, .int .i64 In4.f1, .int .i64 In4.f2, .int .i64 In4.f3]] W fun e w' => e = .returned (.bool true) ∧ Below W.heap.size W w' := by
  have hn := In4.n_rng
  have ha := In4.a_rng
  have one : ∀ (n0 a0 : Nat) (h1 : In4.n = n0) (h2 : In4.a = a0), okB (@callT (envSpec n0 a0 h1 h2) Tryz.prog (@knownL (envSpec n0 a0 h1 h2) n0 a0 MaPads) MaAll 1000 3 (.cons (.agg (.cons (.sym .i64 (.var 10)) (.cons (.sym .i64 (.var 11)) (.cons (.sym .i64 (.var 12)) (.cons (.sym .i64 (.var 13)) .nil))))) .nil) ⟨.nil, 0⟩) = true → Calls Tryz.prog 3 #[.agg #[.int .i64 In4.f0, .int .i64 In4.f1, .int .i64 In4.f2, .int .i64 In4.f3]] W fun e w' => e = .returned (.bool true) ∧ Below W.heap.size W w' :=
    fun n0 a0 h1 h2 h => @closed_law (envSpec n0 a0 h1 h2) _ mixed _ _ (knownL_ok n0 a0 h1 h2 Ma_pads) _ Ma_ok _ _ _ h _ four_in W trivial
  by_cases h1 : In4.n = (1 : Nat)
  · by_cases k1_0 : In4.a = (0 : Nat)
    · exact one 1 0 h1 k1_0 (Ma_p1_0 h1 k1_0)
    exfalso; omega
  by_cases h2 : In4.n = (2 : Nat)
  · by_cases k2_0 : In4.a = (0 : Nat)
    · exact one 2 0 h2 k2_0 (Ma_p2_0 h2 k2_0)
    by_cases k2_1 : In4.a = (1 : Nat)
    · exact one 2 1 h2 k2_1 (Ma_p2_1 h2 k2_1)
    exfalso; omega
  by_cases h3 : In4.n = (3 : Nat)
  · by_cases k3_0 : In4.a = (0 : Nat)
    · exact one 3 0 h3 k3_0 (Ma_p3_0 h3 k3_0)
    by_cases k3_1 : In4.a = (1 : Nat)
    · exact one 3 1 h3 k3_1 (Ma_p3_1 h3 k3_1)
    by_cases k3_2 : In4.a = (2 : Nat)
    · exact one 3 2 h3 k3_2 (Ma_p3_2 h3 k3_2)
    exfalso; omega
  by_cases h4 : In4.n = (4 : Nat)
  · by_cases k4_0 : In4.a = (0 : Nat)
    · exact one 4 0 h4 k4_0 (Ma_p4_0 h4 k4_0)
    by_cases k4_1 : In4.a = (1 : Nat)
    · exact one 4 1 h4 k4_1 (Ma_p4_1 h4 k4_1)
    by_cases k4_2 : In4.a = (2 : Nat)
    · exact one 4 2 h4 k4_2 (Ma_p4_2 h4 k4_2)
    by_cases k4_3 : In4.a = (3 : Nat)
    · exact one 4 3 h4 k4_3 (Ma_p4_3 h4 k4_3)
    exfalso; omega
  by_cases h5 : In4.n = (5 : Nat)
  · by_cases k5_0 : In4.a = (0 : Nat)
    · exact one 5 0 h5 k5_0 (Ma_p5_0 h5 k5_0)
    by_cases k5_1 : In4.a = (1 : Nat)
    · exact one 5 1 h5 k5_1 (Ma_p5_1 h5 k5_1)
    by_cases k5_2 : In4.a = (2 : Nat)
    · exact one 5 2 h5 k5_2 (Ma_p5_2 h5 k5_2)
    by_cases k5_3 : In4.a = (3 : Nat)
    · exact one 5 3 h5 k5_3 (Ma_p5_3 h5 k5_3)
    by_cases k5_4 : In4.a = (4 : Nat)
    · exact one 5 4 h5 k5_4 (Ma_p5_4 h5 k5_4)
    exfalso; omega
  by_cases h6 : In4.n = (6 : Nat)
  · by_cases k6_0 : In4.a = (0 : Nat)
    · exact one 6 0 h6 k6_0 (Ma_p6_0 h6 k6_0)
    by_cases k6_1 : In4.a = (1 : Nat)
    · exact one 6 1 h6 k6_1 (Ma_p6_1 h6 k6_1)
    by_cases k6_2 : In4.a = (2 : Nat)
    · exact one 6 2 h6 k6_2 (Ma_p6_2 h6 k6_2)
    by_cases k6_3 : In4.a = (3 : Nat)
    · exact one 6 3 h6 k6_3 (Ma_p6_3 h6 k6_3)
    by_cases k6_4 : In4.a = (4 : Nat)
    · exact one 6 4 h6 k6_4 (Ma_p6_4 h6 k6_4)
    by_cases k6_5 : In4.a = (5 : Nat)
    · exact one 6 5 h6 k6_5 (Ma_p6_5 h6 k6_5)
    exfalso; omega
  by_cases h7 : In4.n = (7 : Nat)
  · by_cases k7_0 : In4.a = (0 : Nat)
    · exact one 7 0 h7 k7_0 (Ma_p7_0 h7 k7_0)
    by_cases k7_1 : In4.a = (1 : Nat)
    · exact one 7 1 h7 k7_1 (Ma_p7_1 h7 k7_1)
    by_cases k7_2 : In4.a = (2 : Nat)
    · exact one 7 2 h7 k7_2 (Ma_p7_2 h7 k7_2)
    by_cases k7_3 : In4.a = (3 : Nat)
    · exact one 7 3 h7 k7_3 (Ma_p7_3 h7 k7_3)
    by_cases k7_4 : In4.a = (4 : Nat)
    · exact one 7 4 h7 k7_4 (Ma_p7_4 h7 k7_4)
    by_cases k7_5 : In4.a = (5 : Nat)
    · exact one 7 5 h7 k7_5 (Ma_p7_5 h7 k7_5)
    by_cases k7_6 : In4.a = (6 : Nat)
    · exact one 7 6 h7 k7_6 (Ma_p7_6 h7 k7_6)
    exfalso; omega
  by_cases h8 : In4.n = (8 : Nat)
  · by_cases k8_0 : In4.a = (0 : Nat)
    · exact one 8 0 h8 k8_0 (Ma_p8_0 h8 k8_0)
    by_cases k8_1 : In4.a = (1 : Nat)
    · exact one 8 1 h8 k8_1 (Ma_p8_1 h8 k8_1)
    by_cases k8_2 : In4.a = (2 : Nat)
    · exact one 8 2 h8 k8_2 (Ma_p8_2 h8 k8_2)
    by_cases k8_3 : In4.a = (3 : Nat)
    · exact one 8 3 h8 k8_3 (Ma_p8_3 h8 k8_3)
    by_cases k8_4 : In4.a = (4 : Nat)
    · exact one 8 4 h8 k8_4 (Ma_p8_4 h8 k8_4)
    by_cases k8_5 : In4.a = (5 : Nat)
    · exact one 8 5 h8 k8_5 (Ma_p8_5 h8 k8_5)
    by_cases k8_6 : In4.a = (6 : Nat)
    · exact one 8 6 h8 k8_6 (Ma_p8_6 h8 k8_6)
    by_cases k8_7 : In4.a = (7 : Nat)
    · exact one 8 7 h8 k8_7 (Ma_p8_7 h8 k8_7)
    exfalso; omega
  exfalso; omega

set_option maxRecDepth 100000 in
theorem modelArrays_lifted (os : Os) (started : os.Started) (H : Type) (enc : TypeId × Value → H) :
    ReturnsInHanded {} Tryz.checked os 3 .any (Rows.modelArraysSpec.pre6 enc Tryz.prog Tryz.f3 Rows.modelArraysRow.domain false) (Rows.modelArraysSpec.post enc Tryz.prog Tryz.f3 false true false false) := by
  refine returnsInHanded_of_change_shaped (C := Tryz.checked) own started (by kernel_rfl) Tryz.func3
    (ChangeSpec.witness6 (enc := enc) (C := Tryz.checked) false ⟨#[], #[.agg #[.int .i64 0, .int .i64 0, .int .i64 0, .int .i64 0]], []⟩ 8 (by kernel_rfl) (by kernel_rfl) (by kernel_rfl) (by kernel_rfl)) ?_
  intro W base args ds gs before hval0 hW _ _ hsh _
  have hval : ∀ (j : Nat) t v, Tryz.f3.params[j]? = some t → args[j]? = some v → Value.okWide Tryz.prog W .any base t v := hval0
  have hW' := hW
  obtain ⟨p, q, hA0, hV, rfl, _, _⟩ := hW
  have hA : DataW.TrodAll enc Tryz.prog W 0 (fun _ => true) true Tryz.f3.params.toList args.toList ds p := hA0
  rw [Tryz.params3] at hA hval
  obtain ⟨v0, d0, rfl, rfl, h0⟩ := trodAll_one hA
  obtain ⟨rfl, rfl⟩ := trodVars_none hV
  obtain ⟨a, b, c, d, rfl, ha, hb, hc, hd⟩ := arg_four Tryz.underlying22 (by kernel_rfl) (show Tryz.prog.cellTypes Tryz.prog.depth 22 = some [3, 3, 3, 3] by kernel_rfl) Tryz.underlying3 (hval 0 22 v0 rfl rfl)
  clear hA0 hval0
  simp only [List.append_nil] at hW'
  have hlt : ∀ x ∈ p, x.block < W.heap.size := fun x hx => by simpa using hW'.lt x hx
  letI : In4 := ⟨a, b, c, d, ha, hb, hc, hd⟩
  refine (Ma_calls W).mono fun e W' ⟨he, hnx⟩ => ?_
  subst he
  refine ⟨_, rfl, _, _, _, [] ++ [], p, [], hW', ?_, ?_, rfl, hnx.frame _, fun h => by cases h⟩
  · exact trodAll_mk1 (shut_bool Tryz.underlying4 true)
  · exact trodAll_mk1 (Below.trod laidOut (by kernel_rfl) (of_decide_eq_true (by kernel_rfl)) h0 hnx hlt)

theorem Ma_j1 : Tryz.checked.prog.recurses 3 = true := by kernel_rfl
theorem Ma_j2 : Tryz.checked.prog.unfollowed 3 = true := by kernel_rfl
theorem Ma_j3 : Tryz.checked.prog.varsNamed 3 = [] := by kernel_rfl
theorem Ma_j4 : Tryz.checked.prog.inPlace 3 = [] := by kernel_rfl
theorem Ma_j5 : joinedFacts Tryz.checked.prog 3 Tryz.f3 Rows.modelArraysSpec Rows.modelArraysRow = true := by
  unfold joinedFacts
  rw [Ma_j1, Ma_j2, Ma_j3, Ma_j4]
  kernel_rfl

theorem modelArrays_holds : Rows.ModelArraysSaid :=
  OpenClaim.holds_of_wide 3 Tryz.f3 rfl rfl rfl rfl rfl rfl rfl ⟨rfl, rfl, rfl, rfl, rfl⟩ rfl rfl rfl rfl rfl (by kernel_rfl) Tryz.func3 Ma_j5
    (of_decide_eq_true (by kernel_rfl)) (by unfold Func.isWrapper; first | (rw [if_pos (by decide +kernel)]; kernel_rfl) | (rw [if_neg (by decide +kernel)]; exact ⟨rfl, rfl⟩))
    (fun os started H enc _ => modelArrays_lifted os started H enc)

end Go.Proofs.YtdnblmideoknbaaGreat

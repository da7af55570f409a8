/- LowerArrays, whatever the argument: the law returns true, and its argument reads as it did. -/
import Derived.Test.YtdnblmideoknbaaGreatLaP0
import Derived.Test.YtdnblmideoknbaaGreatLaP1
import Derived.Test.YtdnblmideoknbaaGreatLaP10
import Derived.Test.YtdnblmideoknbaaGreatLaP11
import Derived.Test.YtdnblmideoknbaaGreatLaP12
import Derived.Test.YtdnblmideoknbaaGreatLaP13
import Derived.Test.YtdnblmideoknbaaGreatLaP14
import Derived.Test.YtdnblmideoknbaaGreatLaP15
import Derived.Test.YtdnblmideoknbaaGreatLaP16
import Derived.Test.YtdnblmideoknbaaGreatLaP17
import Derived.Test.YtdnblmideoknbaaGreatLaP18
import Derived.Test.YtdnblmideoknbaaGreatLaP19
import Derived.Test.YtdnblmideoknbaaGreatLaP2
import Derived.Test.YtdnblmideoknbaaGreatLaP20
import Derived.Test.YtdnblmideoknbaaGreatLaP21
import Derived.Test.YtdnblmideoknbaaGreatLaP22
import Derived.Test.YtdnblmideoknbaaGreatLaP23
import Derived.Test.YtdnblmideoknbaaGreatLaP3
import Derived.Test.YtdnblmideoknbaaGreatLaP4
import Derived.Test.YtdnblmideoknbaaGreatLaP5
import Derived.Test.YtdnblmideoknbaaGreatLaP6
import Derived.Test.YtdnblmideoknbaaGreatLaP7
import Derived.Test.YtdnblmideoknbaaGreatLaP8
import Derived.Test.YtdnblmideoknbaaGreatLaP9
namespace Go.Proofs.YtdnblmideoknbaaGreat
open Go.ChangeShapes Go.WideShapes Go.ChangeAt Go.RowKit Go.Proofs.YtdnblmideoknbaaGreat.Ev

theorem La_calls [In4] (W : World) : Calls Tryz.prog 4 #[.agg #[.int .i64 In4.f0, .int .i64 In4.f1, .int .i64 In4.f2, .int .i64 In4.f3]] W fun e w' => e = .returned (.bool true) ∧ Below W.heap.size W w' := by
  have hn := In4.n_rng
  have ha := In4.a_rng
  have one : ∀ (n0 a0 : Nat) (h1 : In4.n = n0) (h2 : In4.a = a0), okB (@callT (envSpec n0 a0 h1 h2) Tryz.prog (@knownL (envSpec n0 a0 h1 h2) n0 a0 LaPads) LaAll 1000 4 (.cons (.agg (.cons (.sym .i64 (.var 10)) (.cons (.sym .i64 (.var 11)) (.cons (.sym .i64 (.var 12)) (.cons (.sym .i64 (.var 13)) .nil))))) .nil) ⟨.nil, 0⟩) = true → Calls Tryz.prog 4 #[.agg #[.int .i64 In4.f0, .int .i64 In4.f1, .int .i64 In4.f2, .int .i64 In4.f3]] W fun e w' => e = .returned (.bool true) ∧ Below W.heap.size W w' :=
    fun n0 a0 h1 h2 h => @closed_law (envSpec n0 a0 h1 h2) _ mixed _ _ (knownL_ok n0 a0 h1 h2 La_pads) _ La_ok _ _ _ h _ four_in W trivial
  have one8 : ∀ (n0 a0 : Nat) (h0 : In4.n = (8 : Nat)) (h1 : In4.n = n0) (h2 : In4.a = a0), okB (@callT (envSpec n0 a0 h1 h2) Tryz.prog (@knownL (envSpec n0 a0 h1 h2) n0 a0 LaPads) LaAll8 1000 4 (.cons (.agg (.cons (.sym .i64 (.var 10)) (.cons (.sym .i64 (.var 11)) (.cons (.sym .i64 (.var 12)) (.cons (.sym .i64 (.var 13)) .nil))))) .nil) ⟨.nil, 0⟩) = true → Calls Tryz.prog 4 #[.agg #[.int .i64 In4.f0, .int .i64 In4.f1, .int .i64 In4.f2, .int .i64 In4.f3]] W fun e w' => e = .returned (.bool true) ∧ Below W.heap.size W w' :=
    fun n0 a0 h0 h1 h2 h => @closed_law (envSpec n0 a0 h1 h2) _ mixed _ _ (knownL_ok n0 a0 h1 h2 La_pads) _ (La_ok8 h0) _ _ _ h _ four_in W trivial
  by_cases h1 : In4.n = (1 : Nat)
  · by_cases k1_0 : In4.a = (0 : Nat)
    · exact one 1 0 h1 k1_0 (La_p1_0 h1 k1_0)
    exfalso; omega
  by_cases h2 : In4.n = (2 : Nat)
  · by_cases k2_0 : In4.a = (0 : Nat)
    · exact one 2 0 h2 k2_0 (La_p2_0 h2 k2_0)
    by_cases k2_1 : In4.a = (1 : Nat)
    · exact one 2 1 h2 k2_1 (La_p2_1 h2 k2_1)
    exfalso; omega
  by_cases h3 : In4.n = (3 : Nat)
  · by_cases k3_0 : In4.a = (0 : Nat)
    · exact one 3 0 h3 k3_0 (La_p3_0 h3 k3_0)
    by_cases k3_1 : In4.a = (1 : Nat)
    · exact one 3 1 h3 k3_1 (La_p3_1 h3 k3_1)
    by_cases k3_2 : In4.a = (2 : Nat)
    · exact one 3 2 h3 k3_2 (La_p3_2 h3 k3_2)
    exfalso; omega
  by_cases h4 : In4.n = (4 : Nat)
  · by_cases k4_0 : In4.a = (0 : Nat)
    · exact one 4 0 h4 k4_0 (La_p4_0 h4 k4_0)
    by_cases k4_1 : In4.a = (1 : Nat)
    · exact one 4 1 h4 k4_1 (La_p4_1 h4 k4_1)
    by_cases k4_2 : In4.a = (2 : Nat)
    · exact one 4 2 h4 k4_2 (La_p4_2 h4 k4_2)
    by_cases k4_3 : In4.a = (3 : Nat)
    · exact one 4 3 h4 k4_3 (La_p4_3 h4 k4_3)
    exfalso; omega
  by_cases h5 : In4.n = (5 : Nat)
  · by_cases k5_0 : In4.a = (0 : Nat)
    · exact one 5 0 h5 k5_0 (La_p5_0 h5 k5_0)
    by_cases k5_1 : In4.a = (1 : Nat)
    · exact one 5 1 h5 k5_1 (La_p5_1 h5 k5_1)
    by_cases k5_2 : In4.a = (2 : Nat)
    · exact one 5 2 h5 k5_2 (La_p5_2 h5 k5_2)
    by_cases k5_3 : In4.a = (3 : Nat)
    · exact one 5 3 h5 k5_3 (La_p5_3 h5 k5_3)
    by_cases k5_4 : In4.a = (4 : Nat)
    · exact one 5 4 h5 k5_4 (La_p5_4 h5 k5_4)
    exfalso; omega
  by_cases h6 : In4.n = (6 : Nat)
  · by_cases k6_0 : In4.a = (0 : Nat)
    · exact one 6 0 h6 k6_0 (La_p6_0 h6 k6_0)
    by_cases k6_1 : In4.a = (1 : Nat)
    · exact one 6 1 h6 k6_1 (La_p6_1 h6 k6_1)
    by_cases k6_2 : In4.a = (2 : Nat)
    · exact one 6 2 h6 k6_2 (La_p6_2 h6 k6_2)
    by_cases k6_3 : In4.a = (3 : Nat)
    · exact one 6 3 h6 k6_3 (La_p6_3 h6 k6_3)
    by_cases k6_4 : In4.a = (4 : Nat)
    · exact one 6 4 h6 k6_4 (La_p6_4 h6 k6_4)
    by_cases k6_5 : In4.a = (5 : Nat)
    · exact one 6 5 h6 k6_5 (La_p6_5 h6 k6_5)
    exfalso; omega
  by_cases h7 : In4.n = (7 : Nat)
  · by_cases k7_0 : In4.a = (0 : Nat)
    · exact one 7 0 h7 k7_0 (La_p7_0 h7 k7_0)
    by_cases k7_1 : In4.a = (1 : Nat)
    · exact one 7 1 h7 k7_1 (La_p7_1 h7 k7_1)
    by_cases k7_2 : In4.a = (2 : Nat)
    · exact one 7 2 h7 k7_2 (La_p7_2 h7 k7_2)
    by_cases k7_3 : In4.a = (3 : Nat)
    · exact one 7 3 h7 k7_3 (La_p7_3 h7 k7_3)
    by_cases k7_4 : In4.a = (4 : Nat)
    · exact one 7 4 h7 k7_4 (La_p7_4 h7 k7_4)
    by_cases k7_5 : In4.a = (5 : Nat)
    · exact one 7 5 h7 k7_5 (La_p7_5 h7 k7_5)
    by_cases k7_6 : In4.a = (6 : Nat)
    · exact one 7 6 h7 k7_6 (La_p7_6 h7 k7_6)
    exfalso; omega
  by_cases h8 : In4.n = (8 : Nat)
  · by_cases k8_0 : In4.a = (0 : Nat)
    · exact one8 8 0 h8 h8 k8_0 (La_p8_0 h8 k8_0)
    by_cases k8_1 : In4.a = (1 : Nat)
    · exact one8 8 1 h8 h8 k8_1 (La_p8_1 h8 k8_1)
    by_cases k8_2 : In4.a = (2 : Nat)
    · exact one8 8 2 h8 h8 k8_2 (La_p8_2 h8 k8_2)
    by_cases k8_3 : In4.a = (3 : Nat)
    · exact one8 8 3 h8 h8 k8_3 (La_p8_3 h8 k8_3)
    by_cases k8_4 : In4.a = (4 : Nat)
    · exact one8 8 4 h8 h8 k8_4 (La_p8_4 h8 k8_4)
    by_cases k8_5 : In4.a = (5 : Nat)
    · exact one8 8 5 h8 h8 k8_5 (La_p8_5 h8 k8_5)
    by_cases k8_6 : In4.a = (6 : Nat)
    · exact one8 8 6 h8 h8 k8_6 (La_p8_6 h8 k8_6)
    by_cases k8_7 : In4.a = (7 : Nat)
    · exact one8 8 7 h8 h8 k8_7 (La_p8_7 h8 k8_7)
    exfalso; omega
  exfalso; omega

set_option maxRecDepth 100000 in
theorem lowerArrays_lifted (os : Os) (started : os.Started) (H : Type) (enc : TypeId × Value → H) :
    ReturnsInHanded {} Tryz.checked os 4 .any (Rows.lowerArraysSpec.pre6 enc Tryz.prog Tryz.f4 Rows.lowerArraysRow.domain false) (Rows.lowerArraysSpec.post enc Tryz.prog Tryz.f4 false true false false) := by
  refine returnsInHanded_of_change_shaped (C := Tryz.checked) own started (by kernel_rfl) Tryz.func4
    (ChangeSpec.witness6 (enc := enc) (C := Tryz.checked) false ⟨#[], #[.agg #[.int .i64 0, .int .i64 0, .int .i64 0, .int .i64 0]], []⟩ 8 (by kernel_rfl) (by kernel_rfl) (by kernel_rfl) (by kernel_rfl)) ?_
  intro W base args ds gs before hval0 hW _ _ hsh _
  have hval : ∀ (j : Nat) t v, Tryz.f4.params[j]? = some t → args[j]? = some v → Value.okWide Tryz.prog W .any base t v := hval0
  have hW' := hW
  obtain ⟨p, q, hA0, hV, rfl, _, _⟩ := hW
  have hA : DataW.TrodAll enc Tryz.prog W 0 (fun _ => true) true Tryz.f4.params.toList args.toList ds p := hA0
  rw [Tryz.params4] at hA hval
  obtain ⟨v0, d0, rfl, rfl, h0⟩ := trodAll_one hA
  obtain ⟨rfl, rfl⟩ := trodVars_none hV
  obtain ⟨a, b, c, d, rfl, ha, hb, hc, hd⟩ := arg_four Tryz.underlying22 (by kernel_rfl) (show Tryz.prog.cellTypes Tryz.prog.depth 22 = some [3, 3, 3, 3] by kernel_rfl) Tryz.underlying3 (hval 0 22 v0 rfl rfl)
  clear hA0 hval0
  simp only [List.append_nil] at hW'
  have hlt : ∀ x ∈ p, x.block < W.heap.size := fun x hx => by simpa using hW'.lt x hx
  letI : In4 := ⟨a, b, c, d, ha, hb, hc, hd⟩
  refine (La_calls W).mono fun e W' ⟨he, hnx⟩ => ?_
  subst he
  refine ⟨_, rfl, _, _, _, [] ++ [], p, [], hW', ?_, ?_, rfl, hnx.frame _, fun h => by cases h⟩
  · exact trodAll_mk1 (shut_bool Tryz.underlying4 true)
  · exact trodAll_mk1 (Below.trod laidOut (by kernel_rfl) (of_decide_eq_true (by kernel_rfl)) h0 hnx hlt)

theorem La_j1 : Tryz.checked.prog.recurses 4 = true := by kernel_rfl
theorem La_j2 : Tryz.checked.prog.unfollowed 4 = true := by kernel_rfl
theorem La_j3 : Tryz.checked.prog.varsNamed 4 = [] := by kernel_rfl
theorem La_j4 : Tryz.checked.prog.inPlace 4 = [] := by kernel_rfl
theorem La_j5 : joinedFacts Tryz.checked.prog 4 Tryz.f4 Rows.lowerArraysSpec Rows.lowerArraysRow = true := by
  unfold joinedFacts
  rw [La_j1, La_j2, La_j3, La_j4]
  kernel_rfl

theorem lowerArrays_holds : Rows.LowerArraysSaid :=
  OpenClaim.holds_of_wide 4 Tryz.f4 rfl rfl rfl rfl rfl rfl rfl ⟨rfl, rfl, rfl, rfl, rfl⟩ rfl rfl rfl rfl rfl (by kernel_rfl) Tryz.func4 La_j5
    (of_decide_eq_true (by kernel_rfl)) (by unfold Func.isWrapper; first | (rw [if_pos (by decide +kernel)]; kernel_rfl) | (rw [if_neg (by decide +kernel)]; exact ⟨rfl, rfl⟩))
    (fun os started H enc _ => lowerArrays_lifted os started H enc)

end Go.Proofs.YtdnblmideoknbaaGreat

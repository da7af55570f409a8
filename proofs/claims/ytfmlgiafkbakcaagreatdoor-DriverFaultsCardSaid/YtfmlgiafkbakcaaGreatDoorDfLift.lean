/- DriverFaults, whatever the argument: the law returns true, and its argument reads as it did: the call. -/
import Derived.Test.YtfmlgiafkbakcaaGreatDoorDfEv
import Derived.Test.YtfmlgiafkbakcaaGreatDoorDfWit
namespace Go.Proofs.YtfmlgiafkbakcaaGreatDoor
open Go.ChangeShapes Go.WideShapes Go.ChangeAt Go.RowKit Go.Proofs.YtfmlgiafkbakcaaGreatDoor.Ev
set_option maxRecDepth 100000 in
theorem driverFaults_lifted (os : Os) (started : os.Started) (H : Type) (enc : TypeId × Value → H) :
    ReturnsInHanded {} Tryz.checked os 3 .any (fun w args => (Rows.driverFaultsSpec.pre enc Tryz.prog Tryz.f3 Rows.driverFaultsRow.domain false w args ∧ laidMetH Tryz.prog Rows.driverFaultsRow.laid w) ∧ sizedMet enc Tryz.prog Tryz.f3 (OpenSpec.ofChange Rows.driverFaultsSpec) false w args)
      (Rows.driverFaultsSpec.post enc Tryz.prog Tryz.f3 false true false false) := by
  refine returnsInHanded_and_shaped (C := Tryz.checked) (X := fun w _ => laidMetH Tryz.prog Rows.driverFaultsRow.laid w) (fun _ _ _ hh h => h.of_heap hh) own started (by kernel_rfl) Tryz.func3
    (Df_wit os H enc) ?_
  intro W base args ds gs before hval0 hW hL hsh
  have hval : ∀ (j : Nat) t v, Tryz.f3.params[j]? = some t → args[j]? = some v → Value.okWide Tryz.prog W .any base t v := hval0
  have hW' := hW
  obtain ⟨p, q, hA0, hV, rfl, _, _⟩ := hW
  have hA : DataW.TrodAll enc Tryz.prog W 0 (fun _ => true) true Tryz.f3.params.toList args.toList ds p := hA0
  rw [Tryz.params3] at hA hval
  obtain ⟨v0, d0, rfl, rfl, h0⟩ := trodAll_one hA
  obtain ⟨rfl, rfl⟩ := trodVars_none hV
  obtain ⟨la, lb, n, hv⟩ := arg_ask3 Tryz.underlying25 (by kernel_rfl) (show Tryz.prog.cellTypes Tryz.prog.depth 25 = some [22, 23, 3] by kernel_rfl) Tryz.underlying22 Tryz.underlying23 Tryz.underlying3 (hval 0 25 v0 rfl rfl)
  clear hA0 hval0
  simp only [List.append_nil] at hW'
  have hlt : ∀ x ∈ p, x.block < W.heap.size := fun x hx => by simpa using hW'.lt x hx
  have hlib : LibW W := ⟨Tryz.laysM145.s1_3 W hsh, tab_of hL⟩
  refine (closed_law mixed (known_ok hlib) (Df_ok hlib) (Df_ev la lb n) hv W (start_ok hlib)).mono fun e W' ⟨he, hnx⟩ => ?_
  subst he
  refine ⟨_, rfl, _, _, _, [] ++ [], p, [], hW', ?_, ?_, rfl, hnx.frame _, fun h => by cases h⟩
  · exact trodAll_mk1 (shut_bool Tryz.underlying4 true)
  · exact trodAll_mk1 (Below.trod laidOut (by kernel_rfl) (of_decide_eq_true (by kernel_rfl)) h0 hnx hlt)


end Go.Proofs.YtfmlgiafkbakcaaGreatDoor

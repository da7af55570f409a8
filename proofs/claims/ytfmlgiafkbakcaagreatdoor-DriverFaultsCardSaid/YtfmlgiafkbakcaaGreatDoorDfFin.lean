/- DriverFaults, whatever the argument: the law returns true, and its argument reads as it did. -/
import Derived.Test.YtfmlgiafkbakcaaGreatDoorDfLift
import Derived.Test.YtfmlgiafkbakcaaGreatDoorDfJ5
namespace Go.Proofs.YtfmlgiafkbakcaaGreatDoor
open Go.ChangeShapes Go.WideShapes Go.ChangeAt Go.RowKit Go.Proofs.YtfmlgiafkbakcaaGreatDoor.Ev
theorem driverFaults_holds : Rows.DriverFaultsSaid :=
  OpenClaim.holds_of_wide 3 Tryz.f3 rfl rfl rfl rfl rfl rfl rfl ⟨rfl, rfl, rfl, rfl, rfl⟩ rfl rfl rfl rfl rfl (by kernel_rfl) Tryz.func3 Df_j5
    (of_decide_eq_true (by kernel_rfl)) (by unfold Func.isWrapper; first | (rw [if_pos (by decide +kernel)]; kernel_rfl) | (rw [if_neg (by decide +kernel)]; exact ⟨rfl, rfl⟩))
    (fun os started H enc _ => driverFaults_lifted os started H enc)


end Go.Proofs.YtfmlgiafkbakcaaGreatDoor

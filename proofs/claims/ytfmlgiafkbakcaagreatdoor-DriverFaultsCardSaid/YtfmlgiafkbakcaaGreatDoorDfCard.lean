/- DriverFaults, whatever the argument: the card: the tables are as the program lays them. -/
import Derived.Test.YtfmlgiafkbakcaaGreatDoorDfFin
import Derived.Test.YtfmlgiafkbakcaaGreatDoorCards
import Derived.Test.YtfmlgiafkbakcaaGreatDoorDfTie
import Derived.Test.YtfmlgiafkbakcaaGreatDoorDfJ1
import Derived.SevenTiedAt
namespace Go.Proofs.YtfmlgiafkbakcaaGreatDoor
open Go.ChangeShapes Go.WideShapes Go.ChangeAt Go.RowKit Go.Proofs.YtfmlgiafkbakcaaGreatDoor.Ev

theorem driverFaults_plain (f : FuncId) (fn : Func) (hf : Tryz.pinned.checked.prog.funcNamed "gantlet/gantletlaw24.DriverFaults" = some f) (hfn : Tryz.pinned.checked.prog.funcs[f]? = some fn) :
    true = Tryz.pinned.checked.prog.looks [] ∧ ∀ (j : Nat) t, fn.params[j]? = some t → Tryz.pinned.checked.prog.wantsStandIn t = false := by
  obtain rfl : f = 3 := Option.some.inj ((show Tryz.prog.funcNamed "gantlet/gantletlaw24.DriverFaults" = some 3 by kernel_rfl).symm.trans hf) |>.symm
  obtain rfl : fn = Tryz.f3 := (Option.some.inj (Tryz.func3.symm.trans hfn)).symm
  refine ⟨by kernel_rfl, fun j t ht => ?_⟩
  rw [Tryz.params3] at ht
  obtain rfl : t = 25 := by simpa using Array.mem_of_getElem? ht
  exact (show Tryz.prog.wantsStandIn 25 = false by kernel_rfl)

theorem driverFaults_card : Rows.DriverFaultsCardSaid :=
  Claim7.holds_tied_plain_at .later [] _ _ _ _ driverFaults_holds (fun _ h => by cases h) (by kernel_rfl) (fun _ h => by cases h) driverFaults_row_tie rfl ⟨rfl, rfl⟩ (by kernel_rfl) rfl driverFaults_plain Df_by

end Go.Proofs.YtfmlgiafkbakcaaGreatDoor

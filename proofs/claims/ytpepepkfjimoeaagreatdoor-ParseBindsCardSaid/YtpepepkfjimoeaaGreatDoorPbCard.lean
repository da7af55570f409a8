/- ParseBinds, whatever the argument: the card: the tables are as the program lays them. -/
import Derived.Test.YtpepepkfjimoeaaGreatDoorPbFin
import Derived.Test.YtpepepkfjimoeaaGreatDoorCards
import Derived.Test.YtpepepkfjimoeaaGreatDoorTie
import Derived.SevenTiedAt
namespace Go.Proofs.YtpepepkfjimoeaaGreatDoor
open Go.ChangeShapes Go.WideShapes Go.ChangeAt Go.RowKit Go.Proofs.YtpepepkfjimoeaaGreatDoor.Ev

theorem parseBinds_plain (f : FuncId) (fn : Func) (hf : Tryz.pinned.checked.prog.funcNamed "gantlet/gantletlaw3.ParseBinds" = some f) (hfn : Tryz.pinned.checked.prog.funcs[f]? = some fn) :
    true = Tryz.pinned.checked.prog.looks [] ∧ ∀ (j : Nat) t, fn.params[j]? = some t → Tryz.pinned.checked.prog.wantsStandIn t = false := by
  obtain rfl : f = 3 := Option.some.inj ((show Tryz.prog.funcNamed "gantlet/gantletlaw3.ParseBinds" = some 3 by kernel_rfl).symm.trans hf) |>.symm
  obtain rfl : fn = Tryz.f3 := (Option.some.inj (Tryz.func3.symm.trans hfn)).symm
  refine ⟨by kernel_rfl, fun j t ht => ?_⟩
  rw [Tryz.params3] at ht
  obtain rfl : t = 22 := by simpa using Array.mem_of_getElem? ht
  exact (show Tryz.prog.wantsStandIn 22 = false by kernel_rfl)

theorem parseBinds_card : Rows.ParseBindsCardSaid :=
  Claim7.holds_tied_plain_at .later [] _ _ _ _ parseBinds_holds (fun _ h => by cases h) (by kernel_rfl) (fun _ h => by cases h) parseBinds_row_tie rfl ⟨rfl, rfl⟩ (by kernel_rfl) rfl parseBinds_plain (by kernel_rfl)

end Go.Proofs.YtpepepkfjimoeaaGreatDoor

/- DescShipped, whatever the argument: the card: the tables are as the program lays them. -/
import Derived.Test.YtpepepkfjimoeaaGreatDoorDsFin
import Derived.Test.YtpepepkfjimoeaaGreatDoorCards
import Derived.Test.YtpepepkfjimoeaaGreatDoorTie
import Derived.SevenTiedAt
namespace Go.Proofs.YtpepepkfjimoeaaGreatDoor
open Go.ChangeShapes Go.WideShapes Go.ChangeAt Go.RowKit Go.Proofs.YtpepepkfjimoeaaGreatDoor.Ev

theorem descShipped_plain (f : FuncId) (fn : Func) (hf : Tryz.pinned.checked.prog.funcNamed "gantlet/gantletlaw11.DescShipped" = some f) (hfn : Tryz.pinned.checked.prog.funcs[f]? = some fn) :
    true = Tryz.pinned.checked.prog.looks [] ∧ ∀ (j : Nat) t, fn.params[j]? = some t → Tryz.pinned.checked.prog.wantsStandIn t = false := by
  obtain rfl : f = 4 := Option.some.inj ((show Tryz.prog.funcNamed "gantlet/gantletlaw11.DescShipped" = some 4 by kernel_rfl).symm.trans hf) |>.symm
  obtain rfl : fn = Tryz.f4 := (Option.some.inj (Tryz.func4.symm.trans hfn)).symm
  refine ⟨by kernel_rfl, fun j t ht => ?_⟩
  rw [Tryz.params4] at ht
  obtain rfl : t = 37 := by simpa using Array.mem_of_getElem? ht
  exact (show Tryz.prog.wantsStandIn 37 = false by kernel_rfl)

theorem descShipped_card : Rows.DescShippedCardSaid :=
  Claim7.holds_tied_plain_at .later [] _ _ _ _ descShipped_holds (fun _ h => by cases h) (by kernel_rfl) (fun _ h => by cases h) descShipped_row_tie rfl ⟨rfl, rfl⟩ (by kernel_rfl) rfl descShipped_plain (by kernel_rfl)

end Go.Proofs.YtpepepkfjimoeaaGreatDoor

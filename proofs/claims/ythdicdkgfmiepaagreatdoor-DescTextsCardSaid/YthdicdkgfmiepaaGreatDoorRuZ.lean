/- The reference's Whole, EqRules walked. -/
import Derived.Test.YthdicdkgfmiepaaGreatDoorRuX
namespace Go.Proofs.YthdicdkgfmiepaaGreatDoor
open Go.RowKit

def skipR (r : Rule) : Bool := special r.form || (decide (r.pat.kids.length = 2) && kid1 r == 2)
theorem skipR_forms (k : Nat) (h : k < formsR.length) : skipR formsR[k] = !neededR formsR[k] := by
  have h0 : (formsR.all fun r => skipR r == !neededR r) = true := by kernel_rfl
  have h1 := List.all_eq_true.1 h0 _ (List.getElem_mem h)
  simpa using h1

theorem hasForm_take (rs : List Rule) (s : List UInt8) (k : Nat) (h : k < rs.length) : hasForm (rs.take (k + 1)) s = (hasForm (rs.take k) s || rs[k].form == s) := by
  unfold hasForm
  rw [List.take_succ_eq_append_getElem h, List.any_append]
  simp

end Go.Proofs.YthdicdkgfmiepaaGreatDoor

/- slices.Concat of slices of rules. -/
import Derived.Test.YthdicdkgfmiepaaGreatDoorRuF
namespace Go.Proofs.YthdicdkgfmiepaaGreatDoor
open Go.RowKit

def total (L : List (List D)) : Nat := (L.map List.length).sum
theorem total_take (L : List (List D)) (k : Nat) (h : k < L.length) : total (L.take (k + 1)) = total (L.take k) + (L[k]).length := by
  unfold total
  rw [List.take_succ_eq_append_getElem h, List.map_append, List.sum_append]
  simp only [List.map_cons, List.map_nil, List.sum_cons, List.sum_nil, Nat.add_zero]
theorem total_app (L M : List (List D)) : total (L ++ M) = total L + total M := by
  unfold total
  rw [List.map_append, List.sum_append]
theorem total_le (L : List (List D)) (k : Nat) : total (L.take k) ≤ total L := by
  have := total_app (L.take k) (L.drop k)
  rw [List.take_append_drop] at this
  omega
theorem total_flat (L : List (List D)) : L.flatten.length = total L := by
  unfold total
  rw [List.length_flatten]

end Go.Proofs.YthdicdkgfmiepaaGreatDoor

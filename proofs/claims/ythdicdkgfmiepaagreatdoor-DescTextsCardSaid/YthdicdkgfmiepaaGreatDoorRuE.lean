/- rule.by: the rules of the ops that are so. -/
import Derived.Test.YthdicdkgfmiepaaGreatDoorRuD
namespace Go.Proofs.YthdicdkgfmiepaaGreatDoor
open Go.RowKit

def byTo (is_ : Int → Bool) (rules : Int → List UInt8 → List Rule) (k : Nat) : List Rule := (List.range k).flatMap fun (i : Nat) => if is_ (1 + (i : Int)) then rules (1 + (i : Int)) (opWords.getD i []) else []

theorem byTo_succ (is_ : Int → Bool) (rules : Int → List UInt8 → List Rule) (k : Nat) : byTo is_ rules (k + 1) = byTo is_ rules k ++ (if is_ (1 + (k : Int)) then rules (1 + (k : Int)) (opWords.getD k []) else []) := by
  simp [byTo, List.range_succ]

theorem opWords_at (k : Nat) (h : k < 36) : (strCells opWords).toArray[k]? = some (.string ⟨(opWords.getD k []).toArray⟩) := by
  have h1 : k < opWords.length := h
  simp [strCells, List.getD_eq_getElem?_getD, h1]

theorem opWords_le (k : Nat) : (opWords.getD k []).length ≤ 1000 := by
  have h1 : (opWords.all fun x => decide (x.length ≤ 1000)) = true := by kernel_rfl
  rw [List.getD_eq_getElem?_getD]
  by_cases h : k < opWords.length
  · rw [List.getElem?_eq_getElem h]
    simpa using List.all_eq_true.1 h1 _ (List.getElem_mem h)
  · rw [List.getElem?_eq_none (by omega)]; simp

theorem rule_info : (Tryz.prog.info? 47).map (fun i => (i.zero, i.size, i.bytes)) = some (some (.agg #[.int .i64 0, .int .i64 0, .int .i64 0, .slice none 0 0, .int .i64 0, .string ⟨#[]⟩]), 6, 72) := by kernel_rfl

end Go.Proofs.YthdicdkgfmiepaaGreatDoor

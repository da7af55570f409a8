/- slices.Grow at no rules yet. -/
import Derived.Test.YthdicdkgfmiepaaGreatDoorRuE
import Derived.Lib.Walk
import Derived.Lib.SliceRun
import Derived.Lib.AppendZerosOnto
namespace Go.Proofs.YthdicdkgfmiepaaGreatDoor
open Go.RowKit

theorem zeros_size (z : Array Value) (n : Nat) : (Builtin.zeroCells z n).size = n * z.size := by
  simp [Builtin.zeroCells]

def growCells (n G : Nat) : Array Value := Builtin.zeroCells (Value.agg #[.int .i64 0, .int .i64 0, .int .i64 0, .slice none 0 0, .int .i64 0, .string ⟨#[]⟩]).cells n ++ Builtin.zeroCells (Value.agg #[.int .i64 0, .int .i64 0, .int .i64 0, .slice none 0 0, .int .i64 0, .string ⟨#[]⟩]).cells (G - n)
theorem growCells_size (n G : Nat) (h : n ≤ G) : (growCells n G).size = G * 6 := by
  unfold growCells
  rw [Array.size_append, zeros_size, zeros_size]
  simp [Value.cells]
  omega

end Go.Proofs.YthdicdkgfmiepaaGreatDoor

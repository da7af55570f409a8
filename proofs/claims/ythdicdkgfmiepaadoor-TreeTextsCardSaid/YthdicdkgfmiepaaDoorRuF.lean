/- slices.Grow at no rules yet. -/
import Derived.Test.YthdicdkgfmiepaaDoorRuE
import Derived.Lib.Walk
import Derived.Lib.SliceRun
import Derived.Lib.AppendZerosOnto
namespace Go.Proofs.YthdicdkgfmiepaaDoor
open Go.RowKit

theorem zeros_size (z : Array Value) (n : Nat) : (Builtin.zeroCells z n).size = n * z.size := by
  simp [Builtin.zeroCells]

def growCells (n G : Nat) : Array Value := Builtin.zeroCells (Value.agg #[.int .i64 0, .int .i64 0, .int .i64 0, .slice none 0 0, .int .i64 0, .string ⟨#[]⟩]).cells n ++ Builtin.zeroCells (Value.agg #[.int .i64 0, .int .i64 0, .int .i64 0, .slice none 0 0, .int .i64 0, .string ⟨#[]⟩]).cells (G - n)
theorem growCells_size (n G : Nat) (h : n ≤ G) : (growCells n G).size = G * 6 := by
  unfold growCells
  rw [Array.size_append, zeros_size, zeros_size]
  simp [Value.cells]
  omega

set_option maxRecDepth 100000 in
set_option maxHeartbeats 2000000 in
theorem grow_nil (n : Nat) (hn0 : 0 < n) (hn : n ≤ 100000) (w : World) :
    Calls Tryd.prog 111 #[.slice none 0 0, .int .i64 n] w fun e w' => ∃ v, e = .returned v ∧ Own w' w.heap.size (fun g => w.heap.size ≤ g) 33 6 v [] ∧ Below w.heap.size w w' := by
  obtain ⟨i0, hi0, hz0, hz1, hz2⟩ := info_parts rule_info
  have hG1 := grownCap_ge w n 0 33
  have hG2 := grownCap_le_maxLen w n 0 33 (by unfold maxLen; omega)
  have hrz : ∀ ty, (Builtin.append_ #[26, 3] ty #[.slice none 0 0, .int .i64 (n : Int)]).run Tryd.prog w =
      .ok (.slice (some ⟨w.heap.size, 0, none⟩) n (grownCap w n 0 33)) (w.drew.alloc (.cells (growCells n (grownCap w n 0 33)) 33)) := by
    intro ty
    have h := Lib.run_append_grow_zeros w 26 3 ty 33 i0 _ .i64 .i64 Tryd.underlying26 Tryd.underlying3 hi0 hz0 none 0 0 [] (run_firstCells_none w.drew i0.size 0 0 0) n hn0 (by omega) (by omega) (by omega) (by rw [hz2]; omega) (growslice_fits (by omega) (by rw [hz2]; omega))
    simp only [Nat.zero_add] at h
    rw [h]
    simp [growCells]
  have hsz := growCells_size n _ hG1
  generalize grownCap w n 0 33 = G at *
  obtain ⟨C, hC⟩ : ∃ C, growCells n G = C := ⟨_, rfl⟩
  rw [hC] at hsz hrz
  have hG63 : G ≤ 9223372036854775807 := by unfold maxLen at hG2; exact hG2
  have HS := Lib.hid hsz
  clear hC hsz
  go_enter Tryd.func111, Tryd.ntmps111
  go_wp2_with (at_builtin; refine Lib.wpList_append_run _ rfl _ _ _ _ rfl _ _ rfl rfl _ _ (hrz _) ?_)
  go_ret
  refine ⟨_, rfl, ⟨[], ⟨rfl, .inr ⟨w.heap.size, G, C, rfl, Nat.le_refl _, ?_, Nat.zero_le _, hG2, HS.out, by simp⟩⟩, rfl⟩, ?_⟩
  · exact heap_alloc_new w (.cells C 33)
  · exact Below.drew (below_alloc w (.cells C 33))

end Go.Proofs.YthdicdkgfmiepaaDoor

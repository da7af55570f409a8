/- slices.Grow at no rules yet: where the room lies. -/
import Derived.Test.YtfmlgiafkbakcaaGreatDoorProg
import Derived.ProofKit
import Derived.OwnWalk
import Derived.Lib.Hide
import Derived.Laws.AppendOwn
import Derived.Laws.OwnMore
import Derived.BigGuardPart
import Derived.Outline
import Derived.WalkKit
import Derived.WalkLawsBesides
import Derived.WalkSpells
import Derived.Lib.Walk
import Derived.Lib.SliceRun
import Derived.Lib.AppendZerosOnto
namespace Go.Proofs.YtfmlgiafkbakcaaGreatDoor
open Go.RowKit

theorem ruleInfo : (Tryz.prog.info? 162).map (fun i => (i.zero, i.size, i.bytes)) = some (some (.agg #[.int .i64 0, .int .i64 0, .int .i64 0, .slice none 0 0, .int .i64 0, .string ⟨#[]⟩]), 6, 72) := by kernel_rfl

def growCells (n G : Nat) : Array Value := Builtin.zeroCells (Value.agg #[.int .i64 0, .int .i64 0, .int .i64 0, .slice none 0 0, .int .i64 0, .string ⟨#[]⟩]).cells n ++ Builtin.zeroCells (Value.agg #[.int .i64 0, .int .i64 0, .int .i64 0, .slice none 0 0, .int .i64 0, .string ⟨#[]⟩]).cells (G - n)

theorem growCells_size (n G : Nat) (h : n ≤ G) : (growCells n G).size = G * 6 := by
  unfold growCells
  rw [Array.size_append]
  simp [Builtin.zeroCells, Value.cells]
  omega

set_option maxRecDepth 100000 in
set_option maxHeartbeats 2000000 in
theorem grow_cells (n : Nat) (w : World) (hn0 : 0 < n) (hn : n ≤ 100000) :
    Calls Tryz.prog 254 #[.slice none 0 0, .int .i64 n] w fun e w' => ∃ (G : Nat) (C : Array Value) (t : TypeId), e = .returned (.slice (some ⟨w.heap.size, 0, none⟩) 0 G) ∧ C.size = G * 6 ∧ w'.heap = w.heap.push (.cells C t) ∧ w'.os = w.os ∧ w'.tape = w.tape ∧ w'.output = w.output := by
  obtain ⟨i0, hi0, hz0, hz1, hz2⟩ := info_parts ruleInfo
  have hG1 := grownCap_ge w n 0 162
  have hG2 := grownCap_le_maxLen w n 0 162 (by unfold maxLen; omega)
  have hrz : ∀ ty, (Builtin.append_ #[60, 3] ty #[.slice none 0 0, .int .i64 (n : Int)]).run Tryz.prog w =
      .ok (.slice (some ⟨w.heap.size, 0, none⟩) n (grownCap w n 0 162)) (w.drew.alloc (.cells (growCells n (grownCap w n 0 162)) 162)) := by
    intro ty
    have h := Lib.run_append_grow_zeros w 60 3 ty 162 i0 _ .i64 .i64 Tryz.underlying60 Tryz.underlying3 hi0 hz0 none 0 0 [] (run_firstCells_none w.drew i0.size 0 0 0) n hn0 (by omega) (by omega) (by omega) (by rw [hz2]; omega) (growslice_fits (by omega) (by rw [hz2]; omega))
    simp only [Nat.zero_add] at h
    rw [h]
    simp [growCells]
  have hsz := growCells_size n _ hG1
  generalize grownCap w n 0 162 = G at *
  obtain ⟨C, hC⟩ : ∃ C, growCells n G = C := ⟨_, rfl⟩
  rw [hC] at hsz hrz
  have hG63 : G ≤ 9223372036854775807 := by unfold maxLen at hG2; exact hG2
  have HS := Lib.hid hsz
  clear hC hsz
  go_enter Tryz.func254, Tryz.ntmps254
  go_wp2_with (at_builtin; refine Lib.wpList_append_run _ rfl _ _ _ _ rfl _ _ rfl rfl _ _ (hrz _) ?_)
  go_ret
  exact ⟨G, C, 162, rfl, HS.out, rfl, rfl, rfl, rfl⟩

end Go.Proofs.YtfmlgiafkbakcaaGreatDoor

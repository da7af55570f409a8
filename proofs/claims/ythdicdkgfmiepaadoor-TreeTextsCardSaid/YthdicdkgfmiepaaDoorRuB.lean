/- The rules that are no op's. -/
import Derived.Test.YthdicdkgfmiepaaDoorRuA
namespace Go.Proofs.YthdicdkgfmiepaaDoor
open Go.RowKit

def fewR : List Rule := [⟨0, pN 1, 0, [108, 105]⟩, ⟨2, pO 1 [], 0, [102, 105, 116]⟩, ⟨1, pO 1 [], 0, [97, 110, 121]⟩, ⟨1, pN 2, 0, [117, 112]⟩,
  ⟨0, pO 2 [], 0, [116, 109, 112]⟩, ⟨0, pO 3 [], 0, [108, 111, 99]⟩, ⟨0, pO 4 [], 0, [103, 108, 111]⟩, ⟨3, pN 0, 0, [98, 97, 115, 101]⟩, ⟨3, pO 12 [pN 0, pN 2], 0, [111, 102, 102]⟩]

/-- a slice of rules of the call's own -/
def Rules (B : Nat) (w : World) (rs : List Rule) (e : Ending) (w' : World) : Prop := ∃ v, e = .returned v ∧ Own w' B (fun g => B ≤ g) 33 6 v (rs.map encR) ∧ Below w.heap.size w w'

set_option maxHeartbeats 1000000 in
theorem few_any (w : World) : Calls Tryd.prog 74 #[] w (Rules w.heap.size w fewR) := by
  go_enter Tryd.func74, Tryd.ntmps74
  go_wp2_with (first | (go_at_call 110; refine (op_any _ _ _ _ _).mono ?_; rintro e w1 ⟨rfl, rfl⟩) | (go_at_call 70; refine (nt_any _ _).mono ?_; rintro e w1 ⟨rfl, rfl⟩))
  go_ret
  refine ⟨_, rfl, ?_, ?_⟩
  · refine Own.fresh (ds := fewR.map encR) ?_ (by simp; omega) (by decide) (by simp) rfl
    refine ⟨[_, _, _, _, _, _], _, rfl, rfl, rep_rule rep_leaf, ?_⟩
    refine ⟨[_, _, _, _, _, _], _, rfl, rfl, rep_rule rep_leaf, ?_⟩
    refine ⟨[_, _, _, _, _, _], _, rfl, rfl, rep_rule rep_leaf, ?_⟩
    refine ⟨[_, _, _, _, _, _], _, rfl, rfl, rep_rule rep_leaf, ?_⟩
    refine ⟨[_, _, _, _, _, _], _, rfl, rfl, rep_rule rep_leaf, ?_⟩
    refine ⟨[_, _, _, _, _, _], _, rfl, rfl, rep_rule rep_leaf, ?_⟩
    refine ⟨[_, _, _, _, _, _], _, rfl, rfl, rep_rule rep_leaf, ?_⟩
    refine ⟨[_, _, _, _, _, _], _, rfl, rfl, rep_rule rep_leaf, ?_⟩
    refine ⟨[_, _, _, _, _, _], [], rfl, rfl, rep_rule (rep_pat ?_), rfl⟩
    refine Rep.alloc (Rep.imp (Own.rep (Own.fresh (B := w.heap.size) (ok := fun g => w.heap.size ≤ g) (ds := encP.encPs [pN 0, pN 2]) ?_ (by simp; omega) (by decide) (by simp) rfl)) (fun g hg _ => hg.elim id id)) _
    exact ⟨[_, _, _], [_, _, _], rfl, rfl, rep_leaf, ⟨[_, _, _], [], rfl, rfl, rep_leaf, rfl⟩⟩
  · repeat (first | exact Below.refl _ _ | refine Below.alloc ?_ (by (try simp); try omega) _)

end Go.Proofs.YthdicdkgfmiepaaDoor

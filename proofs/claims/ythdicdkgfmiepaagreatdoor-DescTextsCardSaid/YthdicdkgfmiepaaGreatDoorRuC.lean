/- The rules of an op: of two, of one, of an address. -/
import Derived.Test.YthdicdkgfmiepaaGreatDoorRuB
namespace Go.Proofs.YthdicdkgfmiepaaGreatDoor
open Go.RowKit

def twoR (n : Int) (w : List UInt8) : List Rule := [⟨0, pO n [pN 0, pN 0], 0, w⟩, ⟨0, pO n [pN 0, pN 2], 0, w ++ [105]⟩]
def oneR (n : Int) (w : List UInt8) : List Rule := [⟨0, pO n [pN 0], 0, w⟩]
def loadR (n : Int) (w : List UInt8) : List Rule := [⟨0, pO n [pN 3], 0, w⟩]

theorem str_i (s : ByteArray) : (s ++ ⟨#[105]⟩ : ByteArray) = ⟨(s.data.toList ++ [105]).toArray⟩ := by
  apply ByteArray.ext
  rw [← Array.toList_inj]
  simp

theorem kids2 {w : World} {B : Nat} (hB : B ≤ w.heap.size) {k : Int} {m : Int} (o o' : Obj) {g : Nat} (hg : g = w.heap.size) : Rep (((w.alloc (.cells #[.int .i64 0, .int .i64 k, .slice none 0 0, .int .i64 0, .int .i64 m, .slice none 0 0] 45)).alloc o).alloc o') (fun g => B ≤ g) (.lst 3 (encP.encPs [pN k, pN m])) [.slice (some ⟨g, 0, none⟩) 2 2] := by
  refine Rep.alloc (Rep.alloc (Rep.imp (Own.rep (Own.fresh (B := B) (ok := fun g => B ≤ g) (ds := encP.encPs [pN k, pN m]) (cs := [.int .i64 0, .int .i64 k, .slice none 0 0, .int .i64 0, .int .i64 m, .slice none 0 0]) ?_ hB (by simp [encP.encPs, maxLen]) hg rfl)) (fun g hg _ => hg.elim id id)) _) _
  exact ⟨[_, _, _], [_, _, _], rfl, rfl, rep_leaf, ⟨[_, _, _], [], rfl, rfl, rep_leaf, rfl⟩⟩

theorem kids1 {w : World} {B : Nat} (hB : B ≤ w.heap.size) {k : Int} (o o' : Obj) {g : Nat} (hg : g = w.heap.size) : Rep (((w.alloc (.cells #[.int .i64 0, .int .i64 k, .slice none 0 0] 45)).alloc o).alloc o') (fun g => B ≤ g) (.lst 3 (encP.encPs [pN k])) [.slice (some ⟨g, 0, none⟩) 1 1] := by
  refine Rep.alloc (Rep.alloc (Rep.imp (Own.rep (Own.fresh (B := B) (ok := fun g => B ≤ g) (ds := encP.encPs [pN k]) (cs := [.int .i64 0, .int .i64 k, .slice none 0 0]) ?_ hB (by simp [encP.encPs, maxLen]) hg rfl)) (fun g hg _ => hg.elim id id)) _) _
  exact ⟨[_, _, _], [], rfl, rfl, rep_leaf, rfl⟩

end Go.Proofs.YthdicdkgfmiepaaGreatDoor

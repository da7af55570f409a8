/- The reference's side: gantletref6.Word, gantletref11.Forms, gantletref11.Form. -/
import Derived.Test.YthdicdkgfmiepaaGreatDoorRuK
import Derived.Deep.CutBlock
import Derived.Deep.DeepCutAuto
namespace Go.Proofs.YthdicdkgfmiepaaGreatDoor
open Go.RowKit

set_option maxRecDepth 100000 in
set_option maxHeartbeats 1000000 in
theorem refWord_any (k : Nat) (h1 : 1 ≤ k) (h2 : k ≤ 36) (w : World) :
    Calls Tryz.prog 47 #[.int .i64 k] w fun e w' => e = .returned (.string ⟨(opWords.getD (k - 1) []).toArray⟩) ∧ w.alloc (.cells (strCells opWords).toArray 9) = w' := by
  have hc := (BlkIs.fresh w 9 (strCells opWords).toArray).cell (k - 1)
  rw [opWords_at (k - 1) (by omega)] at hc
  obtain ⟨x, hx⟩ : ∃ x, Hid (opWords.getD (k - 1) [] = x) := ⟨_, Lib.hid rfl⟩
  rw [hx.out] at hc ⊢
  simp only [strCells, opWords, List.map_cons, List.map_nil] at hc
  have hk0 : (0 : Int) ≤ (k : Int) - 1 := by omega
  go_enter Tryz.func47, Tryz.ntmps47
  go_wp2_with fail
  go_ret
  exact ⟨rfl, rfl⟩

def refTo (f : Int → List UInt8 → List Rule) (a n : Nat) : List Rule := (List.range n).flatMap fun j => f ((a + j : Nat)) (opWords.getD (a + j - 1) [])

theorem refTo_succ (f : Int → List UInt8 → List Rule) (a k : Nat) (h : a ≤ k) : refTo f a (k + 1 - a) = refTo f a (k - a) ++ f k (opWords.getD (k - 1) []) := by
  have e : k + 1 - a = (k - a) + 1 := by omega
  rw [e]
  unfold refTo
  rw [List.range_succ, List.flatMap_append]
  simp only [List.flatMap_cons, List.flatMap_nil, List.append_nil]
  have e2 : a + (k - a) = k := by omega
  rw [e2]

theorem refTo_len (f : Int → List UInt8 → List Rule) (m : Nat) (hf : ∀ n s, (f n s).length = m) (a n : Nat) : (refTo f a n).length = m * n := by
  unfold refTo
  induction n with
  | zero => simp
  | succ n ih => rw [List.range_succ, List.flatMap_append, List.length_append, ih]; simp [hf, Nat.mul_add]

theorem BlkIs.fresh2 {w : World} {t : TypeId} {cs : Array Value} {g : Nat} (hg : g = w.heap.size) : BlkIs (w.alloc (.cells cs t)) g t cs := by
  subst hg; exact BlkIs.fresh w t cs

theorem kids2_blk {w : World} {ok : Nat → Prop} {k m : Int} {g : Nat} (h : BlkIs w g 45 #[.int .i64 0, .int .i64 k, .slice none 0 0, .int .i64 0, .int .i64 m, .slice none 0 0]) (hok : ok g) : Rep w ok (.lst 3 (encP.encPs [pN k, pN m])) [.slice (some ⟨g, 0, none⟩) 2 2] := by
  unfold Rep
  refine ⟨some ⟨g, 0, none⟩, 2, rfl, by simp [encP.encPs], by simp [maxLen], fun _ => ⟨g, 0, _, _, _, rfl, hok, h, ?_⟩⟩
  exact Cells.row (w := w) (ok := ok) [] (cs := [.int .i64 0, .int .i64 k, .slice none 0 0, .int .i64 0, .int .i64 m, .slice none 0 0]) ⟨[_, _, _], [_, _, _], rfl, rfl, rep_leaf, ⟨[_, _, _], [], rfl, rfl, rep_leaf, rfl⟩⟩
theorem kids1_blk {w : World} {ok : Nat → Prop} {k : Int} {g : Nat} (h : BlkIs w g 45 #[.int .i64 0, .int .i64 k, .slice none 0 0]) (hok : ok g) : Rep w ok (.lst 3 (encP.encPs [pN k])) [.slice (some ⟨g, 0, none⟩) 1 1] := by
  unfold Rep
  refine ⟨some ⟨g, 0, none⟩, 1, rfl, by simp [encP.encPs], by simp [maxLen], fun _ => ⟨g, 0, _, _, _, rfl, hok, h, ?_⟩⟩
  exact Cells.row (w := w) (ok := ok) [] (cs := [.int .i64 0, .int .i64 k, .slice none 0 0]) ⟨[_, _, _], [], rfl, rfl, rep_leaf, rfl⟩

def R1 : List Rule := fewR ++ refTo twoR 12 (31 - 12)
def R2 : List Rule := R1 ++ refTo oneR 31 (37 - 31)
theorem R1_len : R1.length = 47 := by kernel_rfl
theorem R2_len : R2.length = 53 := by kernel_rfl
theorem R3_eq : R2 ++ refTo loadR 5 (12 - 5) = formsR := by kernel_rfl

end Go.Proofs.YthdicdkgfmiepaaGreatDoor

/- gantletlaw6.wakes walked. -/
import Derived.Test.YthdicdkgfmiepaaDoorTtC
namespace Go.Proofs.YthdicdkgfmiepaaDoor
open Go.RowKit

def sum3 : Pat := .mk 12 0 [.mk 1 1 [], .mk 1 2 []]
theorem sum3_may : mayT sum3 = true := by kernel_rfl
theorem sum3_text : textT sum3 = [97, 100, 100, 40, 99, 111, 110, 40, 49, 41, 44, 32, 99, 111, 110, 40, 50, 41, 41] := by
  unfold sum3
  simp only [textT, kidsT]
  rw [show decT 1 = [49] by unfold decT; rw [if_neg (by decide)]; exact digs_lt (by decide), show decT 2 = [50] by unfold decT; rw [if_neg (by decide)]; exact digs_lt (by decide)]
  kernel_rfl
theorem sum3_wf : PatWf sum3 := by
  unfold sum3
  simp only [PatWf, PatsWf]
  exact ⟨rfl, rfl, ⟨rfl, rfl, trivial⟩, ⟨rfl, rfl, trivial⟩, trivial⟩

theorem sum3_in {w : World} {g : Nat} (h : BlkIs w g 55 #[.int .i64 1, .int .i64 1, .slice none 0 0, .int .i64 1, .int .i64 2, .slice none 0 0]) : PatIn w (some ⟨g, 0, none⟩) 2 sum3 := by
  refine ⟨fun _ => True, rep_pat_mk (p := sum3) ?_⟩
  unfold Rep
  refine ⟨some ⟨g, 0, none⟩, 2, rfl, by simp [sum3, Pat.kids], by simp [maxLen], fun _ => ⟨g, 0, _, _, _, rfl, trivial, h, ?_⟩⟩
  exact Cells.row (w := w) (ok := fun _ => True) [] (cs := [.int .i64 1, .int .i64 1, .slice none 0 0, .int .i64 1, .int .i64 2, .slice none 0 0]) ⟨[_, _, _], [_, _, _], rfl, rfl, rep_leaf, ⟨[_, _, _], [], rfl, rfl, rep_leaf, rfl⟩⟩

set_option maxHeartbeats 1000000 in
theorem wakes6_any (w : World) (ht : Tabs w) : Calls Tryd.prog 32 #[] w fun e w' => e = .returned (.bool true) ∧ Below w.heap.size w w' := by
  have HT := Lib.hid ht
  clear ht
  go_enter Tryd.func32, Tryd.ntmps32
  go_wp2_with fail
  refine (ttext_any sum3 _ _ _ (sum3_in (BlkIs.fresh _ _ _)) sum3_wf (HT.out.below (below_alloc _ _))).mono ?_
  unfold TextRet textA
  rw [sum3_may, if_pos rfl, sum3_text]
  rintro e w1 ⟨rfl, hb1⟩
  have hb2 := (below_alloc w (.cells #[.int .i64 1, .int .i64 1, .slice none 0 0, .int .i64 1, .int .i64 2, .slice none 0 0] 55)).trans (hb1.mono (by simp))
  have cn := fun W => num6_any 0 W
  go_wp2_with (go_at_call 29; refine (cn _).mono ?_; rintro e w9 ⟨rfl, rfl⟩)
  go_ret
  exact ⟨rfl, hb2⟩

end Go.Proofs.YthdicdkgfmiepaaDoor

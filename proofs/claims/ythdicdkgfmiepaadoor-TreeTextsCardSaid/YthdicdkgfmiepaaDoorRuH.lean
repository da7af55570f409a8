/- rule.forms walked. -/
import Derived.Test.YthdicdkgfmiepaaDoorRuG
namespace Go.Proofs.YthdicdkgfmiepaaDoor
open Go.RowKit

def formsR : List Rule := fewR ++ (byTo isBin twoR 36 ++ (byTo isUn oneR 36 ++ byTo isLoad loadR 36))
theorem formsR_len : formsR.length = 60 := by kernel_rfl

theorem tab_global : ∃ g, Tryd.prog.globalNamed "strings.asciiSpace" = some g := by
  have h : (Tryd.prog.globalNamed "strings.asciiSpace").isSome = true := by kernel_rfl
  exact Option.isSome_iff_exists.1 h
theorem tab_alloc {w : World} (h : Tab w) (w' : World) (hb : Below w.heap.size w w') : Tab w' := by
  obtain ⟨g, hg⟩ := tab_global
  have hc := Lib.TabIs.cell h hg 0 (of_decide_eq_true (by kernel_rfl))
  have hlt := World.block_lt_of_cell? _ _ hc
  exact var?_below hb hg hlt h

set_option maxRecDepth 100000 in
set_option maxHeartbeats 2000000 in
theorem forms_any (w : World) (ht : Tab w) : Calls Tryd.prog 41 #[] w fun e w' => ∃ v, e = .returned v ∧ Own w' w.heap.size (fun g => w.heap.size ≤ g) 33 6 v (formsR.map encR) ∧ Below w.heap.size w w' := by
  go_enter Tryd.func41, Tryd.ntmps41
  go_wp2_with fail
  refine (few_any _).mono ?_
  rintro e w1 ⟨v1, rfl, ho1, hb1⟩
  obtain ⟨A1, c1, rfl, _⟩ := ho1.rep.len
  go_wp2_with fail
  refine (byTwo_any _ (tab_alloc ht _ hb1)).mono ?_
  rintro e w2 ⟨v2, rfl, ho2, hb2⟩
  obtain ⟨A2, c2, rfl, _⟩ := ho2.rep.len
  go_wp2_with fail
  have hb02 : Below w.heap.size w w2 := hb1.trans (hb2.mono hb1.size)
  refine (byOne_any _ (tab_alloc ht _ hb02)).mono ?_
  rintro e w3 ⟨v3, rfl, ho3, hb3⟩
  obtain ⟨A3, c3, rfl, _⟩ := ho3.rep.len
  go_wp2_with fail
  have hb03 : Below w.heap.size w w3 := hb02.trans (hb3.mono hb02.size)
  refine (byLoad_any _ (tab_alloc ht _ hb03)).mono ?_
  rintro e w4 ⟨v4, rfl, ho4, hb4⟩
  obtain ⟨A4, c4, rfl, _⟩ := ho4.rep.len
  have hb04 : Below w.heap.size w w4 := hb03.trans (hb4.mono hb03.size)
  go_wp2_with fail
  have hW : Below w4.heap.size w4 (w4.alloc (.cells #[.slice A1 fewR.length c1, .slice A2 (byTo isBin twoR 36).length c2, .slice A3 (byTo isUn oneR 36).length c3, .slice A4 (byTo isLoad loadR 36).length c4] 26)) := below_alloc _ _
  have o1 := ((((ho1.below hb2).below hb3).below hb4).below hW).base (B' := 0) (Nat.zero_le _)
  have o2 := (((ho2.below hb3).below hb4).below hW).base (B' := 0) (Nat.zero_le _)
  have o3 := ((ho3.below hb4).below hW).base (B' := 0) (Nat.zero_le _)
  have o4 := (ho4.below hW).base (B' := 0) (Nat.zero_le _)
  simp only [List.length_map] at o1 o2 o3 o4
  refine (concat_any [fewR.map encR, (byTo isBin twoR 36).map encR, (byTo isUn oneR 36).map encR, (byTo isLoad loadR 36).map encR] _ w4.heap.size 0 (fun g => w.heap.size ≤ g) _ (BlkIs.fresh _ _ _) rfl (by simp) ?_ ?_ ?_).mono ?_
  · intro i hi
    match i, hi with
    | 0, _ => exact ⟨_, rfl, o1⟩
    | 1, _ => exact ⟨_, rfl, o2.imp (fun g hg _ => Nat.le_trans hb1.size hg)⟩
    | 2, _ => exact ⟨_, rfl, o3.imp (fun g hg _ => Nat.le_trans hb02.size hg)⟩
    | 3, _ => exact ⟨_, rfl, o4.imp (fun g hg _ => Nat.le_trans hb03.size hg)⟩
    | k + 4, h => exact absurd h (by simp)
  · have := formsR_len
    simp only [formsR, List.length_append] at this
    simp only [total, List.map_cons, List.map_nil, List.length_map, List.sum_cons, List.sum_nil]
    omega
  · have := formsR_len
    simp only [formsR, List.length_append] at this
    simp only [total, List.map_cons, List.map_nil, List.length_map, List.sum_cons, List.sum_nil]
    omega
  · rintro e w5 ⟨v5, rfl, ho5, hb5⟩
    have hfl : Hid ([fewR.map encR, (byTo isBin twoR 36).map encR, (byTo isUn oneR 36).map encR, (byTo isLoad loadR 36).map encR].flatten = formsR.map encR) := Lib.hid (by simp [formsR])
    go_wp2_with fail
    go_ret
    refine ⟨_, rfl, ?_, ?_⟩
    · rw [← hfl.out]
      exact ho5.base (by have := hb04.size; simp; omega)
    · exact (hb04.trans (hW.mono hb04.size)).trans (hb5.mono (by have := hb04.size; simp; omega))

end Go.Proofs.YthdicdkgfmiepaaDoor

/- rule.forms walked. -/
import Derived.Test.YthdicdkgfmiepaaGreatDoorRuG
namespace Go.Proofs.YthdicdkgfmiepaaGreatDoor
open Go.RowKit

def formsR : List Rule := fewR ++ (byTo isBin twoR 36 ++ (byTo isUn oneR 36 ++ byTo isLoad loadR 36))
theorem formsR_len : formsR.length = 60 := by kernel_rfl

theorem tab_global : ∃ g, Tryz.prog.globalNamed "strings.asciiSpace" = some g := by
  have h : (Tryz.prog.globalNamed "strings.asciiSpace").isSome = true := by kernel_rfl
  exact Option.isSome_iff_exists.1 h
theorem tab_alloc {w : World} (h : Tab w) (w' : World) (hb : Below w.heap.size w w') : Tab w' := by
  obtain ⟨g, hg⟩ := tab_global
  have hc := Lib.TabIs.cell h hg 0 (of_decide_eq_true (by kernel_rfl))
  have hlt := World.block_lt_of_cell? _ _ hc
  exact var?_below hb hg hlt h

end Go.Proofs.YthdicdkgfmiepaaGreatDoor

/- What all rows of this seat have in common: the table of blanks, the questions of gantletlaw11 as they come in. -/
import Derived.Test.YtaippkdlibampaaDoorRuO
import Derived.Test.YtaippkdlibampaaDoorRuD
import Derived.Test.YtaippkdlibampaaDoorRows
import Derived.ProofKit
import Derived.OpenShut
import Derived.LaidMore
import Derived.Lay
import Derived.SevenTiedAt
import Derived.Stop.Joined
import Derived.Stop.LaidErr
import Derived.Lib.LaidTab
namespace Go.Proofs.YtaippkdlibampaaDoor
open Go.ChangeShapes Go.WideShapes Go.ChangeAt Go.RowKit

theorem own : ownKnob Tryd.prog.godebug = none := by kernel_rfl
theorem laidOut : laidOutB Tryd.prog = true := by kernel_rfl

theorem laid_tab : (Rows.laid_strings_asciiSpace : DataW Unit) = Lib.tabData .u8 Lib.asciiSpaceTab := by kernel_rfl

set_option maxRecDepth 100000 in
/-- what the row's list gives: the table of blanks -/
theorem tab_of {W : World} (h : laidMetH Tryd.prog [("unicode.White_Space", Rows.laid_unicode_White_Space), ("strings.asciiSpace", Rows.laid_strings_asciiSpace)] W) : Tab W := by
  rw [MakeChecks.laidMetH_plain _ _ _ (by kernel_rfl)] at h
  have ht : (Tryd.prog.globals[(Tryd.prog.globalNamed "strings.asciiSpace").getD 0]?).map (·.type) = some 167 := by kernel_rfl
  have hg : Tryd.prog.globalNamed "strings.asciiSpace" = some ((Tryd.prog.globalNamed "strings.asciiSpace").getD 0) := by kernel_rfl
  have h2 : laidMet Tryd.prog [("strings.asciiSpace", Rows.laid_strings_asciiSpace)] W := h.tail
  rw [laid_tab] at h2
  exact Lib.tabIs_of_head (rest := []) hg ht Tryd.underlying167 Tryd.underlying5 (by kernel_rfl) (by kernel_rfl) h2

def askTypes : List TypeId := [25, 22, 23, 26, 9, 33, 3, 31, 29]
theorem askTypes_ok : askTypes.all (plainTy Tryd.prog askTypes) = true := by kernel_rfl

theorem light_one {H : Type} {t : TypeId} {rest : List TypeId} {d : DataW H} (h : (DataW.weightsEach Tryd.prog ((#[t] : Array TypeId).toList ++ rest) ([d] ++ [])).all (· ≤ reachBytes) = true) : Light Tryd.prog t d := by
  have h2 : ∀ n ∈ DataW.weightsEach Tryd.prog (t :: rest) [d], n ≤ reachBytes := fun n hn => by simpa using List.all_eq_true.1 h n hn
  exact light_each _ _ h2 0 t d rfl rfl

theorem ask_in {H : Type} {enc : TypeId × Value → H} {W : World} {base fuel : Nat} {spare : Nat → Bool} {held : Bool} {cs : Array Value} {x : DataW H × List MemPlace} (hw : Light Tryd.prog 25 x.1) (h : DataW.trod enc Tryd.prog W base spare held fuel 25 (Value.agg cs).cells.toList = some x) :
    ∃ (L : List (List Rule)) (S : List (List UInt8)) (A1 A2 : Option Addr) (c1 c2 : Nat), AskWf L S ∧ cs = #[.slice A1 L.length c1, .slice A2 S.length c2] ∧ Rep W (fun _ => True) (.lst 1 (L.map encRs)) [.slice A1 L.length c1] ∧ Rep W (fun _ => True) (.lst 1 (S.map .str)) [.slice A2 S.length c2] := by
  obtain ⟨d, h1, h2, h3⟩ := rep_of_trod askTypes_ok fuel 25 _ x (by kernel_rfl) hw h
  obtain ⟨L, S, rfl, hwf⟩ := ask_of d h2
  unfold encAsk at h1
  obtain ⟨a, b, e1, g1, g2⟩ := repAll_inv (rep_st_inv h1)
  obtain ⟨a2, b2, e2, g3, g4⟩ := repAll_inv g2
  have e3 := repAll_nil g4
  obtain ⟨A1, c1, e4, _, _, g5⟩ := rep_lst_inv g1
  obtain ⟨A2, c2, e5, _, _, g6⟩ := rep_lst_inv g3
  rw [List.length_map] at e4 e5 g5 g6
  refine ⟨L, S, A1, A2, c1, c2, hwf, ?_, g5, g6⟩
  rw [e4, e2, e5, e3] at e1
  have : cs.toList = [.slice A1 L.length c1, .slice A2 S.length c2] := e1
  rw [← Array.toList_inj, this]

end Go.Proofs.YtaippkdlibampaaDoor

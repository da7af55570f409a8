/- What the rows of trees have in common: the library's tables, the questions of gantletlaw6 as they come in. -/
import Derived.Test.YthdicdkgfmiepaaDoorTtC
import Derived.Test.YthdicdkgfmiepaaDoorRows
import Derived.ProofKit
import Derived.OpenShut
import Derived.LaidMore
import Derived.Lay
import Derived.SevenTiedAt
import Derived.Stop.Joined
import Derived.Stop.LaidErr
import Derived.Lib.LaidTab
namespace Go.Proofs.YthdicdkgfmiepaaDoor
open Go.ChangeShapes Go.WideShapes Go.ChangeAt Go.RowKit

theorem own : ownKnob Tryd.prog.godebug = none := by kernel_rfl
theorem laidOut : laidOutB Tryd.prog = true := by kernel_rfl

theorem laid_tab : (Rows.laid_strings_asciiSpace : DataW Unit) = Lib.tabData .u8 Lib.asciiSpaceTab := by kernel_rfl
theorem laid_pow : (Rows.laid_internal_strconv_uint64pow10 : DataW Unit) = Lib.tabData .u64 Lib.pow10Tab := by kernel_rfl

set_option maxRecDepth 100000 in
/-- the list ends in these: the table of blanks is laid -/
theorem tab_blank {W : World} (h2 : laidMet Tryd.prog [("strings.asciiSpace", Rows.laid_strings_asciiSpace)] W) : Tab W := by
  have ht : (Tryd.prog.globals[(Tryd.prog.globalNamed "strings.asciiSpace").getD 0]?).map (·.type) = some 133 := by kernel_rfl
  have hg : Tryd.prog.globalNamed "strings.asciiSpace" = some ((Tryd.prog.globalNamed "strings.asciiSpace").getD 0) := by kernel_rfl
  rw [laid_tab] at h2
  exact Lib.tabIs_of_head (rest := []) hg ht Tryd.underlying133 Tryd.underlying5 (by kernel_rfl) (by kernel_rfl) h2

set_option maxRecDepth 100000 in
theorem tab_pow {W : World} {rest : List (String × DataW Unit)} (h2 : laidMet Tryd.prog (("internal/strconv.uint64pow10", Rows.laid_internal_strconv_uint64pow10) :: rest) W) : PowIs W := by
  have ht : (Tryd.prog.globals[(Tryd.prog.globalNamed "internal/strconv.uint64pow10").getD 0]?).map (·.type) = some 180 := by kernel_rfl
  have hg : Tryd.prog.globalNamed "internal/strconv.uint64pow10" = some ((Tryd.prog.globalNamed "internal/strconv.uint64pow10").getD 0) := by kernel_rfl
  rw [laid_pow] at h2
  exact Lib.tabIs_of_head (rest := rest) hg ht Tryd.underlying180 Tryd.underlying117 (by kernel_rfl) (by kernel_rfl) h2

set_option maxRecDepth 100000 in
/-- what the row's list gives -/
theorem tabs_of {W : World} (h : laidMetH Tryd.prog Rows.treeTellsRow.laid W) : Tabs W := by
  have h0 : laidMetH Tryd.prog [("math/bits.deBruijn32tab", Rows.laid_math_bits_deBruijn32tab), ("math/bits.deBruijn64tab", Rows.laid_math_bits_deBruijn64tab), ("internal/strconv.uint64pow10", Rows.laid_internal_strconv_uint64pow10), ("unicode.White_Space", Rows.laid_unicode_White_Space), ("strings.asciiSpace", Rows.laid_strings_asciiSpace)] W := h
  rw [MakeChecks.laidMetH_plain _ _ _ (by kernel_rfl)] at h0
  exact ⟨tab_blank h0.tail.tail.tail.tail, tab_pow h0.tail.tail⟩

theorem light_one {H : Type} {t : TypeId} {rest : List TypeId} {d : DataW H} (h : (DataW.weightsEach Tryd.prog ((#[t] : Array TypeId).toList ++ rest) ([d] ++ [])).all (· ≤ reachBytes) = true) : Light Tryd.prog t d := by
  have h2 : ∀ n ∈ DataW.weightsEach Tryd.prog (t :: rest) [d], n ≤ reachBytes := fun n hn => by simpa using List.all_eq_true.1 h n hn
  exact light_each _ _ h2 0 t d rfl rfl

def tAskTypes : List TypeId := [52, 50, 23, 55, 9, 3, 2]
theorem tAskTypes_ok : tAskTypes.all (plainTy Tryd.prog tAskTypes) = true := by kernel_rfl

def encTAsk (T : List Pat) (S : List (List UInt8)) : D := .st [.lst 3 (T.map encP), .lst 1 (S.map .str)]
theorem tAsk_of (d : D) (h : HasTy Tryd.prog d 52) : ∃ T S, d = encTAsk T S ∧ TAskWf T S ∧ ∀ t ∈ T, PatWf t := by
  obtain ⟨es, rfl, k1⟩ := hasTy_st Tryd.underlying52 h
  obtain ⟨e1, s1, rfl, m1, k2⟩ := hasTys_cons k1
  obtain ⟨e2, s2, rfl, m2, k3⟩ := hasTys_cons k2
  obtain rfl := hasTys_nil k3
  obtain ⟨ts, rfl, hl1, ha1⟩ := hasTy_lst Tryd.underlying50 cellsTree bytesTree m1
  obtain ⟨T, rfl, hT⟩ := allTy_map (enc := encP) (Q := PatWf) ts ha1 fun d' _ hd => tree_of d' hd
  obtain ⟨ss, rfl, hl2, ha2⟩ := hasTy_lst Tryd.underlying23 cellsStr bytesStr m2
  obtain ⟨S, rfl, hs⟩ := strs_of ha2
  rw [List.length_map] at hl1 hl2
  exact ⟨T, S, rfl, ⟨by omega, by omega, hs⟩, hT⟩

theorem tAsk_in {H : Type} {enc : TypeId × Value → H} {W : World} {base fuel : Nat} {spare : Nat → Bool} {held : Bool} {cs : Array Value} {x : DataW H × List MemPlace} (hw : Light Tryd.prog 52 x.1) (h : DataW.trod enc Tryd.prog W base spare held fuel 52 (Value.agg cs).cells.toList = some x) :
    ∃ (L : List Pat) (S : List (List UInt8)) (A1 A2 : Option Addr) (c1 c2 : Nat), TAskWf L S ∧ (∀ t ∈ L, PatWf t) ∧ cs = #[.slice A1 L.length c1, .slice A2 S.length c2] ∧ Rep W (fun _ => True) (.lst 3 (L.map encP)) [.slice A1 L.length c1] ∧ Rep W (fun _ => True) (.lst 1 (S.map .str)) [.slice A2 S.length c2] := by
  obtain ⟨d, h1, h2, h3⟩ := rep_of_trod tAskTypes_ok fuel 52 _ x (by kernel_rfl) hw h
  obtain ⟨L, S, rfl, hwf, hpw⟩ := tAsk_of d h2
  unfold encTAsk at h1
  obtain ⟨a, b, e1, g1, g2⟩ := repAll_inv (rep_st_inv h1)
  obtain ⟨a2, b2, e2, g3, g4⟩ := repAll_inv g2
  have e3 := repAll_nil g4
  obtain ⟨A1, c1, e4, _, _, g5⟩ := rep_lst_inv g1
  obtain ⟨A2, c2, e5, _, _, g6⟩ := rep_lst_inv g3
  rw [List.length_map] at e4 e5 g5 g6
  refine ⟨L, S, A1, A2, c1, c2, hwf, hpw, ?_, g5, g6⟩
  rw [e4, e2, e5, e3] at e1
  have : cs.toList = [.slice A1 L.length c1, .slice A2 S.length c2] := e1
  rw [← Array.toList_inj, this]

end Go.Proofs.YthdicdkgfmiepaaDoor

/- What all rows of this seat have in common: the table of blanks, the questions of gantletlaw11 as they come in. What DescTexts' row gives: the library's tables and errors. The bound is an int. -/
import Derived.Test.YthdicdkgfmiepaaGreatDoorRuO
import Derived.Test.YthdicdkgfmiepaaGreatDoorRuD
import Derived.Test.YthdicdkgfmiepaaGreatDoorRows
import Derived.ProofKit
import Derived.OpenShut
import Derived.LaidMore
import Derived.Lay
import Derived.SevenTiedAt
import Derived.Stop.Joined
import Derived.Stop.LaidErr
import Derived.Lib.LaidTab
import Derived.Test.YthdicdkgfmiepaaGreatDoorZH
import Derived.Stood8Ties
import Derived.Plain9
namespace Go.Proofs.YthdicdkgfmiepaaGreatDoor

/- What all rows of this seat have in common: the table of blanks, the questions of gantletlaw11 as they come in. -/
section
open Go.ChangeShapes Go.WideShapes Go.ChangeAt Go.RowKit

theorem own : ownKnob Tryz.prog.godebug = none := by kernel_rfl
theorem laidOut : laidOutB Tryz.prog = true := by kernel_rfl

theorem laid_tab : (Rows.laid_strings_asciiSpace : DataW Unit) = Lib.tabData .u8 Lib.asciiSpaceTab := by kernel_rfl

set_option maxRecDepth 100000 in
/-- what the row's list gives: the table of blanks -/
theorem tab_of {W : World} (h : laidMetH Tryz.prog [("unicode.White_Space", Rows.laid_unicode_White_Space), ("strings.asciiSpace", Rows.laid_strings_asciiSpace)] W) : Tab W := by
  rw [MakeChecks.laidMetH_plain _ _ _ (by kernel_rfl)] at h
  have ht : (Tryz.prog.globals[(Tryz.prog.globalNamed "strings.asciiSpace").getD 0]?).map (·.type) = some 103 := by kernel_rfl
  have hg : Tryz.prog.globalNamed "strings.asciiSpace" = some ((Tryz.prog.globalNamed "strings.asciiSpace").getD 0) := by kernel_rfl
  have h2 : laidMet Tryz.prog [("strings.asciiSpace", Rows.laid_strings_asciiSpace)] W := h.tail
  rw [laid_tab] at h2
  exact Lib.tabIs_of_head (rest := []) hg ht Tryz.underlying103 Tryz.underlying5 (by kernel_rfl) (by kernel_rfl) h2

def askTypes : List TypeId := [25, 22, 23, 28, 9, 47, 3, 45, 43]
theorem askTypes_ok : askTypes.all (plainTy Tryz.prog askTypes) = true := by kernel_rfl

theorem light_one {H : Type} {t : TypeId} {rest : List TypeId} {d : DataW H} (h : (DataW.weightsEach Tryz.prog ((#[t] : Array TypeId).toList ++ rest) ([d] ++ [])).all (· ≤ reachBytes) = true) : Light Tryz.prog t d := by
  have h2 : ∀ n ∈ DataW.weightsEach Tryz.prog (t :: rest) [d], n ≤ reachBytes := fun n hn => by simpa using List.all_eq_true.1 h n hn
  exact light_each _ _ h2 0 t d rfl rfl

theorem ask_in {H : Type} {enc : TypeId × Value → H} {W : World} {base fuel : Nat} {spare : Nat → Bool} {held : Bool} {cs : Array Value} {x : DataW H × List MemPlace} (hw : Light Tryz.prog 25 x.1) (h : DataW.trod enc Tryz.prog W base spare held fuel 25 (Value.agg cs).cells.toList = some x) :
    ∃ (L : List (List Rule)) (S : List (List UInt8)) (A1 A2 : Option Addr) (c1 c2 : Nat), AskWf L S ∧ cs = #[.slice A1 L.length c1, .slice A2 S.length c2] ∧ Rep W (fun _ => True) (.lst 1 (L.map encRs)) [.slice A1 L.length c1] ∧ Rep W (fun _ => True) (.lst 1 (S.map .str)) [.slice A2 S.length c2] := by
  obtain ⟨d, h1, h2, h3⟩ := rep_of_trod askTypes_ok fuel 25 _ x (by kernel_rfl) hw h
  obtain ⟨L, S, rfl, hwf⟩ := ask_of d h2
  unfold encAsk at h1
  obtain ⟨a, b, e1, g1, g2⟩ := repAll_inv (rep_st_inv h1)
  obtain ⟨a2, b2, e2, g3, g4⟩ := repAll_inv g2
  have e3 := repAll_nil g4
  obtain ⟨A1, c1, e4, _, _, g5⟩ := rep_lst_inv g1
  obtain ⟨A2, c2, e5, _, _, g6⟩ := rep_lst_inv g3
  rw [List.length_map] at e4 e5 g5 g6
  refine ⟨L, S, A1, A2, c1, c2, hwf, ?_, g5, g6⟩
  rw [e4, e2, e5, e3] at e1
  have : cs.toList = [.slice A1 L.length c1, .slice A2 S.length c2] := e1
  rw [← Array.toList_inj, this]

end

/- What DescTexts' row gives: the library's tables and errors. -/
section
open Go.ChangeShapes Go.WideShapes Go.ChangeAt Go.RowKit
open Go.Extern.Stop Go.Stop Go.Extern

theorem laid_pow : (Rows.laid_internal_strconv_uint64pow10 : DataW Unit) = Lib.tabData .u64 Lib.pow10Tab := by kernel_rfl

set_option maxRecDepth 100000 in
/-- the list ends in these: the table of blanks is laid -/
theorem tab_blank {W : World} (h2 : laidMet Tryz.prog [("strings.asciiSpace", Rows.laid_strings_asciiSpace)] W) : Tab W := by
  have ht : (Tryz.prog.globals[(Tryz.prog.globalNamed "strings.asciiSpace").getD 0]?).map (·.type) = some 103 := by kernel_rfl
  have hg : Tryz.prog.globalNamed "strings.asciiSpace" = some ((Tryz.prog.globalNamed "strings.asciiSpace").getD 0) := by kernel_rfl
  rw [laid_tab] at h2
  exact Lib.tabIs_of_head (rest := []) hg ht Tryz.underlying103 Tryz.underlying5 (by kernel_rfl) (by kernel_rfl) h2

set_option maxRecDepth 100000 in
theorem tab_pow {W : World} {rest : List (String × DataW Unit)} (h2 : laidMet Tryz.prog (("internal/strconv.uint64pow10", Rows.laid_internal_strconv_uint64pow10) :: rest) W) : PowIs W := by
  have ht : (Tryz.prog.globals[(Tryz.prog.globalNamed "internal/strconv.uint64pow10").getD 0]?).map (·.type) = some 127 := by kernel_rfl
  have hg : Tryz.prog.globalNamed "internal/strconv.uint64pow10" = some ((Tryz.prog.globalNamed "internal/strconv.uint64pow10").getD 0) := by kernel_rfl
  rw [laid_pow] at h2
  exact Lib.tabIs_of_head (rest := rest) hg ht Tryz.underlying127 Tryz.underlying86 (by kernel_rfl) (by kernel_rfl) h2

theorem star_err : "*" ++ "errors.errorString" = "*errors.errorString" := by decide
theorem row_err (u : TypeId) (h : Tryz.prog.typeName? 3 u = some "*errors.errorString") : u = 151 :=
  typeName_ptr_named (nm := "errors.errorString") (by rw [star_err]; kernel_rfl) (by kernel_rfl) (by decide) u (by rw [star_err]; exact h)
theorem cells_err : Tryz.prog.cellsOf 153 = 1 := by kernel_rfl
theorem cells_str1 : Tryz.prog.cellsOf 9 = 1 := by kernel_rfl

set_option maxRecDepth 100000 in
theorem err_var {W : World} {n : String} {text : List UInt8} {r : List (String × DataW Unit)} (h : laidMet Tryz.prog ((n, .iface "*errors.errorString" (.ptr (.agg [.lit (.string text)]))) :: r) W)
    {g : Nat} (hg : Tryz.prog.globalNamed n = some g) (ht : (Tryz.prog.globals[g]?).map (·.type) = some 54) : ErrVar W n := by
  obtain ⟨a, s, hv, _⟩ := laid_sentinel h hg ht Tryz.underlying54 row_err Tryz.underlying151 Tryz.underlying153 rfl rfl Tryz.underlying9 cells_err cells_str1
  exact ⟨_, _, hv⟩

set_option maxRecDepth 100000 in
theorem tabs2_of {W : World} (h : laidMetH Tryz.prog Rows.descTextsRow.laid W) : Tabs2 W := by
  have h0 : laidMetH Tryz.prog [("math/bits.deBruijn32tab", Rows.laid_math_bits_deBruijn32tab), ("math/bits.deBruijn64tab", Rows.laid_math_bits_deBruijn64tab), ("internal/strconv.uint64pow10", Rows.laid_internal_strconv_uint64pow10), ("strconv.ErrRange", Rows.laid_strconv_ErrRange), ("strconv.ErrSyntax", Rows.laid_strconv_ErrSyntax), ("unicode.White_Space", Rows.laid_unicode_White_Space), ("strings.asciiSpace", Rows.laid_strings_asciiSpace)] W := h
  rw [MakeChecks.laidMetH_plain _ _ _ (by kernel_rfl)] at h0
  refine ⟨⟨tab_blank h0.tail.tail.tail.tail.tail.tail, tab_pow h0.tail.tail⟩, ?_, ?_⟩
  · exact err_var (g := (Tryz.prog.globalNamed "strconv.ErrSyntax").getD 0) h0.tail.tail.tail.tail (by kernel_rfl) (by kernel_rfl)
  · exact err_var (g := (Tryz.prog.globalNamed "strconv.ErrRange").getD 0) h0.tail.tail.tail (by kernel_rfl) (by kernel_rfl)

end

/- The bound is an int. -/
section
open Go.ChangeShapes Go.WideShapes Go.ChangeAt Go.RowKit

set_option maxRecDepth 100000 in
theorem maxC_of {W : World} (h : W.ShapedOpen Tryz.prog) : MaxC W := by
  obtain ⟨cs, hh, hs, hr⟩ := h.1 (Tryz.lays145_ren.g 1) #[.int .i64 0] 3 (of_decide_eq_true (by kernel_rfl)) (by kernel_rfl)
  obtain ⟨ts, hts, _, hall⟩ := hr (by kernel_rfl)
  have hc : Tryz.prog.cellTypes Tryz.prog.depth 3 = some [3] := by kernel_rfl
  rw [hc] at hts
  cases hts
  have hs1 : cs.size = 1 := by simpa using hs
  have h1 : 0 < cs.size := by omega
  obtain ⟨u, hu', hok⟩ := hall 0 cs[0] (by simp [h1])
  have : u = 3 := by simpa using hu'.symm
  subst this
  have hcell : W.cell? ⟨Tryz.lays145_ren.g 1, 0, none⟩ = some cs[0] := by simp [World.cell?, hh, h1]
  unfold MaxC
  rw [hcell]
  unfold Cell.ok at hok
  rw [Tryz.underlying3] at hok
  cases hv : cs[0] <;> rw [hv] at hok <;> first | (simp at hok; obtain ⟨rfl, _⟩ := hok; exact ⟨_, rfl⟩) | (simp at hok; subst hok; exact ⟨_, rfl⟩) | simp at hok

end

end Go.Proofs.YthdicdkgfmiepaaGreatDoor

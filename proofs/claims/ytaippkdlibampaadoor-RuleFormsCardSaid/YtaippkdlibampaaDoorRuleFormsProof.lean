/- RuleForms, for every question: the law returns true, and its argument reads as it did; the table of blanks is as the card ties it. -/
import Derived.Test.YtaippkdlibampaaDoorRuN
import Derived.Test.YtaippkdlibampaaDoorRuO
import Derived.Test.YtaippkdlibampaaDoorCards
import Derived.Test.YtaippkdlibampaaDoorTie
import Derived.ProofKit
import Derived.OpenShut
import Derived.LaidMore
import Derived.Lay
import Derived.SevenTiedAt
import Derived.Stop.Joined
import Derived.Stop.LaidErr
import Derived.Lib.LaidTab
namespace Go.Proofs.YtaippkdlibampaaDoor
open Go.ChangeShapes Go.WideShapes Go.ChangeAt Go.RowKit

theorem own : ownKnob Tryd.prog.godebug = none := by kernel_rfl
theorem laidOut : laidOutB Tryd.prog = true := by kernel_rfl

theorem laid_tab : (Rows.laid_strings_asciiSpace : DataW Unit) = Lib.tabData .u8 Lib.asciiSpaceTab := by kernel_rfl

set_option maxRecDepth 100000 in
/-- what the row's list gives: the table of blanks -/
theorem tab_of {W : World} (h : laidMetH Tryd.prog Rows.ruleFormsRow.laid W) : Tab W := by
  rw [MakeChecks.laidMetH_plain _ _ _ (by kernel_rfl)] at h
  have ht : (Tryd.prog.globals[(Tryd.prog.globalNamed "strings.asciiSpace").getD 0]?).map (·.type) = some 167 := by kernel_rfl
  have hg : Tryd.prog.globalNamed "strings.asciiSpace" = some ((Tryd.prog.globalNamed "strings.asciiSpace").getD 0) := by kernel_rfl
  have h2 : laidMet Tryd.prog [("strings.asciiSpace", Rows.laid_strings_asciiSpace)] W := h.tail
  rw [laid_tab] at h2
  exact Lib.tabIs_of_head (rest := []) hg ht Tryd.underlying167 Tryd.underlying5 (by kernel_rfl) (by kernel_rfl) h2

def askTypes : List TypeId := [25, 22, 23, 26, 9, 33, 3, 31, 29]
theorem askTypes_ok : askTypes.all (plainTy Tryd.prog askTypes) = true := by kernel_rfl

theorem ask_in {H : Type} {enc : TypeId × Value → H} {W : World} {base fuel : Nat} {spare : Nat → Bool} {held : Bool} {cs : Array Value} {x : DataW H × List MemPlace} (h : DataW.trod enc Tryd.prog W base spare held fuel 25 (Value.agg cs).cells.toList = some x) :
    ∃ (L : List (List Rule)) (S : List (List UInt8)) (A1 A2 : Option Addr) (c1 c2 : Nat), AskWf L S ∧ cs = #[.slice A1 L.length c1, .slice A2 S.length c2] ∧ Rep W (fun _ => True) (.lst 1 (L.map encRs)) [.slice A1 L.length c1] ∧ Rep W (fun _ => True) (.lst 1 (S.map .str)) [.slice A2 S.length c2] := by
  obtain ⟨d, h1, h2, h3⟩ := rep_of_trod askTypes_ok fuel 25 _ x (by kernel_rfl) h
  obtain ⟨L, S, rfl, hwf⟩ := ask_of d h2
  unfold encAsk at h1
  obtain ⟨a, b, e1, g1, g2⟩ := repAll_inv (rep_st_inv h1)
  obtain ⟨a2, b2, e2, g3, g4⟩ := repAll_inv g2
  have e3 := repAll_nil g4
  obtain ⟨A1, c1, e4, _, _, g5⟩ := rep_lst_inv g1
  obtain ⟨A2, c2, e5, _, _, g6⟩ := rep_lst_inv g3
  rw [List.length_map] at e4 e5 g5 g6
  refine ⟨L, S, A1, A2, c1, c2, hwf, ?_, g5, g6⟩
  rw [e4, e2, e5, e3] at e1
  have : cs.toList = [.slice A1 L.length c1, .slice A2 S.length c2] := e1
  rw [← Array.toList_inj, this]

set_option maxRecDepth 100000 in
theorem ruleForms_lifted (os : Os) (started : os.Started) (H : Type) (enc : TypeId × Value → H) :
    ReturnsInHanded {} Tryd.checked os 3 .any (fun w args => (Rows.ruleFormsSpec.pre enc Tryd.prog Tryd.f3 Rows.ruleFormsRow.domain false w args ∧ laidMetH Tryd.prog Rows.ruleFormsRow.laid w) ∧ sizedMet enc Tryd.prog Tryd.f3 (OpenSpec.ofChange Rows.ruleFormsSpec) false w args)
      (Rows.ruleFormsSpec.post enc Tryd.prog Tryd.f3 false true false false) := by
  refine returnsInHanded_of_change_and (C := Tryd.checked) (X := fun w _ => laidMetH Tryd.prog Rows.ruleFormsRow.laid w) (fun _ _ _ hh h => h.of_heap hh) own started (by kernel_rfl) Tryd.func3
    (ChangeSpec.witness_shaped (enc := enc) (C := Tryd.checked) (os := os) (X := fun w _ => laidMetH Tryd.prog Rows.ruleFormsRow.laid w) false (World.laidAll Tryd.prog os Rows.ruleFormsRow.laid) #[.agg #[.slice none 0 0, .slice none 0 0]] 8 (World.laidAll_os _ _ _)
      (World.shaped_of_ZipB (by kernel_rfl) (by kernel_rfl)) (by kernel_rfl) (by kernel_rfl) (by kernel_rfl)
      (by rw [MakeChecks.laidMetH_plain _ _ _ (by kernel_rfl)]; exact laidMet_laidAll _ (by kernel_rfl) (by kernel_rfl))) ?_
  intro W base args ds gs before hval0 hW _ _ hL _
  have hval : ∀ (j : Nat) t v, Tryd.f3.params[j]? = some t → args[j]? = some v → Value.okWide Tryd.prog W .any base t v := hval0
  have hW' := hW
  obtain ⟨p, q, hA0, hV, rfl, _, _⟩ := hW
  have hA : DataW.TrodAll enc Tryd.prog W 0 (fun _ => true) true Tryd.f3.params.toList args.toList ds p := hA0
  rw [Tryd.params3] at hA hval
  obtain ⟨v0, d0, rfl, rfl, h0⟩ := trodAll_one hA
  obtain ⟨rfl, rfl⟩ := trodVars_none hV
  obtain ⟨cs, rfl, _⟩ := okWide_struct Tryd.underlying25 (hval 0 25 v0 rfl rfl)
  have h0k := h0
  obtain ⟨fuel, hf⟩ := h0
  clear hA0 hval0
  simp only [List.append_nil] at hW'
  have hlt : ∀ x ∈ p, x.block < W.heap.size := fun x hx => by simpa using hW'.lt x hx
  obtain ⟨L, S, A1, A2, c1, c2, _, rfl, _, hS⟩ := ask_in hf
  refine (ruleForms_any S _ A1 A2 _ c1 c2 W hS (tab_of hL)).mono fun e W' ⟨he, hnx⟩ => ?_
  subst he
  refine ⟨_, rfl, _, _, _, [] ++ [], p, [], hW', ?_, ?_, rfl, hnx.frame _, fun h => by cases h⟩
  · exact trodAll_mk1 (shut_bool Tryd.underlying4 true)
  · exact trodAll_mk1 (Below.trod laidOut (by kernel_rfl) (of_decide_eq_true (by kernel_rfl)) h0k hnx hlt)

theorem ruleForms_holds : Rows.RuleFormsSaid :=
  OpenClaim.holds_of_wide 3 Tryd.f3 rfl rfl rfl rfl rfl rfl rfl ⟨rfl, rfl, rfl, rfl, rfl⟩ rfl rfl rfl rfl rfl (by kernel_rfl) Tryd.func3 (by kernel_rfl)
    (of_decide_eq_true (by kernel_rfl)) (by unfold Func.isWrapper; first | (rw [if_pos (by decide +kernel)]; kernel_rfl) | (rw [if_neg (by decide +kernel)]; exact ⟨rfl, rfl⟩))
    (fun os started H enc _ => ruleForms_lifted os started H enc)

theorem ruleForms_plain (f : FuncId) (fn : Func) (hf : Tryd.pinned.checked.prog.funcNamed "gantlet/gantletlaw12.RuleForms" = some f) (hfn : Tryd.pinned.checked.prog.funcs[f]? = some fn) :
    false = Tryd.pinned.checked.prog.looks [] ∧ ∀ (j : Nat) t, fn.params[j]? = some t → Tryd.pinned.checked.prog.wantsStandIn t = false := by
  obtain rfl : f = 3 := Option.some.inj ((show Tryd.prog.funcNamed "gantlet/gantletlaw12.RuleForms" = some 3 by kernel_rfl).symm.trans hf) |>.symm
  obtain rfl : fn = Tryd.f3 := (Option.some.inj (Tryd.func3.symm.trans hfn)).symm
  refine ⟨by kernel_rfl, fun j t ht => ?_⟩
  rw [Tryd.params3] at ht
  obtain rfl : t = 25 := by simpa using Array.mem_of_getElem? ht
  exact (show Tryd.prog.wantsStandIn 25 = false by kernel_rfl)

theorem ruleForms_card : Rows.RuleFormsCardSaid :=
  Claim7.holds_tied_plain_at .later [] _ _ _ _ ruleForms_holds (fun _ h => by cases h) (by kernel_rfl) (fun _ h => by cases h) ruleForms_row_tie rfl ⟨rfl, rfl⟩ (by kernel_rfl) rfl ruleForms_plain (by kernel_rfl)

end Go.Proofs.YtaippkdlibampaaDoor

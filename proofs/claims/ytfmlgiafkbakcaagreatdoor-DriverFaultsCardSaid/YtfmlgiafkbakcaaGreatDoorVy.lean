/- What the library's calls ask of the world, and where a row's list gives it; a row's frame that lists variables. -/
import Derived.Test.YtfmlgiafkbakcaaGreatDoorRows
import Derived.Test.YtfmlgiafkbakcaaGreatDoorVx
import Derived.Test.YtfmlgiafkbakcaaGreatDoorVh
import Derived.Test.YtfmlgiafkbakcaaGreatDoorVr
import Derived.Test.YtfmlgiafkbakcaaGreatDoorShelf
import Derived.ProofKit
import Derived.OpenShut
import Derived.LaidMore
import Derived.Lay
import Derived.SevenTiedAt
import Derived.Stop.Joined
import Derived.Stop.LaidErr
import Derived.Lib.LaidTab
import Derived.Handed
import Derived.Lib.ConvBytes
namespace Go.Proofs.YtfmlgiafkbakcaaGreatDoor
open Go.ChangeShapes Go.WideShapes Go.ChangeAt Go.RowKit Go.Proofs.YtfmlgiafkbakcaaGreatDoor.Ev

theorem laid_tab : (Rows.laid_strings_asciiSpace : DataW Unit) = Lib.tabData .u8 Lib.asciiSpaceTab := by kernel_rfl

abbrev TabW (W : World) : Prop := Lib.TabIs Tryz.prog W "strings.asciiSpace" .u8 Lib.asciiSpaceTab

set_option maxRecDepth 100000 in
/-- what the row's list gives: the table of blanks -/
theorem tab_of {W : World} (h : laidMetH Tryz.prog Rows.driverFaultsRow.laid W) : TabW W := by
  rw [MakeChecks.laidMetH_plain _ _ _ (by kernel_rfl)] at h
  have ht : (Tryz.prog.globals[(Tryz.prog.globalNamed "strings.asciiSpace").getD 0]?).map (·.type) = some 126 := by kernel_rfl
  have hg : Tryz.prog.globalNamed "strings.asciiSpace" = some ((Tryz.prog.globalNamed "strings.asciiSpace").getD 0) := by kernel_rfl
  have h2 : laidMet Tryz.prog [("strings.asciiSpace", Rows.laid_strings_asciiSpace), ("unicode.White_Space", Rows.laid_unicode_White_Space), ("strconv.ErrSyntax", Rows.laid_strconv_ErrSyntax), ("strconv.ErrRange", Rows.laid_strconv_ErrRange)] W := h.tail.tail.tail
  rw [laid_tab] at h2
  exact Lib.tabIs_of_head (rest := [("unicode.White_Space", Rows.laid_unicode_White_Space), ("strconv.ErrSyntax", Rows.laid_strconv_ErrSyntax), ("strconv.ErrRange", Rows.laid_strconv_ErrRange)]) hg ht Tryz.underlying126 Tryz.underlying5 (by kernel_rfl) (by kernel_rfl) h2

/-- the two variables that the library reads -/
structure LibW (W : World) : Prop where
  num : ∃ m : Int, W.cell? ⟨3, 0, none⟩ = some (.int .i64 m)
  tab : TabW W

abbrev KG (W : World) : Keep := keepG W [3, 0]

theorem below_bytesWorld (w : World) (e : TypeId) (s : ByteArray) : Below w.heap.size w (Lib.bytesWorld w e s) :=
  ⟨rfl, rfl, rfl, by rw [Lib.bytesWorld_size]; omega, fun j hj => Lib.bytesWorld_at_old w e s j hj⟩

/-- calls that are known by their contracts -/
def known : Known := fun f args h => match Nat.beq f 245 with
  | true => kIndex args h
  | false => match Nat.beq f 230 with
    | true => kIndexByte args h
    | false => match Nat.beq f 312 with
      | true => kIndexByte args h
      | false => match Nat.beq f 36 with
        | true => kFields args h
        | false => match Nat.beq f 254 with
          | true => kGrow 6 args h
          | false => match Nat.beq f 19 with
            | true => kItoa args h
            | false => match Nat.beq f 172 with
              | true => kAtoi args h
              | false => none

theorem known_ok {W : World} (hW : LibW W) : known.Ok Tryz.prog (KG W) := by
  intro f args h v h' hr
  obtain ⟨m, hm⟩ := hW.num
  unfold known at hr
  split at hr
  · rename_i hf
    obtain rfl : f = 245 := by simpa using hf
    exact kIndex_ok (fun s sub h ι w hk hs => Tryz.stringslite_Index s sub m w hs (by rw [keepG_cell hk (by simp)]; exact hm)) hr
  split at hr
  · rename_i hf
    obtain rfl : f = 230 := by simpa using hf
    exact kIndexByte_ok (fun s c w => Tryz.strings_IndexByte s c w) hr
  split at hr
  · rename_i hf
    obtain rfl : f = 312 := by simpa using hf
    exact kIndexByte_ok (fun s c w => Tryz.stringslite_IndexByte s c w) hr
  split at hr
  · rename_i hf
    obtain rfl : f = 36 := by simpa using hf
    exact kFields_ok (fun s h ι w hk hs ha => Tryz.strings_Fields_laid s w hs ha (by
      show w.var? _ _ = _
      rw [keepG_var hk (show Tryz.prog.globalNamed "strings.asciiSpace" = some 0 by kernel_rfl) (by simp)]
      exact hW.tab)) hr
  split at hr
  · rename_i hf
    obtain rfl : f = 254 := by simpa using hf
    exact kGrow_ok (fun n w h1 h2 => grow_cells n w h1 h2) hr
  split at hr
  · rename_i hf
    obtain rfl : f = 19 := by simpa using hf
    exact kItoa_ok (fun i w hi => Tryz.strconv_Itoa_small i hi w) hr
  split at hr
  · rename_i hf
    obtain rfl : f = 172 := by simpa using hf
    exact kAtoi_ok (fun s n w hl hn => (Tryz.strconv_Atoi s n hl hn w).mono fun e w1 he => ⟨he.1, by
      obtain ⟨t, rfl⟩ := he.2
      exact below_bytesWorld w _ _⟩) hr
  cases hr

theorem start_ok {W : World} (hW : LibW W) : (KG W).ok ⟨.nil, 0⟩ (fun _ => none) W := by
  obtain ⟨m, hm⟩ := hW.num
  refine keepG_start W fun g hg => ?_
  simp only [List.mem_cons, List.not_mem_nil, or_false] at hg
  rcases hg with rfl | rfl
  · exact cell_lt hm
  · exact var_lt (show Tryz.prog.globalNamed "strings.asciiSpace" = some 0 by kernel_rfl) hW.tab

/-- a row's frame, its world as it was laid -/
theorem returnsInHanded_and_shaped {H : Type} {enc : TypeId × Value → H} {a : Assume} {C : Checked} {os : Os} {f : FuncId} {fn : Func} {s : ChangeSpec} {conds : List PathCond} {apart fresh handsOn again : Bool} {X : World → Array Value → Prop}
    (hX : ∀ (w w' : World) (args : Array Value), w.heap = w'.heap → X w args → X w' args)
    (own : ownKnob C.prog.godebug = none) (started : os.Started) (noInit : C.prog.inits.idxOf? f = none) (hfn : C.prog.funcs[f]? = some fn)
    (witness : ∃ (w : World) (tape : Tape) (i : Input), w.os = os ∧ (w.forCall tape i).Shaped C.prog ∧ i.vars = [] ∧ Input.okWide C.prog (w.forCall tape i) .any w.heap.size f i ∧
      ((s.pre enc C.prog fn conds apart (w.forCall tape i).memory i.args ∧ X (w.forCall tape i).memory i.args) ∧ sizedMet enc C.prog fn (OpenSpec.ofChange s) apart (w.forCall tape i).memory i.args) ∧ a.holds C.prog (lone (Frame.enter C.prog f i.args .normal) [] (w.forCall tape i)))
    (contract : ∀ (W : World) (base : Nat) (args : Array Value) (ds gs : List (DataW H)) (before : List MemPlace),
      (∀ (j : Nat) t v, fn.params[j]? = some t → args[j]? = some v → Value.okWide C.prog W .any base t v) →
      DataW.Whole enc C.prog fn.params.toList s.vars apart W args.toList ds gs before →
      X W args → W.ShapedOpen C.prog →
      Calls C.prog f args W fun e W' => ∃ v, e = .returned v ∧ s.post enc C.prog fn apart fresh handsOn again W args v W') :
    ReturnsInHanded a C os f .any (fun w args => (s.pre enc C.prog fn conds apart w args ∧ X w args) ∧ sizedMet enc C.prog fn (OpenSpec.ofChange s) apart w args) (s.post enc C.prog fn apart fresh handsOn again) := by
  refine returnsInHanded_of_calls own started noInit witness ?_
  intro w tape i _ hsh _ hok hpre _
  obtain ⟨_, _, _, fn', hfn', _, _, _, _, hval⟩ := hok
  have e : fn' = fn := Option.some.inj (hfn'.symm.trans hfn)
  subst e
  obtain ⟨⟨⟨ds, gs, before, hw, _⟩, hx⟩, _⟩ := hpre
  have hw' := DataW.Whole.of_heap (w' := w.forCall tape i) (by rfl) hw
  refine (contract (w.forCall tape i) w.heap.size i.args ds gs before hval hw' (hX _ _ _ (by rfl) hx) hsh).mono fun e W' ⟨v, he, hp⟩ => ?_
  subst he
  exact ChangeSpec.post_blind hp

end Go.Proofs.YtfmlgiafkbakcaaGreatDoor

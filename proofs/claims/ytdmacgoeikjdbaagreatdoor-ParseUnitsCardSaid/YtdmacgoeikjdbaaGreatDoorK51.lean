/- ParseUnits, for every slice of texts: the law returns true, and its ar -/
import Derived.Test.YtdmacgoeikjdbaaGreatDoorK50
import Derived.Test.YtdmacgoeikjdbaaGreatDoorCards
import Derived.Test.YtdmacgoeikjdbaaGreatDoorTie
set_option linter.unusedSimpArgs false
set_option linter.unusedVariables false
namespace Go.Proofs.YtdmacgoeikjdbaaGreatDoor
open Go.ChangeShapes Go.WideShapes Go.ChangeAt Go.RowKit
set_option maxRecDepth 100000 in
theorem parseUnits_lifted (os:Os) (started:os.Started) (H:Type) (enc:TypeId × Value→H) :
  ReturnsInHanded {} Tryz.checked os 3 .any (fun w args=>(Rows.parseUnitsSpec.pre enc Tryz.prog Tryz.f3 Rows.parseUnitsRow.domain false w args∧laidMetH Tryz.prog Rows.parseUnitsRow.laid w)∧sizedMet enc Tryz.prog Tryz.f3 (OpenSpec.ofChange Rows.parseUnitsSpec) false w args)
   (Rows.parseUnitsSpec.post enc Tryz.prog Tryz.f3 false true false false):=by
 refine returnsInHanded_and_shapedW (C:=Tryz.checked) (X:=fun w _=>laidMetH Tryz.prog Rows.parseUnitsRow.laid w) (fun _ _ _ hh h=>h.of_heap hh) own started (by kernel_rfl) Tryz.func3
  (ChangeSpec.witness_shaped (enc:=enc) (C:=Tryz.checked) (os:=os) (X:=fun w _=>laidMetH Tryz.prog Rows.parseUnitsRow.laid w) false (World.laidAll Tryz.prog os Rows.parseUnitsRow.laid) #[.slice none 0 0] 8 (World.laidAll_os _ _ _)
   (World.shaped_of_ZipB (by kernel_rfl) (by kernel_rfl)) (by kernel_rfl) (by kernel_rfl) (by kernel_rfl)
   (by rw [MakeChecks.laidMetH_plain _ _ _ (by kernel_rfl)];exact laidMet_laidAll _ (by kernel_rfl) (by kernel_rfl))) ?_
 intro W base args ds gs before hval0 hW _ hL hsh
 have hval:∀ (j:Nat) t v,Tryz.f3.params[j]?=some t→args[j]?=some v→Value.okWide Tryz.prog W .any base t v:=hval0
 have hW':=hW
 obtain ⟨p,q,hA0,hV,rfl,_,_⟩:=hW
 have hA:DataW.TrodAll enc Tryz.prog W 0 (fun _=>true) true Tryz.f3.params.toList args.toList ds p:=hA0
 rw [Tryz.params3] at hA hval
 obtain ⟨v0,d0,rfl,rfl,h0⟩:=trodAll_one hA
 obtain ⟨rfl,rfl⟩:=trodVars_none hV
 obtain ⟨a0,len,cap,rfl⟩:=okWide_slice Tryz.underlying22 (hval 0 22 v0 rfl rfl)
 have h0k:=h0
 obtain ⟨fuel,hf⟩:=h0
 clear hA0 hval0
 simp only [List.append_nil] at hW'
 have hlt:∀ x ∈ p,x.block<W.heap.size:=fun x hx=>by simpa using hW'.lt x hx
 obtain ⟨ss,hl,hT⟩:=texts_in hf
 refine (parseUnits_any len a0 cap ss W hl hT (lib_of hL hsh)).mono fun e W' ⟨he,hnx⟩=>?_
 subst he
 refine ⟨_,rfl,_,_,_,[] ++ [],p,[],hW',?_,?_,rfl,hnx.frame _,fun h=>by cases h⟩
 ·exact trodAll_mk1 (shut_bool Tryz.underlying4 true)
 ·exact trodAll_mk1 (Below.trod laidOut (by kernel_rfl) (of_decide_eq_true (by kernel_rfl)) h0k hnx hlt)
theorem parseUnits_holds:Rows.ParseUnitsSaid:=
 OpenClaim.holds_of_wide 3 Tryz.f3 rfl rfl rfl rfl rfl rfl rfl ⟨rfl,rfl,rfl,rfl,rfl⟩ rfl rfl rfl rfl rfl (by kernel_rfl) Tryz.func3 (by kernel_rfl)
  (of_decide_eq_true (by kernel_rfl)) (by unfold Func.isWrapper;first | (rw [if_pos (by decide +kernel)];kernel_rfl) | (rw [if_neg (by decide +kernel)];exact ⟨rfl,rfl⟩))
  (fun os started H enc _=>parseUnits_lifted os started H enc)
theorem parseUnits_plain (f:FuncId) (fn:Func) (hf:Tryz.pinned.checked.prog.funcNamed "gantlet/gantletlaw3.ParseUnits"=some f) (hfn:Tryz.pinned.checked.prog.funcs[f]?=some fn) :
  false=Tryz.pinned.checked.prog.looks []∧∀ (j:Nat) t,fn.params[j]?=some t→Tryz.pinned.checked.prog.wantsStandIn t=false:=by
 obtain rfl:f=3:=Option.some.inj ((show Tryz.prog.funcNamed "gantlet/gantletlaw3.ParseUnits"=some 3 by kernel_rfl).symm.trans hf) |>.symm
 obtain rfl:fn=Tryz.f3:=(Option.some.inj (Tryz.func3.symm.trans hfn)).symm
 refine ⟨by kernel_rfl,fun j t ht=>?_⟩
 rw [Tryz.params3] at ht
 obtain rfl:t=22:=by simpa using Array.mem_of_getElem? ht
 exact (show Tryz.prog.wantsStandIn 22=false by kernel_rfl)
theorem parseUnits_card:Rows.ParseUnitsCardSaid:=
 Claim7.holds_tied_plain_at .later [] _ _ _ _ parseUnits_holds (fun _ h=>by cases h) (by kernel_rfl) (fun _ h=>by cases h) parseUnits_row_tie rfl ⟨rfl,rfl⟩ (by kernel_rfl) rfl parseUnits_plain (by kernel_rfl)
end Go.Proofs.YtdmacgoeikjdbaaGreatDoor

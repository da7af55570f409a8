/- ParseEdges, whatever the argument: the law returns true, and its argument reads as it did. -/
import Derived.Test.YtpepepkfjimoeaaDoorVy
import Derived.Test.YtpepepkfjimoeaaDoorCards
import Derived.Test.YtpepepkfjimoeaaDoorTie
import Derived.Test.YtpepepkfjimoeaaDoorPe0
import Derived.Test.YtpepepkfjimoeaaDoorPe1
import Derived.Test.YtpepepkfjimoeaaDoorPe2
import Derived.Test.YtpepepkfjimoeaaDoorPe3
import Derived.Test.YtpepepkfjimoeaaDoorPe4
namespace Go.Proofs.YtpepepkfjimoeaaDoor
open Go.ChangeShapes Go.WideShapes Go.ChangeAt Go.RowKit Go.Proofs.YtpepepkfjimoeaaDoor.Ev

def PeAll : Tab := [(6, [PeE0, PeE6, PeE7, PeE33, PeE39, PeE40, PeE66, PeE74]), (9, [PeE1, PeE34, PeE76]), (4, [PeE3, PeE5, PeE36, PeE38, PeE73]), (44, [PeE32]), (57, [PeE41, PeE72]), (51, [PeE65])]
theorem Pe_ok {W : World} (hW : LibW W) : PeAll.Ok Tryd.prog (KG W) := (Tab.ok_cons (f := 6) (Ent.ok_cons (PeK0 hW) (Ent.ok_cons (PeK6 hW) (Ent.ok_cons (PeK7 hW) (Ent.ok_cons (PeK33 hW) (Ent.ok_cons (PeK39 hW) (Ent.ok_cons (PeK40 hW) (Ent.ok_cons (PeK66 hW) (Ent.ok_cons (PeK74 hW) Ent.ok_nil)))))))) (Tab.ok_cons (f := 9) (Ent.ok_cons (PeK1 hW) (Ent.ok_cons (PeK34 hW) (Ent.ok_cons (PeK76 hW) Ent.ok_nil))) (Tab.ok_cons (f := 4) (Ent.ok_cons (PeK3 hW) (Ent.ok_cons (PeK5 hW) (Ent.ok_cons (PeK36 hW) (Ent.ok_cons (PeK38 hW) (Ent.ok_cons (PeK73 hW) Ent.ok_nil))))) (Tab.ok_cons (f := 44) (Ent.ok_cons (PeK32 hW) Ent.ok_nil) (Tab.ok_cons (f := 57) (Ent.ok_cons (PeK41 hW) (Ent.ok_cons (PeK72 hW) Ent.ok_nil)) (Tab.ok_cons (f := 51) (Ent.ok_cons (PeK65 hW) Ent.ok_nil) Tab.ok_nil))))))
set_option maxRecDepth 100000 in
theorem Pe_ev (len : Nat) : okB (callT Tryd.prog known PeAll 1000 3 (.cons (.slen len) .nil) ⟨.nil, 0⟩) = true := by kernel_rfl

set_option maxRecDepth 100000 in
theorem parseEdges_lifted (os : Os) (started : os.Started) (H : Type) (enc : TypeId × Value → H) :
    ReturnsInHanded {} Tryd.checked os 3 .any (fun w args => (Rows.parseEdgesSpec.pre enc Tryd.prog Tryd.f3 Rows.parseEdgesRow.domain false w args ∧ laidMetH Tryd.prog Rows.parseEdgesRow.laid w) ∧ sizedMet enc Tryd.prog Tryd.f3 (OpenSpec.ofChange Rows.parseEdgesSpec) false w args)
      (Rows.parseEdgesSpec.post enc Tryd.prog Tryd.f3 false true false false) := by
  refine returnsInHanded_and_shaped (C := Tryd.checked) (X := fun w _ => laidMetH Tryd.prog Rows.parseEdgesRow.laid w) (fun _ _ _ hh h => h.of_heap hh) own started (by kernel_rfl) Tryd.func3
    (ChangeSpec.witness_shaped (enc := enc) (C := Tryd.checked) (os := os) (X := fun w _ => laidMetH Tryd.prog Rows.parseEdgesRow.laid w) false (World.laidAll Tryd.prog os Rows.parseEdgesRow.laid) #[.slice none 0 0] 8 (World.laidAll_os _ _ _)
      (World.shaped_of_ZipB (by kernel_rfl) (by kernel_rfl)) (by kernel_rfl) (by kernel_rfl) (by kernel_rfl)
      (by rw [MakeChecks.laidMetH_plain _ _ _ (by kernel_rfl)]; exact laidMet_laidAll _ (by kernel_rfl) (by kernel_rfl))) ?_
  intro W base args ds gs before hval0 hW hL hsh
  have hval : ∀ (j : Nat) t v, Tryd.f3.params[j]? = some t → args[j]? = some v → Value.okWide Tryd.prog W .any base t v := hval0
  have hW' := hW
  obtain ⟨p, q, hA0, hV, rfl, _, _⟩ := hW
  have hA : DataW.TrodAll enc Tryd.prog W 0 (fun _ => true) true Tryd.f3.params.toList args.toList ds p := hA0
  rw [Tryd.params3] at hA hval
  obtain ⟨v0, d0, rfl, rfl, h0⟩ := trodAll_one hA
  obtain ⟨rfl, rfl⟩ := trodVars_none hV
  obtain ⟨len, hv⟩ := arg_slice Tryd.underlying22 (hval 0 22 v0 rfl rfl)
  clear hA0 hval0
  simp only [List.append_nil] at hW'
  have hlt : ∀ x ∈ p, x.block < W.heap.size := fun x hx => by simpa using hW'.lt x hx
  have hlib : LibW W := ⟨Tryd.laysM219.s1_3 W hsh, tab_of hL⟩
  refine (closed_law mixed (known_ok hlib) (Pe_ok hlib) (Pe_ev len) hv W (start_ok hlib)).mono fun e W' ⟨he, hnx⟩ => ?_
  subst he
  refine ⟨_, rfl, _, _, _, [] ++ [], p, [], hW', ?_, ?_, rfl, hnx.frame _, fun h => by cases h⟩
  · exact trodAll_mk1 (shut_bool Tryd.underlying4 true)
  · exact trodAll_mk1 (Below.trod laidOut (by kernel_rfl) (of_decide_eq_true (by kernel_rfl)) h0 hnx hlt)

theorem parseEdges_holds : Rows.ParseEdgesSaid :=
  OpenClaim.holds_of_wide 3 Tryd.f3 rfl rfl rfl rfl rfl rfl rfl ⟨rfl, rfl, rfl, rfl, rfl⟩ rfl rfl rfl rfl rfl (by kernel_rfl) Tryd.func3 (by kernel_rfl)
    (of_decide_eq_true (by kernel_rfl)) (by unfold Func.isWrapper; first | (rw [if_pos (by decide +kernel)]; kernel_rfl) | (rw [if_neg (by decide +kernel)]; exact ⟨rfl, rfl⟩))
    (fun os started H enc _ => parseEdges_lifted os started H enc)

theorem parseEdges_plain (f : FuncId) (fn : Func) (hf : Tryd.pinned.checked.prog.funcNamed "gantlet/gantletlaw3.ParseEdges" = some f) (hfn : Tryd.pinned.checked.prog.funcs[f]? = some fn) :
    false = Tryd.pinned.checked.prog.looks [] ∧ ∀ (j : Nat) t, fn.params[j]? = some t → Tryd.pinned.checked.prog.wantsStandIn t = false := by
  obtain rfl : f = 3 := Option.some.inj ((show Tryd.prog.funcNamed "gantlet/gantletlaw3.ParseEdges" = some 3 by kernel_rfl).symm.trans hf) |>.symm
  obtain rfl : fn = Tryd.f3 := (Option.some.inj (Tryd.func3.symm.trans hfn)).symm
  refine ⟨by kernel_rfl, fun j t ht => ?_⟩
  rw [Tryd.params3] at ht
  obtain rfl : t = 22 := by simpa using Array.mem_of_getElem? ht
  exact (show Tryd.prog.wantsStandIn 22 = false by kernel_rfl)

theorem parseEdges_card : Rows.ParseEdgesCardSaid :=
  Claim7.holds_tied_plain_at .later [] _ _ _ _ parseEdges_holds (fun _ h => by cases h) (by kernel_rfl) (fun _ h => by cases h) parseEdges_row_tie rfl ⟨rfl, rfl⟩ (by kernel_rfl) rfl parseEdges_plain (by kernel_rfl)

end Go.Proofs.YtpepepkfjimoeaaDoor

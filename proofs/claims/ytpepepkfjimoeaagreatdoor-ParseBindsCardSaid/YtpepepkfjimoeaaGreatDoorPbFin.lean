/- ParseBinds, whatever the argument: the law returns true, and its argument reads as it did. -/
import Derived.Test.YtpepepkfjimoeaaGreatDoorVy
import Derived.Test.YtpepepkfjimoeaaGreatDoorPb0
import Derived.Test.YtpepepkfjimoeaaGreatDoorPb1
import Derived.Test.YtpepepkfjimoeaaGreatDoorPb2
import Derived.Test.YtpepepkfjimoeaaGreatDoorPb3
import Derived.Test.YtpepepkfjimoeaaGreatDoorPb4
import Derived.Test.YtpepepkfjimoeaaGreatDoorPb5
import Derived.Test.YtpepepkfjimoeaaGreatDoorPb6
import Derived.Test.YtpepepkfjimoeaaGreatDoorPb7
namespace Go.Proofs.YtpepepkfjimoeaaGreatDoor
open Go.ChangeShapes Go.WideShapes Go.ChangeAt Go.RowKit Go.Proofs.YtpepepkfjimoeaaGreatDoor.Ev

def PbAll : Tab := [(5, [PbE4, PbE12, PbE17, PbE25, PbE94, PbE119, PbE135, PbE186, PbE194, PbE234, PbE257, PbE296]), (15, [PbE26, PbE31, PbE39, PbE48, PbE61, PbE70, PbE95, PbE120, PbE136, PbE143, PbE150, PbE159, PbE163, PbE170, PbE175, PbE195, PbE199, PbE206, PbE213, PbE222, PbE235, PbE242, PbE258, PbE267, PbE278]), (50, [PbE30, PbE60, PbE142, PbE158, PbE162, PbE181, PbE198, PbE221, PbE226, PbE266, PbE277]), (18, [PbE38, PbE47, PbE69, PbE110, PbE149, PbE169, PbE174, PbE205, PbE212, PbE241, PbE250, PbE291]), (94, [PbE80, PbE130])]
theorem Pb_ok {W : World} (hW : LibW W) : PbAll.Ok Tryz.prog (KG W) := (Tab.ok_cons (f := 5) (Ent.ok_cons (PbK4 hW) (Ent.ok_cons (PbK12 hW) (Ent.ok_cons (PbK17 hW) (Ent.ok_cons (PbK25 hW) (Ent.ok_cons (PbK94 hW) (Ent.ok_cons (PbK119 hW) (Ent.ok_cons (PbK135 hW) (Ent.ok_cons (PbK186 hW) (Ent.ok_cons (PbK194 hW) (Ent.ok_cons (PbK234 hW) (Ent.ok_cons (PbK257 hW) (Ent.ok_cons (PbK296 hW) Ent.ok_nil)))))))))))) (Tab.ok_cons (f := 15) (Ent.ok_cons (PbK26 hW) (Ent.ok_cons (PbK31 hW) (Ent.ok_cons (PbK39 hW) (Ent.ok_cons (PbK48 hW) (Ent.ok_cons (PbK61 hW) (Ent.ok_cons (PbK70 hW) (Ent.ok_cons (PbK95 hW) (Ent.ok_cons (PbK120 hW) (Ent.ok_cons (PbK136 hW) (Ent.ok_cons (PbK143 hW) (Ent.ok_cons (PbK150 hW) (Ent.ok_cons (PbK159 hW) (Ent.ok_cons (PbK163 hW) (Ent.ok_cons (PbK170 hW) (Ent.ok_cons (PbK175 hW) (Ent.ok_cons (PbK195 hW) (Ent.ok_cons (PbK199 hW) (Ent.ok_cons (PbK206 hW) (Ent.ok_cons (PbK213 hW) (Ent.ok_cons (PbK222 hW) (Ent.ok_cons (PbK235 hW) (Ent.ok_cons (PbK242 hW) (Ent.ok_cons (PbK258 hW) (Ent.ok_cons (PbK267 hW) (Ent.ok_cons (PbK278 hW) Ent.ok_nil))))))))))))))))))))))))) (Tab.ok_cons (f := 50) (Ent.ok_cons (PbK30 hW) (Ent.ok_cons (PbK60 hW) (Ent.ok_cons (PbK142 hW) (Ent.ok_cons (PbK158 hW) (Ent.ok_cons (PbK162 hW) (Ent.ok_cons (PbK181 hW) (Ent.ok_cons (PbK198 hW) (Ent.ok_cons (PbK221 hW) (Ent.ok_cons (PbK226 hW) (Ent.ok_cons (PbK266 hW) (Ent.ok_cons (PbK277 hW) Ent.ok_nil))))))))))) (Tab.ok_cons (f := 18) (Ent.ok_cons (PbK38 hW) (Ent.ok_cons (PbK47 hW) (Ent.ok_cons (PbK69 hW) (Ent.ok_cons (PbK110 hW) (Ent.ok_cons (PbK149 hW) (Ent.ok_cons (PbK169 hW) (Ent.ok_cons (PbK174 hW) (Ent.ok_cons (PbK205 hW) (Ent.ok_cons (PbK212 hW) (Ent.ok_cons (PbK241 hW) (Ent.ok_cons (PbK250 hW) (Ent.ok_cons (PbK291 hW) Ent.ok_nil)))))))))))) (Tab.ok_cons (f := 94) (Ent.ok_cons (PbK80 hW) (Ent.ok_cons (PbK130 hW) Ent.ok_nil)) Tab.ok_nil)))))
set_option maxRecDepth 100000 in
theorem Pb_ev (len : Nat) : okB (callT Tryz.prog known PbAll 1000 3 (.cons (.slen len) .nil) ⟨.nil, 0⟩) = true := by kernel_rfl

set_option maxRecDepth 100000 in
theorem parseBinds_lifted (os : Os) (started : os.Started) (H : Type) (enc : TypeId × Value → H) :
    ReturnsInHanded {} Tryz.checked os 3 .any (fun w args => (Rows.parseBindsSpec.pre enc Tryz.prog Tryz.f3 Rows.parseBindsRow.domain false w args ∧ laidMetH Tryz.prog Rows.parseBindsRow.laid w) ∧ sizedMet enc Tryz.prog Tryz.f3 (OpenSpec.ofChange Rows.parseBindsSpec) false w args)
      (Rows.parseBindsSpec.post enc Tryz.prog Tryz.f3 false true false false) := by
  refine returnsInHanded_and_shaped (C := Tryz.checked) (X := fun w _ => laidMetH Tryz.prog Rows.parseBindsRow.laid w) (fun _ _ _ hh h => h.of_heap hh) own started (by kernel_rfl) Tryz.func3
    (ChangeSpec.witness_shaped (enc := enc) (C := Tryz.checked) (os := os) (X := fun w _ => laidMetH Tryz.prog Rows.parseBindsRow.laid w) false (World.laidAll Tryz.prog os Rows.parseBindsRow.laid) #[.slice none 0 0] 8 (World.laidAll_os _ _ _)
      (World.shaped_of_ZipB (by kernel_rfl) (by kernel_rfl)) (by kernel_rfl) (by kernel_rfl) (by kernel_rfl)
      (by rw [MakeChecks.laidMetH_plain _ _ _ (by kernel_rfl)]; exact laidMet_laidAll _ (by kernel_rfl) (by kernel_rfl))) ?_
  intro W base args ds gs before hval0 hW hL hsh
  have hval : ∀ (j : Nat) t v, Tryz.f3.params[j]? = some t → args[j]? = some v → Value.okWide Tryz.prog W .any base t v := hval0
  have hW' := hW
  obtain ⟨p, q, hA0, hV, rfl, _, _⟩ := hW
  have hA : DataW.TrodAll enc Tryz.prog W 0 (fun _ => true) true Tryz.f3.params.toList args.toList ds p := hA0
  rw [Tryz.params3] at hA hval
  obtain ⟨v0, d0, rfl, rfl, h0⟩ := trodAll_one hA
  obtain ⟨rfl, rfl⟩ := trodVars_none hV
  obtain ⟨len, hv⟩ := arg_slice Tryz.underlying22 (hval 0 22 v0 rfl rfl)
  clear hA0 hval0
  simp only [List.append_nil] at hW'
  have hlt : ∀ x ∈ p, x.block < W.heap.size := fun x hx => by simpa using hW'.lt x hx
  have hlib : LibW W := ⟨Tryz.laysM219.s1_3 W hsh, tab_of hL⟩
  refine (closed_law mixed (known_ok hlib) (Pb_ok hlib) (Pb_ev len) hv W (start_ok hlib)).mono fun e W' ⟨he, hnx⟩ => ?_
  subst he
  refine ⟨_, rfl, _, _, _, [] ++ [], p, [], hW', ?_, ?_, rfl, hnx.frame _, fun h => by cases h⟩
  · exact trodAll_mk1 (shut_bool Tryz.underlying4 true)
  · exact trodAll_mk1 (Below.trod laidOut (by kernel_rfl) (of_decide_eq_true (by kernel_rfl)) h0 hnx hlt)

theorem parseBinds_holds : Rows.ParseBindsSaid :=
  OpenClaim.holds_of_wide 3 Tryz.f3 rfl rfl rfl rfl rfl rfl rfl ⟨rfl, rfl, rfl, rfl, rfl⟩ rfl rfl rfl rfl rfl (by kernel_rfl) Tryz.func3 (by kernel_rfl)
    (of_decide_eq_true (by kernel_rfl)) (by unfold Func.isWrapper; first | (rw [if_pos (by decide +kernel)]; kernel_rfl) | (rw [if_neg (by decide +kernel)]; exact ⟨rfl, rfl⟩))
    (fun os started H enc _ => parseBinds_lifted os started H enc)


end Go.Proofs.YtpepepkfjimoeaaGreatDoor

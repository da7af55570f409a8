/- The evaluator, and what it says. -/
import Derived.Test.YtpepepkfjimoeaaGreatRows
import Derived.ProofKit
import Derived.HandedShaped
import Derived.Test.YtpepepkfjimoeaaGreatVg
namespace Go.Proofs.YtpepepkfjimoeaaGreat
open Go.ChangeShapes Go.WideShapes Go.ChangeAt Go.RowKit Go.Proofs.YtpepepkfjimoeaaGreat.Ev

def okB (r : O) : Bool := match r with
  | .ok (.bool true) _ => true
  | _ => false

theorem okB_spec {r : O} (h : okB r = true) : ∃ h', r = .ok (.bool true) h' := by
  unfold okB at h
  split at h
  · exact ⟨_, rfl⟩
  · cases h

theorem empty_hr (w : World) : HR ⟨.nil, 0⟩ (fun _ => none) w :=
  ⟨fun id o h => (by cases h), fun i j oi oj a b h => (by cases h), fun id _ => ⟨rfl, rfl⟩, fun id l h => (by cases h)⟩

/-- a closed law: what the evaluator says, the program does -/
theorem closed_law {P : Program} (hm : P.follows .mixedOrders = true) {T : List Ent} (hT : ∀ x ∈ T, x.Ok P) {n : Nat} {f : FuncId} {len : Nat} (h : okB (callT P T n f (.cons (.slen len) .nil) ⟨.nil, 0⟩) = true) (A : Option Addr) (c : Nat) (w : World) :
    Calls P f #[.slice A len c] w fun e w' => e = .returned (.bool true) ∧ Below w.heap.size w w' := by
  obtain ⟨h', hr⟩ := okB_spec h
  refine (callT_ok hm hT n f _ _ _ _ hr (fun _ => none) w #[.slice A len c] (empty_hr w) ⟨_, _, rfl, ⟨A, c, rfl⟩, rfl⟩).mono fun e w' ⟨ι', u, he, hv, _, hs⟩ => ?_
  have hu : u = .bool true := hv
  subst hu
  exact ⟨he, hs.os, hs.tape, hs.output, hs.size, fun g hg => hs.blk g hg fun ⟨id, l, h1, _⟩ => by cases h1⟩

theorem Tryz.own : ownKnob Tryz.prog.godebug = none := by kernel_rfl
theorem Tryz.laidOut : laidOutB Tryz.prog = true := by kernel_rfl
theorem Tryz.mixed : Tryz.prog.follows .mixedOrders = true := by kernel_rfl

set_option maxRecDepth 100000 in
theorem checkPlaces_lifted (hev : ∀ (len : Nat) (A : Option Addr) (c : Nat) (w : World), Calls Tryz.prog 5 #[.slice A len c] w fun e w' => e = .returned (.bool true) ∧ Below w.heap.size w w') (os : Os) (started : os.Started) (H : Type) (enc : TypeId × Value → H) :
    ReturnsInHanded {} Tryz.checked os 5 .any (Rows.checkPlacesSpec.pre6 enc Tryz.prog Tryz.f5 Rows.checkPlacesRow.domain false) (Rows.checkPlacesSpec.post enc Tryz.prog Tryz.f5 false true false false) := by
  refine returnsInHanded_of_change_shaped (C := Tryz.checked) Tryz.own started (by kernel_rfl) Tryz.func5
    (ChangeSpec.witness6 (enc := enc) (C := Tryz.checked) false ⟨#[], #[.slice none 0 0], []⟩ 8 (by kernel_rfl) (by kernel_rfl) (by kernel_rfl) (by kernel_rfl)) ?_
  intro W base args ds gs before hval0 hW _ _ hsh _
  have hval : ∀ (j : Nat) t v, Tryz.f5.params[j]? = some t → args[j]? = some v → Value.okWide Tryz.prog W .any base t v := hval0
  have hW' := hW
  obtain ⟨p, q, hA0, hV, rfl, _, _⟩ := hW
  have hA : DataW.TrodAll enc Tryz.prog W 0 (fun _ => true) true Tryz.f5.params.toList args.toList ds p := hA0
  rw [Tryz.params5] at hA hval
  obtain ⟨v0, d0, rfl, rfl, h0⟩ := trodAll_one hA
  obtain ⟨rfl, rfl⟩ := trodVars_none hV
  obtain ⟨a0, len, cap, rfl⟩ := okWide_slice Tryz.underlying22 (hval 0 22 v0 rfl rfl)
  clear hA0 hval0
  simp only [List.append_nil] at hW'
  have hlt : ∀ x ∈ p, x.block < W.heap.size := fun x hx => by simpa using hW'.lt x hx
  refine (hev len a0 cap W).mono fun e W' ⟨he, hnx⟩ => ?_
  subst he
  refine ⟨_, rfl, _, _, _, [] ++ [], p, [], hW', ?_, ?_, rfl, hnx.frame _, fun h => by cases h⟩
  · exact trodAll_mk1 (shut_bool Tryz.underlying4 true)
  · exact trodAll_mk1 (Below.trod Tryz.laidOut (by kernel_rfl) (of_decide_eq_true (by kernel_rfl)) h0 hnx hlt)

theorem checkPlaces_said (hev : ∀ (len : Nat) (A : Option Addr) (c : Nat) (w : World), Calls Tryz.prog 5 #[.slice A len c] w fun e w' => e = .returned (.bool true) ∧ Below w.heap.size w w') : Rows.CheckPlacesSaid :=
  OpenClaim.holds_of_wide 5 Tryz.f5 rfl rfl rfl rfl rfl rfl rfl ⟨rfl, rfl, rfl, rfl, rfl⟩ rfl rfl rfl rfl rfl (by kernel_rfl) Tryz.func5 (by kernel_rfl)
    (of_decide_eq_true (by kernel_rfl)) (by unfold Func.isWrapper; first | (rw [if_pos (by decide +kernel)]; kernel_rfl) | (rw [if_neg (by decide +kernel)]; exact ⟨rfl, rfl⟩))
    (fun os started H enc _ => checkPlaces_lifted hev os started H enc)

end Go.Proofs.YtpepepkfjimoeaaGreat

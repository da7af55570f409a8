/- DescShipped, whatever the argument: the law returns true, and its argument reads as it did. -/
import Derived.Test.YtpepepkfjimoeaaGreatDoorVy
import Derived.Test.YtpepepkfjimoeaaGreatDoorDs0
import Derived.Test.YtpepepkfjimoeaaGreatDoorDs2
import Derived.Test.YtpepepkfjimoeaaGreatDoorDs4
import Derived.Test.YtpepepkfjimoeaaGreatDoorDs5
import Derived.Test.YtpepepkfjimoeaaGreatDoorDs8
import Derived.Test.YtpepepkfjimoeaaGreatDoorDs11
namespace Go.Proofs.YtpepepkfjimoeaaGreatDoor
open Go.ChangeShapes Go.WideShapes Go.ChangeAt Go.RowKit Go.Proofs.YtpepepkfjimoeaaGreatDoor.Ev

/-- two slices -/
theorem arg_ask2 {P : Program} {w : World} {r : Reach} {base : Nat} {t ta tb ea eb : TypeId} {fs : Array Field} {v : Value} (ht : P.underlying t = some (.struct fs)) (hc : P.cellsOf t = 2) (hts : P.cellTypes P.depth t = some [ta, tb]) (ha : P.underlying ta = some (.slice ea)) (hb : P.underlying tb = some (.slice eb)) (h : Value.okWide P w r base t v) :
    ∃ la lb, VRl (fun _ => none) (.cons (.agg (.cons (.slen la) (.cons (.slen lb) .nil))) .nil) [v] := by
  simp only [Value.okWide, ht] at h
  obtain ⟨⟨cs⟩, rfl, hsz, ts, h1, _, h2⟩ := h
  rw [hts] at h1
  injection h1 with h1
  subst h1
  rw [hc] at hsz
  match cs, hsz with
  | [x, y], _ =>
    obtain ⟨u, q1, q2⟩ := h2 0 x rfl
    obtain ⟨u', q3, q4⟩ := h2 1 y rfl
    cases (show some ta = some u from q1)
    cases (show some tb = some u' from q3)
    obtain ⟨a1, l1, c1, rfl⟩ := cell_slice ha q2
    obtain ⟨a2, l2, c2, rfl⟩ := cell_slice hb q4
    refine ⟨l1, l2, _, _, rfl, ⟨[_, _], rfl, ⟨_, _, rfl, ⟨a1, c1, rfl⟩, _, _, rfl, ⟨a2, c2, rfl⟩, rfl⟩, ?_⟩, rfl⟩
    intro u hu
    simp only [List.mem_cons, List.not_mem_nil, or_false] at hu
    rcases hu with rfl | rfl <;> rfl

set_option maxRecDepth 100000 in
/-- what this row's list gives: the table of blanks -/
theorem descShipped_tab {W : World} (h : laidMetH Tryz.prog Rows.descShippedRow.laid W) : TabW W := by
  rw [MakeChecks.laidMetH_plain _ _ _ (by kernel_rfl)] at h
  have ht : (Tryz.prog.globals[(Tryz.prog.globalNamed "strings.asciiSpace").getD 0]?).map (·.type) = some 165 := by kernel_rfl
  have hg : Tryz.prog.globalNamed "strings.asciiSpace" = some ((Tryz.prog.globalNamed "strings.asciiSpace").getD 0) := by kernel_rfl
  have h2 : laidMet Tryz.prog [("strings.asciiSpace", Rows.laid_strings_asciiSpace)] W := h.tail.tail.tail.tail.tail.tail
  rw [laid_tab] at h2
  exact Lib.tabIs_of_head (rest := []) hg ht Tryz.underlying165 Tryz.underlying5 (by kernel_rfl) (by kernel_rfl) h2

def DsAll : Tab := [(27, [DsE0, DsE1]), (11, [DsE104, DsE271]), (12, [DsE159, DsE329]), (13, [DsE160, DsE330]), (39, [DsE332])]
theorem Ds_ok {W : World} (hW : LibW W) : DsAll.Ok Tryz.prog (KG W) := (Tab.ok_cons (f := 27) (Ent.ok_cons (DsK0 hW) (Ent.ok_cons (DsK1 hW) Ent.ok_nil)) (Tab.ok_cons (f := 11) (Ent.ok_cons (DsK104 hW) (Ent.ok_cons (DsK271 hW) Ent.ok_nil)) (Tab.ok_cons (f := 12) (Ent.ok_cons (DsK159 hW) (Ent.ok_cons (DsK329 hW) Ent.ok_nil)) (Tab.ok_cons (f := 13) (Ent.ok_cons (DsK160 hW) (Ent.ok_cons (DsK330 hW) Ent.ok_nil)) (Tab.ok_cons (f := 39) (Ent.ok_cons (DsK332 hW) Ent.ok_nil) Tab.ok_nil)))))
set_option maxRecDepth 100000 in
theorem Ds_ev (la lb : Nat) : okB (callT Tryz.prog known DsAll 1000 4 (.cons (.agg (.cons (.slen la) (.cons (.slen lb) .nil))) .nil) ⟨.nil, 0⟩) = true := by kernel_rfl

set_option maxRecDepth 100000 in
theorem descShipped_lifted (os : Os) (started : os.Started) (H : Type) (enc : TypeId × Value → H) :
    ReturnsInHanded {} Tryz.checked os 4 .any (fun w args => (Rows.descShippedSpec.pre enc Tryz.prog Tryz.f4 Rows.descShippedRow.domain false w args ∧ laidMetH Tryz.prog Rows.descShippedRow.laid w) ∧ sizedMet enc Tryz.prog Tryz.f4 (OpenSpec.ofChange Rows.descShippedSpec) false w args)
      (Rows.descShippedSpec.post enc Tryz.prog Tryz.f4 false true false false) := by
  refine returnsInHanded_and_shaped (C := Tryz.checked) (X := fun w _ => laidMetH Tryz.prog Rows.descShippedRow.laid w) (fun _ _ _ hh h => h.of_heap hh) own started (by kernel_rfl) Tryz.func4
    (ChangeSpec.witness_shaped (enc := enc) (C := Tryz.checked) (os := os) (X := fun w _ => laidMetH Tryz.prog Rows.descShippedRow.laid w) false (World.laidAll Tryz.prog os Rows.descShippedRow.laid) #[.agg #[.slice none 0 0, .slice none 0 0]] 8 (World.laidAll_os _ _ _)
      (World.shaped_of_ZipB (by kernel_rfl) (by kernel_rfl)) (by kernel_rfl) (by kernel_rfl) (by kernel_rfl)
      (by rw [MakeChecks.laidMetH_plain _ _ _ (by kernel_rfl)]; exact laidMet_laidAll _ (by kernel_rfl) (by kernel_rfl))) ?_
  intro W base args ds gs before hval0 hW hL hsh
  have hval : ∀ (j : Nat) t v, Tryz.f4.params[j]? = some t → args[j]? = some v → Value.okWide Tryz.prog W .any base t v := hval0
  have hW' := hW
  obtain ⟨p, q, hA0, hV, rfl, _, _⟩ := hW
  have hA : DataW.TrodAll enc Tryz.prog W 0 (fun _ => true) true Tryz.f4.params.toList args.toList ds p := hA0
  rw [Tryz.params4] at hA hval
  obtain ⟨v0, d0, rfl, rfl, h0⟩ := trodAll_one hA
  obtain ⟨rfl, rfl⟩ := trodVars_none hV
  obtain ⟨la, lb, hv⟩ := arg_ask2 Tryz.underlying37 (by kernel_rfl) (show Tryz.prog.cellTypes Tryz.prog.depth 37 = some [35, 22] by kernel_rfl) Tryz.underlying35 Tryz.underlying22 (hval 0 37 v0 rfl rfl)
  clear hA0 hval0
  simp only [List.append_nil] at hW'
  have hlt : ∀ x ∈ p, x.block < W.heap.size := fun x hx => by simpa using hW'.lt x hx
  have hlib : LibW W := ⟨Tryz.laysM219.s1_3 W hsh, descShipped_tab hL⟩
  refine (closed_law mixed (known_ok hlib) (Ds_ok hlib) (Ds_ev la lb) hv W (start_ok hlib)).mono fun e W' ⟨he, hnx⟩ => ?_
  subst he
  refine ⟨_, rfl, _, _, _, [] ++ [], p, [], hW', ?_, ?_, rfl, hnx.frame _, fun h => by cases h⟩
  · exact trodAll_mk1 (shut_bool Tryz.underlying4 true)
  · exact trodAll_mk1 (Below.trod laidOut (by kernel_rfl) (of_decide_eq_true (by kernel_rfl)) h0 hnx hlt)

theorem descShipped_holds : Rows.DescShippedSaid :=
  OpenClaim.holds_of_wide 4 Tryz.f4 rfl rfl rfl rfl rfl rfl rfl ⟨rfl, rfl, rfl, rfl, rfl⟩ rfl rfl rfl rfl rfl (by kernel_rfl) Tryz.func4 (by kernel_rfl)
    (of_decide_eq_true (by kernel_rfl)) (by unfold Func.isWrapper; first | (rw [if_pos (by decide +kernel)]; kernel_rfl) | (rw [if_neg (by decide +kernel)]; exact ⟨rfl, rfl⟩))
    (fun os started H enc _ => descShipped_lifted os started H enc)


end Go.Proofs.YtpepepkfjimoeaaGreatDoor

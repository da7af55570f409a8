/- Which rules may be: desc.May, gantletref11.Rules walked. -/
import Derived.Test.YthdicdkgfmiepaaGreatDoorRuT
namespace Go.Proofs.YthdicdkgfmiepaaGreatDoor
open Go.RowKit

def okRule (r : Rule) : Bool := isNt r.nt && (fitP r.pat 0 && (decide (0 ≤ r.cost) && (decide (r.cost ≤ 65535) && formB r.form)))
def mayRs (rs : List Rule) : Bool := rs.all okRule && decide (rs.length ≤ 96)

theorem sizeP_neg (p : Pat) : sizeP p 8 < 0 ↔ fitP p 0 = false := by
  unfold sizeP fitP
  have := patN_pos p
  by_cases h : patOk p = true ∧ (patN p : Int) ≤ 8
  · rw [if_pos h]
    have h2 : (decide (0 + (patN p : Int) ≤ 8)) = true := by simp; omega
    rw [h.1, h2]; simp
  · rw [if_neg h]
    simp only [Bool.and_eq_false_iff, decide_eq_false_iff_not]
    constructor
    · intro _
      by_cases h1 : patOk p = true
      · right; exact fun h2 => h ⟨h1, by omega⟩
      · left; simpa using h1
    · intro _; omega

theorem mayRs_false (rs : List Rule) (k : Nat) (h : k < rs.length) (hb : okRule rs[k] = false) : mayRs rs = false := by
  unfold mayRs
  have : rs.all okRule = false := by
    rw [List.all_eq_false]
    exact ⟨rs[k], List.getElem_mem h, by simp [hb]⟩
  rw [this]; rfl
theorem mayRs_end (rs : List Rule) (h : ∀ j (hj : j < rs.length), okRule rs[j] = true) : mayRs rs = decide (rs.length ≤ 96) := by
  unfold mayRs
  have : rs.all okRule = true := by
    rw [List.all_eq_true]
    intro x hx
    obtain ⟨j, hj, rfl⟩ := List.getElem_of_mem hx
    exact h j hj
  rw [this]; rfl

set_option maxRecDepth 100000 in
set_option maxHeartbeats 4000000 in
theorem may_any (rs : List Rule) (hwf : RulesWf rs) (A : Option Addr) (c : Nat) (w : World) (hr : RulesIn w A c rs) :
    Calls Tryz.prog 17 #[.slice A rs.length c] w (SomeBoolBelow (mayRs rs) w) := by
  obtain ⟨hl, hw⟩ := hwf
  unfold reachBytes at hl
  obtain ⟨n, hn⟩ : ∃ n, Hid (rs.length = n) := ⟨_, Lib.hid rfl⟩
  obtain ⟨f, hf⟩ : ∃ x, Hid (mayRs rs = x) := ⟨_, Lib.hid rfl⟩
  have HR := Lib.hid hr
  rw [hn.out] at hl
  rw [hn.out, hf.out]
  clear hr
  go_enter Tryz.func17, Tryz.ntmps17
  go_wp2_with fail
  go_loopw [7] (fun i wr => ∃ k : Nat, k ≤ n ∧ i = .int .i64 k ∧ Below w.heap.size w wr ∧ Hid (∀ j (h : j < rs.length), j < k → okRule rs[j] = true)) (fun i _ => n - (intOf i).toNat)
  case atStart => exact ⟨0, by omega, rfl, Below.refl _ _, Lib.hid (fun j _ h => absurd h (by omega))⟩
  case round =>
    obtain ⟨k, hk, rfl, hb, hall⟩ := hrel
    obtain ⟨wo, rfl⟩ : ∃ wo : World, wo = wr := ⟨_, rfl⟩
    by_cases hlt : k < n
    · have hkl : k < rs.length := by rw [hn.out]; exact hlt
      obtain ⟨ok, hrs⟩ := HR.out.below hb
      obtain ⟨g, off, B, d, rfl, _, hg, ⟨a0, a1, a2, a3, a4, a5⟩, _, hpi⟩ := rules_at hrs k hkl
      have hfl := (hw rs[k] (List.getElem_mem hkl)).2.2.2
      unfold reachBytes at hfl
      obtain ⟨r, hre⟩ : ∃ r, Hid (rs[k] = r) := ⟨_, Lib.hid rfl⟩
      rw [hre.out] at a0 a1 a2 a3 a4 a5 hpi hfl
      have c1 := fun W => isNt_any r.nt W
      have c2 := fun W => size_any r.pat B d 8 W
      have c3 := fun W => formed_any r.form (by omega) W
      have HP : Hid (PatIn wo B d r.pat) := Lib.hid ⟨_, hpi⟩
      have hbz := hb.size
      have hfal : Hid (okRule r = false → f = false) := Lib.hid (fun h => by rw [← hf.out, mayRs_false rs k hkl (by rw [hre.out]; exact h)])
      have hsn := sizeP_neg r.pat
      obtain ⟨z, hz⟩ : ∃ x, Hid (sizeP r.pat 8 = x) := ⟨_, Lib.hid rfl⟩
      obtain ⟨b1, hb1⟩ : ∃ x, Hid (isNt r.nt = x) := ⟨_, Lib.hid rfl⟩
      obtain ⟨b2, hb2⟩ : ∃ x, Hid (fitP r.pat 0 = x) := ⟨_, Lib.hid rfl⟩
      obtain ⟨b3, hb3⟩ : ∃ x, Hid (formB r.form = x) := ⟨_, Lib.hid rfl⟩
      have hok : Hid (okRule r = (b1 && (b2 && (decide (0 ≤ r.cost) && (decide (r.cost ≤ 65535) && b3))))) := Lib.hid (by unfold okRule; rw [hb1.out, hb2.out, hb3.out])
      rw [hz.out, hb2.out] at hsn
      rw [hz.out] at c2
      rw [hb1.out] at c1
      rw [hb3.out] at c3
      have HSN := Lib.hid hsn
      clear hrs hpi hsn hw
      go_wp2_with fail
      obtain ⟨w1, hw1⟩ : ∃ w1, w1 = wo.alloc (.cells #[.int .i64 r.nt, .int .i64 r.pat.op, .int .i64 r.pat.nt, .slice B r.pat.kids.length d, .int .i64 r.cost, .string ⟨r.form.toArray⟩] 47) := ⟨_, rfl⟩
      have hb4 : Below wo.heap.size wo w1 := by rw [hw1]; exact below_alloc _ _
      have r0 : w1.cell? ⟨wo.heap.size, 0, none⟩ = some (.int .i64 r.nt) := by rw [hw1]; simp
      have r1 : w1.cell? ⟨wo.heap.size, 1, none⟩ = some (.int .i64 r.pat.op) := by rw [hw1]; simp
      have r2 : w1.cell? ⟨wo.heap.size, 2, none⟩ = some (.int .i64 r.pat.nt) := by rw [hw1]; simp
      have r3 : w1.cell? ⟨wo.heap.size, 3, none⟩ = some (.slice B r.pat.kids.length d) := by rw [hw1]; simp
      have r4 : w1.cell? ⟨wo.heap.size, 4, none⟩ = some (.int .i64 r.cost) := by rw [hw1]; simp
      have r5 : w1.cell? ⟨wo.heap.size, 5, none⟩ = some (.string ⟨r.form.toArray⟩) := by rw [hw1]; simp
      have hlt1 : wo.heap.size < w1.heap.size := by rw [hw1]; simp
      have HP1 : Hid (PatIn w1 B d r.pat) := Lib.hid (HP.out.below hb4)
      have hb5 : Below w.heap.size w w1 := hb.trans (hb4.mono hbz)
      rw [← hw1]
      clear hw1 a0 a1 a2 a3 a4 a5
      refine (c1 _).mono ?_
      rintro e w' ⟨rfl, rfl⟩
      go_wp2_with (first | (go_at_call 40; refine (c2 _ (show PatIn _ _ _ _ from HP1.out) (by omega) (by omega)).mono ?_; rintro e w3 ⟨rfl, hb6⟩; obtain ⟨x0, x1, x2, x3, x4, x5⟩ := later6 hb6 ⟨r0, r1, r2, r3, r4, r5⟩; have hb7 := hb5.trans (hb6.mono hb5.size)) | (go_at_call 41; refine (c3 _).mono ?_; rintro e w' ⟨rfl, rfl⟩))
      all_goals
        have hs := HSN.out
        first
          | (go_roundw
             case rel =>
               refine ⟨k + 1, by omega, by go_num, hb7, Lib.hid (fun j hj hjk => ?_)⟩
               by_cases e : j = k
               · subst e; rw [hre.out, hok.out]; grind
               · exact hall.out j hj (by omega)
             case measure => simp [intOf]; omega)
          | (go_ret
             refine ⟨ret_bool ?_, by first | exact hb7 | exact hb5⟩
             symm
             apply hfal.out
             rw [hok.out]
             grind)
    · obtain rfl : k = n := by omega
      go_wp2_with fail
      go_ret
      refine ⟨ret_bool ?_, hb⟩
      rw [← hf.out, mayRs_end rs (fun j hj => hall.out j hj (by rw [← hn.out]; exact hj)), hn.out]
      exact decide_eq_decide.2 (by omega)

set_option maxRecDepth 100000 in
set_option maxHeartbeats 4000000 in
theorem mayR_any (rs : List Rule) (hwf : RulesWf rs) (A : Option Addr) (c : Nat) (w : World) (hr : RulesIn w A c rs) :
    Calls Tryz.prog 8 #[.slice A rs.length c] w (SomeBoolBelow (mayRs rs) w) := by
  obtain ⟨hl, hw⟩ := hwf
  unfold reachBytes at hl
  obtain ⟨n, hn⟩ : ∃ n, Hid (rs.length = n) := ⟨_, Lib.hid rfl⟩
  obtain ⟨f, hf⟩ : ∃ x, Hid (mayRs rs = x) := ⟨_, Lib.hid rfl⟩
  have HR := Lib.hid hr
  rw [hn.out] at hl
  rw [hn.out, hf.out]
  clear hr
  go_enter Tryz.func8, Tryz.ntmps8
  go_wp2_with fail
  go_loopw [3] (fun i wr => ∃ k : Nat, k ≤ n ∧ i = .int .i64 k ∧ Below w.heap.size w wr ∧ Hid (∀ j (h : j < rs.length), j < k → okRule rs[j] = true)) (fun i _ => n - (intOf i).toNat)
  case atStart => exact ⟨0, by omega, rfl, Below.refl _ _, Lib.hid (fun j _ h => absurd h (by omega))⟩
  case round =>
    obtain ⟨k, hk, rfl, hb, hall⟩ := hrel
    obtain ⟨wo, rfl⟩ : ∃ wo : World, wo = wr := ⟨_, rfl⟩
    by_cases hlt : k < n
    · have hkl : k < rs.length := by rw [hn.out]; exact hlt
      obtain ⟨ok, hrs⟩ := HR.out.below hb
      obtain ⟨g, off, B, d, rfl, _, hg, ⟨a0, a1, a2, a3, a4, a5⟩, _, hpi⟩ := rules_at hrs k hkl
      have hfl := (hw rs[k] (List.getElem_mem hkl)).2.2.2
      unfold reachBytes at hfl
      obtain ⟨r, hre⟩ : ∃ r, Hid (rs[k] = r) := ⟨_, Lib.hid rfl⟩
      rw [hre.out] at a0 a1 a2 a3 a4 a5 hpi hfl
      have c1 := fun W => between_any r.nt 0 3 W
      have c2 := fun W => fit_any r.pat B d 0 W
      have c3 := fun W => formR_any r.form (by omega) W
      have c4 := fun W => num0_any r.cost 65535 W
      have HP : Hid (PatIn wo B d r.pat) := Lib.hid ⟨_, hpi⟩
      have hbz := hb.size
      have hfal : Hid (okRule r = false → f = false) := Lib.hid (fun h => by rw [← hf.out, mayRs_false rs k hkl (by rw [hre.out]; exact h)])
      obtain ⟨b1, hb1⟩ : ∃ x, Hid (isNt r.nt = x) := ⟨_, Lib.hid rfl⟩
      obtain ⟨b2, hb2⟩ : ∃ x, Hid (fitP r.pat 0 = x) := ⟨_, Lib.hid rfl⟩
      obtain ⟨b3, hb3⟩ : ∃ x, Hid (formB r.form = x) := ⟨_, Lib.hid rfl⟩
      obtain ⟨b4, hb4⟩ : ∃ x, Hid (within r.cost 0 65535 = x) := ⟨_, Lib.hid rfl⟩
      have hok : Hid (okRule r = (b1 && (b2 && (b4 && b3)))) := Lib.hid (by unfold okRule; rw [hb1.out, hb2.out, hb3.out, ← hb4.out]; unfold within; rw [Bool.and_assoc])
      rw [show within r.nt 0 3 = isNt r.nt from rfl, hb1.out] at c1
      rw [hb2.out] at c2
      rw [hb3.out] at c3
      rw [hb4.out] at c4
      clear hrs hpi hw
      go_wp2_with fail
      refine (c2 _ HP.out (by omega) (by omega)).mono ?_
      rintro e w3 ⟨m, rfl, _, hb6⟩
      obtain ⟨x0, x1, x2, x3, x4, x5⟩ := later6 hb6 ⟨a0, a1, a2, a3, a4, a5⟩
      have hb7 := hb.trans (hb6.mono hb.size)
      clear a0 a1 a2 a3 a4 a5
      go_wp2_with (first | (go_at_call 24; refine (c1 _).mono ?_; rintro e w' ⟨rfl, rfl⟩) | (go_at_call 25; refine (c4 _).mono ?_; rintro e w' ⟨rfl, rfl⟩) | (go_at_call 26; refine (c3 _).mono ?_; rintro e w' ⟨rfl, rfl⟩))
      all_goals
        first
          | (go_roundw
             case rel =>
               refine ⟨k + 1, by omega, by go_num, hb7, Lib.hid (fun j hj hjk => ?_)⟩
               by_cases e : j = k
               · subst e; rw [hre.out, hok.out]; grind
               · exact hall.out j hj (by omega)
             case measure => simp [intOf]; omega)
          | (go_ret
             refine ⟨ret_bool ?_, hb7⟩
             symm
             apply hfal.out
             rw [hok.out]
             grind)
    · obtain rfl : k = n := by omega
      go_wp2_with fail
      go_ret
      refine ⟨ret_bool ?_, hb⟩
      rw [← hf.out, mayRs_end rs (fun j hj => hall.out j hj (by rw [← hn.out]; exact hj)), hn.out]
      exact decide_eq_decide.2 (by omega)

end Go.Proofs.YthdicdkgfmiepaaGreatDoor

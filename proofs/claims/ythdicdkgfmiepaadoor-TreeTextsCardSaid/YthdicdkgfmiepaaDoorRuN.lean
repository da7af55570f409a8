/- RuleForms: wakes, and the statement's function walked. -/
import Derived.Test.YthdicdkgfmiepaaDoorRuM
namespace Go.Proofs.YthdicdkgfmiepaaDoor
open Go.RowKit

theorem formOf_addi : formOf [97, 100, 100, 105] = some ⟨0, pO 12 [pN 0, pN 2], 0, [97, 100, 100, 105]⟩ := by kernel_rfl

set_option maxHeartbeats 1000000 in
theorem wakes12_any (w : World) (ht : Tab w) :
    Calls Tryd.prog 13 #[] w fun e w' => e = .returned (.bool true) ∧ Below w.heap.size w w' := by
  have hF := fun W hW => form_any [97, 100, 100, 105] W hW
  rw [formOf_addi] at hF
  go_enter Tryd.func13, Tryd.ntmps13
  go_wp2_with fail
  refine (hF _ ht).mono ?_
  rintro e w1 ⟨A, c, rfl, hp, hb⟩
  obtain ⟨A', c', he, _, hpp⟩ := rep_rule_inv hp
  simp only [Option.getD_some, List.cons.injEq, Value.slice.injEq, true_and, and_true] at he
  obtain ⟨rfl, _, rfl⟩ := he
  obtain ⟨A2, c2, he2, _, hk⟩ := rep_pat_inv hpp
  simp only [List.cons.injEq, Value.slice.injEq, true_and, and_true] at he2
  obtain ⟨rfl, _, rfl⟩ := he2
  obtain ⟨g, off, B, d, rfl, _, hg, ⟨c0, c1, c2⟩, _⟩ := pats_at (ps := [pN 0, pN 2]) hk 1 (by simp)
  have c1' : w1.cell? ⟨g, off + 3 + 1, none⟩ = some (.int .i64 2) := c1
  have c1'' : w1.cell? ⟨g, off + 4, none⟩ = some (.int .i64 2) := c1
  simp only [Option.getD_some, Option.isSome_some, if_true, pO, pN, Pat.op, Pat.nt, Pat.kids, List.length_cons, List.length_nil]
  clear c0 c1 c2 hp hpp hk hF
  go_wp2_with (go_at_call 10; refine (num12_any _ _).mono ?_; rintro e w' ⟨rfl, rfl⟩)
  go_ret
  exact ⟨rfl, hb.alloc (by have := hb.size; omega) _⟩

theorem strs_at {w : World} {ok : Nat → Prop} {S : List (List UInt8)} {A : Option Addr} {n c : Nat} (h : Rep w ok (.lst 1 (S.map .str)) [.slice A n c]) (k : Nat) (hk : k < S.length) :
    ∃ (g off : Nat), A = some ⟨g, off, none⟩ ∧ ok g ∧ g < w.heap.size ∧ w.cell? ⟨g, off + k, none⟩ = some (.string ⟨(S[k]).toArray⟩) := by
  obtain ⟨g, off, a, hA, hok, hlt, hl, hr, hc⟩ := h.at_ k (by simpa using hk)
  rw [List.getElem_map] at hr
  have := rep_str_inv hr
  subst this
  exact ⟨g, off, hA, hok, hlt, by have := hc 0 (by omega); simpa using this⟩

theorem formOf_self (k : Nat) (hk : k < formsR.length) : formOf formsR[k].form = some formsR[k] := by
  have h0 : ((List.range 60).all fun k => decide (idxOf formsR (formsR.getD k noRule).form = k)) = true := by kernel_rfl
  have h1 : idxOf formsR formsR[k].form = k := by
    have h2 := List.all_eq_true.1 h0 k (by rw [List.mem_range, ← formsR_len]; exact hk)
    have h3 : formsR.getD k noRule = formsR[k] := by rw [List.getD_eq_getElem?_getD, List.getElem?_eq_getElem hk]; rfl
    rw [h3] at h2
    simpa using h2
  rcases formOf_idx formsR[k].form with ⟨h2, _⟩ | ⟨k', hk', h2, h3⟩
  · omega
  · have : k' = k := by omega
    subst this; exact h3

theorem same_self {α : Type} (a : α) : same a a = true := (same_iff a a).2 rfl

theorem later6 {w w' : World} {p0 p1 p2 p3 p4 p5 : Addr} {u0 u1 u2 u3 u4 u5 : Value} (hb : Below w.heap.size w w') (h : w.cell? p0 = some u0 ∧ w.cell? p1 = some u1 ∧ w.cell? p2 = some u2 ∧ w.cell? p3 = some u3 ∧ w.cell? p4 = some u4 ∧ w.cell? p5 = some u5) : w'.cell? p0 = some u0 ∧ w'.cell? p1 = some u1 ∧ w'.cell? p2 = some u2 ∧ w'.cell? p3 = some u3 ∧ w'.cell? p4 = some u4 ∧ w'.cell? p5 = some u5 :=
  ⟨cell_later hb h.1, cell_later hb h.2.1, cell_later hb h.2.2.1, cell_later hb h.2.2.2.1, cell_later hb h.2.2.2.2.1, cell_later hb h.2.2.2.2.2⟩

set_option maxRecDepth 100000 in
set_option maxHeartbeats 4000000 in
theorem ruleForms_any (S : List (List UInt8)) (ok : Nat → Prop) (A1 A : Option Addr) (n1 c1 c : Nat) (W : World) (hS0 : Rep W ok (.lst 1 (S.map .str)) [.slice A S.length c]) (ht : Tab W) :
    Calls Tryd.prog 3 #[.agg #[.slice A1 n1 c1, .slice A S.length c]] W (SomeBoolBelow true W) := by
  obtain ⟨_, _, he, hm0, hm⟩ := hS0.len
  rw [List.length_map] at hm0
  have hSl : S.length ≤ 9223372036854775807 := by unfold maxLen at hm; omega
  clear he hm0 hm
  obtain ⟨m, hSm⟩ : ∃ m, Hid (S.length = m) := ⟨_, Lib.hid rfl⟩
  rw [hSm.out] at hSl hS0 ⊢
  have HS := Lib.hid hS0
  clear hS0
  go_enter Tryd.func3, Tryd.ntmps3
  go_wp2_with fail
  refine (refForms_any _).mono ?_
  rintro e w1 ⟨v1, rfl, ho1, hb1⟩
  have hrep1 := ho1.rep
  obtain ⟨B1, d1, rfl, _⟩ := hrep1.len
  rw [List.length_map] at hrep1 ⊢
  have hz1 : W.heap.size < w1.heap.size := by have := hb1.size; simp at this; omega
  have hb01 : Below W.heap.size W w1 := (below_alloc _ _).trans (hb1.mono (by simp))
  go_wp2_with fail
  refine (all_any _ (tab_alloc ht _ hb01)).mono ?_
  rintro e w2 ⟨v2, rfl, ho2, hb2⟩
  have hrep2 := ho2.rep
  obtain ⟨B2, d2, rfl, _⟩ := hrep2.len
  rw [List.length_map] at hrep2 ⊢
  obtain ⟨n, hn⟩ : ∃ n, Hid (formsR.length = n) := ⟨_, Lib.hid rfl⟩
  have hl2 : n ≤ 100000 := by rw [← hn.out, formsR_len]; omega
  rw [hn.out] at hrep1 hrep2 ⊢
  have hb02 : Below W.heap.size W w2 := hb01.trans (hb2.mono hb01.size)
  have HR1 : Hid (Rep w2 (fun _ => True) (.lst 6 (formsR.map encR)) [.slice B1 n d1]) := Lib.hid (hrep1.below hb2).any
  have HR2 : Hid (Rep w2 (fun _ => True) (.lst 1 (formsR.map formD)) [.slice B2 n d2]) := Lib.hid hrep2.any
  have hbox : w2.cell? ⟨W.heap.size, 1, none⟩ = some (.slice A m c) := by
    rw [hb2.cell (p := ⟨W.heap.size, 1, none⟩) (by omega), hb1.cell (p := ⟨W.heap.size, 1, none⟩) (by simp)]
    simp
  clear hrep1 hrep2 ho1 ho2
  go_wp2_with fail
  go_loopw [5] (fun i wr => ∃ k : Nat, k ≤ n ∧ i = .int .i64 k ∧ Below w2.heap.size w2 wr) (fun i _ => n - (intOf i).toNat)
  case atStart => exact ⟨0, by omega, rfl, Below.refl _ _⟩
  case round =>
    obtain ⟨k, hk, rfl, hb⟩ := hrel
    obtain ⟨wo, rfl⟩ : ∃ wo : World, wo = wr := ⟨_, rfl⟩
    have hb0 : Below W.heap.size W wo := hb02.trans (hb.mono hb02.size)
    by_cases hlt : k < n
    · have hkl : k < formsR.length := by rw [hn.out]; exact hlt
      obtain ⟨g, off, B, d, rfl, _, hg, ⟨c0, c1, c2, c3, c4, c5⟩, _, hp⟩ := rules_at (HR1.out.below hb) k hkl
      obtain ⟨g', off', rfl, _, hg', e0⟩ := strs_at (S := formsR.map (·.form)) (by rw [List.map_map]; exact HR2.out.below hb) k (by simpa using hkl)
      rw [List.getElem_map] at e0
      have hF := formOf_self k hkl
      obtain ⟨r, hre⟩ : ∃ r, Hid (formsR[k] = r) := ⟨_, Lib.hid rfl⟩
      rw [hre.out] at c0 c1 c2 c3 c4 c5 hp e0 hF
      have hcall := fun W hW => form_any r.form W hW
      rw [hF] at hcall
      simp only [Option.getD_some, Option.isSome_some, if_true] at hcall
      clear hF
      have HP : Hid (PatIn wo B d r.pat) := Lib.hid ⟨_, hp⟩
      clear hp
      go_wp2_with fail
      refine (hcall _ (tab_alloc ht _ hb0)).mono ?_
      rintro e w3 ⟨A3, c3', rfl, hp3, hb3⟩
      have HP3 : Hid (PatIn w3 A3 c3' r.pat) := by
        obtain ⟨A', c', he, _, hpp⟩ := rep_rule_inv hp3
        simp only [List.cons.injEq, Value.slice.injEq, true_and, and_true] at he
        obtain ⟨rfl, rfl⟩ := he
        exact Lib.hid ⟨_, hpp⟩
      have HP' : Hid (PatIn w3 B d r.pat) := Lib.hid (HP.out.below hb3)
      obtain ⟨f0, f1, f2, f3, f4, f5⟩ := later6 hb3 ⟨c0, c1, c2, c3, c4, c5⟩
      have f6 := cell_later hb3 e0
      have hg3 : g < w3.heap.size := Nat.lt_of_lt_of_le hg hb3.size
      have hg3' : g' < w3.heap.size := Nat.lt_of_lt_of_le hg' hb3.size
      clear c0 c1 c2 c3 c4 c5 e0 hp3 hcall hbox
      go_wp2_with fail
      obtain ⟨w4, hw4⟩ : ∃ w4, w4 = w3.alloc (.cells #[.int .i64 r.nt, .int .i64 r.pat.op, .int .i64 r.pat.nt, .slice A3 r.pat.kids.length c3', .int .i64 r.cost, .string ⟨r.form.toArray⟩] 33) := ⟨_, rfl⟩
      have hb4 : Below w3.heap.size w3 w4 := by rw [hw4]; exact below_alloc _ _
      obtain ⟨q0, q1, q2, q3, q4, q5⟩ := later6 hb4 ⟨f0, f1, f2, f3, f4, f5⟩
      have q6 := cell_later hb4 f6
      have r0 : w4.cell? ⟨w3.heap.size, 0, none⟩ = some (.int .i64 r.nt) := by rw [hw4]; simp
      have r1 : w4.cell? ⟨w3.heap.size, 1, none⟩ = some (.int .i64 r.pat.op) := by rw [hw4]; simp
      have r2 : w4.cell? ⟨w3.heap.size, 2, none⟩ = some (.int .i64 r.pat.nt) := by rw [hw4]; simp
      have r3 : w4.cell? ⟨w3.heap.size, 3, none⟩ = some (.slice A3 r.pat.kids.length c3') := by rw [hw4]; simp
      have r4 : w4.cell? ⟨w3.heap.size, 4, none⟩ = some (.int .i64 r.cost) := by rw [hw4]; simp
      have r5 : w4.cell? ⟨w3.heap.size, 5, none⟩ = some (.string ⟨r.form.toArray⟩) := by rw [hw4]; simp
      have H4 : Hid (PatIn w4 A3 c3' r.pat) := Lib.hid (HP3.out.below hb4)
      have H4' : Hid (PatIn w4 B d r.pat) := Lib.hid (HP'.out.below hb4)
      have hQ := fun W => eqRule_any r r A3 B c3' d W
      rw [same_self] at hQ
      rw [← hw4]
      clear f0 f1 f2 f3 f4 f5 f6 hw4
      go_region_held3 (fun W => W.cell? ⟨g, off + k * 6, none⟩ = some (.int .i64 r.nt) ∧ W.cell? ⟨g, off + k * 6 + 1, none⟩ = some (.int .i64 r.pat.op) ∧ W.cell? ⟨g, off + k * 6 + 2, none⟩ = some (.int .i64 r.pat.nt) ∧ W.cell? ⟨g, off + k * 6 + 3, none⟩ = some (.slice B r.pat.kids.length d) ∧ W.cell? ⟨g, off + k * 6 + 4, none⟩ = some (.int .i64 r.cost) ∧ W.cell? ⟨g, off + k * 6 + 5, none⟩ = some (.string ⟨r.form.toArray⟩) ∧ W.cell? ⟨w3.heap.size, 0, none⟩ = some (.int .i64 r.nt) ∧ W.cell? ⟨w3.heap.size, 1, none⟩ = some (.int .i64 r.pat.op) ∧ W.cell? ⟨w3.heap.size, 2, none⟩ = some (.int .i64 r.pat.nt) ∧ W.cell? ⟨w3.heap.size, 3, none⟩ = some (.slice A3 r.pat.kids.length c3') ∧ W.cell? ⟨w3.heap.size, 4, none⟩ = some (.int .i64 r.cost) ∧ W.cell? ⟨w3.heap.size, 5, none⟩ = some (.string ⟨r.form.toArray⟩) ∧ W.cell? ⟨g', off' + k, none⟩ = some (.string ⟨r.form.toArray⟩)) ((refine ⟨?_, ?_, ?_, ?_, ?_, ?_, ?_, ?_, ?_, ?_, ?_, ?_, ?_⟩ <;> (with_reducible (repeat (first | assumption | refine cell_drewN ?_ _ | refine cell_drew ?_)))))
        (first | (go_at_call 10; refine (num12_any _ _).mono ?_; rintro e w' ⟨rfl, rfl⟩) | (go_at_call 11; refine (hQ _ (show PatIn _ _ _ _ from by with_reducible (repeat (first | exact H4.out | refine PatIn.drewN ?_ _ | refine PatIn.drew ?_))) (show PatIn _ _ _ _ from by with_reducible (repeat (first | exact H4'.out | refine PatIn.drewN ?_ _ | refine PatIn.drew ?_)))).mono ?_; rintro e w5 ⟨rfl, hb5⟩; obtain ⟨x0, x1, x2, x3, x4, x5⟩ := later6 hb5 ⟨q0, q1, q2, q3, q4, q5⟩; obtain ⟨y0, y1, y2, y3, y4, y5⟩ := later6 hb5 ⟨r0, r1, r2, r3, r4, r5⟩; have z6 := cell_later hb5 q6))
      go_wp2_with fail
      go_roundw
      case rel => exact ⟨k + 1, by omega, by go_num, (hb.trans (hb3.mono hb.size)).trans (((hb4.mono (by have := hb.size; have := hb3.size; omega)).drew).trans (hb5.mono (by have := hb.size; have := hb3.size; have := hb4.size; simp; omega)))⟩
      case measure => simp [intOf]; omega
    · obtain rfl : k = n := by omega
      have hbx : wo.cell? ⟨W.heap.size, 1, none⟩ = some (.slice A m c) := cell_later hb hbox
      have hz0 : W.heap.size < wo.heap.size := by have := hb.size; have := hb2.size; omega
      clear hbox hb2 hb1 hb01 hb02 HR1 HR2 hlt hk
      go_wp2_with fail
      go_loopw [8] (fun i wr => ∃ k : Nat, k ≤ m ∧ k ≤ 6 ∧ i = .int .i64 k ∧ Below wo.heap.size wo wr) (fun i _ => 6 - (intOf i).toNat)
      case atStart => exact ⟨0, by omega, by omega, rfl, Below.refl _ _⟩
      case round =>
        obtain ⟨j, hj, hj6, rfl, hbj⟩ := hrel
        obtain ⟨wp, rfl⟩ : ∃ wp : World, wp = wr := ⟨_, rfl⟩
        have hb0j : Below W.heap.size W wp := hb0.trans (hbj.mono hb0.size)
        have hbxj : wp.cell? ⟨W.heap.size, 1, none⟩ = some (.slice A m c) := cell_later hbj hbx
        clear hbx
        by_cases hlt : j < m ∧ j < 6
        · obtain ⟨hlt, hlt6⟩ := hlt
          have hjl : j < S.length := by rw [hSm.out]; exact hlt
          obtain ⟨g, off, rfl, _, hg, c0⟩ := strs_at (HS.out.below hb0j) j hjl
          obtain ⟨s, hs⟩ : ∃ s, Hid (S[j] = s) := ⟨_, Lib.hid rfl⟩
          rw [hs.out] at c0
          have hF := fun W hW => form_any s W hW
          have hG := fun W => refForm_any s W
          have hQ := fun r A B c d W => eqRule_any r r A B c d W
          simp only [same_self] at hQ
          have hgw : W.heap.size < wp.heap.size := by have := hbj.size; omega
          generalize (formOf s).getD noRule = r at hF hG
          generalize (formOf s).isSome = b at hF hG
          cases b
          all_goals
            simp only [if_true, if_false, Bool.false_eq_true] at hF
            go_wp2_with fail
            refine (hF _ (tab_alloc ht _ hb0j)).mono ?_
            rintro e w3 ⟨A3, c3, rfl, hp3, hb3⟩
            have hb3z := hb3.size
            have hgw3 : W.heap.size < w3.heap.size := by omega
            have hg3 : g < w3.heap.size := by omega
            have hbx3 := cell_later hb3 hbxj
            have c03 := cell_later hb3 c0
            have HP3 : Hid (PatIn w3 A3 c3 r.pat) := by
              obtain ⟨A', c', he, _, hpp⟩ := rep_rule_inv hp3
              simp only [List.cons.injEq, Value.slice.injEq, true_and, and_true] at he
              obtain ⟨rfl, rfl⟩ := he
              exact Lib.hid ⟨_, hpp⟩
            clear hp3
            go_wp2_with fail
            refine (hG _).mono ?_
            rintro e w5 ⟨A5, c5, rfl, hp5, hb5⟩
            have hb5z := hb5.size
            simp at hb5z
            have r0 : w5.cell? ⟨w3.heap.size, 0, none⟩ = some (.int .i64 r.nt) := cell_later hb5 (by simp)
            have r1 : w5.cell? ⟨w3.heap.size, 1, none⟩ = some (.int .i64 r.pat.op) := cell_later hb5 (by simp)
            have r2 : w5.cell? ⟨w3.heap.size, 2, none⟩ = some (.int .i64 r.pat.nt) := cell_later hb5 (by simp)
            have r3 : w5.cell? ⟨w3.heap.size, 3, none⟩ = some (.slice A3 r.pat.kids.length c3) := cell_later hb5 (by simp)
            have r4 : w5.cell? ⟨w3.heap.size, 4, none⟩ = some (.int .i64 r.cost) := cell_later hb5 (by simp)
            have r5 : w5.cell? ⟨w3.heap.size, 5, none⟩ = some (.string ⟨r.form.toArray⟩) := cell_later hb5 (by simp)
            have HP5 : Hid (PatIn w5 A5 c5 r.pat) := by
              obtain ⟨A', c', he, _, hpp⟩ := rep_rule_inv hp5
              simp only [List.cons.injEq, Value.slice.injEq, true_and, and_true] at he
              obtain ⟨rfl, rfl⟩ := he
              exact Lib.hid ⟨_, hpp⟩
            have HP35 : Hid (PatIn w5 A3 c3 r.pat) := Lib.hid ((HP3.out.below (below_alloc _ _)).below hb5)
            have hgw5 : w3.heap.size < w5.heap.size := by omega
            have hbw5 : Below wo.heap.size wo w5 := by
              refine hbj.trans ((hb3.mono hbj.size).trans (Below.trans ((below_alloc _ _).mono ?_) (hb5.mono ?_)))
              · have := hbj.size; omega
              · have := hbj.size; simp; omega
            clear hp5 c0 c03 hbxj hbx3 hF hG
            go_wp2_with (first | (go_at_call 10; refine (num12_any _ _).mono ?_; rintro e w' ⟨rfl, rfl⟩) | (go_at_call 11; refine (hQ _ _ _ _ _ _ (show PatIn _ _ _ _ from HP35.out.below (below_alloc _ _)) (show PatIn _ _ _ _ from HP5.out.below (below_alloc _ _))).mono ?_; rintro e w6 ⟨rfl, hb6⟩))
            go_roundw
            case rel => exact ⟨j + 1, by omega, by omega, by go_num, hbw5.trans (((below_alloc _ _).mono hbw5.size).trans (hb6.mono (by have := hbw5.size; simp; omega)))⟩
            case measure => simp [intOf]; omega
        · have hfin : ∀ W', Below W.heap.size W W' → Calls Tryd.prog 13 #[] W' fun e w' => e = .returned (.bool true) ∧ Below W'.heap.size W' w' := fun W' h => wakes12_any W' (tab_alloc ht _ h)
          by_cases hjm : j < m
          · have h6 : ¬ j < 6 := fun h => hlt ⟨hjm, h⟩
            clear hlt
            go_wp2_with fail
            refine (hfin _ hb0j).mono ?_
            rintro e w3 ⟨rfl, hb3⟩
            go_wp2_with fail
            go_ret
            exact ⟨ret_bool rfl, hb0j.trans (hb3.mono hb0j.size)⟩
          · clear hlt
            go_wp2_with fail
            refine (hfin _ hb0j).mono ?_
            rintro e w3 ⟨rfl, hb3⟩
            go_wp2_with fail
            go_ret
            exact ⟨ret_bool rfl, hb0j.trans (hb3.mono hb0j.size)⟩

end Go.Proofs.YthdicdkgfmiepaaDoor

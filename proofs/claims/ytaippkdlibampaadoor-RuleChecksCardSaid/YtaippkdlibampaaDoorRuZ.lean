/- The reference's Whole, EqRules walked. -/
import Derived.Test.YtaippkdlibampaaDoorRuX
namespace Go.Proofs.YtaippkdlibampaaDoor
open Go.RowKit

def skipR (r : Rule) : Bool := special r.form || (decide (r.pat.kids.length = 2) && kid1 r == 2)
theorem skipR_forms (k : Nat) (h : k < formsR.length) : skipR formsR[k] = !neededR formsR[k] := by
  have h0 : (formsR.all fun r => skipR r == !neededR r) = true := by kernel_rfl
  have h1 := List.all_eq_true.1 h0 _ (List.getElem_mem h)
  simpa using h1

theorem hasForm_take (rs : List Rule) (s : List UInt8) (k : Nat) (h : k < rs.length) : hasForm (rs.take (k + 1)) s = (hasForm (rs.take k) s || rs[k].form == s) := by
  unfold hasForm
  rw [List.take_succ_eq_append_getElem h, List.any_append]
  simp

set_option maxRecDepth 100000 in
set_option maxHeartbeats 4000000 in
theorem wholeR_any (rs : List Rule) (A : Option Addr) (c : Nat) (w : World) (hr : RulesIn w A c rs) :
    Calls Tryd.prog 20 #[.slice A rs.length c] w (SomeBoolBelow (wholeB rs) w) := by
  have hle := hr.le
  unfold maxLen at hle
  have HR := Lib.hid hr
  clear hr
  obtain ⟨m, hm⟩ : ∃ m, Hid (rs.length = m) := ⟨_, Lib.hid rfl⟩
  rw [hm.out] at hle ⊢
  obtain ⟨f, hf⟩ : ∃ x, Hid (wholeB rs = x) := ⟨_, Lib.hid rfl⟩
  rw [hf.out]
  go_enter Tryd.func20, Tryd.ntmps20
  go_wp2_with fail
  refine (refForms_any _).mono ?_
  rintro e w2 ⟨v2, rfl, ho2, hb02⟩
  have hrep := ho2.rep
  obtain ⟨B2, d2, rfl, _⟩ := hrep.len
  rw [List.length_map] at hrep ⊢
  obtain ⟨n, hn⟩ : ∃ n, Hid (formsR.length = n) := ⟨_, Lib.hid rfl⟩
  have hl2 : n ≤ 100000 := by rw [← hn.out, formsR_len]; omega
  rw [hn.out] at hrep ⊢
  have HF := Lib.hid hrep
  clear hrep ho2
  go_wp2_with fail
  go_loop [4] (fun i => ∃ k : Nat, k ≤ n ∧ i = .int .i64 k ∧ Hid (∀ j (hj : j < formsR.length), j < k → (hasForm rs formsR[j].form || !neededR formsR[j]) = true)) (fun i => n - (intOf i).toNat)
  case atStart => exact ⟨0, by omega, rfl, Lib.hid (fun j _ h => absurd h (by omega))⟩
  case round =>
    obtain ⟨k, hk, rfl, hall⟩ := hrel
    by_cases hlt : k < n
    · have hkl : k < formsR.length := by rw [hn.out]; exact hlt
      obtain ⟨g, off, B, d, rfl, _, hg, ⟨a0, a1, a2, a3, a4, a5⟩, _, hpi⟩ := rules_at HF.out k hkl
      have hwb := wholeB_bad rs k hkl
      have hsk := skipR_forms k hkl
      obtain ⟨r, hre⟩ : ∃ r, Hid (formsR[k] = r) := ⟨_, Lib.hid rfl⟩
      rw [hre.out] at a0 a1 a2 a3 a4 a5 hpi hwb hsk
      have HWB := Lib.hid hwb
      have HSK := Lib.hid hsk
      have HP : Hid (PatIn w2 B d r.pat) := Lib.hid ⟨_, hpi⟩
      clear hwb hsk hpi
      have hnext : Hid ((hasForm rs r.form || !neededR r) = true → ∀ j (hj : j < formsR.length), j < k + 1 → (hasForm rs formsR[j].form || !neededR formsR[j]) = true) := Lib.hid (fun h j hj hjk => by
        by_cases e : j = k
        · subst e; rw [hre.out]; exact h
        · exact hall.out j hj (by omega))
      by_cases hs : special r.form = true
      · have hgo := Lib.hid (hnext.out (by rw [← HSK.out]; unfold skipR; rw [hs]; simp))
        have hs2 : r.form = [102, 105, 116] ∨ r.form = [117, 112] ∨ r.form = [111, 102, 102] := by
          unfold special sFit sUp sOff at hs
          simpa using hs
        clear hs
        rcases hs2 with h | h | h
        all_goals
          rw [h] at a5
          clear h
          go_wp2_with fail
          go_round
          case rel => exact ⟨k + 1, by omega, by go_num, hgo⟩
          case measure => simp [intOf]; omega
      · have hs2 : special r.form = false := by simpa using hs
        have hskE : Hid (skipR r = (decide (r.pat.kids.length = 2) && kid1 r == 2)) := Lib.hid (by unfold skipR; rw [hs2]; rfl)
        have t1 : (r.form == [102, 105, 116]) = false ∧ (r.form == [117, 112]) = false ∧ (r.form == [111, 102, 102]) = false := by
          unfold special sFit sUp sOff at hs2
          simpa using hs2
        obtain ⟨t1, t2, t3⟩ := t1
        clear hs hs2
        by_cases hskip : skipR r = true
        · have hgo := Lib.hid (hnext.out (by rw [← HSK.out, hskip]; simp))
          rw [hskE.out, Bool.and_eq_true, decide_eq_true_eq] at hskip
          obtain ⟨hn2, hk2⟩ := hskip
          obtain ⟨ok, hps⟩ := HP.out.kids
          obtain ⟨g1, off1, B1, d1, rfl, _, hg1, ⟨e0, e1, e2⟩, hx⟩ := pats_at hps 1 (by omega)
          clear hx
          have hy : (r.pat.kids[1]'(by omega)).nt = 2 := by
            unfold kid1 at hk2
            rw [List.getD_eq_getElem?_getD, List.getElem?_eq_getElem (by omega)] at hk2
            simpa using hk2
          rw [hy] at e1
          have e1' : w2.cell? ⟨g1, off1 + 3 + 1, none⟩ = some (.int .i64 2) := e1
          have e1'' : w2.cell? ⟨g1, off1 + 4, none⟩ = some (.int .i64 2) := e1
          rw [hn2] at a3
          clear e0 e1 e2 hps hy hk2 hn2
          go_wp2_with fail
          go_round
          case rel => exact ⟨k + 1, by omega, by go_num, hgo⟩
          case measure => simp [intOf]; omega
        · have hnd : Hid (neededR r = true) := Lib.hid (by have := HSK.out; revert this hskip; cases skipR r <;> cases neededR r <;> simp)
          have hskf : Hid (skipR r = false) := Lib.hid (by simpa using hskip)
          clear hskip
          by_cases hn2 : r.pat.kids.length = 2
          · obtain ⟨ok, hps⟩ := HP.out.kids
            obtain ⟨g1, off1, B1, d1, rfl, _, hg1, ⟨e0, e1, e2⟩, hx⟩ := pats_at hps 1 (by omega)
            clear hx
            obtain ⟨y, hy⟩ : ∃ y, Hid ((r.pat.kids[1]'(by omega)).nt = y) := ⟨_, Lib.hid rfl⟩
            have hy2 : (y == 2) = false := by
              have h1 := hskf.out
              rw [hskE.out, hn2] at h1
              unfold kid1 at h1
              rw [List.getD_eq_getElem?_getD, List.getElem?_eq_getElem (by omega)] at h1
              rw [← hy.out]
              simpa using h1
            rw [hy.out] at e1
            have e1' : w2.cell? ⟨g1, off1 + 3 + 1, none⟩ = some (.int .i64 y) := e1
            have e1'' : w2.cell? ⟨g1, off1 + 4, none⟩ = some (.int .i64 y) := e1
            rw [hn2] at a3
            clear e0 e1 e2 hps hy hn2
            go_wp2_with fail
            go_loop [6, 7] (fun x i => ∃ (q : Nat) (b : Bool), q ≤ m ∧ i = .int .i64 q ∧ x = .bool b ∧ Hid (b = hasForm (rs.take q) r.form)) (fun _ i => m - (intOf i).toNat)
            case atStart => exact ⟨0, false, by omega, rfl, rfl, Lib.hid (by simp [hasForm])⟩
            case round =>
              obtain ⟨q, b, hq, rfl, rfl, hbq⟩ := hrel
              by_cases hltq : q < m
              · have hql : q < rs.length := by rw [hm.out]; exact hltq
                have hht := Lib.hid (hasForm_take rs r.form q hql)
                cases b
                · obtain ⟨ok2, hrs⟩ := HR.out.below hb02
                  obtain ⟨g2, off2, B2', d2', rfl, _, hg2, ⟨z0, z1, z2, z3, z4, z5⟩, hx1, hx2⟩ := rules_at hrs q hql
                  clear hx1 hx2 hrs
                  obtain ⟨y2, hy2⟩ : ∃ y, Hid (rs[q] = y) := ⟨_, Lib.hid rfl⟩
                  rw [hy2.out] at z0 z1 z2 z3 z4 z5 hht
                  go_wp2_with fail
                  go_round
                  case rel => exact ⟨q + 1, y2.form == r.form, by omega, by go_num, rfl, Lib.hid (by rw [hht.out, ← hbq.out]; simp)⟩
                  case measure => simp [intOf]; omega
                · go_wp2_with fail
                  go_round
                  case rel => exact ⟨q + 1, true, by omega, by go_num, rfl, Lib.hid (by rw [hht.out, ← hbq.out]; simp)⟩
                  case measure => simp [intOf]; omega
              · obtain rfl : q = m := by omega
                have h1 : rs.take q = rs := List.take_of_length_le (by rw [hm.out]; omega)
                have hbq2 := hbq.out
                rw [h1] at hbq2
                have HB := Lib.hid hbq2
                clear hbq2 h1
                cases b
                · obtain rfl : f = false := by rw [← hf.out]; exact HWB.out HB.out.symm hnd.out
                  go_wp2_with fail
                  go_ret
                  exact ⟨ret_bool rfl, hb02⟩
                · have hgo := Lib.hid (hnext.out (by rw [← HB.out]; rfl))
                  go_wp2_with fail
                  go_round
                  case rel => exact ⟨k + 1, by omega, by go_num, hgo⟩
                  case measure => simp [intOf]; omega
          · have hn2e : ((r.pat.kids.length : Int) == 2) = false := by simp; omega
            go_wp2_with fail
            go_loop [6, 7] (fun x i => ∃ (q : Nat) (b : Bool), q ≤ m ∧ i = .int .i64 q ∧ x = .bool b ∧ Hid (b = hasForm (rs.take q) r.form)) (fun _ i => m - (intOf i).toNat)
            case atStart => exact ⟨0, false, by omega, rfl, rfl, Lib.hid (by simp [hasForm])⟩
            case round =>
              obtain ⟨q, b, hq, rfl, rfl, hbq⟩ := hrel
              by_cases hltq : q < m
              · have hql : q < rs.length := by rw [hm.out]; exact hltq
                have hht := Lib.hid (hasForm_take rs r.form q hql)
                cases b
                · obtain ⟨ok2, hrs⟩ := HR.out.below hb02
                  obtain ⟨g2, off2, B2', d2', rfl, _, hg2, ⟨z0, z1, z2, z3, z4, z5⟩, hx1, hx2⟩ := rules_at hrs q hql
                  clear hx1 hx2 hrs
                  obtain ⟨y2, hy2⟩ : ∃ y, Hid (rs[q] = y) := ⟨_, Lib.hid rfl⟩
                  rw [hy2.out] at z0 z1 z2 z3 z4 z5 hht
                  go_wp2_with fail
                  go_round
                  case rel => exact ⟨q + 1, y2.form == r.form, by omega, by go_num, rfl, Lib.hid (by rw [hht.out, ← hbq.out]; simp)⟩
                  case measure => simp [intOf]; omega
                · go_wp2_with fail
                  go_round
                  case rel => exact ⟨q + 1, true, by omega, by go_num, rfl, Lib.hid (by rw [hht.out, ← hbq.out]; simp)⟩
                  case measure => simp [intOf]; omega
              · obtain rfl : q = m := by omega
                have h1 : rs.take q = rs := List.take_of_length_le (by rw [hm.out]; omega)
                have hbq2 := hbq.out
                rw [h1] at hbq2
                have HB := Lib.hid hbq2
                clear hbq2 h1
                cases b
                · obtain rfl : f = false := by rw [← hf.out]; exact HWB.out HB.out.symm hnd.out
                  go_wp2_with fail
                  go_ret
                  exact ⟨ret_bool rfl, hb02⟩
                · have hgo := Lib.hid (hnext.out (by rw [← HB.out]; rfl))
                  go_wp2_with fail
                  go_round
                  case rel => exact ⟨k + 1, by omega, by go_num, hgo⟩
                  case measure => simp [intOf]; omega
    · obtain rfl : k = n := by omega
      obtain rfl : f = true := by rw [← hf.out]; exact wholeB_good rs (fun j hj => hall.out j hj (by rw [← hn.out]; exact hj))
      go_wp2_with fail
      go_ret
      exact ⟨ret_bool rfl, hb02⟩

end Go.Proofs.YtaippkdlibampaaDoor

/- Which rules may be: desc.May, gantletref11.Rules walked. rule.same, rule.Check and the reference's Check walked. The reference's Check walked. Whether there are enough rules: rule.Whole walked. The reference's Whole, EqRules walked. EqRules; RuleChecks' function walked. What all rows of this seat have in common: the table of blanks, the questions of gantletlaw11 as they come in. -/
import Derived.Test.YtaippkdlibampaaDoorK3
import Derived.Test.YtaippkdlibampaaDoorK2
import Derived.Test.YtaippkdlibampaaDoorK1
import Derived.Test.YtaippkdlibampaaDoorRows
import Derived.ProofKit
import Derived.OpenShut
import Derived.LaidMore
import Derived.Lay
import Derived.SevenTiedAt
import Derived.Stop.Joined
import Derived.Stop.LaidErr
import Derived.Lib.LaidTab
namespace Go.Proofs.YtaippkdlibampaaDoor

/- Which rules may be: desc.May, gantletref11.Rules walked. -/
section
open Go.RowKit

def okRule (r : Rule) : Bool := isNt r.nt && (fitP r.pat 0 && (decide (0 ≤ r.cost) && (decide (r.cost ≤ 65535) && formB r.form)))
def mayRs (rs : List Rule) : Bool := rs.all okRule && decide (rs.length ≤ 96)

theorem sizeP_neg (p : Pat) : sizeP p 8 < 0 ↔ fitP p 0 = false := by
  unfold sizeP fitP
  have := patN_pos p
  by_cases h : patOk p = true ∧ (patN p : Int) ≤ 8
  · rw [if_pos h]
    have h2 : (decide (0 + (patN p : Int) ≤ 8)) = true := by simp; omega
    rw [h.1, h2]; simp
  · rw [if_neg h]
    simp only [Bool.and_eq_false_iff, decide_eq_false_iff_not]
    constructor
    · intro _
      by_cases h1 : patOk p = true
      · right; exact fun h2 => h ⟨h1, by omega⟩
      · left; simpa using h1
    · intro _; omega

theorem mayRs_false (rs : List Rule) (k : Nat) (h : k < rs.length) (hb : okRule rs[k] = false) : mayRs rs = false := by
  unfold mayRs
  have : rs.all okRule = false := by
    rw [List.all_eq_false]
    exact ⟨rs[k], List.getElem_mem h, by simp [hb]⟩
  rw [this]; rfl
theorem mayRs_end (rs : List Rule) (h : ∀ j (hj : j < rs.length), okRule rs[j] = true) : mayRs rs = decide (rs.length ≤ 96) := by
  unfold mayRs
  have : rs.all okRule = true := by
    rw [List.all_eq_true]
    intro x hx
    obtain ⟨j, hj, rfl⟩ := List.getElem_of_mem hx
    exact h j hj
  rw [this]; rfl

set_option maxRecDepth 100000 in
set_option maxHeartbeats 4000000 in
theorem may_any (rs : List Rule) (hwf : RulesWf rs) (A : Option Addr) (c : Nat) (w : World) (hr : RulesIn w A c rs) :
    Calls Tryd.prog 54 #[.slice A rs.length c] w (SomeBoolBelow (mayRs rs) w) := by
  obtain ⟨hl, hw⟩ := hwf
  unfold reachBytes at hl
  obtain ⟨n, hn⟩ : ∃ n, Hid (rs.length = n) := ⟨_, Lib.hid rfl⟩
  obtain ⟨f, hf⟩ : ∃ x, Hid (mayRs rs = x) := ⟨_, Lib.hid rfl⟩
  have HR := Lib.hid hr
  rw [hn.out] at hl
  rw [hn.out, hf.out]
  clear hr
  go_enter Tryd.func54, Tryd.ntmps54
  go_wp2_with fail
  go_loopw [7] (fun i wr => ∃ k : Nat, k ≤ n ∧ i = .int .i64 k ∧ Below w.heap.size w wr ∧ Hid (∀ j (h : j < rs.length), j < k → okRule rs[j] = true)) (fun i _ => n - (intOf i).toNat)
  case atStart => exact ⟨0, by omega, rfl, Below.refl _ _, Lib.hid (fun j _ h => absurd h (by omega))⟩
  case round =>
    obtain ⟨k, hk, rfl, hb, hall⟩ := hrel
    obtain ⟨wo, rfl⟩ : ∃ wo : World, wo = wr := ⟨_, rfl⟩
    by_cases hlt : k < n
    · have hkl : k < rs.length := by rw [hn.out]; exact hlt
      obtain ⟨ok, hrs⟩ := HR.out.below hb
      obtain ⟨g, off, B, d, rfl, _, hg, ⟨a0, a1, a2, a3, a4, a5⟩, _, hpi⟩ := rules_at hrs k hkl
      have hfl := (hw rs[k] (List.getElem_mem hkl)).2.2.2
      unfold reachBytes at hfl
      obtain ⟨r, hre⟩ : ∃ r, Hid (rs[k] = r) := ⟨_, Lib.hid rfl⟩
      rw [hre.out] at a0 a1 a2 a3 a4 a5 hpi hfl
      have c1 := fun W => isNt_any r.nt W
      have c2 := fun W => size_any r.pat B d 8 W
      have c3 := fun W => formed_any r.form (by omega) W
      have HP : Hid (PatIn wo B d r.pat) := Lib.hid ⟨_, hpi⟩
      have hbz := hb.size
      have hfal : Hid (okRule r = false → f = false) := Lib.hid (fun h => by rw [← hf.out, mayRs_false rs k hkl (by rw [hre.out]; exact h)])
      have hsn := sizeP_neg r.pat
      obtain ⟨z, hz⟩ : ∃ x, Hid (sizeP r.pat 8 = x) := ⟨_, Lib.hid rfl⟩
      obtain ⟨b1, hb1⟩ : ∃ x, Hid (isNt r.nt = x) := ⟨_, Lib.hid rfl⟩
      obtain ⟨b2, hb2⟩ : ∃ x, Hid (fitP r.pat 0 = x) := ⟨_, Lib.hid rfl⟩
      obtain ⟨b3, hb3⟩ : ∃ x, Hid (formB r.form = x) := ⟨_, Lib.hid rfl⟩
      have hok : Hid (okRule r = (b1 && (b2 && (decide (0 ≤ r.cost) && (decide (r.cost ≤ 65535) && b3))))) := Lib.hid (by unfold okRule; rw [hb1.out, hb2.out, hb3.out])
      rw [hz.out, hb2.out] at hsn
      rw [hz.out] at c2
      rw [hb1.out] at c1
      rw [hb3.out] at c3
      have HSN := Lib.hid hsn
      clear hrs hpi hsn hw
      go_wp2_with fail
      obtain ⟨w1, hw1⟩ : ∃ w1, w1 = wo.alloc (.cells #[.int .i64 r.nt, .int .i64 r.pat.op, .int .i64 r.pat.nt, .slice B r.pat.kids.length d, .int .i64 r.cost, .string ⟨r.form.toArray⟩] 33) := ⟨_, rfl⟩
      have hb4 : Below wo.heap.size wo w1 := by rw [hw1]; exact below_alloc _ _
      have r0 : w1.cell? ⟨wo.heap.size, 0, none⟩ = some (.int .i64 r.nt) := by rw [hw1]; simp
      have r1 : w1.cell? ⟨wo.heap.size, 1, none⟩ = some (.int .i64 r.pat.op) := by rw [hw1]; simp
      have r2 : w1.cell? ⟨wo.heap.size, 2, none⟩ = some (.int .i64 r.pat.nt) := by rw [hw1]; simp
      have r3 : w1.cell? ⟨wo.heap.size, 3, none⟩ = some (.slice B r.pat.kids.length d) := by rw [hw1]; simp
      have r4 : w1.cell? ⟨wo.heap.size, 4, none⟩ = some (.int .i64 r.cost) := by rw [hw1]; simp
      have r5 : w1.cell? ⟨wo.heap.size, 5, none⟩ = some (.string ⟨r.form.toArray⟩) := by rw [hw1]; simp
      have hlt1 : wo.heap.size < w1.heap.size := by rw [hw1]; simp
      have HP1 : Hid (PatIn w1 B d r.pat) := Lib.hid (HP.out.below hb4)
      have hb5 : Below w.heap.size w w1 := hb.trans (hb4.mono hbz)
      rw [← hw1]
      clear hw1 a0 a1 a2 a3 a4 a5
      refine (c1 _).mono ?_
      rintro e w' ⟨rfl, rfl⟩
      go_wp2_with (first | (go_at_call 98; refine (c2 _ (show PatIn _ _ _ _ from HP1.out) (by omega) (by omega)).mono ?_; rintro e w3 ⟨rfl, hb6⟩; obtain ⟨x0, x1, x2, x3, x4, x5⟩ := later6 hb6 ⟨r0, r1, r2, r3, r4, r5⟩; have hb7 := hb5.trans (hb6.mono hb5.size)) | (go_at_call 99; refine (c3 _).mono ?_; rintro e w' ⟨rfl, rfl⟩))
      all_goals
        have hs := HSN.out
        first
          | (go_roundw
             case rel =>
               refine ⟨k + 1, by omega, by go_num, hb7, Lib.hid (fun j hj hjk => ?_)⟩
               by_cases e : j = k
               · subst e; rw [hre.out, hok.out]; grind
               · exact hall.out j hj (by omega)
             case measure => simp [intOf]; omega)
          | (go_ret
             refine ⟨ret_bool ?_, by first | exact hb7 | exact hb5⟩
             symm
             apply hfal.out
             rw [hok.out]
             grind)
    · obtain rfl : k = n := by omega
      go_wp2_with fail
      go_ret
      refine ⟨ret_bool ?_, hb⟩
      rw [← hf.out, mayRs_end rs (fun j hj => hall.out j hj (by rw [← hn.out]; exact hj)), hn.out]
      exact decide_eq_decide.2 (by omega)

set_option maxRecDepth 100000 in
set_option maxHeartbeats 4000000 in
theorem mayR_any (rs : List Rule) (hwf : RulesWf rs) (A : Option Addr) (c : Nat) (w : World) (hr : RulesIn w A c rs) :
    Calls Tryd.prog 53 #[.slice A rs.length c] w (SomeBoolBelow (mayRs rs) w) := by
  obtain ⟨hl, hw⟩ := hwf
  unfold reachBytes at hl
  obtain ⟨n, hn⟩ : ∃ n, Hid (rs.length = n) := ⟨_, Lib.hid rfl⟩
  obtain ⟨f, hf⟩ : ∃ x, Hid (mayRs rs = x) := ⟨_, Lib.hid rfl⟩
  have HR := Lib.hid hr
  rw [hn.out] at hl
  rw [hn.out, hf.out]
  clear hr
  go_enter Tryd.func53, Tryd.ntmps53
  go_wp2_with fail
  go_loopw [3] (fun i wr => ∃ k : Nat, k ≤ n ∧ i = .int .i64 k ∧ Below w.heap.size w wr ∧ Hid (∀ j (h : j < rs.length), j < k → okRule rs[j] = true)) (fun i _ => n - (intOf i).toNat)
  case atStart => exact ⟨0, by omega, rfl, Below.refl _ _, Lib.hid (fun j _ h => absurd h (by omega))⟩
  case round =>
    obtain ⟨k, hk, rfl, hb, hall⟩ := hrel
    obtain ⟨wo, rfl⟩ : ∃ wo : World, wo = wr := ⟨_, rfl⟩
    by_cases hlt : k < n
    · have hkl : k < rs.length := by rw [hn.out]; exact hlt
      obtain ⟨ok, hrs⟩ := HR.out.below hb
      obtain ⟨g, off, B, d, rfl, _, hg, ⟨a0, a1, a2, a3, a4, a5⟩, _, hpi⟩ := rules_at hrs k hkl
      have hfl := (hw rs[k] (List.getElem_mem hkl)).2.2.2
      unfold reachBytes at hfl
      obtain ⟨r, hre⟩ : ∃ r, Hid (rs[k] = r) := ⟨_, Lib.hid rfl⟩
      rw [hre.out] at a0 a1 a2 a3 a4 a5 hpi hfl
      have c1 := fun W => between_any r.nt 0 3 W
      have c2 := fun W => fit_any r.pat B d 0 W
      have c3 := fun W => formR_any r.form (by omega) W
      have c4 := fun W => num0_any r.cost 65535 W
      have HP : Hid (PatIn wo B d r.pat) := Lib.hid ⟨_, hpi⟩
      have hbz := hb.size
      have hfal : Hid (okRule r = false → f = false) := Lib.hid (fun h => by rw [← hf.out, mayRs_false rs k hkl (by rw [hre.out]; exact h)])
      obtain ⟨b1, hb1⟩ : ∃ x, Hid (isNt r.nt = x) := ⟨_, Lib.hid rfl⟩
      obtain ⟨b2, hb2⟩ : ∃ x, Hid (fitP r.pat 0 = x) := ⟨_, Lib.hid rfl⟩
      obtain ⟨b3, hb3⟩ : ∃ x, Hid (formB r.form = x) := ⟨_, Lib.hid rfl⟩
      obtain ⟨b4, hb4⟩ : ∃ x, Hid (within r.cost 0 65535 = x) := ⟨_, Lib.hid rfl⟩
      have hok : Hid (okRule r = (b1 && (b2 && (b4 && b3)))) := Lib.hid (by unfold okRule; rw [hb1.out, hb2.out, hb3.out, ← hb4.out]; unfold within; rw [Bool.and_assoc])
      rw [show within r.nt 0 3 = isNt r.nt from rfl, hb1.out] at c1
      rw [hb2.out] at c2
      rw [hb3.out] at c3
      rw [hb4.out] at c4
      clear hrs hpi hw
      go_wp2_with fail
      refine (c2 _ HP.out (by omega) (by omega)).mono ?_
      rintro e w3 ⟨m, rfl, _, hb6⟩
      obtain ⟨x0, x1, x2, x3, x4, x5⟩ := later6 hb6 ⟨a0, a1, a2, a3, a4, a5⟩
      have hb7 := hb.trans (hb6.mono hb.size)
      clear a0 a1 a2 a3 a4 a5
      go_wp2_with (first | (go_at_call 34; refine (c1 _).mono ?_; rintro e w' ⟨rfl, rfl⟩) | (go_at_call 77; refine (c4 _).mono ?_; rintro e w' ⟨rfl, rfl⟩) | (go_at_call 96; refine (c3 _).mono ?_; rintro e w' ⟨rfl, rfl⟩))
      all_goals
        first
          | (go_roundw
             case rel =>
               refine ⟨k + 1, by omega, by go_num, hb7, Lib.hid (fun j hj hjk => ?_)⟩
               by_cases e : j = k
               · subst e; rw [hre.out, hok.out]; grind
               · exact hall.out j hj (by omega)
             case measure => simp [intOf]; omega)
          | (go_ret
             refine ⟨ret_bool ?_, hb7⟩
             symm
             apply hfal.out
             rw [hok.out]
             grind)
    · obtain rfl : k = n := by omega
      go_wp2_with fail
      go_ret
      refine ⟨ret_bool ?_, hb⟩
      rw [← hf.out, mayRs_end rs (fun j hj => hall.out j hj (by rw [← hn.out]; exact hj)), hn.out]
      exact decide_eq_decide.2 (by omega)

end

/- rule.same, rule.Check and the reference's Check walked. -/
section
open Go.RowKit

def SamePatOk (p : Pat) : Prop := ∀ (q : Pat) (A B : Option Addr) (c d : Nat) (w : World), PatIn w A c p → PatIn w B d q →
  Calls Tryd.prog 55 #[.agg #[.int .i64 p.op, .int .i64 p.nt, .slice A p.kids.length c], .agg #[.int .i64 q.op, .int .i64 q.nt, .slice B q.kids.length d]] w (SomeBoolBelow (same p q) w)

set_option maxHeartbeats 2000000 in
theorem equalFunc_of (ps qs : List Pat) (ih : ∀ i (h : i < ps.length), SamePatOk ps[i]) (A B : Option Addr) (c d : Nat) (w : World) (hp : PatsIn w A c ps) (hq : PatsIn w B d qs) :
    Calls Tryd.prog 100 #[.slice A ps.length c, .slice B qs.length d, .func (.func 55) #[] #[]] w (SomeBoolBelow (same ps qs) w) := by
  have hm := hp.le
  unfold maxLen at hm
  by_cases hl : ps.length = qs.length
  · obtain ⟨n, hn⟩ : ∃ n, Hid (ps.length = n) := ⟨_, Lib.hid rfl⟩
    have hn2 : Hid (qs.length = n) := Lib.hid (by rw [← hl]; exact hn.out)
    rw [hn.out, hn2.out]
    rw [hn.out] at hm
    have HPP := Lib.hid hp
    have HQQ := Lib.hid hq
    clear hl hp hq
    go_enter Tryd.func100, Tryd.ntmps100
    go_wp2_with fail
    go_loopw [17] (fun i wr => ∃ k : Nat, k ≤ n ∧ i = .int .i64 k ∧ Below w.heap.size w wr ∧ Hid (∀ j (h1 : j < ps.length) (h2 : j < qs.length), j < k → ps[j] = qs[j])) (fun i _ => n - (intOf i).toNat)
    case atStart => exact ⟨0, by omega, rfl, Below.refl _ _, Lib.hid (fun j _ _ h => absurd h (by omega))⟩
    case round =>
      obtain ⟨k, hk, rfl, hb, hsame⟩ := hrel
      obtain ⟨wo, rfl⟩ : ∃ wo : World, wo = wr := ⟨_, rfl⟩
      by_cases hlt : k < n
      · have hkp : k < ps.length := by rw [hn.out]; exact hlt
        have hkq : k < qs.length := by rw [hn2.out]; exact hlt
        obtain ⟨okp, hp1⟩ := HPP.out.below hb
        obtain ⟨okq, hq1⟩ := HQQ.out.below hb
        obtain ⟨g, off, A', c', rfl, _, hg, ⟨a0, a1, a2⟩, hpi⟩ := pats_at hp1 k hkp
        obtain ⟨g', off', B', d', rfl, _, hg', ⟨b0, b1, b2⟩, hqi⟩ := pats_at hq1 k hkq
        have hc := ih k hkp qs[k] A' B' c' d'
        obtain ⟨p, hpe⟩ : ∃ p, Hid (ps[k] = p) := ⟨_, Lib.hid rfl⟩
        obtain ⟨q, hqe⟩ : ∃ q, Hid (qs[k] = q) := ⟨_, Lib.hid rfl⟩
        rw [hpe.out] at a0 a1 a2 hpi hc
        rw [hqe.out] at b0 b1 b2 hqi hc
        have HP : Hid (PatIn wo A' c' p) := Lib.hid ⟨_, hpi⟩
        have HQ : Hid (PatIn wo B' d' q) := Lib.hid ⟨_, hqi⟩
        have hbz := hb.size
        clear hp1 hq1 hpi hqi ih
        obtain ⟨s, hs⟩ : ∃ s, Hid (same p q = s) := ⟨_, Lib.hid rfl⟩
        rw [hs.out] at hc
        go_wp2_with fail
        refine (hc _ (HP.out.below (below_box2 _ _ _)) (HQ.out.below (below_box2 _ _ _))).mono ?_
        rintro e w3 ⟨rfl, hb3⟩
        have hb4 : Below w.heap.size w w3 := hb.trans (((below_box2 _ _ _).mono hbz).trans (hb3.mono (by simp; omega)))
        cases s
        · go_wp2_with fail
          go_ret
          refine ⟨ret_bool ?_, hb4⟩
          symm
          rw [same_false]
          intro he
          apply (same_false p q).1 hs.out
          rw [← hpe.out, ← hqe.out]
          simp only [he]
        · go_wp2_with fail
          go_roundw
          case rel =>
            refine ⟨k + 1, by omega, by go_num, hb4, Lib.hid (fun j h1 h2 hjk => ?_)⟩
            by_cases e : j = k
            · subst e; rw [hpe.out, hqe.out]; exact (same_iff p q).1 hs.out
            · exact hsame.out j h1 h2 (by omega)
          case measure => simp [intOf]; omega
      · obtain rfl : k = n := by omega
        go_wp2_with fail
        go_ret
        refine ⟨ret_bool ?_, hb⟩
        have : ps = qs := List.ext_getElem (by rw [hn.out, hn2.out]) (fun j h1 h2 => hsame.out j h1 h2 (by rw [← hn.out]; exact h1))
        rw [(same_iff _ _).2 this]
  · go_enter Tryd.func100, Tryd.ntmps100
    go_wp2_with fail
    · go_ret
      refine ⟨ret_bool ?_, Below.refl _ _⟩
      symm
      rw [same_false]
      intro he
      exact hl (by rw [he])

set_option maxHeartbeats 2000000 in
theorem samePat_of (p : Pat) (ih : ∀ i (h : i < p.kids.length), SamePatOk p.kids[i]) : SamePatOk p := by
  intro q A B c d w hp hq
  have hk := fun W => equalFunc_of p.kids q.kids ih A B c d W
  obtain ⟨po, hpo⟩ : ∃ x, Hid (p.op = x) := ⟨_, Lib.hid rfl⟩
  obtain ⟨qo, hqo⟩ : ∃ x, Hid (q.op = x) := ⟨_, Lib.hid rfl⟩
  obtain ⟨pn, hpn⟩ : ∃ x, Hid (p.nt = x) := ⟨_, Lib.hid rfl⟩
  obtain ⟨qn, hqn⟩ : ∃ x, Hid (q.nt = x) := ⟨_, Lib.hid rfl⟩
  have HPK : Hid (PatsIn w A c p.kids) := Lib.hid hp.kids
  have HQK : Hid (PatsIn w B d q.kids) := Lib.hid hq.kids
  have hsm : Hid (same p q = true ↔ po = qo ∧ pn = qn ∧ same p.kids q.kids = true) := by
    refine Lib.hid ?_
    rw [same_iff, same_iff, Pat.ext_iff', hpo.out, hqo.out, hpn.out, hqn.out]
  rw [hpo.out, hqo.out, hpn.out, hqn.out]
  clear hp hq ih
  by_cases h1 : po = qo
  · subst h1
    by_cases h2 : pn = qn
    · subst h2
      have hs : Hid (same p q = same p.kids q.kids) := by
        refine Lib.hid ?_
        rw [Bool.eq_iff_iff, hsm.out]; simp
      rw [hs.out]
      go_enter Tryd.func55, Tryd.ntmps55
      go_wp2_with fail
      refine (hk _ (HPK.out.below (below_box2 _ _ _)) (HQK.out.below (below_box2 _ _ _))).mono ?_
      rintro e w3 ⟨rfl, hb3⟩
      go_wp2_with fail
      go_ret
      exact ⟨ret_bool rfl, (below_box2 _ _ _).trans (hb3.mono (by simp; omega))⟩
    · have hs : Hid (same p q = false) := by
        refine Lib.hid ?_
        rw [← Bool.not_eq_true, hsm.out]; exact fun h => h2 h.2.1
      rw [hs.out]
      have hne : (pn == qn) = false := by simpa using h2
      go_enter Tryd.func55, Tryd.ntmps55
      go_wp2_with fail
      go_ret
      exact ⟨ret_bool rfl, below_box2 _ _ _⟩
  · have hs : Hid (same p q = false) := by
      refine Lib.hid ?_
      rw [← Bool.not_eq_true, hsm.out]; exact fun h => h1 h.1
    rw [hs.out]
    have hne : (po == qo) = false := by simpa using h1
    go_enter Tryd.func55, Tryd.ntmps55
    go_wp2_with fail
    go_ret
    exact ⟨ret_bool rfl, below_box2 _ _ _⟩

theorem samePat_any : ∀ p : Pat, SamePatOk p
  | .mk op nt kids => samePat_of _ fun i h => samePat_any kids[i]
termination_by p => SizeOf.sizeOf p
decreasing_by
  have := List.sizeOf_lt_of_mem (List.getElem_mem h)
  simp only [Pat.kids] at this
  simp only [Pat.mk.sizeOf_spec]
  omega

/-- is a rule one of the forms' but for its cost? -/
noncomputable def rightR (r : Rule) : Bool :=
  match formOf r.form with
  | none => false
  | some x => decide (x.nt = r.nt) && same x.pat r.pat
noncomputable def checkE (rs : List Rule) : Int := if mayRs rs = false then 1 else if rs.all rightR then 0 else 9

theorem checkE_bad (rs : List Rule) (h : mayRs rs = true) (k : Nat) (hk : k < rs.length) (hb : rightR rs[k] = false) : checkE rs = 9 := by
  unfold checkE
  have : rs.all rightR = false := by
    rw [List.all_eq_false]
    exact ⟨rs[k], List.getElem_mem hk, by simp [hb]⟩
  rw [if_neg (by rw [h]; simp), this]; simp
theorem checkE_good (rs : List Rule) (h : mayRs rs = true) (ha : ∀ j (hj : j < rs.length), rightR rs[j] = true) : checkE rs = 0 := by
  unfold checkE
  have : rs.all rightR = true := by
    rw [List.all_eq_true]
    intro x hx
    obtain ⟨j, hj, rfl⟩ := List.getElem_of_mem hx
    exact ha j hj
  rw [if_neg (by rw [h]; simp), this]; simp

def IntRet (i : Int) (w : World) (e : Ending) (w' : World) : Prop := e = .returned (.int .i64 i) ∧ Below w.heap.size w w'

theorem patIn_of_ret {B : Nat} {r : Rule} {w' : World} {A : Option Addr} {c : Nat} (h : Rep w' (fun g => B ≤ g) (encR r) [.int .i64 r.nt, .int .i64 r.pat.op, .int .i64 r.pat.nt, .slice A r.pat.kids.length c, .int .i64 r.cost, .string ⟨r.form.toArray⟩]) : PatIn w' A c r.pat := by
  obtain ⟨A', c', he, _, hpp⟩ := rep_rule_inv h
  simp only [List.cons.injEq, Value.slice.injEq, true_and, and_true] at he
  obtain ⟨rfl, rfl⟩ := he
  exact ⟨_, hpp⟩

set_option maxRecDepth 100000 in
set_option maxHeartbeats 4000000 in
theorem check_any (rs : List Rule) (hwf : RulesWf rs) (A : Option Addr) (c : Nat) (w : World) (ht : Tab w) (hr : RulesIn w A c rs) :
    Calls Tryd.prog 21 #[.slice A rs.length c] w (IntRet (checkE rs) w) := by
  have hmay := fun W hW => may_any rs hwf A c W hW
  obtain ⟨hl, _⟩ := hwf
  unfold reachBytes at hl
  obtain ⟨n, hn⟩ : ∃ n, Hid (rs.length = n) := ⟨_, Lib.hid rfl⟩
  obtain ⟨f, hf⟩ : ∃ x, Hid (checkE rs = x) := ⟨_, Lib.hid rfl⟩
  have HR := Lib.hid hr
  rw [hn.out] at hl hmay
  rw [hn.out, hf.out]
  clear hr
  obtain ⟨m, hm⟩ : ∃ x, Hid (mayRs rs = x) := ⟨_, Lib.hid rfl⟩
  rw [hm.out] at hmay
  cases m
  · obtain rfl : f = 1 := by rw [← hf.out]; unfold checkE; rw [hm.out]; simp
    go_enter Tryd.func21, Tryd.ntmps21
    go_wp2_with fail
    refine (hmay _ HR.out).mono ?_
    rintro e w1 ⟨rfl, hb1⟩
    go_wp2_with fail
    go_ret
    exact ⟨rfl, hb1⟩
  · have hbad := Lib.hid (checkE_bad rs hm.out)
    go_enter Tryd.func21, Tryd.ntmps21
    go_wp2_with fail
    refine (hmay _ HR.out).mono ?_
    rintro e w1 ⟨rfl, hb1⟩
    clear hmay
    go_wp2_with fail
    go_loopw [12] (fun i wr => ∃ k : Nat, k ≤ n ∧ i = .int .i64 k ∧ Below w.heap.size w wr ∧ Hid (∀ j (h : j < rs.length), j < k → rightR rs[j] = true)) (fun i _ => n - (intOf i).toNat)
    case atStart => exact ⟨0, by omega, rfl, hb1, Lib.hid (fun j _ h => absurd h (by omega))⟩
    case round =>
      obtain ⟨k, hk, rfl, hb, hall⟩ := hrel
      obtain ⟨wo, rfl⟩ : ∃ wo : World, wo = wr := ⟨_, rfl⟩
      clear hb1
      by_cases hlt : k < n
      · have hkl : k < rs.length := by rw [hn.out]; exact hlt
        obtain ⟨ok, hrs⟩ := HR.out.below hb
        obtain ⟨g, off, B, d, rfl, _, hg, ⟨a0, a1, a2, a3, a4, a5⟩, _, hpi⟩ := rules_at hrs k hkl
        obtain ⟨r, hre⟩ : ∃ r, Hid (rs[k] = r) := ⟨_, Lib.hid rfl⟩
        rw [hre.out] at a0 a1 a2 a3 a4 a5 hpi
        have HP : Hid (PatIn wo B d r.pat) := Lib.hid ⟨_, hpi⟩
        have hbz := hb.size
        have hbd : Hid (rightR r = false → f = 9) := Lib.hid (fun h => by rw [← hf.out]; exact hbad.out k hkl (by rw [hre.out]; exact h))
        have hF := fun W hW => found_any r.form W hW
        clear hrs hpi
        go_wp2_with fail
        obtain ⟨w1, hw1⟩ : ∃ w1, w1 = wo.alloc (.cells #[.int .i64 r.nt, .int .i64 r.pat.op, .int .i64 r.pat.nt, .slice B r.pat.kids.length d, .int .i64 r.cost, .string ⟨r.form.toArray⟩] 33) := ⟨_, rfl⟩
        have hb4 : Below wo.heap.size wo w1 := by rw [hw1]; exact below_alloc _ _
        have r0 : w1.cell? ⟨wo.heap.size, 0, none⟩ = some (.int .i64 r.nt) := by rw [hw1]; simp
        have r1 : w1.cell? ⟨wo.heap.size, 1, none⟩ = some (.int .i64 r.pat.op) := by rw [hw1]; simp
        have r2 : w1.cell? ⟨wo.heap.size, 2, none⟩ = some (.int .i64 r.pat.nt) := by rw [hw1]; simp
        have r3 : w1.cell? ⟨wo.heap.size, 3, none⟩ = some (.slice B r.pat.kids.length d) := by rw [hw1]; simp
        have r4 : w1.cell? ⟨wo.heap.size, 4, none⟩ = some (.int .i64 r.cost) := by rw [hw1]; simp
        have r5 : w1.cell? ⟨wo.heap.size, 5, none⟩ = some (.string ⟨r.form.toArray⟩) := by rw [hw1]; simp
        have hlt1 : wo.heap.size < w1.heap.size := by rw [hw1]; simp
        have HP1 : Hid (PatIn w1 B d r.pat) := Lib.hid (HP.out.below hb4)
        have hb5 : Below w.heap.size w w1 := hb.trans (hb4.mono hbz)
        rw [← hw1]
        clear hw1 a0 a1 a2 a3 a4 a5
        cases hfo : formOf r.form with
        | none =>
          rw [hfo] at hF
          simp only [Option.getD_none, Option.isSome_none] at hF
          obtain rfl : f = 9 := hbd.out (by unfold rightR; rw [hfo])
          refine (hF _ (tab_alloc ht _ hb5)).mono ?_
          rintro e w3 ⟨A3, c3, rfl, _, hb3⟩
          clear hF
          go_wp2_with fail
          go_ret
          exact ⟨rfl, (hb5.trans (hb3.mono hb5.size)).alloc (by have := hb5.size; have := hb3.size; omega) _⟩
        | some x =>
          rw [hfo] at hF
          simp only [Option.getD_some, Option.isSome_some] at hF
          have hri : Hid (rightR r = (decide (x.nt = r.nt) && same x.pat r.pat)) := Lib.hid (by unfold rightR; rw [hfo])
          clear hfo
          refine (hF _ (tab_alloc ht _ hb5)).mono ?_
          rintro e w3 ⟨A3, c3, rfl, hp3, hb3⟩
          have HP3 : Hid (PatIn w3 A3 c3 x.pat) := Lib.hid (patIn_of_ret hp3)
          have HP13 : Hid (PatIn w3 B d r.pat) := Lib.hid (HP1.out.below hb3)
          obtain ⟨x0, x1, x2, x3, x4, x5⟩ := later6 hb3 ⟨r0, r1, r2, r3, r4, r5⟩
          have hb6 := hb5.trans (hb3.mono hb5.size)
          have hlt3 : wo.heap.size < w3.heap.size := by have := hb3.size; omega
          have hb6z := hb6.size
          have hQ := fun W => samePat_any x.pat r.pat A3 B c3 d W
          obtain ⟨s, hs⟩ : ∃ s, Hid (same x.pat r.pat = s) := ⟨_, Lib.hid rfl⟩
          rw [hs.out] at hQ
          clear hF hp3 r0 r1 r2 r3 r4 r5 HP1 HP hlt1
          by_cases hnt : x.nt = r.nt
          · have hne : (x.nt != r.nt) = false := by simp [hnt]
            have hne2 : (x.nt == r.nt) = true := by simp [hnt]
            have HNT := Lib.hid hnt
            clear hnt
            cases s
            · obtain rfl : f = 9 := hbd.out (by rw [hri.out, hs.out]; simp)
              go_wp2_with (go_at_call 55; refine (hQ _ (show PatIn _ _ _ _ from HP3.out.below (below_alloc _ _)) (show PatIn _ _ _ _ from HP13.out.below (below_alloc _ _))).mono ?_; rintro e w5 ⟨rfl, hb7⟩)
              go_ret
              exact ⟨rfl, (hb6.alloc hb6z _).trans (hb7.mono (by simp; omega))⟩
            · go_wp2_with (go_at_call 55; refine (hQ _ (show PatIn _ _ _ _ from HP3.out.below (below_alloc _ _)) (show PatIn _ _ _ _ from HP13.out.below (below_alloc _ _))).mono ?_; rintro e w5 ⟨rfl, hb7⟩)
              go_roundw
              case rel =>
                refine ⟨k + 1, by omega, by go_num, (hb6.alloc hb6z _).trans (hb7.mono (by simp; omega)), Lib.hid (fun j hj hjk => ?_)⟩
                by_cases e : j = k
                · subst e; rw [hre.out, hri.out, hs.out]; simp [HNT.out]
                · exact hall.out j hj (by omega)
              case measure => simp [intOf]; omega
          · have hne : (x.nt != r.nt) = true := by simp [hnt]
            have hne2 : (x.nt == r.nt) = false := by simp [hnt]
            obtain rfl : f = 9 := hbd.out (by rw [hri.out]; simp [hnt])
            go_wp2_with fail
            go_ret
            exact ⟨rfl, hb6.alloc hb6z _⟩
      · obtain rfl : k = n := by omega
        go_wp2_with fail
        go_ret
        refine ⟨?_, hb⟩
        rw [← hf.out, checkE_good rs hm.out (fun j hj => hall.out j hj (by rw [← hn.out]; exact hj))]
        rfl

end

/- The reference's Check walked. -/
section
open Go.RowKit

theorem formOf_form {s : List UInt8} {x : Rule} (h : formOf s = some x) : x.form = s := by
  unfold formOf at h
  have := List.find?_some h
  simpa using this

theorem rightR_same {r x : Rule} (h : formOf r.form = some x) : rightR r = same (⟨x.nt, x.pat, r.cost, x.form⟩ : Rule) r := by
  unfold rightR
  rw [h, Bool.eq_iff_iff, same_iff, Rule.ext_iff']
  simp [same_iff, formOf_form h]

set_option maxRecDepth 100000 in
set_option maxHeartbeats 4000000 in
theorem checkR_any (rs : List Rule) (hwf : RulesWf rs) (A : Option Addr) (c : Nat) (w : World) (hr : RulesIn w A c rs) :
    Calls Tryd.prog 19 #[.slice A rs.length c] w (IntRet (checkE rs) w) := by
  have hmay := fun W hW => mayR_any rs hwf A c W hW
  obtain ⟨hl, _⟩ := hwf
  unfold reachBytes at hl
  obtain ⟨n, hn⟩ : ∃ n, Hid (rs.length = n) := ⟨_, Lib.hid rfl⟩
  obtain ⟨f, hf⟩ : ∃ x, Hid (checkE rs = x) := ⟨_, Lib.hid rfl⟩
  have HR := Lib.hid hr
  rw [hn.out] at hl hmay
  rw [hn.out, hf.out]
  clear hr
  obtain ⟨m, hm⟩ : ∃ x, Hid (mayRs rs = x) := ⟨_, Lib.hid rfl⟩
  rw [hm.out] at hmay
  cases m
  · obtain rfl : f = 1 := by rw [← hf.out]; unfold checkE; rw [hm.out]; simp
    go_enter Tryd.func19, Tryd.ntmps19
    go_wp2_with fail
    refine (hmay _ HR.out).mono ?_
    rintro e w1 ⟨rfl, hb1⟩
    go_wp2_with fail
    go_ret
    exact ⟨rfl, hb1⟩
  · have hbad := Lib.hid (checkE_bad rs hm.out)
    go_enter Tryd.func19, Tryd.ntmps19
    go_wp2_with fail
    refine (hmay _ HR.out).mono ?_
    rintro e w1 ⟨rfl, hb1⟩
    clear hmay
    go_wp2_with fail
    go_loopw [3] (fun i wr => ∃ k : Nat, k ≤ n ∧ i = .int .i64 k ∧ Below w.heap.size w wr ∧ Hid (∀ j (h : j < rs.length), j < k → rightR rs[j] = true)) (fun i _ => n - (intOf i).toNat)
    case atStart => exact ⟨0, by omega, rfl, hb1, Lib.hid (fun j _ h => absurd h (by omega))⟩
    case round =>
      obtain ⟨k, hk, rfl, hb, hall⟩ := hrel
      obtain ⟨wo, rfl⟩ : ∃ wo : World, wo = wr := ⟨_, rfl⟩
      clear hb1
      by_cases hlt : k < n
      · have hkl : k < rs.length := by rw [hn.out]; exact hlt
        obtain ⟨ok, hrs⟩ := HR.out.below hb
        obtain ⟨g, off, B, d, rfl, _, hg, ⟨a0, a1, a2, a3, a4, a5⟩, _, hpi⟩ := rules_at hrs k hkl
        obtain ⟨r, hre⟩ : ∃ r, Hid (rs[k] = r) := ⟨_, Lib.hid rfl⟩
        rw [hre.out] at a0 a1 a2 a3 a4 a5 hpi
        have HP : Hid (PatIn wo B d r.pat) := Lib.hid ⟨_, hpi⟩
        have hbz := hb.size
        have hbd : Hid (rightR r = false → f = 9) := Lib.hid (fun h => by rw [← hf.out]; exact hbad.out k hkl (by rw [hre.out]; exact h))
        have hF := fun W => refForm_any r.form W
        clear hrs hpi
        cases hfo : formOf r.form with
        | none =>
          rw [hfo] at hF
          simp only [Option.getD_none, Option.isSome_none] at hF
          obtain rfl : f = 9 := hbd.out (by unfold rightR; rw [hfo])
          go_wp2_with fail
          refine (hF _).mono ?_
          rintro e w3 ⟨A3, c3, rfl, _, hb3⟩
          obtain ⟨x0, x1, x2, x3, x4, x5⟩ := later6 hb3 ⟨a0, a1, a2, a3, a4, a5⟩
          have hb6 := hb.trans (hb3.mono hb.size)
          have hb6z := hb6.size
          have hg3 : g < w3.heap.size := by have := hb3.size; omega
          clear hF a0 a1 a2 a3 a4 a5
          go_wp2_with fail
          go_quiet (fail)
          go_wp2_with fail
          go_ret
          exact ⟨rfl, below_drewsN (hb6.alloc hb6z _) _⟩
        | some x =>
          rw [hfo] at hF
          simp only [Option.getD_some, Option.isSome_some] at hF
          have hri : Hid (rightR r = same (⟨x.nt, x.pat, r.cost, x.form⟩ : Rule) r) := Lib.hid (rightR_same hfo)
          clear hfo
          go_wp2_with fail
          refine (hF _).mono ?_
          rintro e w3 ⟨A3, c3, rfl, hp3, hb3⟩
          have HP3 : Hid (PatIn w3 A3 c3 x.pat) := Lib.hid (patIn_of_ret hp3)
          have HP13 : Hid (PatIn w3 B d r.pat) := Lib.hid (HP.out.below hb3)
          obtain ⟨x0, x1, x2, x3, x4, x5⟩ := later6 hb3 ⟨a0, a1, a2, a3, a4, a5⟩
          have hb6 := hb.trans (hb3.mono hb.size)
          have hb6z := hb6.size
          have hg3 : g < w3.heap.size := by have := hb3.size; omega
          have hQ := fun W => eqRule_any (⟨x.nt, x.pat, r.cost, x.form⟩ : Rule) r A3 B c3 d W
          obtain ⟨s, hs⟩ : ∃ s, Hid (same (⟨x.nt, x.pat, r.cost, x.form⟩ : Rule) r = s) := ⟨_, Lib.hid rfl⟩
          rw [hs.out] at hQ
          clear hF hp3 HP a0 a1 a2 a3 a4 a5
          go_wp2_with fail
          obtain ⟨w4, hw4⟩ : ∃ w4, w4 = w3.alloc (.cells #[.int .i64 x.nt, .int .i64 x.pat.op, .int .i64 x.pat.nt, .slice A3 x.pat.kids.length c3, .int .i64 r.cost, .string ⟨x.form.toArray⟩] 33) := ⟨_, rfl⟩
          have hb4 : Below w3.heap.size w3 w4 := by rw [hw4]; exact below_alloc _ _
          obtain ⟨q0, q1, q2, q3, q4, q5⟩ := later6 hb4 ⟨x0, x1, x2, x3, x4, x5⟩
          have r0 : w4.cell? ⟨w3.heap.size, 0, none⟩ = some (.int .i64 x.nt) := by rw [hw4]; simp
          have r1 : w4.cell? ⟨w3.heap.size, 1, none⟩ = some (.int .i64 x.pat.op) := by rw [hw4]; simp
          have r2 : w4.cell? ⟨w3.heap.size, 2, none⟩ = some (.int .i64 x.pat.nt) := by rw [hw4]; simp
          have r3 : w4.cell? ⟨w3.heap.size, 3, none⟩ = some (.slice A3 x.pat.kids.length c3) := by rw [hw4]; simp
          have r4 : w4.cell? ⟨w3.heap.size, 4, none⟩ = some (.int .i64 r.cost) := by rw [hw4]; simp
          have r5 : w4.cell? ⟨w3.heap.size, 5, none⟩ = some (.string ⟨x.form.toArray⟩) := by rw [hw4]; simp
          have H4 : Hid (PatIn w4 A3 c3 x.pat) := Lib.hid (HP3.out.below hb4)
          have H4' : Hid (PatIn w4 B d r.pat) := Lib.hid (HP13.out.below hb4)
          have hlt4 : w3.heap.size < w4.heap.size := by rw [hw4]; simp
          have hb8 : Below w.heap.size w w4 := hb6.trans (hb4.mono hb6z)
          have hb8z := hb8.size
          rw [← hw4]
          clear hw4 x0 x1 x2 x3 x4 x5
          cases s
          all_goals
            go_region_held3 (fun W => W.cell? ⟨g, off + k * 6, none⟩ = some (.int .i64 r.nt) ∧ W.cell? ⟨g, off + k * 6 + 1, none⟩ = some (.int .i64 r.pat.op) ∧ W.cell? ⟨g, off + k * 6 + 2, none⟩ = some (.int .i64 r.pat.nt) ∧ W.cell? ⟨g, off + k * 6 + 3, none⟩ = some (.slice B r.pat.kids.length d) ∧ W.cell? ⟨g, off + k * 6 + 4, none⟩ = some (.int .i64 r.cost) ∧ W.cell? ⟨g, off + k * 6 + 5, none⟩ = some (.string ⟨r.form.toArray⟩) ∧ W.cell? ⟨w3.heap.size, 0, none⟩ = some (.int .i64 x.nt) ∧ W.cell? ⟨w3.heap.size, 1, none⟩ = some (.int .i64 x.pat.op) ∧ W.cell? ⟨w3.heap.size, 2, none⟩ = some (.int .i64 x.pat.nt) ∧ W.cell? ⟨w3.heap.size, 3, none⟩ = some (.slice A3 x.pat.kids.length c3) ∧ W.cell? ⟨w3.heap.size, 4, none⟩ = some (.int .i64 r.cost) ∧ W.cell? ⟨w3.heap.size, 5, none⟩ = some (.string ⟨x.form.toArray⟩)) ((refine ⟨?_, ?_, ?_, ?_, ?_, ?_, ?_, ?_, ?_, ?_, ?_, ?_⟩ <;> (with_reducible (repeat (first | assumption | refine cell_drewN ?_ _ | refine cell_drew ?_)))))
              ((go_at_call 13; refine (hQ _ (show PatIn _ _ _ _ from by with_reducible (repeat (first | exact H4.out | refine PatIn.drewN ?_ _ | refine PatIn.drew ?_))) (show PatIn _ _ _ _ from by with_reducible (repeat (first | exact H4'.out | refine PatIn.drewN ?_ _ | refine PatIn.drew ?_)))).mono ?_; rintro e w5 ⟨rfl, hb7⟩; obtain ⟨y0, y1, y2, y3, y4, y5⟩ := later6 hb7 ⟨q0, q1, q2, q3, q4, q5⟩; obtain ⟨z0, z1, z2, z3, z4, z5⟩ := later6 hb7 ⟨r0, r1, r2, r3, r4, r5⟩))
            go_wp2_with fail
            have hb9 : Below w.heap.size w w5 := hb8.trans (((Below.refl _ _).drew).trans (hb7.mono hb8z))
          · obtain rfl : f = 9 := hbd.out (by rw [hri.out, hs.out])
            go_ret
            exact ⟨rfl, hb9⟩
          · go_roundw
            case rel =>
              refine ⟨k + 1, by omega, by go_num, hb9, Lib.hid (fun j hj hjk => ?_)⟩
              by_cases e : j = k
              · subst e; rw [hre.out, hri.out, hs.out]
              · exact hall.out j hj (by omega)
            case measure => simp [intOf]; omega
      · obtain rfl : k = n := by omega
        go_wp2_with fail
        go_ret
        refine ⟨?_, hb⟩
        rw [← hf.out, checkE_good rs hm.out (fun j hj => hall.out j hj (by rw [← hn.out]; exact hj))]
        rfl

end

/- Whether there are enough rules: rule.Whole walked. -/
section
open Go.RowKit

set_option maxHeartbeats 1000000 in
theorem whole1_any (r : Rule) (A : Option Addr) (m c b : Nat) (s : List UInt8) (w : World) (hb : b < w.heap.size) (hs : w.cell? ⟨b, 5, none⟩ = some (.string ⟨s.toArray⟩)) :
    Calls Tryd.prog 51 #[.agg #[.int .i64 r.nt, .int .i64 r.pat.op, .int .i64 r.pat.nt, .slice A m c, .int .i64 r.cost, .string ⟨r.form.toArray⟩], .pointer (some ⟨b, 0, none⟩)] w (SomeBoolBelow (r.form == s) w) := by
  go_enter Tryd.func51, Tryd.ntmps51
  go_wp2_with fail
  go_ret
  exact ⟨ret_bool rfl, below_alloc _ _⟩

set_option maxHeartbeats 2000000 in
theorem indexFunc2_any (rs : List Rule) (A : Option Addr) (c b : Nat) (s : List UInt8) (w : World) (hr : RulesIn w A c rs) (hb : b < w.heap.size) (hs : w.cell? ⟨b, 5, none⟩ = some (.string ⟨s.toArray⟩)) :
    Calls Tryd.prog 89 #[.slice A rs.length c, .func (.func 51) #[] #[.pointer (some ⟨b, 0, none⟩)]] w (IdxPost (idxOf rs s) w) := by
  have hl := hr.le
  unfold maxLen at hl
  obtain ⟨n, hn⟩ : ∃ n, Hid (rs.length = n) := ⟨_, Lib.hid rfl⟩
  have HR := Lib.hid hr
  rw [hn.out] at hl ⊢
  clear hr
  go_enter Tryd.func89, Tryd.ntmps89
  go_wp2_with fail
  go_loopw [5, 8] (fun _ i wr => ∃ k : Nat, k ≤ n ∧ i = .int .i64 k ∧ Below w.heap.size w wr ∧ Hid (∀ j (hj : j < rs.length), j < k → rs[j].form ≠ s)) (fun _ i _ => n - (intOf i).toNat)
  case atStart => exact ⟨0, by omega, rfl, Below.refl _ _, Lib.hid (fun j _ h => absurd h (by omega))⟩
  case round =>
    obtain ⟨k, hk, rfl, hbl, hmiss⟩ := hrel
    obtain ⟨wo, rfl⟩ : ∃ wo : World, wo = wr := ⟨_, rfl⟩
    by_cases hlt : k < n
    · have hkl : k < rs.length := by rw [hn.out]; exact hlt
      obtain ⟨ok, hrs⟩ := HR.out.below hbl
      obtain ⟨g, off, B, d, rfl, _, hg, ⟨c0, c1, c2, c3, c4, c5⟩, _, _⟩ := rules_at hrs k hkl
      have hs' : wo.cell? ⟨b, 5, none⟩ = some (.string ⟨s.toArray⟩) := (hbl.cell hb).trans hs
      have hb' : b < wo.heap.size := Nat.lt_of_lt_of_le hb hbl.size
      obtain ⟨r, hre⟩ : ∃ r, Hid (rs[k] = r) := ⟨_, Lib.hid rfl⟩
      rw [hre.out] at c0 c1 c2 c3 c4 c5
      clear hrs hs
      have hc := whole1_any r B r.pat.kids.length d b s wo hb' hs'
      by_cases hf : r.form = s
      · rw [show (r.form == s) = true by simp [hf]] at hc
        have HF := Lib.hid hf
        clear hs' hf
        go_wp2_with (go_at_call 51; refine hc.mono ?_; rintro e w1 ⟨rfl, hb1⟩)
        go_ret
        refine ⟨?_, hbl.trans (hb1.mono hbl.size)⟩
        rw [idxOf_hit rs s k hkl (by rw [hre.out]; exact HF.out) (fun j hj => hmiss.out j (by omega) hj)]
        rfl
      · rw [show (r.form == s) = false by simp [hf]] at hc
        have HF := Lib.hid hf
        clear hs' hf
        go_wp2_with (go_at_call 51; refine hc.mono ?_; rintro e w1 ⟨rfl, hb1⟩)
        go_roundw
        case rel =>
          refine ⟨k + 1, by omega, by go_num, hbl.trans (hb1.mono hbl.size), Lib.hid (fun j hj hjk => ?_)⟩
          by_cases e : j = k
          · subst e; rw [hre.out]; exact HF.out
          · exact hmiss.out j hj (by omega)
        case measure => simp [intOf]; omega
    · obtain rfl : k = n := by omega
      go_wp2_with fail
      go_ret
      refine ⟨?_, hbl⟩
      rw [idxOf_miss rs s (fun j hj => hmiss.out j hj (by rw [← hn.out]; exact hj))]
      rfl

def hasForm (rs : List Rule) (s : List UInt8) : Bool := rs.any fun x => x.form == s

theorem hasForm_idx (rs : List Rule) (s : List UInt8) : (0 ≤ idxOf rs s ∧ hasForm rs s = true) ∨ (idxOf rs s = -1 ∧ hasForm rs s = false) := by
  unfold idxOf hasForm
  by_cases h : rs.findIdx (fun r => r.form == s) < rs.length
  · left
    rw [if_pos h]
    refine ⟨by omega, ?_⟩
    rw [List.any_eq_true]
    exact ⟨_, List.getElem_mem h, List.findIdx_getElem (w := h)⟩
  · right
    rw [if_neg h]
    refine ⟨rfl, ?_⟩
    have h2 : rs.findIdx (fun r => r.form == s) = rs.length := by
      have := List.findIdx_le_length (xs := rs) (p := fun r => r.form == s)
      omega
    rw [List.findIdx_eq_length] at h2
    rw [List.any_eq_false]
    intro x hx
    have := h2 x hx
    simpa using this

set_option maxHeartbeats 2000000 in
theorem containsFunc_any (rs : List Rule) (A : Option Addr) (c b : Nat) (s : List UInt8) (w : World) (hr : RulesIn w A c rs) (hb : b < w.heap.size) (hs : w.cell? ⟨b, 5, none⟩ = some (.string ⟨s.toArray⟩)) :
    Calls Tryd.prog 50 #[.slice A rs.length c, .func (.func 51) #[] #[.pointer (some ⟨b, 0, none⟩)]] w (SomeBoolBelow (hasForm rs s) w) := by
  have hc := indexFunc2_any rs A c b s w hr hb hs
  rcases hasForm_idx rs s with ⟨h1, h2⟩ | ⟨h1, h2⟩
  · rw [h2]
    obtain ⟨i, hi⟩ : ∃ i, Hid (idxOf rs s = i) := ⟨_, Lib.hid rfl⟩
    rw [hi.out] at h1 hc
    clear h2
    go_enter Tryd.func50, Tryd.ntmps50
    go_wp2_with fail
    refine hc.mono ?_
    rintro e w1 ⟨rfl, hb1⟩
    go_wp2_with fail
    go_ret
    exact ⟨ret_bool rfl, hb1⟩
  · rw [h2]
    rw [h1] at hc
    clear h1 h2
    go_enter Tryd.func50, Tryd.ntmps50
    go_wp2_with fail
    refine hc.mono ?_
    rintro e w1 ⟨rfl, hb1⟩
    go_wp2_with fail
    go_ret
    exact ⟨ret_bool rfl, hb1⟩

def sFit : List UInt8 := [102, 105, 116]
def sUp : List UInt8 := [117, 112]
def sOff : List UInt8 := [111, 102, 102]
def special (s : List UInt8) : Bool := s == sFit || (s == sUp || s == sOff)
def kid1 (r : Rule) : Int := (r.pat.kids.getD 1 (.mk 0 0 [])).nt
/-- must a form be there? -/
def neededR (r : Rule) : Bool := !special r.form && (!isBin r.pat.op || (!Lib.hasSuffix r.form [105] || kid1 r == 0))

set_option maxHeartbeats 4000000 in
theorem needed_any (r : Rule) (hl : r.form.length ≤ 1000) (hk : isBin r.pat.op = true → r.pat.kids.length = 2) (A : Option Addr) (c : Nat) (w : World) (hp : PatIn w A c r.pat) :
    Calls Tryd.prog 52 #[.agg #[.int .i64 r.nt, .int .i64 r.pat.op, .int .i64 r.pat.nt, .slice A r.pat.kids.length c, .int .i64 r.cost, .string ⟨r.form.toArray⟩]] w (SomeBoolBelow (neededR r) w) := by
  obtain ⟨b1, hb1⟩ : ∃ x, Hid (isBin r.pat.op = x) := ⟨_, Lib.hid rfl⟩
  have c1 := fun W => binary_any r.pat.op W
  have c2 := fun W => Tryd.strings_HasSuffix ⟨r.form.toArray⟩ ⟨#[105]⟩ W (by simp [ByteArray.size]; omega)
  obtain ⟨b2, hb2⟩ : ∃ x, Hid (Lib.hasSuffix r.form [105] = x) := ⟨_, Lib.hid rfl⟩
  obtain ⟨f, hf⟩ : ∃ x, Hid (neededR r = x) := ⟨_, Lib.hid rfl⟩
  have hfe : Hid (f = (!special r.form && (!b1 || (!b2 || kid1 r == 0)))) := Lib.hid (by rw [← hf.out]; unfold neededR; rw [hb1.out, hb2.out])
  rw [hf.out]
  rw [hb1.out] at c1 hk
  rw [show Lib.hasSuffix (ByteArray.mk r.form.toArray).data.toList (ByteArray.mk #[105]).data.toList = Lib.hasSuffix r.form [105] from rfl, hb2.out] at c2
  have HK := Lib.hid hk
  have HP := Lib.hid hp
  clear hk hp
  obtain ⟨n, hn⟩ : ∃ n, Hid (r.pat.kids.length = n) := ⟨_, Lib.hid rfl⟩
  by_cases hs : special r.form = true
  · obtain rfl : f = false := by rw [hfe.out, hs]; rfl
    have hs2 : r.form = [102, 105, 116] ∨ r.form = [117, 112] ∨ r.form = [111, 102, 102] := by
      unfold special sFit sUp sOff at hs
      simpa using hs
    clear hs
    rcases hs2 with h | h | h
    all_goals
      rw [h]
      go_enter Tryd.func52, Tryd.ntmps52
      go_wp2_with fail
      go_ret
      exact ⟨ret_bool rfl, below_alloc _ _⟩
  · have hs2 : special r.form = false := by simpa using hs
    have hfe2 : Hid (f = (!b1 || (!b2 || kid1 r == 0))) := Lib.hid (by rw [hfe.out, hs2]; rfl)
    have t1 : (r.form == [102, 105, 116]) = false ∧ (r.form == [117, 112]) = false ∧ (r.form == [111, 102, 102]) = false := by
      unfold special sFit sUp sOff at hs2
      simpa using hs2
    obtain ⟨t1, t2, t3⟩ := t1
    clear hs hs2
    cases b1
    · obtain rfl : f = true := by rw [hfe2.out]; rfl
      go_enter Tryd.func52, Tryd.ntmps52
      go_wp2_with (go_at_call 86; refine (c1 _).mono ?_; rintro e w' ⟨rfl, rfl⟩)
      go_ret
      exact ⟨ret_bool rfl, below_alloc _ _⟩
    · cases b2
      · obtain rfl : f = true := by rw [hfe2.out]; rfl
        go_enter Tryd.func52, Tryd.ntmps52
        go_wp2_with (first | (go_at_call 86; refine (c1 _).mono ?_; rintro e w' ⟨rfl, rfl⟩) | (go_at_call 94; refine (c2 _).mono ?_; rintro e w' ⟨rfl, rfl⟩))
        go_ret
        exact ⟨ret_bool rfl, below_alloc _ _⟩
      · have hn2 : r.pat.kids.length = 2 := HK.out rfl
        obtain ⟨ok, hps⟩ := HP.out.kids
        obtain ⟨g, off, B, d, rfl, _, hg, ⟨a0, a1, a2⟩, hx⟩ := pats_at hps 1 (by omega)
        clear hx
        have hk1 : Hid (kid1 r = (r.pat.kids[1]'(by omega)).nt) := Lib.hid (by unfold kid1; rw [List.getD_eq_getElem?_getD, List.getElem?_eq_getElem (by omega)]; rfl)
        obtain ⟨y, hy⟩ : ∃ y, Hid ((r.pat.kids[1]'(by omega)).nt = y) := ⟨_, Lib.hid rfl⟩
        rw [hy.out] at a1
        have a1' : w.cell? ⟨g, off + 3 + 1, none⟩ = some (.int .i64 y) := a1
        have a1'' : w.cell? ⟨g, off + 4, none⟩ = some (.int .i64 y) := a1
        have hfe3 : Hid (f = (y == 0)) := Lib.hid (by rw [hfe2.out, hk1.out, hy.out]; rfl)
        have HN2 := Lib.hid hn2
        rw [HN2.out]
        clear a0 a1 a2 hps hk1 hy hn2
        go_enter Tryd.func52, Tryd.ntmps52
        go_wp2_with (first | (go_at_call 86; refine (c1 _).mono ?_; rintro e w' ⟨rfl, rfl⟩) | (go_at_call 94; refine (c2 _).mono ?_; rintro e w' ⟨rfl, rfl⟩))
        go_ret
        exact ⟨ret_bool hfe3.out.symm, below_alloc _ _⟩

def wholeB (rs : List Rule) : Bool := formsR.all fun r => hasForm rs r.form || !neededR r

theorem forms_len (k : Nat) (h : k < formsR.length) : (formsR[k]).form.length ≤ 1000 ∧ (isBin (formsR[k]).pat.op = true → (formsR[k]).pat.kids.length = 2) := by
  have h0 : (formsR.all fun r => decide (r.form.length ≤ 1000) && (!isBin r.pat.op || decide (r.pat.kids.length = 2))) = true := by kernel_rfl
  have h1 := List.all_eq_true.1 h0 _ (List.getElem_mem h)
  simp only [Bool.and_eq_true, decide_eq_true_eq, Bool.or_eq_true, Bool.not_eq_true'] at h1
  refine ⟨h1.1, fun hb => ?_⟩
  rcases h1.2 with h2 | h2
  · rw [hb] at h2; cases h2
  · exact h2

theorem wholeB_bad (rs : List Rule) (k : Nat) (hk : k < formsR.length) (h1 : hasForm rs formsR[k].form = false) (h2 : neededR formsR[k] = true) : wholeB rs = false := by
  unfold wholeB
  rw [List.all_eq_false]
  exact ⟨formsR[k], List.getElem_mem hk, by rw [h1, h2]; simp⟩
theorem wholeB_good (rs : List Rule) (ha : ∀ j (hj : j < formsR.length), (hasForm rs formsR[j].form || !neededR formsR[j]) = true) : wholeB rs = true := by
  unfold wholeB
  rw [List.all_eq_true]
  intro x hx
  obtain ⟨j, hj, rfl⟩ := List.getElem_of_mem hx
  exact ha j hj

def WholeRet (b : Bool) (i : Int) (w : World) (e : Ending) (w' : World) : Prop := e = .returned (.tuple #[.bool b, .int .i64 i]) ∧ Below w.heap.size w w'

set_option maxRecDepth 100000 in
set_option maxHeartbeats 4000000 in
theorem whole_any (rs : List Rule) (hwf : RulesWf rs) (A : Option Addr) (c : Nat) (w : World) (ht : Tab w) (hr : RulesIn w A c rs) :
    Calls Tryd.prog 18 #[.slice A rs.length c] w (WholeRet (decide (checkE rs = 0) && wholeB rs) (checkE rs) w) := by
  have hck := check_any rs hwf A c w ht hr
  have HR := Lib.hid hr
  clear hr
  obtain ⟨m, hm⟩ : ∃ m, Hid (rs.length = m) := ⟨_, Lib.hid rfl⟩
  rw [hm.out] at hck ⊢
  obtain ⟨ce, hce⟩ : ∃ x, Hid (checkE rs = x) := ⟨_, Lib.hid rfl⟩
  rw [hce.out] at hck ⊢
  by_cases h0 : ce = 0
  · subst h0
    obtain ⟨f, hf⟩ : ∃ x, Hid (wholeB rs = x) := ⟨_, Lib.hid rfl⟩
    rw [hf.out]
    rw [show (decide ((0 : Int) = 0) && f) = f by simp]
    go_enter Tryd.func18, Tryd.ntmps18
    go_wp2_with fail
    refine hck.mono ?_
    rintro e w1 ⟨rfl, hb1⟩
    clear hck
    go_wp2_with fail
    refine (forms_any _ (tab_alloc ht _ hb1)).mono ?_
    rintro e w2 ⟨v2, rfl, ho2, hb2⟩
    have hrep := ho2.rep
    obtain ⟨B2, d2, rfl, _⟩ := hrep.len
    rw [List.length_map] at hrep ⊢
    obtain ⟨n, hn⟩ : ∃ n, Hid (formsR.length = n) := ⟨_, Lib.hid rfl⟩
    have hl2 : n ≤ 100000 := by rw [← hn.out, formsR_len]; omega
    rw [hn.out] at hrep ⊢
    have HF := Lib.hid hrep
    have hb02 : Below w.heap.size w w2 := hb1.trans (hb2.mono hb1.size)
    have hb02z := hb02.size
    clear hrep ho2
    go_wp2_with fail
    go_loopw [15] (fun i wr => ∃ k : Nat, k ≤ n ∧ i = .int .i64 k ∧ Below w2.heap.size w2 wr ∧ Hid (∀ j (hj : j < formsR.length), j < k → (hasForm rs formsR[j].form || !neededR formsR[j]) = true)) (fun i _ => n - (intOf i).toNat)
    case atStart => exact ⟨0, by omega, rfl, Below.refl _ _, Lib.hid (fun j _ h => absurd h (by omega))⟩
    case round =>
      obtain ⟨k, hk, rfl, hb, hall⟩ := hrel
      obtain ⟨wo, rfl⟩ : ∃ wo : World, wo = wr := ⟨_, rfl⟩
      clear hb1 hb2
      have hb0 : Below w.heap.size w wo := hb02.trans (hb.mono hb02z)
      have hb0z := hb0.size
      by_cases hlt : k < n
      · have hkl : k < formsR.length := by rw [hn.out]; exact hlt
        obtain ⟨g, off, B, d, rfl, _, hg, ⟨a0, a1, a2, a3, a4, a5⟩, _, hpi⟩ := rules_at (HF.out.below hb) k hkl
        have hfl := forms_len k hkl
        have hwb := wholeB_bad rs k hkl
        obtain ⟨r, hre⟩ : ∃ r, Hid (formsR[k] = r) := ⟨_, Lib.hid rfl⟩
        rw [hre.out] at a0 a1 a2 a3 a4 a5 hpi hfl hwb
        have HP : Hid (PatIn wo B d r.pat) := Lib.hid ⟨_, hpi⟩
        have HWB := Lib.hid hwb
        have hnd := needed_any r hfl.1 hfl.2 B d
        obtain ⟨b1, hb1⟩ : ∃ x, Hid (hasForm rs r.form = x) := ⟨_, Lib.hid rfl⟩
        obtain ⟨b2, hb2⟩ : ∃ x, Hid (neededR r = x) := ⟨_, Lib.hid rfl⟩
        rw [hb2.out] at hnd
        have hct := fun b W hW h1 h2 => containsFunc_any rs A c b r.form W hW h1 h2
        rw [hm.out, hb1.out] at hct
        clear hwb hpi hfl
        go_wp2_with fail
        obtain ⟨w1, hw1⟩ : ∃ w1, w1 = wo.alloc (.cells #[.int .i64 r.nt, .int .i64 r.pat.op, .int .i64 r.pat.nt, .slice B r.pat.kids.length d, .int .i64 r.cost, .string ⟨r.form.toArray⟩] 33) := ⟨_, rfl⟩
        have hb4 : Below wo.heap.size wo w1 := by rw [hw1]; exact below_alloc _ _
        have r0 : w1.cell? ⟨wo.heap.size, 0, none⟩ = some (.int .i64 r.nt) := by rw [hw1]; simp
        have r1 : w1.cell? ⟨wo.heap.size, 1, none⟩ = some (.int .i64 r.pat.op) := by rw [hw1]; simp
        have r2 : w1.cell? ⟨wo.heap.size, 2, none⟩ = some (.int .i64 r.pat.nt) := by rw [hw1]; simp
        have r3 : w1.cell? ⟨wo.heap.size, 3, none⟩ = some (.slice B r.pat.kids.length d) := by rw [hw1]; simp
        have r4 : w1.cell? ⟨wo.heap.size, 4, none⟩ = some (.int .i64 r.cost) := by rw [hw1]; simp
        have r5 : w1.cell? ⟨wo.heap.size, 5, none⟩ = some (.string ⟨r.form.toArray⟩) := by rw [hw1]; simp
        have hlt1 : wo.heap.size < w1.heap.size := by rw [hw1]; simp
        have HP1 : Hid (PatIn w1 B d r.pat) := Lib.hid (HP.out.below hb4)
        have hb5 : Below w2.heap.size w2 w1 := hb.trans (hb4.mono hb.size)
        have hb6 : Below w.heap.size w w1 := hb0.trans (hb4.mono hb0z)
        rw [← hw1]
        clear hw1 a0 a1 a2 a3 a4 a5
        refine (hct _ _ (HR.out.below hb6) hlt1 r5).mono ?_
        rintro e w3 ⟨rfl, hb7⟩
        obtain ⟨x0, x1, x2, x3, x4, x5⟩ := later6 hb7 ⟨r0, r1, r2, r3, r4, r5⟩
        have HP3 : Hid (PatIn w3 B d r.pat) := Lib.hid (HP1.out.below hb7)
        have hb8 : Below w2.heap.size w2 w3 := hb5.trans (hb7.mono hb5.size)
        have hb9 : Below w.heap.size w w3 := hb6.trans (hb7.mono hb6.size)
        have hlt3 : wo.heap.size < w3.heap.size := by have := hb7.size; omega
        clear hct r0 r1 r2 r3 r4 r5 hlt1
        cases b1
        · cases b2
          · go_wp2_with (go_at_call 52; refine (hnd _ (show PatIn _ _ _ _ from HP3.out)).mono ?_; rintro e w5 ⟨rfl, hb10⟩)
            go_roundw
            case rel =>
              refine ⟨k + 1, by omega, by go_num, hb8.trans (hb10.mono hb8.size), Lib.hid (fun j hj hjk => ?_)⟩
              by_cases e : j = k
              · subst e; rw [hre.out, hb2.out]; simp
              · exact hall.out j hj (by omega)
            case measure => simp [intOf]; omega
          · obtain rfl : f = false := by rw [← hf.out]; exact HWB.out hb1.out hb2.out
            go_wp2_with (go_at_call 52; refine (hnd _ (show PatIn _ _ _ _ from HP3.out)).mono ?_; rintro e w5 ⟨rfl, hb10⟩)
            go_ret2
            exact ⟨rfl, hb9.trans (hb10.mono hb9.size)⟩
        · go_wp2_with fail
          go_roundw
          case rel =>
            refine ⟨k + 1, by omega, by go_num, hb8, Lib.hid (fun j hj hjk => ?_)⟩
            by_cases e : j = k
            · subst e; rw [hre.out, hb1.out]; simp
            · exact hall.out j hj (by omega)
          case measure => simp [intOf]; omega
      · obtain rfl : k = n := by omega
        obtain rfl : f = true := by rw [← hf.out]; exact wholeB_good rs (fun j hj => hall.out j hj (by rw [← hn.out]; exact hj))
        go_wp2_with fail
        go_ret2
        exact ⟨rfl, hb0⟩
  · have hne : (ce != 0) = true := by simp [h0]
    rw [show (decide (ce = 0) && wholeB rs) = false by simp [h0]]
    go_enter Tryd.func18, Tryd.ntmps18
    go_wp2_with fail
    refine hck.mono ?_
    rintro e w1 ⟨rfl, hb1⟩
    go_wp2_with fail
    go_ret2
    exact ⟨rfl, hb1⟩

end

/- The reference's Whole, EqRules walked. -/
section
open Go.RowKit

def skipR (r : Rule) : Bool := special r.form || (decide (r.pat.kids.length = 2) && kid1 r == 2)
theorem skipR_forms (k : Nat) (h : k < formsR.length) : skipR formsR[k] = !neededR formsR[k] := by
  have h0 : (formsR.all fun r => skipR r == !neededR r) = true := by kernel_rfl
  have h1 := List.all_eq_true.1 h0 _ (List.getElem_mem h)
  simpa using h1

theorem hasForm_take (rs : List Rule) (s : List UInt8) (k : Nat) (h : k < rs.length) : hasForm (rs.take (k + 1)) s = (hasForm (rs.take k) s || rs[k].form == s) := by
  unfold hasForm
  rw [List.take_succ_eq_append_getElem h, List.any_append]
  simp

set_option maxRecDepth 100000 in
set_option maxHeartbeats 4000000 in
theorem wholeR_any (rs : List Rule) (A : Option Addr) (c : Nat) (w : World) (hr : RulesIn w A c rs) :
    Calls Tryd.prog 20 #[.slice A rs.length c] w (SomeBoolBelow (wholeB rs) w) := by
  have hle := hr.le
  unfold maxLen at hle
  have HR := Lib.hid hr
  clear hr
  obtain ⟨m, hm⟩ : ∃ m, Hid (rs.length = m) := ⟨_, Lib.hid rfl⟩
  rw [hm.out] at hle ⊢
  obtain ⟨f, hf⟩ : ∃ x, Hid (wholeB rs = x) := ⟨_, Lib.hid rfl⟩
  rw [hf.out]
  go_enter Tryd.func20, Tryd.ntmps20
  go_wp2_with fail
  refine (refForms_any _).mono ?_
  rintro e w2 ⟨v2, rfl, ho2, hb02⟩
  have hrep := ho2.rep
  obtain ⟨B2, d2, rfl, _⟩ := hrep.len
  rw [List.length_map] at hrep ⊢
  obtain ⟨n, hn⟩ : ∃ n, Hid (formsR.length = n) := ⟨_, Lib.hid rfl⟩
  have hl2 : n ≤ 100000 := by rw [← hn.out, formsR_len]; omega
  rw [hn.out] at hrep ⊢
  have HF := Lib.hid hrep
  clear hrep ho2
  go_wp2_with fail
  go_loop [4] (fun i => ∃ k : Nat, k ≤ n ∧ i = .int .i64 k ∧ Hid (∀ j (hj : j < formsR.length), j < k → (hasForm rs formsR[j].form || !neededR formsR[j]) = true)) (fun i => n - (intOf i).toNat)
  case atStart => exact ⟨0, by omega, rfl, Lib.hid (fun j _ h => absurd h (by omega))⟩
  case round =>
    obtain ⟨k, hk, rfl, hall⟩ := hrel
    by_cases hlt : k < n
    · have hkl : k < formsR.length := by rw [hn.out]; exact hlt
      obtain ⟨g, off, B, d, rfl, _, hg, ⟨a0, a1, a2, a3, a4, a5⟩, _, hpi⟩ := rules_at HF.out k hkl
      have hwb := wholeB_bad rs k hkl
      have hsk := skipR_forms k hkl
      obtain ⟨r, hre⟩ : ∃ r, Hid (formsR[k] = r) := ⟨_, Lib.hid rfl⟩
      rw [hre.out] at a0 a1 a2 a3 a4 a5 hpi hwb hsk
      have HWB := Lib.hid hwb
      have HSK := Lib.hid hsk
      have HP : Hid (PatIn w2 B d r.pat) := Lib.hid ⟨_, hpi⟩
      clear hwb hsk hpi
      have hnext : Hid ((hasForm rs r.form || !neededR r) = true → ∀ j (hj : j < formsR.length), j < k + 1 → (hasForm rs formsR[j].form || !neededR formsR[j]) = true) := Lib.hid (fun h j hj hjk => by
        by_cases e : j = k
        · subst e; rw [hre.out]; exact h
        · exact hall.out j hj (by omega))
      by_cases hs : special r.form = true
      · have hgo := Lib.hid (hnext.out (by rw [← HSK.out]; unfold skipR; rw [hs]; simp))
        have hs2 : r.form = [102, 105, 116] ∨ r.form = [117, 112] ∨ r.form = [111, 102, 102] := by
          unfold special sFit sUp sOff at hs
          simpa using hs
        clear hs
        rcases hs2 with h | h | h
        all_goals
          rw [h] at a5
          clear h
          go_wp2_with fail
          go_round
          case rel => exact ⟨k + 1, by omega, by go_num, hgo⟩
          case measure => simp [intOf]; omega
      · have hs2 : special r.form = false := by simpa using hs
        have hskE : Hid (skipR r = (decide (r.pat.kids.length = 2) && kid1 r == 2)) := Lib.hid (by unfold skipR; rw [hs2]; rfl)
        have t1 : (r.form == [102, 105, 116]) = false ∧ (r.form == [117, 112]) = false ∧ (r.form == [111, 102, 102]) = false := by
          unfold special sFit sUp sOff at hs2
          simpa using hs2
        obtain ⟨t1, t2, t3⟩ := t1
        clear hs hs2
        by_cases hskip : skipR r = true
        · have hgo := Lib.hid (hnext.out (by rw [← HSK.out, hskip]; simp))
          rw [hskE.out, Bool.and_eq_true, decide_eq_true_eq] at hskip
          obtain ⟨hn2, hk2⟩ := hskip
          obtain ⟨ok, hps⟩ := HP.out.kids
          obtain ⟨g1, off1, B1, d1, rfl, _, hg1, ⟨e0, e1, e2⟩, hx⟩ := pats_at hps 1 (by omega)
          clear hx
          have hy : (r.pat.kids[1]'(by omega)).nt = 2 := by
            unfold kid1 at hk2
            rw [List.getD_eq_getElem?_getD, List.getElem?_eq_getElem (by omega)] at hk2
            simpa using hk2
          rw [hy] at e1
          have e1' : w2.cell? ⟨g1, off1 + 3 + 1, none⟩ = some (.int .i64 2) := e1
          have e1'' : w2.cell? ⟨g1, off1 + 4, none⟩ = some (.int .i64 2) := e1
          rw [hn2] at a3
          clear e0 e1 e2 hps hy hk2 hn2
          go_wp2_with fail
          go_round
          case rel => exact ⟨k + 1, by omega, by go_num, hgo⟩
          case measure => simp [intOf]; omega
        · have hnd : Hid (neededR r = true) := Lib.hid (by have := HSK.out; revert this hskip; cases skipR r <;> cases neededR r <;> simp)
          have hskf : Hid (skipR r = false) := Lib.hid (by simpa using hskip)
          clear hskip
          by_cases hn2 : r.pat.kids.length = 2
          · obtain ⟨ok, hps⟩ := HP.out.kids
            obtain ⟨g1, off1, B1, d1, rfl, _, hg1, ⟨e0, e1, e2⟩, hx⟩ := pats_at hps 1 (by omega)
            clear hx
            obtain ⟨y, hy⟩ : ∃ y, Hid ((r.pat.kids[1]'(by omega)).nt = y) := ⟨_, Lib.hid rfl⟩
            have hy2 : (y == 2) = false := by
              have h1 := hskf.out
              rw [hskE.out, hn2] at h1
              unfold kid1 at h1
              rw [List.getD_eq_getElem?_getD, List.getElem?_eq_getElem (by omega)] at h1
              rw [← hy.out]
              simpa using h1
            rw [hy.out] at e1
            have e1' : w2.cell? ⟨g1, off1 + 3 + 1, none⟩ = some (.int .i64 y) := e1
            have e1'' : w2.cell? ⟨g1, off1 + 4, none⟩ = some (.int .i64 y) := e1
            rw [hn2] at a3
            clear e0 e1 e2 hps hy hn2
            go_wp2_with fail
            go_loop [6, 7] (fun x i => ∃ (q : Nat) (b : Bool), q ≤ m ∧ i = .int .i64 q ∧ x = .bool b ∧ Hid (b = hasForm (rs.take q) r.form)) (fun _ i => m - (intOf i).toNat)
            case atStart => exact ⟨0, false, by omega, rfl, rfl, Lib.hid (by simp [hasForm])⟩
            case round =>
              obtain ⟨q, b, hq, rfl, rfl, hbq⟩ := hrel
              by_cases hltq : q < m
              · have hql : q < rs.length := by rw [hm.out]; exact hltq
                have hht := Lib.hid (hasForm_take rs r.form q hql)
                cases b
                · obtain ⟨ok2, hrs⟩ := HR.out.below hb02
                  obtain ⟨g2, off2, B2', d2', rfl, _, hg2, ⟨z0, z1, z2, z3, z4, z5⟩, hx1, hx2⟩ := rules_at hrs q hql
                  clear hx1 hx2 hrs
                  obtain ⟨y2, hy2⟩ : ∃ y, Hid (rs[q] = y) := ⟨_, Lib.hid rfl⟩
                  rw [hy2.out] at z0 z1 z2 z3 z4 z5 hht
                  go_wp2_with fail
                  go_round
                  case rel => exact ⟨q + 1, y2.form == r.form, by omega, by go_num, rfl, Lib.hid (by rw [hht.out, ← hbq.out]; simp)⟩
                  case measure => simp [intOf]; omega
                · go_wp2_with fail
                  go_round
                  case rel => exact ⟨q + 1, true, by omega, by go_num, rfl, Lib.hid (by rw [hht.out, ← hbq.out]; simp)⟩
                  case measure => simp [intOf]; omega
              · obtain rfl : q = m := by omega
                have h1 : rs.take q = rs := List.take_of_length_le (by rw [hm.out]; omega)
                have hbq2 := hbq.out
                rw [h1] at hbq2
                have HB := Lib.hid hbq2
                clear hbq2 h1
                cases b
                · obtain rfl : f = false := by rw [← hf.out]; exact HWB.out HB.out.symm hnd.out
                  go_wp2_with fail
                  go_ret
                  exact ⟨ret_bool rfl, hb02⟩
                · have hgo := Lib.hid (hnext.out (by rw [← HB.out]; rfl))
                  go_wp2_with fail
                  go_round
                  case rel => exact ⟨k + 1, by omega, by go_num, hgo⟩
                  case measure => simp [intOf]; omega
          · have hn2e : ((r.pat.kids.length : Int) == 2) = false := by simp; omega
            go_wp2_with fail
            go_loop [6, 7] (fun x i => ∃ (q : Nat) (b : Bool), q ≤ m ∧ i = .int .i64 q ∧ x = .bool b ∧ Hid (b = hasForm (rs.take q) r.form)) (fun _ i => m - (intOf i).toNat)
            case atStart => exact ⟨0, false, by omega, rfl, rfl, Lib.hid (by simp [hasForm])⟩
            case round =>
              obtain ⟨q, b, hq, rfl, rfl, hbq⟩ := hrel
              by_cases hltq : q < m
              · have hql : q < rs.length := by rw [hm.out]; exact hltq
                have hht := Lib.hid (hasForm_take rs r.form q hql)
                cases b
                · obtain ⟨ok2, hrs⟩ := HR.out.below hb02
                  obtain ⟨g2, off2, B2', d2', rfl, _, hg2, ⟨z0, z1, z2, z3, z4, z5⟩, hx1, hx2⟩ := rules_at hrs q hql
                  clear hx1 hx2 hrs
                  obtain ⟨y2, hy2⟩ : ∃ y, Hid (rs[q] = y) := ⟨_, Lib.hid rfl⟩
                  rw [hy2.out] at z0 z1 z2 z3 z4 z5 hht
                  go_wp2_with fail
                  go_round
                  case rel => exact ⟨q + 1, y2.form == r.form, by omega, by go_num, rfl, Lib.hid (by rw [hht.out, ← hbq.out]; simp)⟩
                  case measure => simp [intOf]; omega
                · go_wp2_with fail
                  go_round
                  case rel => exact ⟨q + 1, true, by omega, by go_num, rfl, Lib.hid (by rw [hht.out, ← hbq.out]; simp)⟩
                  case measure => simp [intOf]; omega
              · obtain rfl : q = m := by omega
                have h1 : rs.take q = rs := List.take_of_length_le (by rw [hm.out]; omega)
                have hbq2 := hbq.out
                rw [h1] at hbq2
                have HB := Lib.hid hbq2
                clear hbq2 h1
                cases b
                · obtain rfl : f = false := by rw [← hf.out]; exact HWB.out HB.out.symm hnd.out
                  go_wp2_with fail
                  go_ret
                  exact ⟨ret_bool rfl, hb02⟩
                · have hgo := Lib.hid (hnext.out (by rw [← HB.out]; rfl))
                  go_wp2_with fail
                  go_round
                  case rel => exact ⟨k + 1, by omega, by go_num, hgo⟩
                  case measure => simp [intOf]; omega
    · obtain rfl : k = n := by omega
      obtain rfl : f = true := by rw [← hf.out]; exact wholeB_good rs (fun j hj => hall.out j hj (by rw [← hn.out]; exact hj))
      go_wp2_with fail
      go_ret
      exact ⟨ret_bool rfl, hb02⟩

end

/- EqRules; RuleChecks' function walked. -/
section
open Go.RowKit

set_option maxHeartbeats 4000000 in
theorem eqRules_self (rs : List Rule) (A B : Option Addr) (c d : Nat) (w : World) (hp : RulesIn w A c rs) (hq : RulesIn w B d rs) :
    Calls Tryd.prog 22 #[.slice A rs.length c, .slice B rs.length d] w (SomeBoolBelow true w) := by
  have hm := hp.le
  unfold maxLen at hm
  obtain ⟨n, hn⟩ : ∃ n, Hid (rs.length = n) := ⟨_, Lib.hid rfl⟩
  have HPP := Lib.hid hp
  have HQQ := Lib.hid hq
  rw [hn.out] at hm ⊢
  clear hp hq
  go_enter Tryd.func22, Tryd.ntmps22
  go_wp2_with fail
  go_loopw [5] (fun i wr => ∃ k : Nat, k ≤ n ∧ i = .int .i64 k ∧ Below w.heap.size w wr) (fun i _ => n - (intOf i).toNat)
  case atStart => exact ⟨0, by omega, rfl, Below.refl _ _⟩
  case round =>
    obtain ⟨k, hk, rfl, hb⟩ := hrel
    obtain ⟨wo, rfl⟩ : ∃ wo : World, wo = wr := ⟨_, rfl⟩
    by_cases hlt : k < n
    · have hkl : k < rs.length := by rw [hn.out]; exact hlt
      obtain ⟨okp, hp1⟩ := HPP.out.below hb
      obtain ⟨okq, hq1⟩ := HQQ.out.below hb
      obtain ⟨g, off, A', c', rfl, _, hg, ⟨a0, a1, a2, a3, a4, a5⟩, _, hpi⟩ := rules_at hp1 k hkl
      obtain ⟨g', off', B', d', rfl, _, hg', ⟨b0, b1, b2, b3, b4, b5⟩, _, hqi⟩ := rules_at hq1 k hkl
      obtain ⟨r, hre⟩ : ∃ r, Hid (rs[k] = r) := ⟨_, Lib.hid rfl⟩
      rw [hre.out] at a0 a1 a2 a3 a4 a5 b0 b1 b2 b3 b4 b5 hpi hqi
      have hQ := fun W => eqRule_any r r A' B' c' d' W
      rw [same_self] at hQ
      have HP : Hid (PatIn wo A' c' r.pat) := Lib.hid ⟨_, hpi⟩
      have HQ : Hid (PatIn wo B' d' r.pat) := Lib.hid ⟨_, hqi⟩
      clear hp1 hq1 hpi hqi
      go_wp2_with fail
      go_region_held3 (fun W => W.cell? ⟨g, off + k * 6, none⟩ = some (.int .i64 r.nt) ∧ W.cell? ⟨g, off + k * 6 + 1, none⟩ = some (.int .i64 r.pat.op) ∧ W.cell? ⟨g, off + k * 6 + 2, none⟩ = some (.int .i64 r.pat.nt) ∧ W.cell? ⟨g, off + k * 6 + 3, none⟩ = some (.slice A' r.pat.kids.length c') ∧ W.cell? ⟨g, off + k * 6 + 4, none⟩ = some (.int .i64 r.cost) ∧ W.cell? ⟨g, off + k * 6 + 5, none⟩ = some (.string ⟨r.form.toArray⟩) ∧ W.cell? ⟨g', off' + k * 6, none⟩ = some (.int .i64 r.nt) ∧ W.cell? ⟨g', off' + k * 6 + 1, none⟩ = some (.int .i64 r.pat.op) ∧ W.cell? ⟨g', off' + k * 6 + 2, none⟩ = some (.int .i64 r.pat.nt) ∧ W.cell? ⟨g', off' + k * 6 + 3, none⟩ = some (.slice B' r.pat.kids.length d') ∧ W.cell? ⟨g', off' + k * 6 + 4, none⟩ = some (.int .i64 r.cost) ∧ W.cell? ⟨g', off' + k * 6 + 5, none⟩ = some (.string ⟨r.form.toArray⟩)) ((refine ⟨?_, ?_, ?_, ?_, ?_, ?_, ?_, ?_, ?_, ?_, ?_, ?_⟩ <;> (with_reducible (repeat (first | assumption | refine cell_drewN ?_ _ | refine cell_drew ?_)))))
        ((go_at_call 13; refine (hQ _ (show PatIn _ _ _ _ from by with_reducible (repeat (first | exact HP.out | refine PatIn.drewN ?_ _ | refine PatIn.drew ?_))) (show PatIn _ _ _ _ from by with_reducible (repeat (first | exact HQ.out | refine PatIn.drewN ?_ _ | refine PatIn.drew ?_)))).mono ?_; rintro e w5 ⟨rfl, hb7⟩; obtain ⟨y0, y1, y2, y3, y4, y5⟩ := later6 hb7 ⟨a0, a1, a2, a3, a4, a5⟩; obtain ⟨z0, z1, z2, z3, z4, z5⟩ := later6 hb7 ⟨b0, b1, b2, b3, b4, b5⟩))
      go_wp2_with fail
      go_roundw
      case rel => exact ⟨k + 1, by omega, by go_num, hb.trans (((Below.refl _ _).drew).trans (hb7.mono hb.size))⟩
      case measure => simp [intOf]; omega
    · obtain rfl : k = n := by omega
      go_wp2_with fail
      go_ret
      exact ⟨rfl, hb⟩

theorem RulesWf.take {rs : List Rule} (h : RulesWf rs) (q : Nat) : RulesWf (rs.take q) := by
  refine ⟨Nat.le_trans (by simp; omega) h.1, fun r hr => h.2 r (List.mem_of_mem_take hr)⟩
theorem RulesSmall.take {rs : List Rule} (h : RulesSmall rs) (q : Nat) : RulesSmall (rs.take q) := by
  refine ⟨Nat.le_trans (by simp; omega) h.1, fun j hj => ?_⟩
  rw [List.getElem_take]
  exact h.2 j (by simp at hj; omega)

theorem RepRow.take {w : World} {ok : Nat → Prop} {z : Nat} : ∀ (ds : List D) (cs : List Value) (q : Nat), RepRow w ok z ds cs → RepRow w ok z (ds.take q) cs
  | [], _, _, _ => by simp; unfold RepRow; trivial
  | d :: ds, cs, 0, _ => by simp; unfold RepRow; trivial
  | d :: ds, cs, q + 1, h => by
    unfold RepRow at h
    obtain ⟨a, b, rfl, h1, h2, h3⟩ := h
    rw [List.take_succ_cons]
    unfold RepRow
    exact ⟨a, b, rfl, h1, h2, RepRow.take ds b q h3⟩

theorem rep_take {w : World} {ok : Nat → Prop} {z : Nat} {ds : List D} {A : Option Addr} {n c : Nat} (h : Rep w ok (.lst z ds) [.slice A n c]) (q : Nat) (hq : q ≤ ds.length) : Rep w ok (.lst z (ds.take q)) [.slice A q c] := by
  unfold Rep at h ⊢
  obtain ⟨A', c', he, hc, hm, h⟩ := h
  injection he with he _
  injection he with e1 e2 e3
  subst e1 e3
  refine ⟨A, c, by rw [List.length_take, Nat.min_eq_left hq], by rw [List.length_take]; omega, hm, fun hn => ?_⟩
  rw [List.length_take] at hn
  obtain ⟨g, off, cur, t, fr, hA, hok, hg, hrow⟩ := h (by omega)
  exact ⟨g, off, cur, t, fr, hA, hok, hg, RepRow.take ds _ q hrow⟩

theorem RulesIn.take {w : World} {A : Option Addr} {c : Nat} {rs : List Rule} (h : RulesIn w A c rs) (q : Nat) (hq : q ≤ rs.length) : RulesIn w A c (rs.take q) := by
  obtain ⟨ok, h⟩ := h
  refine ⟨ok, ?_⟩
  have := rep_take h q (by simpa using hq)
  rw [← List.map_take] at this
  rw [List.length_take, Nat.min_eq_left hq]
  exact this

theorem RulesIn.cap {w : World} {A : Option Addr} {c : Nat} {rs : List Rule} (h : RulesIn w A c rs) : rs.length ≤ c := by
  obtain ⟨ok, h⟩ := h
  obtain ⟨A', c', he, h1, _⟩ := h.len
  injection he with e1 e2 e3
  rw [List.length_map] at h1
  omega

theorem rulesIn_of_own {w' : World} {B : Nat} {A : Option Addr} {n c : Nat} {T : TypeId} {ok : Nat → Prop} {rs : List Rule} (h : Own w' B ok T 6 (.slice A n c) (rs.map encR)) : n = rs.length ∧ RulesIn w' A c rs := by
  have hr := h.rep
  obtain ⟨A', c', he, _⟩ := hr.len
  injection he with e1 e2 e3
  rw [List.length_map] at e2
  subst e1 e2 e3
  exact ⟨rfl, ⟨_, hr⟩⟩

set_option maxRecDepth 100000 in
set_option maxHeartbeats 8000000 in
theorem ruleChecks_any (L : List (List Rule)) (S : List (List UInt8)) (A1 A2 : Option Addr) (c1 c2 : Nat) (W : World) (hwf : AskWf L S)
    (h1 : Rep W (fun _ => True) (.lst 1 (L.map encRs)) [.slice A1 L.length c1]) (h2 : Rep W (fun _ => True) (.lst 1 (S.map .str)) [.slice A2 S.length c2]) (ht : Tab W) :
    Calls Tryd.prog 4 #[.agg #[.slice A1 L.length c1, .slice A2 S.length c2]] W (SomeBoolBelow true W) := by
  have hHv := fun w a b => heavy11_any L S A1 A2 c1 c2 w hwf a b
  obtain ⟨hL, _, hwL, _⟩ := hwf
  unfold reachBytes at hL
  obtain ⟨n, hn⟩ : ∃ n, Hid (L.length = n) := ⟨_, Lib.hid rfl⟩
  obtain ⟨s, hs⟩ : ∃ s, Hid (S.length = s) := ⟨_, Lib.hid rfl⟩
  rw [hn.out] at hL h1 hHv ⊢
  rw [hs.out] at h2 hHv ⊢
  have H1 := Lib.hid h1
  have H2 := Lib.hid h2
  clear h1 h2
  go_enter Tryd.func4, Tryd.ntmps4
  go_wp2_with fail
  refine (hHv _ (Rep.alloc H1.out _) (Rep.alloc H2.out _)).mono ?_
  rintro e w1 ⟨b, rfl, hsm, hb1⟩
  have hb01 : Below W.heap.size W w1 := (below_alloc _ _).trans (hb1.mono (by simp))
  have hz1 : W.heap.size < w1.heap.size := by have := hb1.size; simp at this; omega
  have x0 : w1.cell? ⟨W.heap.size, 0, none⟩ = some (.slice A1 n c1) := cell_later hb1 (by simp)
  have HSM := Lib.hid hsm
  clear hHv hsm
  rcases (by cases b <;> simp : b = true ∨ b = false) with rfl | rfl
  · go_wp2_with fail
    go_ret
    exact ⟨rfl, hb01⟩
  · have HSM2 := Lib.hid (HSM.out rfl)
    clear HSM
    go_wp2_with fail
    go_loopw [3] (fun i wr => ∃ k : Nat, k ≤ n ∧ k ≤ 6 ∧ i = .int .i64 k ∧ Below w1.heap.size w1 wr) (fun i _ => 6 - (intOf i).toNat)
    case atStart => exact ⟨0, by omega, by omega, rfl, Below.refl _ _⟩
    case round =>
      obtain ⟨k, hk, hk6, rfl, hb⟩ := hrel
      obtain ⟨wo, rfl⟩ : ∃ wo : World, wo = wr := ⟨_, rfl⟩
      have hb0 : Below W.heap.size W wo := hb01.trans (hb.mono hb01.size)
      have y0 : wo.cell? ⟨W.heap.size, 0, none⟩ = some (.slice A1 n c1) := cell_later hb x0
      have hz0 : W.heap.size < wo.heap.size := by have := hb.size; omega
      by_cases hlt : k < n ∧ k < 6
      · obtain ⟨hlt, hlt6⟩ := hlt
        have hkl : k < L.length := by rw [hn.out]; exact hlt
        have hsmk := HSM2.out L[k] (List.getElem_mem hkl)
        have hwk := hwL L[k] (List.getElem_mem hkl)
        obtain ⟨rs, hrs⟩ : ∃ rs, Hid (L[k] = rs) := ⟨_, Lib.hid rfl⟩
        rw [hrs.out] at hsmk hwk
        have HSK := Lib.hid hsmk
        have HWK := Lib.hid hwk
        obtain ⟨m, hm⟩ : ∃ m, Hid (rs.length = m) := ⟨_, Lib.hid rfl⟩
        have hml : m ≤ 1048576 := by rw [← hm.out]; exact hsmk.1
        clear hsmk hwk x0
        have hk6d : decide ((k : Int) < 6) = true := by simp; omega
        go_wp2_with fail
        go_loopw [4] (fun i wr => ∃ q : Nat, q ≤ m + 1 + m ∧ i = .int .i64 q ∧ Below wo.heap.size wo wr) (fun i _ => m + 1 - (intOf i).toNat)
        case atStart => exact ⟨0, by omega, rfl, Below.refl _ _⟩
        case round =>
          obtain ⟨q, hq, rfl, hbq⟩ := hrel
          obtain ⟨wp, rfl⟩ : ∃ wp : World, wp = wr := ⟨_, rfl⟩
          have hb0q : Below W.heap.size W wp := hb0.trans (hbq.mono hb0.size)
          have y1 : wp.cell? ⟨W.heap.size, 0, none⟩ = some (.slice A1 n c1) := cell_later hbq y0
          have hzp : W.heap.size < wp.heap.size := by have := hbq.size; omega
          obtain ⟨g, off, B, d, rfl, hg, a0, hri⟩ := lists_at (H1.out.below hb0q) k hkl
          rw [hrs.out] at a0 hri
          rw [hm.out] at a0
          have hmd : m ≤ d := by rw [← hm.out]; exact hri.cap
          have HRI := Lib.hid hri
          clear hri y0
          by_cases hql : q ≤ m
          · have HIN : Hid (RulesIn wp B d (rs.take q)) := Lib.hid (HRI.out.take q (by rw [hm.out]; exact hql))
            have HWF : Hid (RulesWf (rs.take q)) := Lib.hid (HWK.out.take q)
            have HSQ : Hid (RulesSmall (rs.take q)) := Lib.hid (HSK.out.take q)
            have hlen : Hid ((rs.take q).length = q) := Lib.hid (by rw [List.length_take, hm.out]; omega)
            obtain ⟨l, hl⟩ : ∃ l, Hid (rs.take q = l) := ⟨_, Lib.hid rfl⟩
            rw [hl.out] at HIN HWF HSQ hlen
            have f1 := fun w a => copyRules_any l HSQ.out B d w a
            have f2 := fun A c w a b => whole_any l HWF.out A c w a b
            have f3 := fun w a => checkR_any l HWF.out B d w a
            have f4 := fun w a => wholeR_any l B d w a
            have f5 := fun A c w a b => check_any l HWF.out A c w a b
            have f6 := fun A c w a b => eqRules_self l A B c d w a b
            rw [hlen.out] at f1 f2 f3 f4 f5 f6
            obtain ⟨ce, hce⟩ : ∃ x, Hid (checkE l = x) := ⟨_, Lib.hid rfl⟩
            obtain ⟨wb, hwb⟩ : ∃ x, Hid (wholeB l = x) := ⟨_, Lib.hid rfl⟩
            rw [hce.out] at f2 f3 f5
            rw [hwb.out] at f2 f4
            go_wp2_with fail
            refine (f1 _ HIN.out).mono ?_
            rintro e w3 ⟨v3, rfl, ho3, hb3⟩
            obtain ⟨A3, d3, rfl, _⟩ := ho3.rep.len
            obtain ⟨_, hr3⟩ := rulesIn_of_own ho3
            rw [List.length_map] at ho3 ⊢
            rw [hlen.out] at ho3 ⊢
            have HR3 : Hid (RulesIn w3 A3 d3 l) := Lib.hid hr3
            have HB3 : Hid (RulesIn w3 B d l) := Lib.hid (HIN.out.below hb3)
            have hbw3 : Below W.heap.size W w3 := hb0q.trans (hb3.mono hb0q.size)
            clear ho3 hr3 f1
            go_wp2_with fail
            refine (f2 A3 d3 _ (tab_alloc ht _ hbw3) HR3.out).mono ?_
            rintro e w4 ⟨rfl, hb4⟩
            have HR4 : Hid (RulesIn w4 A3 d3 l) := Lib.hid (HR3.out.below hb4)
            have HB4 : Hid (RulesIn w4 B d l) := Lib.hid (HB3.out.below hb4)
            have hbw4 : Below W.heap.size W w4 := hbw3.trans (hb4.mono hbw3.size)
            clear f2
            go_wp2_with fail
            refine (f3 _ HB4.out).mono ?_
            rintro e w5 ⟨rfl, hb5⟩
            have HR5 : Hid (RulesIn w5 A3 d3 l) := Lib.hid (HR4.out.below hb5)
            have HB5 : Hid (RulesIn w5 B d l) := Lib.hid (HB4.out.below hb5)
            have hbw5 : Below W.heap.size W w5 := hbw4.trans (hb5.mono hbw4.size)
            have hbp5 : Below wo.heap.size wo w5 := hbq.trans ((hb3.mono hbq.size).trans ((hb4.mono (by have := hbq.size; have := hb3.size; omega)).trans (hb5.mono (by have := hbq.size; have := hb3.size; have := hb4.size; omega))))
            clear f3
            by_cases hc0 : ce = 0
            · subst hc0
              go_wp2_with fail
              refine (f4 _ HB5.out).mono ?_
              rintro e w6 ⟨rfl, hb6⟩
              have HR6 : Hid (RulesIn w6 A3 d3 l) := Lib.hid (HR5.out.below hb6)
              have HB6 : Hid (RulesIn w6 B d l) := Lib.hid (HB5.out.below hb6)
              have hbw6 : Below W.heap.size W w6 := hbw5.trans (hb6.mono hbw5.size)
              have hbp6 : Below wo.heap.size wo w6 := hbp5.trans (hb6.mono hbp5.size)
              clear f4
              go_wp2_with fail
              refine (f5 A3 d3 _ (tab_alloc ht _ hbw6) HR6.out).mono ?_
              rintro e w7 ⟨rfl, hb7⟩
              have HR7 : Hid (RulesIn w7 A3 d3 l) := Lib.hid (HR6.out.below hb7)
              have HB7 : Hid (RulesIn w7 B d l) := Lib.hid (HB6.out.below hb7)
              have hbp7 : Below wo.heap.size wo w7 := hbp6.trans (hb7.mono hbp6.size)
              clear f5
              have y7 := cell_later hb7 (cell_later hb6 (cell_later hb5 (cell_later hb4 (cell_later hb3  y1))))
              have a7 := cell_later hb7 (cell_later hb6 (cell_later hb5 (cell_later hb4 (cell_later hb3  a0))))
              have hz7 : W.heap.size < w7.heap.size := by have := hbp7.size; omega
              have hg7 : g < w7.heap.size := World.block_lt_of_cell? _ _ a7
              clear y1 a0 hg hzp
              go_wp2_with (first | (go_at_call 12; refine (num12_any _ _).mono ?_; rintro e w' ⟨rfl, rfl⟩) | (go_at_call 22; refine (f6 A3 d3 _ HR7.out HB7.out).mono ?_; rintro e w8 ⟨rfl, hb8⟩; have y8 := cell_later hb8 y7; have a8 := cell_later hb8 a7))
              go_roundw
              case rel => exact ⟨q + 1 + m / 8, by omega, by go_num, hbp7.trans (hb8.mono hbp7.size)⟩
              case measure => simp [intOf]; omega
            · have hce2 : (ce == 0) = false := by simpa using hc0
              have hdc : decide (ce = 0) = false := by simpa using hc0
              rw [hdc, Bool.false_and]
              go_wp2_with fail
              refine (f5 A3 d3 _ (tab_alloc ht _ hbw5) HR5.out).mono ?_
              rintro e w7 ⟨rfl, hb7⟩
              have HR7 : Hid (RulesIn w7 A3 d3 l) := Lib.hid (HR5.out.below hb7)
              have HB7 : Hid (RulesIn w7 B d l) := Lib.hid (HB5.out.below hb7)
              have hbp7 : Below wo.heap.size wo w7 := hbp5.trans (hb7.mono hbp5.size)
              clear f5 f4
              have y7 := cell_later hb7 (cell_later hb5 (cell_later hb4 (cell_later hb3  y1)))
              have a7 := cell_later hb7 (cell_later hb5 (cell_later hb4 (cell_later hb3  a0)))
              have hz7 : W.heap.size < w7.heap.size := by have := hbp7.size; omega
              have hg7 : g < w7.heap.size := World.block_lt_of_cell? _ _ a7
              clear y1 a0 hg hzp
              go_wp2_with (first | (go_at_call 12; refine (num12_any _ _).mono ?_; rintro e w' ⟨rfl, rfl⟩) | (go_at_call 22; refine (f6 A3 d3 _ HR7.out HB7.out).mono ?_; rintro e w8 ⟨rfl, hb8⟩; have y8 := cell_later hb8 y7; have a8 := cell_later hb8 a7))
              go_roundw
              case rel => exact ⟨q + 1 + m / 8, by omega, by go_num, hbp7.trans (hb8.mono hbp7.size)⟩
              case measure => simp [intOf]; omega
          · go_wp2_with fail
            go_roundw
            case rel => exact ⟨k + 1, by omega, by omega, by go_num, hb.trans (hbq.mono hb.size)⟩
            case measure => simp [intOf]; omega
      · have hfin : ∀ W', Below W.heap.size W W' → Calls Tryd.prog 15 #[] W' fun e w' => e = .returned (.bool true) ∧ Below W'.heap.size W' w' := fun W' h => wakes12_any W' (tab_alloc ht _ h)
        by_cases hkn : k < n
        · have h6 : ¬ k < 6 := fun h => hlt ⟨hkn, h⟩
          clear hlt
          go_wp2_with fail
          refine (hfin _ hb0).mono ?_
          rintro e w3 ⟨rfl, hb3⟩
          go_wp2_with fail
          go_ret
          exact ⟨ret_bool rfl, hb0.trans (hb3.mono hb0.size)⟩
        · clear hlt
          go_wp2_with fail
          refine (hfin _ hb0).mono ?_
          rintro e w3 ⟨rfl, hb3⟩
          go_wp2_with fail
          go_ret
          exact ⟨ret_bool rfl, hb0.trans (hb3.mono hb0.size)⟩

end

/- What all rows of this seat have in common: the table of blanks, the questions of gantletlaw11 as they come in. -/
section
open Go.ChangeShapes Go.WideShapes Go.ChangeAt Go.RowKit

theorem own : ownKnob Tryd.prog.godebug = none := by kernel_rfl
theorem laidOut : laidOutB Tryd.prog = true := by kernel_rfl

theorem laid_tab : (Rows.laid_strings_asciiSpace : DataW Unit) = Lib.tabData .u8 Lib.asciiSpaceTab := by kernel_rfl

set_option maxRecDepth 100000 in
/-- what the row's list gives: the table of blanks -/
theorem tab_of {W : World} (h : laidMetH Tryd.prog [("unicode.White_Space", Rows.laid_unicode_White_Space), ("strings.asciiSpace", Rows.laid_strings_asciiSpace)] W) : Tab W := by
  rw [MakeChecks.laidMetH_plain _ _ _ (by kernel_rfl)] at h
  have ht : (Tryd.prog.globals[(Tryd.prog.globalNamed "strings.asciiSpace").getD 0]?).map (·.type) = some 167 := by kernel_rfl
  have hg : Tryd.prog.globalNamed "strings.asciiSpace" = some ((Tryd.prog.globalNamed "strings.asciiSpace").getD 0) := by kernel_rfl
  have h2 : laidMet Tryd.prog [("strings.asciiSpace", Rows.laid_strings_asciiSpace)] W := h.tail
  rw [laid_tab] at h2
  exact Lib.tabIs_of_head (rest := []) hg ht Tryd.underlying167 Tryd.underlying5 (by kernel_rfl) (by kernel_rfl) h2

def askTypes : List TypeId := [25, 22, 23, 26, 9, 33, 3, 31, 29]
theorem askTypes_ok : askTypes.all (plainTy Tryd.prog askTypes) = true := by kernel_rfl

theorem light_one {H : Type} {t : TypeId} {rest : List TypeId} {d : DataW H} (h : (DataW.weightsEach Tryd.prog ((#[t] : Array TypeId).toList ++ rest) ([d] ++ [])).all (· ≤ reachBytes) = true) : Light Tryd.prog t d := by
  have h2 : ∀ n ∈ DataW.weightsEach Tryd.prog (t :: rest) [d], n ≤ reachBytes := fun n hn => by simpa using List.all_eq_true.1 h n hn
  exact light_each _ _ h2 0 t d rfl rfl

theorem ask_in {H : Type} {enc : TypeId × Value → H} {W : World} {base fuel : Nat} {spare : Nat → Bool} {held : Bool} {cs : Array Value} {x : DataW H × List MemPlace} (hw : Light Tryd.prog 25 x.1) (h : DataW.trod enc Tryd.prog W base spare held fuel 25 (Value.agg cs).cells.toList = some x) :
    ∃ (L : List (List Rule)) (S : List (List UInt8)) (A1 A2 : Option Addr) (c1 c2 : Nat), AskWf L S ∧ cs = #[.slice A1 L.length c1, .slice A2 S.length c2] ∧ Rep W (fun _ => True) (.lst 1 (L.map encRs)) [.slice A1 L.length c1] ∧ Rep W (fun _ => True) (.lst 1 (S.map .str)) [.slice A2 S.length c2] := by
  obtain ⟨d, h1, h2, h3⟩ := rep_of_trod askTypes_ok fuel 25 _ x (by kernel_rfl) hw h
  obtain ⟨L, S, rfl, hwf⟩ := ask_of d h2
  unfold encAsk at h1
  obtain ⟨a, b, e1, g1, g2⟩ := repAll_inv (rep_st_inv h1)
  obtain ⟨a2, b2, e2, g3, g4⟩ := repAll_inv g2
  have e3 := repAll_nil g4
  obtain ⟨A1, c1, e4, _, _, g5⟩ := rep_lst_inv g1
  obtain ⟨A2, c2, e5, _, _, g6⟩ := rep_lst_inv g3
  rw [List.length_map] at e4 e5 g5 g6
  refine ⟨L, S, A1, A2, c1, c2, hwf, ?_, g5, g6⟩
  rw [e4, e2, e5, e3] at e1
  have : cs.toList = [.slice A1 L.length c1, .slice A2 S.length c2] := e1
  rw [← Array.toList_inj, this]

end

end Go.Proofs.YtaippkdlibampaaDoor

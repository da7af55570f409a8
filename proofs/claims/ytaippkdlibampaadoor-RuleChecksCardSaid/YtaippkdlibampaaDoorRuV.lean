/- rule.same, rule.Check and the reference's Check walked. -/
import Derived.Test.YtaippkdlibampaaDoorRuU
namespace Go.Proofs.YtaippkdlibampaaDoor
open Go.RowKit

def SamePatOk (p : Pat) : Prop := ∀ (q : Pat) (A B : Option Addr) (c d : Nat) (w : World), PatIn w A c p → PatIn w B d q →
  Calls Tryd.prog 55 #[.agg #[.int .i64 p.op, .int .i64 p.nt, .slice A p.kids.length c], .agg #[.int .i64 q.op, .int .i64 q.nt, .slice B q.kids.length d]] w (SomeBoolBelow (same p q) w)

set_option maxHeartbeats 2000000 in
theorem equalFunc_of (ps qs : List Pat) (ih : ∀ i (h : i < ps.length), SamePatOk ps[i]) (A B : Option Addr) (c d : Nat) (w : World) (hp : PatsIn w A c ps) (hq : PatsIn w B d qs) :
    Calls Tryd.prog 100 #[.slice A ps.length c, .slice B qs.length d, .func (.func 55) #[] #[]] w (SomeBoolBelow (same ps qs) w) := by
  have hm := hp.le
  unfold maxLen at hm
  by_cases hl : ps.length = qs.length
  · obtain ⟨n, hn⟩ : ∃ n, Hid (ps.length = n) := ⟨_, Lib.hid rfl⟩
    have hn2 : Hid (qs.length = n) := Lib.hid (by rw [← hl]; exact hn.out)
    rw [hn.out, hn2.out]
    rw [hn.out] at hm
    have HPP := Lib.hid hp
    have HQQ := Lib.hid hq
    clear hl hp hq
    go_enter Tryd.func100, Tryd.ntmps100
    go_wp2_with fail
    go_loopw [17] (fun i wr => ∃ k : Nat, k ≤ n ∧ i = .int .i64 k ∧ Below w.heap.size w wr ∧ Hid (∀ j (h1 : j < ps.length) (h2 : j < qs.length), j < k → ps[j] = qs[j])) (fun i _ => n - (intOf i).toNat)
    case atStart => exact ⟨0, by omega, rfl, Below.refl _ _, Lib.hid (fun j _ _ h => absurd h (by omega))⟩
    case round =>
      obtain ⟨k, hk, rfl, hb, hsame⟩ := hrel
      obtain ⟨wo, rfl⟩ : ∃ wo : World, wo = wr := ⟨_, rfl⟩
      by_cases hlt : k < n
      · have hkp : k < ps.length := by rw [hn.out]; exact hlt
        have hkq : k < qs.length := by rw [hn2.out]; exact hlt
        obtain ⟨okp, hp1⟩ := HPP.out.below hb
        obtain ⟨okq, hq1⟩ := HQQ.out.below hb
        obtain ⟨g, off, A', c', rfl, _, hg, ⟨a0, a1, a2⟩, hpi⟩ := pats_at hp1 k hkp
        obtain ⟨g', off', B', d', rfl, _, hg', ⟨b0, b1, b2⟩, hqi⟩ := pats_at hq1 k hkq
        have hc := ih k hkp qs[k] A' B' c' d'
        obtain ⟨p, hpe⟩ : ∃ p, Hid (ps[k] = p) := ⟨_, Lib.hid rfl⟩
        obtain ⟨q, hqe⟩ : ∃ q, Hid (qs[k] = q) := ⟨_, Lib.hid rfl⟩
        rw [hpe.out] at a0 a1 a2 hpi hc
        rw [hqe.out] at b0 b1 b2 hqi hc
        have HP : Hid (PatIn wo A' c' p) := Lib.hid ⟨_, hpi⟩
        have HQ : Hid (PatIn wo B' d' q) := Lib.hid ⟨_, hqi⟩
        have hbz := hb.size
        clear hp1 hq1 hpi hqi ih
        obtain ⟨s, hs⟩ : ∃ s, Hid (same p q = s) := ⟨_, Lib.hid rfl⟩
        rw [hs.out] at hc
        go_wp2_with fail
        refine (hc _ (HP.out.below (below_box2 _ _ _)) (HQ.out.below (below_box2 _ _ _))).mono ?_
        rintro e w3 ⟨rfl, hb3⟩
        have hb4 : Below w.heap.size w w3 := hb.trans (((below_box2 _ _ _).mono hbz).trans (hb3.mono (by simp; omega)))
        cases s
        · go_wp2_with fail
          go_ret
          refine ⟨ret_bool ?_, hb4⟩
          symm
          rw [same_false]
          intro he
          apply (same_false p q).1 hs.out
          rw [← hpe.out, ← hqe.out]
          simp only [he]
        · go_wp2_with fail
          go_roundw
          case rel =>
            refine ⟨k + 1, by omega, by go_num, hb4, Lib.hid (fun j h1 h2 hjk => ?_)⟩
            by_cases e : j = k
            · subst e; rw [hpe.out, hqe.out]; exact (same_iff p q).1 hs.out
            · exact hsame.out j h1 h2 (by omega)
          case measure => simp [intOf]; omega
      · obtain rfl : k = n := by omega
        go_wp2_with fail
        go_ret
        refine ⟨ret_bool ?_, hb⟩
        have : ps = qs := List.ext_getElem (by rw [hn.out, hn2.out]) (fun j h1 h2 => hsame.out j h1 h2 (by rw [← hn.out]; exact h1))
        rw [(same_iff _ _).2 this]
  · go_enter Tryd.func100, Tryd.ntmps100
    go_wp2_with fail
    · go_ret
      refine ⟨ret_bool ?_, Below.refl _ _⟩
      symm
      rw [same_false]
      intro he
      exact hl (by rw [he])

set_option maxHeartbeats 2000000 in
theorem samePat_of (p : Pat) (ih : ∀ i (h : i < p.kids.length), SamePatOk p.kids[i]) : SamePatOk p := by
  intro q A B c d w hp hq
  have hk := fun W => equalFunc_of p.kids q.kids ih A B c d W
  obtain ⟨po, hpo⟩ : ∃ x, Hid (p.op = x) := ⟨_, Lib.hid rfl⟩
  obtain ⟨qo, hqo⟩ : ∃ x, Hid (q.op = x) := ⟨_, Lib.hid rfl⟩
  obtain ⟨pn, hpn⟩ : ∃ x, Hid (p.nt = x) := ⟨_, Lib.hid rfl⟩
  obtain ⟨qn, hqn⟩ : ∃ x, Hid (q.nt = x) := ⟨_, Lib.hid rfl⟩
  have HPK : Hid (PatsIn w A c p.kids) := Lib.hid hp.kids
  have HQK : Hid (PatsIn w B d q.kids) := Lib.hid hq.kids
  have hsm : Hid (same p q = true ↔ po = qo ∧ pn = qn ∧ same p.kids q.kids = true) := by
    refine Lib.hid ?_
    rw [same_iff, same_iff, Pat.ext_iff', hpo.out, hqo.out, hpn.out, hqn.out]
  rw [hpo.out, hqo.out, hpn.out, hqn.out]
  clear hp hq ih
  by_cases h1 : po = qo
  · subst h1
    by_cases h2 : pn = qn
    · subst h2
      have hs : Hid (same p q = same p.kids q.kids) := by
        refine Lib.hid ?_
        rw [Bool.eq_iff_iff, hsm.out]; simp
      rw [hs.out]
      go_enter Tryd.func55, Tryd.ntmps55
      go_wp2_with fail
      refine (hk _ (HPK.out.below (below_box2 _ _ _)) (HQK.out.below (below_box2 _ _ _))).mono ?_
      rintro e w3 ⟨rfl, hb3⟩
      go_wp2_with fail
      go_ret
      exact ⟨ret_bool rfl, (below_box2 _ _ _).trans (hb3.mono (by simp; omega))⟩
    · have hs : Hid (same p q = false) := by
        refine Lib.hid ?_
        rw [← Bool.not_eq_true, hsm.out]; exact fun h => h2 h.2.1
      rw [hs.out]
      have hne : (pn == qn) = false := by simpa using h2
      go_enter Tryd.func55, Tryd.ntmps55
      go_wp2_with fail
      go_ret
      exact ⟨ret_bool rfl, below_box2 _ _ _⟩
  · have hs : Hid (same p q = false) := by
      refine Lib.hid ?_
      rw [← Bool.not_eq_true, hsm.out]; exact fun h => h1 h.1
    rw [hs.out]
    have hne : (po == qo) = false := by simpa using h1
    go_enter Tryd.func55, Tryd.ntmps55
    go_wp2_with fail
    go_ret
    exact ⟨ret_bool rfl, below_box2 _ _ _⟩

theorem samePat_any : ∀ p : Pat, SamePatOk p
  | .mk op nt kids => samePat_of _ fun i h => samePat_any kids[i]
termination_by p => SizeOf.sizeOf p
decreasing_by
  have := List.sizeOf_lt_of_mem (List.getElem_mem h)
  simp only [Pat.kids] at this
  simp only [Pat.mk.sizeOf_spec]
  omega

/-- is a rule one of the forms' but for its cost? -/
noncomputable def rightR (r : Rule) : Bool :=
  match formOf r.form with
  | none => false
  | some x => decide (x.nt = r.nt) && same x.pat r.pat
noncomputable def checkE (rs : List Rule) : Int := if mayRs rs = false then 1 else if rs.all rightR then 0 else 9

theorem checkE_bad (rs : List Rule) (h : mayRs rs = true) (k : Nat) (hk : k < rs.length) (hb : rightR rs[k] = false) : checkE rs = 9 := by
  unfold checkE
  have : rs.all rightR = false := by
    rw [List.all_eq_false]
    exact ⟨rs[k], List.getElem_mem hk, by simp [hb]⟩
  rw [if_neg (by rw [h]; simp), this]; simp
theorem checkE_good (rs : List Rule) (h : mayRs rs = true) (ha : ∀ j (hj : j < rs.length), rightR rs[j] = true) : checkE rs = 0 := by
  unfold checkE
  have : rs.all rightR = true := by
    rw [List.all_eq_true]
    intro x hx
    obtain ⟨j, hj, rfl⟩ := List.getElem_of_mem hx
    exact ha j hj
  rw [if_neg (by rw [h]; simp), this]; simp

def IntRet (i : Int) (w : World) (e : Ending) (w' : World) : Prop := e = .returned (.int .i64 i) ∧ Below w.heap.size w w'

theorem patIn_of_ret {B : Nat} {r : Rule} {w' : World} {A : Option Addr} {c : Nat} (h : Rep w' (fun g => B ≤ g) (encR r) [.int .i64 r.nt, .int .i64 r.pat.op, .int .i64 r.pat.nt, .slice A r.pat.kids.length c, .int .i64 r.cost, .string ⟨r.form.toArray⟩]) : PatIn w' A c r.pat := by
  obtain ⟨A', c', he, _, hpp⟩ := rep_rule_inv h
  simp only [List.cons.injEq, Value.slice.injEq, true_and, and_true] at he
  obtain ⟨rfl, rfl⟩ := he
  exact ⟨_, hpp⟩

set_option maxRecDepth 100000 in
set_option maxHeartbeats 4000000 in
theorem check_any (rs : List Rule) (hwf : RulesWf rs) (A : Option Addr) (c : Nat) (w : World) (ht : Tab w) (hr : RulesIn w A c rs) :
    Calls Tryd.prog 21 #[.slice A rs.length c] w (IntRet (checkE rs) w) := by
  have hmay := fun W hW => may_any rs hwf A c W hW
  obtain ⟨hl, _⟩ := hwf
  unfold reachBytes at hl
  obtain ⟨n, hn⟩ : ∃ n, Hid (rs.length = n) := ⟨_, Lib.hid rfl⟩
  obtain ⟨f, hf⟩ : ∃ x, Hid (checkE rs = x) := ⟨_, Lib.hid rfl⟩
  have HR := Lib.hid hr
  rw [hn.out] at hl hmay
  rw [hn.out, hf.out]
  clear hr
  obtain ⟨m, hm⟩ : ∃ x, Hid (mayRs rs = x) := ⟨_, Lib.hid rfl⟩
  rw [hm.out] at hmay
  cases m
  · obtain rfl : f = 1 := by rw [← hf.out]; unfold checkE; rw [hm.out]; simp
    go_enter Tryd.func21, Tryd.ntmps21
    go_wp2_with fail
    refine (hmay _ HR.out).mono ?_
    rintro e w1 ⟨rfl, hb1⟩
    go_wp2_with fail
    go_ret
    exact ⟨rfl, hb1⟩
  · have hbad := Lib.hid (checkE_bad rs hm.out)
    go_enter Tryd.func21, Tryd.ntmps21
    go_wp2_with fail
    refine (hmay _ HR.out).mono ?_
    rintro e w1 ⟨rfl, hb1⟩
    clear hmay
    go_wp2_with fail
    go_loopw [12] (fun i wr => ∃ k : Nat, k ≤ n ∧ i = .int .i64 k ∧ Below w.heap.size w wr ∧ Hid (∀ j (h : j < rs.length), j < k → rightR rs[j] = true)) (fun i _ => n - (intOf i).toNat)
    case atStart => exact ⟨0, by omega, rfl, hb1, Lib.hid (fun j _ h => absurd h (by omega))⟩
    case round =>
      obtain ⟨k, hk, rfl, hb, hall⟩ := hrel
      obtain ⟨wo, rfl⟩ : ∃ wo : World, wo = wr := ⟨_, rfl⟩
      clear hb1
      by_cases hlt : k < n
      · have hkl : k < rs.length := by rw [hn.out]; exact hlt
        obtain ⟨ok, hrs⟩ := HR.out.below hb
        obtain ⟨g, off, B, d, rfl, _, hg, ⟨a0, a1, a2, a3, a4, a5⟩, _, hpi⟩ := rules_at hrs k hkl
        obtain ⟨r, hre⟩ : ∃ r, Hid (rs[k] = r) := ⟨_, Lib.hid rfl⟩
        rw [hre.out] at a0 a1 a2 a3 a4 a5 hpi
        have HP : Hid (PatIn wo B d r.pat) := Lib.hid ⟨_, hpi⟩
        have hbz := hb.size
        have hbd : Hid (rightR r = false → f = 9) := Lib.hid (fun h => by rw [← hf.out]; exact hbad.out k hkl (by rw [hre.out]; exact h))
        have hF := fun W hW => found_any r.form W hW
        clear hrs hpi
        go_wp2_with fail
        obtain ⟨w1, hw1⟩ : ∃ w1, w1 = wo.alloc (.cells #[.int .i64 r.nt, .int .i64 r.pat.op, .int .i64 r.pat.nt, .slice B r.pat.kids.length d, .int .i64 r.cost, .string ⟨r.form.toArray⟩] 33) := ⟨_, rfl⟩
        have hb4 : Below wo.heap.size wo w1 := by rw [hw1]; exact below_alloc _ _
        have r0 : w1.cell? ⟨wo.heap.size, 0, none⟩ = some (.int .i64 r.nt) := by rw [hw1]; simp
        have r1 : w1.cell? ⟨wo.heap.size, 1, none⟩ = some (.int .i64 r.pat.op) := by rw [hw1]; simp
        have r2 : w1.cell? ⟨wo.heap.size, 2, none⟩ = some (.int .i64 r.pat.nt) := by rw [hw1]; simp
        have r3 : w1.cell? ⟨wo.heap.size, 3, none⟩ = some (.slice B r.pat.kids.length d) := by rw [hw1]; simp
        have r4 : w1.cell? ⟨wo.heap.size, 4, none⟩ = some (.int .i64 r.cost) := by rw [hw1]; simp
        have r5 : w1.cell? ⟨wo.heap.size, 5, none⟩ = some (.string ⟨r.form.toArray⟩) := by rw [hw1]; simp
        have hlt1 : wo.heap.size < w1.heap.size := by rw [hw1]; simp
        have HP1 : Hid (PatIn w1 B d r.pat) := Lib.hid (HP.out.below hb4)
        have hb5 : Below w.heap.size w w1 := hb.trans (hb4.mono hbz)
        rw [← hw1]
        clear hw1 a0 a1 a2 a3 a4 a5
        cases hfo : formOf r.form with
        | none =>
          rw [hfo] at hF
          simp only [Option.getD_none, Option.isSome_none] at hF
          obtain rfl : f = 9 := hbd.out (by unfold rightR; rw [hfo])
          refine (hF _ (tab_alloc ht _ hb5)).mono ?_
          rintro e w3 ⟨A3, c3, rfl, _, hb3⟩
          clear hF
          go_wp2_with fail
          go_ret
          exact ⟨rfl, (hb5.trans (hb3.mono hb5.size)).alloc (by have := hb5.size; have := hb3.size; omega) _⟩
        | some x =>
          rw [hfo] at hF
          simp only [Option.getD_some, Option.isSome_some] at hF
          have hri : Hid (rightR r = (decide (x.nt = r.nt) && same x.pat r.pat)) := Lib.hid (by unfold rightR; rw [hfo])
          clear hfo
          refine (hF _ (tab_alloc ht _ hb5)).mono ?_
          rintro e w3 ⟨A3, c3, rfl, hp3, hb3⟩
          have HP3 : Hid (PatIn w3 A3 c3 x.pat) := Lib.hid (patIn_of_ret hp3)
          have HP13 : Hid (PatIn w3 B d r.pat) := Lib.hid (HP1.out.below hb3)
          obtain ⟨x0, x1, x2, x3, x4, x5⟩ := later6 hb3 ⟨r0, r1, r2, r3, r4, r5⟩
          have hb6 := hb5.trans (hb3.mono hb5.size)
          have hlt3 : wo.heap.size < w3.heap.size := by have := hb3.size; omega
          have hb6z := hb6.size
          have hQ := fun W => samePat_any x.pat r.pat A3 B c3 d W
          obtain ⟨s, hs⟩ : ∃ s, Hid (same x.pat r.pat = s) := ⟨_, Lib.hid rfl⟩
          rw [hs.out] at hQ
          clear hF hp3 r0 r1 r2 r3 r4 r5 HP1 HP hlt1
          by_cases hnt : x.nt = r.nt
          · have hne : (x.nt != r.nt) = false := by simp [hnt]
            have hne2 : (x.nt == r.nt) = true := by simp [hnt]
            have HNT := Lib.hid hnt
            clear hnt
            cases s
            · obtain rfl : f = 9 := hbd.out (by rw [hri.out, hs.out]; simp)
              go_wp2_with (go_at_call 55; refine (hQ _ (show PatIn _ _ _ _ from HP3.out.below (below_alloc _ _)) (show PatIn _ _ _ _ from HP13.out.below (below_alloc _ _))).mono ?_; rintro e w5 ⟨rfl, hb7⟩)
              go_ret
              exact ⟨rfl, (hb6.alloc hb6z _).trans (hb7.mono (by simp; omega))⟩
            · go_wp2_with (go_at_call 55; refine (hQ _ (show PatIn _ _ _ _ from HP3.out.below (below_alloc _ _)) (show PatIn _ _ _ _ from HP13.out.below (below_alloc _ _))).mono ?_; rintro e w5 ⟨rfl, hb7⟩)
              go_roundw
              case rel =>
                refine ⟨k + 1, by omega, by go_num, (hb6.alloc hb6z _).trans (hb7.mono (by simp; omega)), Lib.hid (fun j hj hjk => ?_)⟩
                by_cases e : j = k
                · subst e; rw [hre.out, hri.out, hs.out]; simp [HNT.out]
                · exact hall.out j hj (by omega)
              case measure => simp [intOf]; omega
          · have hne : (x.nt != r.nt) = true := by simp [hnt]
            have hne2 : (x.nt == r.nt) = false := by simp [hnt]
            obtain rfl : f = 9 := hbd.out (by rw [hri.out]; simp [hnt])
            go_wp2_with fail
            go_ret
            exact ⟨rfl, hb6.alloc hb6z _⟩
      · obtain rfl : k = n := by omega
        go_wp2_with fail
        go_ret
        refine ⟨?_, hb⟩
        rw [← hf.out, checkE_good rs hm.out (fun j hj => hall.out j hj (by rw [← hn.out]; exact hj))]
        rfl

end Go.Proofs.YtaippkdlibampaaDoor

/- cover.asks walked: what a cover costs. -/
import Derived.Test.YtaippkdlibampaaDoorKD
namespace Go.Proofs.YtaippkdlibampaaDoor

/- cover.asks walked: what a cover costs. -/
section
open Go.RowKit

theorem pats_one {w : World} {B : Option Addr} {d g : Nat} {p : Pat} {T : TypeId} (hp : PatIn w B d p) (hg : BlkIs w g T #[.int .i64 p.op, .int .i64 p.nt, .slice B p.kids.length d]) : PatsIn w (some ⟨g, 0, none⟩) 1 [p] := by
  obtain ⟨ok, hp⟩ := hp
  refine ⟨fun _ => True, ?_⟩
  unfold Rep
  refine ⟨_, _, rfl, by simp, by decide, fun _ => ⟨g, 0, _, _, _, rfl, trivial, hg, ?_⟩⟩
  unfold RepRow
  refine ⟨[.int .i64 p.op, .int .i64 p.nt, .slice B p.kids.length d], [], by simp, rfl, hp.any, ?_⟩
  show RepRow w _ 3 [] []
  unfold RepRow
  trivial

theorem bad_if {p q : Prop} [Decidable p] [Decidable q] {a b : Option Int} (h : p ↔ q) (hab : a = b) : (if p then none else a) = if q then none else b := by
  by_cases hq : q
  · rw [if_pos hq, if_pos (h.2 hq)]
  · rw [if_neg hq, if_neg (fun x => hq (h.1 x)), hab]

def AsksOk (rs : List Rule) (c : Cov) : Prop := ∀ (t : Pat) (nt : Int) (A A2 A3 : Option Addr) (d c2 d3 : Nat) (w : World), treeOk t = true → RulesIn w A2 c2 rs → PatIn w A d t → CovIn w A3 d3 c →
  Calls Tryd.prog 76 #[.slice A2 rs.length c2, .agg #[.int .i64 t.op, .int .i64 t.nt, .slice A t.kids.length d], .int .i64 nt, .agg #[.int .i64 c.rule, .slice A3 c.kids.length d3]] w (SumPost (covCost rs c t nt) w)

set_option maxRecDepth 100000 in
set_option maxHeartbeats 16000000 in
theorem asks_of (rs : List Rule) (hrs : RulesFit rs) (hci : CostsIn rs) (c : Cov) (hN : covN c ≤ 20000) (ih : ∀ i (h : i < c.kids.length), AsksOk rs c.kids[i]) : AsksOk rs c := by
  intro t nt A A2 A3 d c2 d3 w ht hr hp hc
  have HTO := Lib.hid ht
  have hcc := covCost_eq rs c t nt
  obtain ⟨o, ho⟩ : ∃ x, Hid (covCost rs c t nt = x) := ⟨_, Lib.hid rfl⟩
  rw [ho.out] at hcc ⊢
  rw [covN_eq] at hN
  obtain ⟨ks, hks⟩ : ∃ x, Hid (c.kids = x) := ⟨_, Lib.hid rfl⟩
  obtain ⟨cr, hcr⟩ : ∃ x, Hid (c.rule = x) := ⟨_, Lib.hid rfl⟩
  obtain ⟨rn, hrn⟩ : ∃ n, Hid (rs.length = n) := ⟨_, Lib.hid rfl⟩
  obtain ⟨tn, htn⟩ : ∃ n, Hid (t.kids.length = n) := ⟨_, Lib.hid rfl⟩
  obtain ⟨op, hop⟩ : ∃ x, Hid (t.op = x) := ⟨_, Lib.hid rfl⟩
  obtain ⟨tnt, htnt⟩ : ∃ x, Hid (t.nt = x) := ⟨_, Lib.hid rfl⟩
  have HR := Lib.hid hr
  have HP := Lib.hid hp
  have HKS := Lib.hid hc.kids
  rw [hks.out] at HKS
  have hrl := hr.le
  have ih : ∀ i (h : i < ks.length), AsksOk rs ks[i] := by rw [← hks.out]; exact ih
  obtain ⟨n, hn⟩ : ∃ n, Hid (ks.length = n) := ⟨_, Lib.hid rfl⟩
  rw [hks.out, hcr.out, hn.out] at hcc
  rw [hks.out] at hN
  have hnb : n ≤ 20000 := by rw [← hn.out]; have := covsN_len ks; omega
  rw [hrn.out, htn.out, hop.out, htnt.out, hcr.out, hks.out, hn.out]
  rw [hrn.out] at hrl
  have hmax : maxLen = maxLen := rfl
  have IH := Lib.hid ih
  clear hr hp hc ih ht hmax
  have ih := IH.out
  by_cases h0 : cr < 0
  · obtain rfl : o = none := by rw [if_neg (by omega)] at hcc; exact hcc
    clear hcc
    go_enter Tryd.func76, Tryd.ntmps76
    go_wp2_with fail
    go_ret2
    exact ⟨below_box2 _ _ _, rfl⟩
  by_cases h1 : (rn : Int) ≤ cr
  · obtain rfl : o = none := by rw [if_pos (by omega), List.getElem?_eq_none (by rw [hrn.out]; omega)] at hcc; exact hcc
    clear hcc
    go_enter Tryd.func76, Tryd.ntmps76
    go_wp2_with fail
    go_ret2
    exact ⟨below_box2 _ _ _, rfl⟩
  obtain ⟨a, rfl⟩ : ∃ a : Nat, cr = a := ⟨cr.toNat, by omega⟩
  have harn : a < rn := by omega
  have har : a < rs.length := by rw [hrn.out]; exact harn
  rw [if_pos (by omega), Int.toNat_natCast, List.getElem?_eq_getElem har] at hcc
  obtain ⟨ok, hrs0⟩ := HR.out
  obtain ⟨g, off, B, d0, rfl, _, hg, ⟨a0, a1, a2, a3, a4, a5⟩, hle5, hpat⟩ := rules_at hrs0 a har
  have hRm : rs[a] ∈ rs := List.getElem_mem har
  obtain ⟨R, hR⟩ : ∃ x, Hid (rs[a] = x) := ⟨_, Lib.hid rfl⟩
  rw [hR.out] at hcc a0 a1 a2 a3 a4 a5 hpat hRm
  have hfl := (hrs.1.2 R hRm).1
  have har2 := (hrs.2 R hRm).2
  have hcost := hci R hRm
  obtain ⟨rnt, hrnt⟩ : ∃ x, Hid (R.nt = x) := ⟨_, Lib.hid rfl⟩
  obtain ⟨pop, hpop⟩ : ∃ x, Hid (R.pat.op = x) := ⟨_, Lib.hid rfl⟩
  obtain ⟨pnt, hpnt⟩ : ∃ x, Hid (R.pat.nt = x) := ⟨_, Lib.hid rfl⟩
  obtain ⟨m, hm⟩ : ∃ x, Hid (R.pat.kids.length = x) := ⟨_, Lib.hid rfl⟩
  obtain ⟨cost, hco⟩ : ∃ x, Hid (R.cost = x) := ⟨_, Lib.hid rfl⟩
  obtain ⟨form, hfo⟩ : ∃ x, Hid (R.form = x) := ⟨_, Lib.hid rfl⟩
  have hpin : PatIn w B d0 R.pat := ⟨_, hpat⟩
  have HPR := Lib.hid hpin
  have HFL := Lib.hid hfl
  have HAR := Lib.hid har2
  rw [hrnt.out] at a0
  rw [hpop.out] at a1
  rw [hpnt.out] at a2
  rw [hm.out] at a3
  rw [hco.out] at a4 hcost
  rw [hfo.out] at a5
  replace hcc : o = if asksBad R t nt n then none else covsCost rs ks (tsOf R t) (psOf R) R.cost := hcc
  have HO1 := Lib.hid hcc
  clear hcc hrs0 hle5 hpat hpin hRm hfl har2
  by_cases hnt : rnt = nt
  case neg =>
    obtain rfl : o = none := by rw [HO1.out, if_pos (.inl (by rw [hrnt.out]; exact hnt))]
    go_enter Tryd.func76, Tryd.ntmps76
    go_wp2_with fail
    go_ret2
    exact ⟨below_box2 _ _ _, rfl⟩
  subst hnt
  go_enter Tryd.func76, Tryd.ntmps76
  go_upto_region 4 with fail
  obtain ⟨w0, hw0⟩ : ∃ w0, w0 = ((w.alloc (.cells #[.int .i64 op, .int .i64 tnt, .slice A tn d] 64)).alloc (.cells #[.int .i64 a, .slice A3 n d3] 60)).alloc (.cells #[.int .i64 rnt, .int .i64 pop, .int .i64 pnt, .slice B m d0, .int .i64 cost, .string ⟨form.toArray⟩] 33) := ⟨_, rfl⟩
  have hb0 : Below w.heap.size w w0 := by rw [hw0]; exact below_box3 _ _ _ _
  have hz0 : w.heap.size + 3 ≤ w0.heap.size := by rw [hw0]; simp
  have kt : BlkIs w0 w.heap.size 64 #[.int .i64 op, .int .i64 tnt, .slice A tn d] := by rw [hw0]; exact ((BlkIs.fresh _ _ _).alloc _).alloc _
  have kc : BlkIs w0 (w.heap.size + 1) 60 #[.int .i64 a, .slice A3 n d3] := by rw [hw0]; exact (BlkIs.fresh1 _ _ _ _).alloc _
  have kr : BlkIs w0 (w.heap.size + 1 + 1) 33 #[.int .i64 rnt, .int .i64 pop, .int .i64 pnt, .slice B m d0, .int .i64 cost, .string ⟨form.toArray⟩] := by rw [hw0]; exact BlkIs.fresh2 (by simp)
  rw [← hw0]
  have r1 : w0.cell? ⟨w.heap.size + 1 + 1, 1, none⟩ = some (.int .i64 pop) := kr.cell 1
  have r2 : w0.cell? ⟨w.heap.size + 1 + 1, 2, none⟩ = some (.int .i64 pnt) := kr.cell 2
  have r3 : w0.cell? ⟨w.heap.size + 1 + 1, 3, none⟩ = some (.slice B m d0) := kr.cell 3
  have r4 : w0.cell? ⟨w.heap.size + 1 + 1, 4, none⟩ = some (.int .i64 cost) := kr.cell 4
  have t0 : w0.cell? ⟨w.heap.size, 0, none⟩ = some (.int .i64 op) := kt.cell 0
  have t1 : w0.cell? ⟨w.heap.size, 1, none⟩ = some (.int .i64 tnt) := kt.cell 1
  have t2 : w0.cell? ⟨w.heap.size, 2, none⟩ = some (.slice A tn d) := kt.cell 2
  have c0 : w0.cell? ⟨w.heap.size + 1, 1, none⟩ = some (.slice A3 n d3) := kc.cell 1
  clear hw0 a0 a1 a2 a3 a4 a5
  go_quiet (fail)
  by_cases hop0 : pop = 0
  · subst hop0
    have hps : Hid (psOf R = [R.pat] ∧ tsOf R t = [t]) := Lib.hid (by unfold psOf tsOf; rw [if_pos hpop.out, if_pos hpop.out]; exact ⟨rfl, rfl⟩)
    go_upto_region 6 with fail
    obtain ⟨w1, hw1⟩ : ∃ w1, w1 = w0.drewN nq := ⟨_, rfl⟩
    rw [← hw1]
    have hb1 : Below w.heap.size w w1 := by rw [hw1]; exact (below_drewsN hb0 _)
    have hbs0 : Below w0.heap.size w0 w1 := by rw [hw1]; exact below_drewsN (Below.refl _ _) _
    have hbsz := hbs0.size
    have r1 := cell_later hbs0 r1
    have r2 := cell_later hbs0 r2
    have r3 := cell_later hbs0 r3
    have r4 := cell_later hbs0 r4
    have t0 := cell_later hbs0 t0
    have t1 := cell_later hbs0 t1
    have t2 := cell_later hbs0 t2
    clear hw1 c0
    refine anyJ_begin 6 (fun W => Below w1.heap.size w1 W) (by kernel_rfl) ((Below.refl _ _).drew) (fun hHeld => ?_)
    refine take (i := 0) (d := some 52) (v := .pointer (some ⟨w.heap.size + 1 + 1, 1, none⟩)) (by kernel_rfl) rfl rfl rfl (fun _ _ _ h => h) hHeld (fun W hSw => by go_simp) ?_
    simp only [Act.put, List.setIfInBounds_toArray, List.set_cons_zero, List.set_cons_succ]
    refine take (i := 1) (d := some 53) (v := .agg #[.int .i64 0, .int .i64 pnt, .slice B m d0]) (by kernel_rfl) rfl rfl rfl (fun _ _ _ h => h) hHeld (fun W hSw => by have x0 := (hSw.cell (p := ⟨w.heap.size + 1 + 1, 1, none⟩) (by show w.heap.size + 1 + 1 < _; omega)).trans r1; have x1 := (hSw.cell (p := ⟨w.heap.size + 1 + 1, 2, none⟩) (by show w.heap.size + 1 + 1 < _; omega)).trans r2; have x2 := (hSw.cell (p := ⟨w.heap.size + 1 + 1, 3, none⟩) (by show w.heap.size + 1 + 1 < _; omega)).trans r3; go_simp) ?_
    simp only [Act.put, List.setIfInBounds_toArray, List.set_cons_zero, List.set_cons_succ]
    refine take (i := 3) (d := some 55) (v := .agg #[.int .i64 op, .int .i64 tnt, .slice A tn d]) (by kernel_rfl) rfl rfl rfl (fun _ _ _ h => h) hHeld (fun W hSw => by have x0 := (hSw.cell (p := ⟨w.heap.size, 0, none⟩) (by show w.heap.size < _; omega)).trans t0; have x1 := (hSw.cell (p := ⟨w.heap.size, 1, none⟩) (by show w.heap.size < _; omega)).trans t1; have x2 := (hSw.cell (p := ⟨w.heap.size, 2, none⟩) (by show w.heap.size < _; omega)).trans t2; go_simp) ?_
    simp only [Act.put, List.setIfInBounds_toArray, List.set_cons_zero, List.set_cons_succ]
    refine anyJ_two (i := 2) (j := 4) (d := some 54) (d2 := some 56) (by kernel_rfl) rfl rfl rfl rfl rfl rfl (fun K' hK => ?_) (fun K' hK => ?_)
    · skip
      refine wp_val (w' := (w1.drew).alloc (.cells #[.int .i64 0, .int .i64 pnt, .slice B m d0] 31)) (v := .slice (some ⟨w1.heap.size, 0, none⟩) 1 1) (by go_simp) (hK.out _ _ (fun _ => hHeld.alloc hHeld.size _) (fun hHeld => ?_))
      have hHeld := hHeld (by decide)
      simp only [Act.put, List.setIfInBounds_toArray, List.set_cons_zero, List.set_cons_succ]
      refine take (i := 5) (d := some 11) (v := .slice (some ⟨w1.heap.size, 0, none⟩) 1 1) (by kernel_rfl) rfl rfl rfl (fun _ _ _ h => h) hHeld (fun W hSw => by go_simp) ?_
      simp only [Act.put, List.setIfInBounds_toArray, List.set_cons_zero, List.set_cons_succ]
      refine anyJ_only (i := 4) (d := some 56) (by kernel_rfl) rfl rfl rfl (fun K' hK => ?_)
      refine wp_val (w' := ((w1.drew).alloc (.cells #[.int .i64 0, .int .i64 pnt, .slice B m d0] 31)).alloc (.cells #[.int .i64 op, .int .i64 tnt, .slice A tn d] 64)) (v := .slice (some ⟨w1.heap.size + 1, 0, none⟩) 1 1) (by go_simp) (hK.out _ _ (fun _ => hHeld.alloc hHeld.size _) (fun hHeld => ?_))
      have hHeld := hHeld (by decide)
      simp only [Act.put, List.setIfInBounds_toArray, List.set_cons_zero, List.set_cons_succ]
      refine anyJ_only (i := 6) (d := some 12) (by kernel_rfl) rfl rfl rfl (fun K' hK => ?_)
      refine wp_val (w' := ((w1.drew).alloc (.cells #[.int .i64 0, .int .i64 pnt, .slice B m d0] 31)).alloc (.cells #[.int .i64 op, .int .i64 tnt, .slice A tn d] 64)) (v := .slice (some ⟨w1.heap.size + 1, 0, none⟩) 1 1) (by go_simp) (hK.out _ _ (fun h => absurd rfl h) (fun _ => ?_))
      simp only [Act.put, List.setIfInBounds_toArray, List.set_cons_zero, List.set_cons_succ]
      refine anyJ_done (by kernel_rfl) ?_ _
      obtain ⟨W, hW⟩ : ∃ W, W = ((w1.drew).alloc (.cells #[.int .i64 0, .int .i64 pnt, .slice B m d0] 31)).alloc (.cells #[.int .i64 op, .int .i64 tnt, .slice A tn d] 64) := ⟨_, rfl⟩
      have hb1W : Below w1.heap.size w1 W := by rw [hW]; exact ((((Below.refl _ _).drew).alloc (by simp) _).alloc (by simp) _)
      have kx : BlkIs W (w1.heap.size) 31 #[.int .i64 0, .int .i64 pnt, .slice B m d0] := by rw [hW]; exact (BlkIs.fresh_at rfl).alloc _
      have ky : BlkIs W (w1.heap.size + 1) 64 #[.int .i64 op, .int .i64 tnt, .slice A tn d] := by rw [hW]; exact BlkIs.fresh_at (by simp)
      rw [← hW]
      clear hW hHeld
      obtain ⟨X, hX⟩ : ∃ x, Hid (some (⟨w1.heap.size, 0, none⟩ : Addr) = x) := ⟨_, Lib.hid rfl⟩
      obtain ⟨Y, hY⟩ : ∃ x, Hid (some (⟨w1.heap.size + 1, 0, none⟩ : Addr) = x) := ⟨_, Lib.hid rfl⟩
      rw [hX.out, hY.out]
      have hbW : Below w.heap.size w W := hb1.trans (hb1W.mono (by omega))
      have HPS : Hid (PatsIn W X 1 [R.pat]) := Lib.hid (by rw [← hX.out]; exact pats_one (HPR.out.below hbW) (by rw [hpop.out, hpnt.out, hm.out]; exact kx))
      have HTS : Hid (PatsIn W Y 1 [t]) := Lib.hid (by rw [← hY.out]; exact pats_one (HP.out.below hbW) (by rw [hop.out, htnt.out, htn.out]; exact ky))
      obtain ⟨ps, hpse⟩ : ∃ x, Hid ([R.pat] = x) := ⟨_, Lib.hid rfl⟩
      obtain ⟨ts, htse⟩ : ∃ x, Hid ([t] = x) := ⟨_, Lib.hid rfl⟩
      have hpl : Hid (ps.length = 1) := Lib.hid (by rw [← hpse.out]; rfl)
      have htl : Hid (ts.length = 1) := Lib.hid (by rw [← htse.out]; rfl)
      have HTO2 : Hid (∀ i (h : i < ts.length), treeOk ts[i] = true) := Lib.hid (by
        rw [← htse.out]
        intro i h
        obtain rfl : i = 0 := by simpa using h
        exact HTO.out)
      have hlast : Hid (o = if n ≠ 1 then none else covsCost rs ks ts ps cost) := Lib.hid (by
        rw [HO1.out, hco.out, ← hpse.out, ← htse.out]
        exact bad_if (by unfold asksBad; rw [hps.out.1, hpop.out, hrnt.out]; simp) (by rw [hps.out.1, hps.out.2]))
      rw [hpse.out] at HPS
      rw [htse.out] at HTS
      have kc := kc.below (hbs0.trans (hb1W.mono (by omega))) kc.lt
      have c0 : W.cell? ⟨w.heap.size + 1, 1, none⟩ = some (.slice A3 n d3) := kc.cell 1
      have r4 := cell_later hb1W r4
      clear kx ky r1 r2 r3 t0 t1 t2
      by_cases hnm : n = 1
      case neg =>
        obtain rfl : o = none := by rw [hlast.out, if_pos hnm]
        go_wp2_with fail
        go_ret2
        exact ⟨hbW, rfl⟩
      subst hnm
      have HO : Hid (o = covsCost rs ks ts ps cost) := Lib.hid (by rw [hlast.out, if_neg (by simp)])
      have hnp : 1 ≤ 1 := Nat.le_refl _
      clear hlast
      go_wp2_with fail

      go_loopw [13, 82] (fun sv i wr => ∃ (k : Nat) (s : Int), k ≤ 1 ∧ sv = .int .i64 s ∧ i = .int .i64 k ∧ Below w.heap.size w wr ∧ Below W.heap.size W wr ∧ Hid (covsCost rs (ks.take k) ts ps cost = some s)) (fun _ i _ => 1 - (intOf i).toNat)
      case atStart => exact ⟨0, cost, by omega, rfl, rfl, hbW, Below.refl _ _, Lib.hid (by rw [List.take_zero]; cases ts <;> cases ps <;> rfl)⟩
      case round =>
        obtain ⟨k, s, hk, rfl, rfl, hb, hbb, hsum⟩ := hrel
        obtain ⟨wo, rfl⟩ : ∃ wo : World, wo = wr := ⟨_, rfl⟩
        have hs1 := covsCost_in hci _ _ _ _ _ hsum.out hcost.1
        have hs2 := covsN_take_le ks k
        have hs3 : 0 ≤ s ∧ s ≤ 65535 * 20000 := ⟨by omega, by omega⟩
        have hbz := hb.size
        have hbbz := hbb.size
        clear hs1 hs2
        by_cases hlt : k < 1
        · have hkc : k < ks.length := by rw [hn.out]; exact hlt
          have hkp : k < ps.length := by rw [hpl.out]; exact hlt
          have hkt : k < ts.length := by rw [htl.out]; exact Nat.lt_of_lt_of_le hlt hnp
          obtain ⟨ok1, h1⟩ := HPS.out.below hbb
          obtain ⟨g1, off1, B1, d1, hX1, _, hg1, ⟨a0, a1, a2⟩, _⟩ := pats_at h1 k hkp
          obtain ⟨ok2, h2⟩ := HTS.out.below hbb
          obtain ⟨g2, off2, B2, d2, hX2, _, hg2, ⟨b0, b1, b2⟩, hu⟩ := pats_at h2 k hkt
          obtain ⟨ok3, h3⟩ := HKS.out.below hb
          obtain ⟨g3, off3, B3, d4, hX3, _, hg3, ⟨e0, e1⟩, hv⟩ := covs_at h3 k hkc
          cases hX1
          cases hX2
          cases hX3
          have hcall := fun W' => ih k hkc ts[k] ps[k].nt B2 (some ⟨g, off, none⟩) B3 d2 c2 d4 W' (HTO2.out k hkt)
          have hnext := Lib.hid (covsCost_take rs ks ts ps k hkc hkt hkp _ _ hsum.out)
          have hnone := Lib.hid (fun h => covsCost_none rs ks ts ps (k + 1) cost h)
          have hN2 := covsN_mem ks k hkc
          obtain ⟨o2, ho2⟩ : ∃ x, Hid (covCost rs ks[k] ts[k] ps[k].nt = x) := ⟨_, Lib.hid rfl⟩
          have hin2 : ∀ x, o2 = some x → 0 ≤ x ∧ x ≤ 65535 * 20000 := fun x hx => by
            have := covCost_in hci ks[k] ts[k] ps[k].nt x (by rw [ho2.out, hx])
            omega
          rw [ho2.out] at hcall hnext
          obtain ⟨q, hq⟩ : ∃ x, Hid (ps[k] = x) := ⟨_, Lib.hid rfl⟩
          obtain ⟨u, hu2⟩ : ∃ x, Hid (ts[k] = x) := ⟨_, Lib.hid rfl⟩
          obtain ⟨v, hv2⟩ : ∃ x, Hid (ks[k] = x) := ⟨_, Lib.hid rfl⟩
          rw [hq.out] at a0 a1 a2 hcall
          rw [hu2.out] at b0 b1 b2 hu hcall
          rw [hv2.out] at e0 e1 hv hcall
          rw [hrn.out] at hcall
          have HU : Hid (PatIn wo B2 d2 u) := Lib.hid ⟨_, hu⟩
          have HV : Hid (CovIn wo B3 d4 v) := Lib.hid ⟨_, hv⟩
          have HRo : Hid (RulesIn wo (some ⟨g, off, none⟩) c2 rs) := Lib.hid (HR.out.below hb)
          have kco := kc.below hbb kc.lt
          have c9 : wo.cell? ⟨w.heap.size + 1, 1, none⟩ = some (.slice (some ⟨g3, off3, none⟩) 1 d3) := kco.cell 1
          have hlz : w.heap.size + 1 < wo.heap.size := kco.lt
          clear h1 h2 h3 hu hv
          go_wp2_with fail
          obtain ⟨w1, hw1⟩ : ∃ w1, w1 = wo.alloc (.cells #[.int .i64 q.op, .int .i64 q.nt, .slice B1 q.kids.length d1] 31) := ⟨_, rfl⟩
          have hz1 : wo.heap.size < w1.heap.size := by rw [hw1]; simp
          have hb1 : Below wo.heap.size wo w1 := by rw [hw1]; exact below_alloc _ _
          have pb : BlkIs w1 wo.heap.size 31 #[.int .i64 q.op, .int .i64 q.nt, .slice B1 q.kids.length d1] := by rw [hw1]; exact BlkIs.fresh _ _ _
          rw [← hw1]
          have p1 : w1.cell? ⟨wo.heap.size, 1, none⟩ = some (.int .i64 q.nt) := pb.cell 1
          have b0 := cell_later hb1 b0
          have b1 := cell_later hb1 b1
          have b2 := cell_later hb1 b2
          have e0 := cell_later hb1 e0
          have e1 := cell_later hb1 e1
          have c9 := cell_later hb1 c9
          have hd0 : Below w1.heap.size w1 w1.drew := (Below.refl _ _).drew
          clear hw1 a0 a1 a2
          refine anyJ_begin 17 (fun W => Below w1.heap.size w1 W) (by kernel_rfl) ((Below.refl _ _).drew) (fun hHeld => ?_)
          refine take (i := 0) (d := some 88) (v := .slice (some ⟨g, off, none⟩) rn c2) (by kernel_rfl) rfl rfl rfl (fun _ _ _ h => h) hHeld (fun W hSw => by go_simp) ?_
          simp only [Act.put, List.setIfInBounds_toArray, List.set_cons_zero, List.set_cons_succ]
          refine take (i := 1) (d := some 89) (v := .slice (some ⟨g2, off2, none⟩) 1 1) (by kernel_rfl) rfl rfl rfl (fun _ _ _ h => h) hHeld (fun W hSw => by go_simp) ?_
          simp only [Act.put, List.setIfInBounds_toArray, List.set_cons_zero, List.set_cons_succ]
          refine take (i := 2) (d := some 90) (v := .int .i64 k) (by kernel_rfl) rfl rfl rfl (fun _ _ _ h => h) hHeld (fun W hSw => by go_simp) ?_
          simp only [Act.put, List.setIfInBounds_toArray, List.set_cons_zero, List.set_cons_succ]
          refine take (i := 3) (d := some 91) (v := .pointer (some ⟨g2, off2 + k * 3, none⟩)) (by kernel_rfl) rfl rfl rfl (fun _ _ _ h => h) hHeld (fun W hSw => by go_simp) ?_
          simp only [Act.put, List.setIfInBounds_toArray, List.set_cons_zero, List.set_cons_succ]
          refine take (i := 4) (d := some 92) (v := .agg #[.int .i64 u.op, .int .i64 u.nt, .slice B2 u.kids.length d2]) (by kernel_rfl) rfl rfl rfl (fun _ _ _ h => h) hHeld (fun W hSw => by have x0 := (hSw.cell (p := ⟨g2, off2 + k * 3, none⟩) (by show g2 < _; omega)).trans b0; have x1 := (hSw.cell (p := ⟨g2, off2 + k * 3 + 1, none⟩) (by show g2 < _; omega)).trans b1; have x2 := (hSw.cell (p := ⟨g2, off2 + k * 3 + 2, none⟩) (by show g2 < _; omega)).trans b2; go_simp) ?_
          simp only [Act.put, List.setIfInBounds_toArray, List.set_cons_zero, List.set_cons_succ]
          refine take (i := 5) (d := some 93) (v := .pointer (some ⟨wo.heap.size, 1, none⟩)) (by kernel_rfl) rfl rfl rfl (fun _ _ _ h => h) hHeld (fun W hSw => by go_simp) ?_
          simp only [Act.put, List.setIfInBounds_toArray, List.set_cons_zero, List.set_cons_succ]
          refine take (i := 6) (d := some 94) (v := .int .i64 q.nt) (by kernel_rfl) rfl rfl rfl (fun _ _ _ h => h) hHeld (fun W hSw => by have x0 := (hSw.cell (p := ⟨wo.heap.size, 1, none⟩) (by show wo.heap.size < _; omega)).trans p1; go_simp) ?_
          simp only [Act.put, List.setIfInBounds_toArray, List.set_cons_zero, List.set_cons_succ]
          refine take (i := 7) (d := some 95) (v := .pointer (some ⟨w.heap.size + 1, 1, none⟩)) (by kernel_rfl) rfl rfl rfl (fun _ _ _ h => h) hHeld (fun W hSw => by go_simp) ?_
          simp only [Act.put, List.setIfInBounds_toArray, List.set_cons_zero, List.set_cons_succ]
          refine take (i := 8) (d := some 96) (v := .slice (some ⟨g3, off3, none⟩) 1 d3) (by kernel_rfl) rfl rfl rfl (fun _ _ _ h => h) hHeld (fun W hSw => by have x0 := (hSw.cell (p := ⟨w.heap.size + 1, 1, none⟩) (by show w.heap.size + 1 < _; omega)).trans c9; go_simp) ?_
          simp only [Act.put, List.setIfInBounds_toArray, List.set_cons_zero, List.set_cons_succ]
          refine take (i := 9) (d := some 97) (v := .int .i64 k) (by kernel_rfl) rfl rfl rfl (fun _ _ _ h => h) hHeld (fun W hSw => by go_simp) ?_
          simp only [Act.put, List.setIfInBounds_toArray, List.set_cons_zero, List.set_cons_succ]
          refine take (i := 10) (d := some 98) (v := .pointer (some ⟨g3, off3 + k * 2, none⟩)) (by kernel_rfl) rfl rfl rfl (fun _ _ _ h => h) hHeld (fun W hSw => by go_simp) ?_
          simp only [Act.put, List.setIfInBounds_toArray, List.set_cons_zero, List.set_cons_succ]
          refine take (i := 11) (d := some 99) (v := .agg #[.int .i64 v.rule, .slice B3 v.kids.length d4]) (by kernel_rfl) rfl rfl rfl (fun _ _ _ h => h) hHeld (fun W hSw => by have x0 := (hSw.cell (p := ⟨g3, off3 + k * 2, none⟩) (by show g3 < _; omega)).trans e0; have x1 := (hSw.cell (p := ⟨g3, off3 + k * 2 + 1, none⟩) (by show g3 < _; omega)).trans e1; go_simp) ?_
          simp only [Act.put, List.setIfInBounds_toArray, List.set_cons_zero, List.set_cons_succ]
          refine anyJ_only (i := 12) (d := some 100) (by kernel_rfl) rfl rfl rfl (fun K' hK => ?_)
          refine wp_go_call 76 _ _ rfl #[.slice (some ⟨g, off, none⟩) rn c2, .agg #[.int .i64 u.op, .int .i64 u.nt, .slice B2 u.kids.length d2], .int .i64 q.nt, .agg #[.int .i64 v.rule, .slice B3 v.kids.length d4]] rfl (fun W => by go_simp) (hcall _ ((HRo.out.below hb1).below hd0) ((HU.out.below hb1).below hd0) ((HV.out.below hb1).below hd0)) (fun e w3 he => ?_)
          obtain ⟨hb3, he⟩ := he
          have hb3' : Below w1.heap.size w1 w3 := hHeld.trans hb3
          have hbw3 : Below w.heap.size w w3 := (hb.trans (hb1.mono hbz)).trans (hb3'.mono (by omega))
          have hbW3 : Below W.heap.size W w3 := (hbb.trans (hb1.mono hbbz)).trans (hb3'.mono (by omega))
          clear hcall
          cases o2 with
          | none =>
            obtain rfl : e = _ := he
            refine ⟨_, rfl, hK.out _ _ (fun _ => hb3') (fun hHeld => ?_)⟩
            have hHeld := hHeld (by decide)
            simp only [Act.put, List.setIfInBounds_toArray, List.set_cons_zero, List.set_cons_succ]
            refine take (i := 13) (d := some 87) (v := .tuple #[.int .i64 0, .bool false]) (by kernel_rfl) rfl rfl rfl (fun _ _ _ h => h) hHeld (fun W hSw => by go_simp) ?_
            simp only [Act.put, List.setIfInBounds_toArray, List.set_cons_zero, List.set_cons_succ]
            refine take (i := 14) (d := some 101) (v := .int .i64 0) (by kernel_rfl) rfl rfl rfl (fun _ _ _ h => h) hHeld (fun W hSw => by go_simp) ?_
            simp only [Act.put, List.setIfInBounds_toArray, List.set_cons_zero, List.set_cons_succ]
            refine take (i := 15) (d := some 102) (v := .bool false) (by kernel_rfl) rfl rfl rfl (fun _ _ _ h => h) hHeld (fun W hSw => by go_simp) ?_
            simp only [Act.put, List.setIfInBounds_toArray, List.set_cons_zero, List.set_cons_succ]
            refine take (i := 16) (d := some 16) (v := .int .i64 0) (by kernel_rfl) rfl rfl rfl (fun _ _ _ h => h) hHeld (fun W hSw => by go_simp) ?_
            simp only [Act.put, List.setIfInBounds_toArray, List.set_cons_zero, List.set_cons_succ]
            refine anyJ_only (i := 17) (d := some 17) (by kernel_rfl) rfl rfl rfl (fun K' hK => ?_)
            refine wp_val (w' := w3) (v := .bool false) (by go_simp) (hK.out _ _ (fun h => absurd rfl h) (fun _ => ?_))
            simp only [Act.put, List.setIfInBounds_toArray, List.set_cons_zero, List.set_cons_succ]
            refine anyJ_done (by kernel_rfl) ?_ _
            obtain rfl : o = none := by rw [HO.out]; exact hnone.out (by rw [hnext.out]; rfl)
            go_wp2_with fail
            go_ret2
            exact ⟨hbw3, rfl⟩
          | some x =>
            obtain rfl : e = _ := he
            obtain ⟨hx0, hx1⟩ := hin2 x rfl
            refine ⟨_, rfl, hK.out _ _ (fun _ => hb3') (fun hHeld => ?_)⟩
            have hHeld := hHeld (by decide)
            simp only [Act.put, List.setIfInBounds_toArray, List.set_cons_zero, List.set_cons_succ]
            refine take (i := 13) (d := some 87) (v := .tuple #[.int .i64 x, .bool true]) (by kernel_rfl) rfl rfl rfl (fun _ _ _ h => h) hHeld (fun W hSw => by go_simp) ?_
            simp only [Act.put, List.setIfInBounds_toArray, List.set_cons_zero, List.set_cons_succ]
            refine take (i := 14) (d := some 101) (v := .int .i64 x) (by kernel_rfl) rfl rfl rfl (fun _ _ _ h => h) hHeld (fun W hSw => by go_simp) ?_
            simp only [Act.put, List.setIfInBounds_toArray, List.set_cons_zero, List.set_cons_succ]
            refine take (i := 15) (d := some 102) (v := .bool true) (by kernel_rfl) rfl rfl rfl (fun _ _ _ h => h) hHeld (fun W hSw => by go_simp) ?_
            simp only [Act.put, List.setIfInBounds_toArray, List.set_cons_zero, List.set_cons_succ]
            refine take (i := 16) (d := some 16) (v := .int .i64 x) (by kernel_rfl) rfl rfl rfl (fun _ _ _ h => h) hHeld (fun W hSw => by go_simp) ?_
            simp only [Act.put, List.setIfInBounds_toArray, List.set_cons_zero, List.set_cons_succ]
            refine anyJ_only (i := 17) (d := some 17) (by kernel_rfl) rfl rfl rfl (fun K' hK => ?_)
            refine wp_val (w' := w3) (v := .bool true) (by go_simp) (hK.out _ _ (fun h => absurd rfl h) (fun _ => ?_))
            simp only [Act.put, List.setIfInBounds_toArray, List.set_cons_zero, List.set_cons_succ]
            refine anyJ_done (by kernel_rfl) ?_ _
            go_wp2_with fail
            go_roundw
            case rel => exact ⟨k + 1, s + x, by omega, rfl, by go_num, hbw3, hbW3, Lib.hid (by rw [hnext.out]; rfl)⟩
            case measure => simp [intOf]; omega
        · have hkn : k = 1 := by omega
          have h1 : ks.take k = ks := List.take_of_length_le (by rw [hn.out]; omega)
          have h2 := hsum.out
          rw [h1] at h2
          obtain rfl : o = some s := by rw [HO.out]; exact h2
          go_wp2_with fail
          go_ret2
          exact ⟨hb, rfl⟩
    · skip
      refine wp_val (w' := (w1.drew).alloc (.cells #[.int .i64 op, .int .i64 tnt, .slice A tn d] 64)) (v := .slice (some ⟨w1.heap.size, 0, none⟩) 1 1) (by go_simp) (hK.out _ _ (fun _ => hHeld.alloc hHeld.size _) (fun hHeld => ?_))
      have hHeld := hHeld (by decide)
      simp only [Act.put, List.setIfInBounds_toArray, List.set_cons_zero, List.set_cons_succ]
      refine anyJ_only (i := 2) (d := some 54) (by kernel_rfl) rfl rfl rfl (fun K' hK => ?_)
      refine wp_val (w' := ((w1.drew).alloc (.cells #[.int .i64 op, .int .i64 tnt, .slice A tn d] 64)).alloc (.cells #[.int .i64 0, .int .i64 pnt, .slice B m d0] 31)) (v := .slice (some ⟨w1.heap.size + 1, 0, none⟩) 1 1) (by go_simp) (hK.out _ _ (fun _ => hHeld.alloc hHeld.size _) (fun hHeld => ?_))
      have hHeld := hHeld (by decide)
      simp only [Act.put, List.setIfInBounds_toArray, List.set_cons_zero, List.set_cons_succ]
      refine take (i := 5) (d := some 11) (v := .slice (some ⟨w1.heap.size + 1, 0, none⟩) 1 1) (by kernel_rfl) rfl rfl rfl (fun _ _ _ h => h) hHeld (fun W hSw => by go_simp) ?_
      simp only [Act.put, List.setIfInBounds_toArray, List.set_cons_zero, List.set_cons_succ]
      refine anyJ_only (i := 6) (d := some 12) (by kernel_rfl) rfl rfl rfl (fun K' hK => ?_)
      refine wp_val (w' := ((w1.drew).alloc (.cells #[.int .i64 op, .int .i64 tnt, .slice A tn d] 64)).alloc (.cells #[.int .i64 0, .int .i64 pnt, .slice B m d0] 31)) (v := .slice (some ⟨w1.heap.size, 0, none⟩) 1 1) (by go_simp) (hK.out _ _ (fun h => absurd rfl h) (fun _ => ?_))
      simp only [Act.put, List.setIfInBounds_toArray, List.set_cons_zero, List.set_cons_succ]
      refine anyJ_done (by kernel_rfl) ?_ _
      obtain ⟨W, hW⟩ : ∃ W, W = ((w1.drew).alloc (.cells #[.int .i64 op, .int .i64 tnt, .slice A tn d] 64)).alloc (.cells #[.int .i64 0, .int .i64 pnt, .slice B m d0] 31) := ⟨_, rfl⟩
      have hb1W : Below w1.heap.size w1 W := by rw [hW]; exact ((((Below.refl _ _).drew).alloc (by simp) _).alloc (by simp) _)
      have kx : BlkIs W (w1.heap.size + 1) 31 #[.int .i64 0, .int .i64 pnt, .slice B m d0] := by rw [hW]; exact BlkIs.fresh_at (by simp)
      have ky : BlkIs W (w1.heap.size) 64 #[.int .i64 op, .int .i64 tnt, .slice A tn d] := by rw [hW]; exact (BlkIs.fresh_at rfl).alloc _
      rw [← hW]
      clear hW hHeld
      obtain ⟨X, hX⟩ : ∃ x, Hid (some (⟨w1.heap.size + 1, 0, none⟩ : Addr) = x) := ⟨_, Lib.hid rfl⟩
      obtain ⟨Y, hY⟩ : ∃ x, Hid (some (⟨w1.heap.size, 0, none⟩ : Addr) = x) := ⟨_, Lib.hid rfl⟩
      rw [hX.out, hY.out]
      have hbW : Below w.heap.size w W := hb1.trans (hb1W.mono (by omega))
      have HPS : Hid (PatsIn W X 1 [R.pat]) := Lib.hid (by rw [← hX.out]; exact pats_one (HPR.out.below hbW) (by rw [hpop.out, hpnt.out, hm.out]; exact kx))
      have HTS : Hid (PatsIn W Y 1 [t]) := Lib.hid (by rw [← hY.out]; exact pats_one (HP.out.below hbW) (by rw [hop.out, htnt.out, htn.out]; exact ky))
      obtain ⟨ps, hpse⟩ : ∃ x, Hid ([R.pat] = x) := ⟨_, Lib.hid rfl⟩
      obtain ⟨ts, htse⟩ : ∃ x, Hid ([t] = x) := ⟨_, Lib.hid rfl⟩
      have hpl : Hid (ps.length = 1) := Lib.hid (by rw [← hpse.out]; rfl)
      have htl : Hid (ts.length = 1) := Lib.hid (by rw [← htse.out]; rfl)
      have HTO2 : Hid (∀ i (h : i < ts.length), treeOk ts[i] = true) := Lib.hid (by
        rw [← htse.out]
        intro i h
        obtain rfl : i = 0 := by simpa using h
        exact HTO.out)
      have hlast : Hid (o = if n ≠ 1 then none else covsCost rs ks ts ps cost) := Lib.hid (by
        rw [HO1.out, hco.out, ← hpse.out, ← htse.out]
        exact bad_if (by unfold asksBad; rw [hps.out.1, hpop.out, hrnt.out]; simp) (by rw [hps.out.1, hps.out.2]))
      rw [hpse.out] at HPS
      rw [htse.out] at HTS
      have kc := kc.below (hbs0.trans (hb1W.mono (by omega))) kc.lt
      have c0 : W.cell? ⟨w.heap.size + 1, 1, none⟩ = some (.slice A3 n d3) := kc.cell 1
      have r4 := cell_later hb1W r4
      clear kx ky r1 r2 r3 t0 t1 t2
      by_cases hnm : n = 1
      case neg =>
        obtain rfl : o = none := by rw [hlast.out, if_pos hnm]
        go_wp2_with fail
        go_ret2
        exact ⟨hbW, rfl⟩
      subst hnm
      have HO : Hid (o = covsCost rs ks ts ps cost) := Lib.hid (by rw [hlast.out, if_neg (by simp)])
      have hnp : 1 ≤ 1 := Nat.le_refl _
      clear hlast
      go_wp2_with fail

      go_loopw [13, 82] (fun sv i wr => ∃ (k : Nat) (s : Int), k ≤ 1 ∧ sv = .int .i64 s ∧ i = .int .i64 k ∧ Below w.heap.size w wr ∧ Below W.heap.size W wr ∧ Hid (covsCost rs (ks.take k) ts ps cost = some s)) (fun _ i _ => 1 - (intOf i).toNat)
      case atStart => exact ⟨0, cost, by omega, rfl, rfl, hbW, Below.refl _ _, Lib.hid (by rw [List.take_zero]; cases ts <;> cases ps <;> rfl)⟩
      case round =>
        obtain ⟨k, s, hk, rfl, rfl, hb, hbb, hsum⟩ := hrel
        obtain ⟨wo, rfl⟩ : ∃ wo : World, wo = wr := ⟨_, rfl⟩
        have hs1 := covsCost_in hci _ _ _ _ _ hsum.out hcost.1
        have hs2 := covsN_take_le ks k
        have hs3 : 0 ≤ s ∧ s ≤ 65535 * 20000 := ⟨by omega, by omega⟩
        have hbz := hb.size
        have hbbz := hbb.size
        clear hs1 hs2
        by_cases hlt : k < 1
        · have hkc : k < ks.length := by rw [hn.out]; exact hlt
          have hkp : k < ps.length := by rw [hpl.out]; exact hlt
          have hkt : k < ts.length := by rw [htl.out]; exact Nat.lt_of_lt_of_le hlt hnp
          obtain ⟨ok1, h1⟩ := HPS.out.below hbb
          obtain ⟨g1, off1, B1, d1, hX1, _, hg1, ⟨a0, a1, a2⟩, _⟩ := pats_at h1 k hkp
          obtain ⟨ok2, h2⟩ := HTS.out.below hbb
          obtain ⟨g2, off2, B2, d2, hX2, _, hg2, ⟨b0, b1, b2⟩, hu⟩ := pats_at h2 k hkt
          obtain ⟨ok3, h3⟩ := HKS.out.below hb
          obtain ⟨g3, off3, B3, d4, hX3, _, hg3, ⟨e0, e1⟩, hv⟩ := covs_at h3 k hkc
          cases hX1
          cases hX2
          cases hX3
          have hcall := fun W' => ih k hkc ts[k] ps[k].nt B2 (some ⟨g, off, none⟩) B3 d2 c2 d4 W' (HTO2.out k hkt)
          have hnext := Lib.hid (covsCost_take rs ks ts ps k hkc hkt hkp _ _ hsum.out)
          have hnone := Lib.hid (fun h => covsCost_none rs ks ts ps (k + 1) cost h)
          have hN2 := covsN_mem ks k hkc
          obtain ⟨o2, ho2⟩ : ∃ x, Hid (covCost rs ks[k] ts[k] ps[k].nt = x) := ⟨_, Lib.hid rfl⟩
          have hin2 : ∀ x, o2 = some x → 0 ≤ x ∧ x ≤ 65535 * 20000 := fun x hx => by
            have := covCost_in hci ks[k] ts[k] ps[k].nt x (by rw [ho2.out, hx])
            omega
          rw [ho2.out] at hcall hnext
          obtain ⟨q, hq⟩ : ∃ x, Hid (ps[k] = x) := ⟨_, Lib.hid rfl⟩
          obtain ⟨u, hu2⟩ : ∃ x, Hid (ts[k] = x) := ⟨_, Lib.hid rfl⟩
          obtain ⟨v, hv2⟩ : ∃ x, Hid (ks[k] = x) := ⟨_, Lib.hid rfl⟩
          rw [hq.out] at a0 a1 a2 hcall
          rw [hu2.out] at b0 b1 b2 hu hcall
          rw [hv2.out] at e0 e1 hv hcall
          rw [hrn.out] at hcall
          have HU : Hid (PatIn wo B2 d2 u) := Lib.hid ⟨_, hu⟩
          have HV : Hid (CovIn wo B3 d4 v) := Lib.hid ⟨_, hv⟩
          have HRo : Hid (RulesIn wo (some ⟨g, off, none⟩) c2 rs) := Lib.hid (HR.out.below hb)
          have kco := kc.below hbb kc.lt
          have c9 : wo.cell? ⟨w.heap.size + 1, 1, none⟩ = some (.slice (some ⟨g3, off3, none⟩) 1 d3) := kco.cell 1
          have hlz : w.heap.size + 1 < wo.heap.size := kco.lt
          clear h1 h2 h3 hu hv
          go_wp2_with fail
          obtain ⟨w1, hw1⟩ : ∃ w1, w1 = wo.alloc (.cells #[.int .i64 q.op, .int .i64 q.nt, .slice B1 q.kids.length d1] 31) := ⟨_, rfl⟩
          have hz1 : wo.heap.size < w1.heap.size := by rw [hw1]; simp
          have hb1 : Below wo.heap.size wo w1 := by rw [hw1]; exact below_alloc _ _
          have pb : BlkIs w1 wo.heap.size 31 #[.int .i64 q.op, .int .i64 q.nt, .slice B1 q.kids.length d1] := by rw [hw1]; exact BlkIs.fresh _ _ _
          rw [← hw1]
          have p1 : w1.cell? ⟨wo.heap.size, 1, none⟩ = some (.int .i64 q.nt) := pb.cell 1
          have b0 := cell_later hb1 b0
          have b1 := cell_later hb1 b1
          have b2 := cell_later hb1 b2
          have e0 := cell_later hb1 e0
          have e1 := cell_later hb1 e1
          have c9 := cell_later hb1 c9
          have hd0 : Below w1.heap.size w1 w1.drew := (Below.refl _ _).drew
          clear hw1 a0 a1 a2
          refine anyJ_begin 17 (fun W => Below w1.heap.size w1 W) (by kernel_rfl) ((Below.refl _ _).drew) (fun hHeld => ?_)
          refine take (i := 0) (d := some 88) (v := .slice (some ⟨g, off, none⟩) rn c2) (by kernel_rfl) rfl rfl rfl (fun _ _ _ h => h) hHeld (fun W hSw => by go_simp) ?_
          simp only [Act.put, List.setIfInBounds_toArray, List.set_cons_zero, List.set_cons_succ]
          refine take (i := 1) (d := some 89) (v := .slice (some ⟨g2, off2, none⟩) 1 1) (by kernel_rfl) rfl rfl rfl (fun _ _ _ h => h) hHeld (fun W hSw => by go_simp) ?_
          simp only [Act.put, List.setIfInBounds_toArray, List.set_cons_zero, List.set_cons_succ]
          refine take (i := 2) (d := some 90) (v := .int .i64 k) (by kernel_rfl) rfl rfl rfl (fun _ _ _ h => h) hHeld (fun W hSw => by go_simp) ?_
          simp only [Act.put, List.setIfInBounds_toArray, List.set_cons_zero, List.set_cons_succ]
          refine take (i := 3) (d := some 91) (v := .pointer (some ⟨g2, off2 + k * 3, none⟩)) (by kernel_rfl) rfl rfl rfl (fun _ _ _ h => h) hHeld (fun W hSw => by go_simp) ?_
          simp only [Act.put, List.setIfInBounds_toArray, List.set_cons_zero, List.set_cons_succ]
          refine take (i := 4) (d := some 92) (v := .agg #[.int .i64 u.op, .int .i64 u.nt, .slice B2 u.kids.length d2]) (by kernel_rfl) rfl rfl rfl (fun _ _ _ h => h) hHeld (fun W hSw => by have x0 := (hSw.cell (p := ⟨g2, off2 + k * 3, none⟩) (by show g2 < _; omega)).trans b0; have x1 := (hSw.cell (p := ⟨g2, off2 + k * 3 + 1, none⟩) (by show g2 < _; omega)).trans b1; have x2 := (hSw.cell (p := ⟨g2, off2 + k * 3 + 2, none⟩) (by show g2 < _; omega)).trans b2; go_simp) ?_
          simp only [Act.put, List.setIfInBounds_toArray, List.set_cons_zero, List.set_cons_succ]
          refine take (i := 5) (d := some 93) (v := .pointer (some ⟨wo.heap.size, 1, none⟩)) (by kernel_rfl) rfl rfl rfl (fun _ _ _ h => h) hHeld (fun W hSw => by go_simp) ?_
          simp only [Act.put, List.setIfInBounds_toArray, List.set_cons_zero, List.set_cons_succ]
          refine take (i := 6) (d := some 94) (v := .int .i64 q.nt) (by kernel_rfl) rfl rfl rfl (fun _ _ _ h => h) hHeld (fun W hSw => by have x0 := (hSw.cell (p := ⟨wo.heap.size, 1, none⟩) (by show wo.heap.size < _; omega)).trans p1; go_simp) ?_
          simp only [Act.put, List.setIfInBounds_toArray, List.set_cons_zero, List.set_cons_succ]
          refine take (i := 7) (d := some 95) (v := .pointer (some ⟨w.heap.size + 1, 1, none⟩)) (by kernel_rfl) rfl rfl rfl (fun _ _ _ h => h) hHeld (fun W hSw => by go_simp) ?_
          simp only [Act.put, List.setIfInBounds_toArray, List.set_cons_zero, List.set_cons_succ]
          refine take (i := 8) (d := some 96) (v := .slice (some ⟨g3, off3, none⟩) 1 d3) (by kernel_rfl) rfl rfl rfl (fun _ _ _ h => h) hHeld (fun W hSw => by have x0 := (hSw.cell (p := ⟨w.heap.size + 1, 1, none⟩) (by show w.heap.size + 1 < _; omega)).trans c9; go_simp) ?_
          simp only [Act.put, List.setIfInBounds_toArray, List.set_cons_zero, List.set_cons_succ]
          refine take (i := 9) (d := some 97) (v := .int .i64 k) (by kernel_rfl) rfl rfl rfl (fun _ _ _ h => h) hHeld (fun W hSw => by go_simp) ?_
          simp only [Act.put, List.setIfInBounds_toArray, List.set_cons_zero, List.set_cons_succ]
          refine take (i := 10) (d := some 98) (v := .pointer (some ⟨g3, off3 + k * 2, none⟩)) (by kernel_rfl) rfl rfl rfl (fun _ _ _ h => h) hHeld (fun W hSw => by go_simp) ?_
          simp only [Act.put, List.setIfInBounds_toArray, List.set_cons_zero, List.set_cons_succ]
          refine take (i := 11) (d := some 99) (v := .agg #[.int .i64 v.rule, .slice B3 v.kids.length d4]) (by kernel_rfl) rfl rfl rfl (fun _ _ _ h => h) hHeld (fun W hSw => by have x0 := (hSw.cell (p := ⟨g3, off3 + k * 2, none⟩) (by show g3 < _; omega)).trans e0; have x1 := (hSw.cell (p := ⟨g3, off3 + k * 2 + 1, none⟩) (by show g3 < _; omega)).trans e1; go_simp) ?_
          simp only [Act.put, List.setIfInBounds_toArray, List.set_cons_zero, List.set_cons_succ]
          refine anyJ_only (i := 12) (d := some 100) (by kernel_rfl) rfl rfl rfl (fun K' hK => ?_)
          refine wp_go_call 76 _ _ rfl #[.slice (some ⟨g, off, none⟩) rn c2, .agg #[.int .i64 u.op, .int .i64 u.nt, .slice B2 u.kids.length d2], .int .i64 q.nt, .agg #[.int .i64 v.rule, .slice B3 v.kids.length d4]] rfl (fun W => by go_simp) (hcall _ ((HRo.out.below hb1).below hd0) ((HU.out.below hb1).below hd0) ((HV.out.below hb1).below hd0)) (fun e w3 he => ?_)
          obtain ⟨hb3, he⟩ := he
          have hb3' : Below w1.heap.size w1 w3 := hHeld.trans hb3
          have hbw3 : Below w.heap.size w w3 := (hb.trans (hb1.mono hbz)).trans (hb3'.mono (by omega))
          have hbW3 : Below W.heap.size W w3 := (hbb.trans (hb1.mono hbbz)).trans (hb3'.mono (by omega))
          clear hcall
          cases o2 with
          | none =>
            obtain rfl : e = _ := he
            refine ⟨_, rfl, hK.out _ _ (fun _ => hb3') (fun hHeld => ?_)⟩
            have hHeld := hHeld (by decide)
            simp only [Act.put, List.setIfInBounds_toArray, List.set_cons_zero, List.set_cons_succ]
            refine take (i := 13) (d := some 87) (v := .tuple #[.int .i64 0, .bool false]) (by kernel_rfl) rfl rfl rfl (fun _ _ _ h => h) hHeld (fun W hSw => by go_simp) ?_
            simp only [Act.put, List.setIfInBounds_toArray, List.set_cons_zero, List.set_cons_succ]
            refine take (i := 14) (d := some 101) (v := .int .i64 0) (by kernel_rfl) rfl rfl rfl (fun _ _ _ h => h) hHeld (fun W hSw => by go_simp) ?_
            simp only [Act.put, List.setIfInBounds_toArray, List.set_cons_zero, List.set_cons_succ]
            refine take (i := 15) (d := some 102) (v := .bool false) (by kernel_rfl) rfl rfl rfl (fun _ _ _ h => h) hHeld (fun W hSw => by go_simp) ?_
            simp only [Act.put, List.setIfInBounds_toArray, List.set_cons_zero, List.set_cons_succ]
            refine take (i := 16) (d := some 16) (v := .int .i64 0) (by kernel_rfl) rfl rfl rfl (fun _ _ _ h => h) hHeld (fun W hSw => by go_simp) ?_
            simp only [Act.put, List.setIfInBounds_toArray, List.set_cons_zero, List.set_cons_succ]
            refine anyJ_only (i := 17) (d := some 17) (by kernel_rfl) rfl rfl rfl (fun K' hK => ?_)
            refine wp_val (w' := w3) (v := .bool false) (by go_simp) (hK.out _ _ (fun h => absurd rfl h) (fun _ => ?_))
            simp only [Act.put, List.setIfInBounds_toArray, List.set_cons_zero, List.set_cons_succ]
            refine anyJ_done (by kernel_rfl) ?_ _
            obtain rfl : o = none := by rw [HO.out]; exact hnone.out (by rw [hnext.out]; rfl)
            go_wp2_with fail
            go_ret2
            exact ⟨hbw3, rfl⟩
          | some x =>
            obtain rfl : e = _ := he
            obtain ⟨hx0, hx1⟩ := hin2 x rfl
            refine ⟨_, rfl, hK.out _ _ (fun _ => hb3') (fun hHeld => ?_)⟩
            have hHeld := hHeld (by decide)
            simp only [Act.put, List.setIfInBounds_toArray, List.set_cons_zero, List.set_cons_succ]
            refine take (i := 13) (d := some 87) (v := .tuple #[.int .i64 x, .bool true]) (by kernel_rfl) rfl rfl rfl (fun _ _ _ h => h) hHeld (fun W hSw => by go_simp) ?_
            simp only [Act.put, List.setIfInBounds_toArray, List.set_cons_zero, List.set_cons_succ]
            refine take (i := 14) (d := some 101) (v := .int .i64 x) (by kernel_rfl) rfl rfl rfl (fun _ _ _ h => h) hHeld (fun W hSw => by go_simp) ?_
            simp only [Act.put, List.setIfInBounds_toArray, List.set_cons_zero, List.set_cons_succ]
            refine take (i := 15) (d := some 102) (v := .bool true) (by kernel_rfl) rfl rfl rfl (fun _ _ _ h => h) hHeld (fun W hSw => by go_simp) ?_
            simp only [Act.put, List.setIfInBounds_toArray, List.set_cons_zero, List.set_cons_succ]
            refine take (i := 16) (d := some 16) (v := .int .i64 x) (by kernel_rfl) rfl rfl rfl (fun _ _ _ h => h) hHeld (fun W hSw => by go_simp) ?_
            simp only [Act.put, List.setIfInBounds_toArray, List.set_cons_zero, List.set_cons_succ]
            refine anyJ_only (i := 17) (d := some 17) (by kernel_rfl) rfl rfl rfl (fun K' hK => ?_)
            refine wp_val (w' := w3) (v := .bool true) (by go_simp) (hK.out _ _ (fun h => absurd rfl h) (fun _ => ?_))
            simp only [Act.put, List.setIfInBounds_toArray, List.set_cons_zero, List.set_cons_succ]
            refine anyJ_done (by kernel_rfl) ?_ _
            go_wp2_with fail
            go_roundw
            case rel => exact ⟨k + 1, s + x, by omega, rfl, by go_num, hbw3, hbW3, Lib.hid (by rw [hnext.out]; rfl)⟩
            case measure => simp [intOf]; omega
        · have hkn : k = 1 := by omega
          have h1 : ks.take k = ks := List.take_of_length_le (by rw [hn.out]; omega)
          have h2 := hsum.out
          rw [h1] at h2
          obtain rfl : o = some s := by rw [HO.out]; exact h2
          go_wp2_with fail
          go_ret2
          exact ⟨hb, rfl⟩
  · have hpe : (pop == 0) = false := by simpa using hop0
    have hps : Hid (psOf R = R.pat.kids ∧ tsOf R t = t.kids) := Lib.hid (by unfold psOf tsOf; rw [if_neg (by rw [hpop.out]; exact hop0), if_neg (by rw [hpop.out]; exact hop0)]; exact ⟨rfl, rfl⟩)
    by_cases hpt : pop = op
    case neg =>
      obtain rfl : o = none := by rw [HO1.out, if_pos (.inr (.inl ⟨by rw [hpop.out]; exact hop0, .inl (by rw [hpop.out, hop.out]; exact hpt)⟩))]
      go_wp2_with fail
      go_ret2
      exact ⟨(below_drewsN hb0 _), rfl⟩
    subst hpt
    by_cases hn2 : rnt = 2
    · subst hn2
      have hsm := small_any pop tnt A tn d
      obtain ⟨sm, hsme⟩ : ∃ x, Hid (smallT pop tnt = x) := ⟨_, Lib.hid rfl⟩
      rw [hsme.out] at hsm
      go_wp2_with fail
      refine (hsm _).mono ?_
      rintro e W ⟨rfl, hbs⟩
      cases sm
      · obtain rfl : o = none := by rw [HO1.out, if_pos (.inr (.inl ⟨by rw [hpop.out]; exact hop0, .inr ⟨hrnt.out, by rw [hop.out, htnt.out]; exact hsme.out⟩⟩))]
        go_wp2_with fail
        go_ret2
        exact ⟨((below_drewsN hb0 _)).trans (hbs.mono (by simp; omega)), rfl⟩
      · have hlast : Hid (o = if n ≠ m then none else covsCost rs ks t.kids R.pat.kids cost) := Lib.hid (by
          rw [HO1.out, hco.out]
          exact bad_if (by unfold asksBad; rw [hps.out.1, hm.out, hpop.out, hop.out, hrnt.out, htnt.out, hsme.out]; simp) (by rw [hps.out.1, hps.out.2]))
        have hbW : Below w.heap.size w W := ((below_drewsN hb0 _)).trans (hbs.mono (by simp; omega))
        have hbs' : Below w0.heap.size w0 W := (below_drewsN (Below.refl _ _) nq).trans (show Below w0.heap.size (w0.drewN nq) W from hbs)
        have hbs2 := hbs'.size
        have kcW := kc.below hbs' kc.lt
        have kc := kcW
        have r1 := cell_later hbs' r1
        have r2 := cell_later hbs' r2
        have r3 := cell_later hbs' r3
        have r4 := cell_later hbs' r4
        have t0 := cell_later hbs' t0
        have c0 := cell_later hbs' c0
        obtain ⟨ps, hpse⟩ : ∃ x, Hid (R.pat.kids = x) := ⟨_, Lib.hid rfl⟩
        obtain ⟨ts, htse⟩ : ∃ x, Hid (t.kids = x) := ⟨_, Lib.hid rfl⟩
        rw [hpse.out, htse.out] at hlast
        have hpl : Hid (ps.length = m) := Lib.hid (by rw [← hpse.out]; exact hm.out)
        have htl : Hid (ts.length = tn) := Lib.hid (by rw [← htse.out]; exact htn.out)
        have HPS : Hid (PatsIn W B d0 ps) := Lib.hid (by rw [← hpse.out]; exact HPR.out.kids.below hbW)
        have HTS : Hid (PatsIn W A d ts) := Lib.hid (by rw [← htse.out]; exact HP.out.kids.below hbW)
        have HTO2 : Hid (∀ i (h : i < ts.length), treeOk ts[i] = true) := Lib.hid (by rw [← htse.out]; exact fun i h => kid_ok HTO.out i h)
        have hmt : m = tn := by
          have h1 := HAR.out (by rw [hpop.out]; exact hop0)
          have h2 := (kids_arity HTO.out).1
          rw [hpop.out, hm.out] at h1
          rw [htn.out, hop.out] at h2
          omega
        subst hmt
        by_cases hnm : n = m
        case neg =>
          obtain rfl : o = none := by rw [hlast.out, if_pos hnm]
          go_wp2_with fail
          go_ret2
          exact ⟨hbW, rfl⟩
        subst hnm
        have HO : Hid (o = covsCost rs ks ts ps cost) := Lib.hid (by rw [hlast.out, if_neg (by simp)])
        have hnp : n ≤ n := Nat.le_refl _
        clear hlast
        go_wp2_with fail

        go_loopw [13, 82] (fun sv i wr => ∃ (k : Nat) (s : Int), k ≤ n ∧ sv = .int .i64 s ∧ i = .int .i64 k ∧ Below w.heap.size w wr ∧ Below W.heap.size W wr ∧ Hid (covsCost rs (ks.take k) ts ps cost = some s)) (fun _ i _ => n - (intOf i).toNat)
        case atStart => exact ⟨0, cost, by omega, rfl, rfl, hbW, Below.refl _ _, Lib.hid (by rw [List.take_zero]; cases ts <;> cases ps <;> rfl)⟩
        case round =>
          obtain ⟨k, s, hk, rfl, rfl, hb, hbb, hsum⟩ := hrel
          obtain ⟨wo, rfl⟩ : ∃ wo : World, wo = wr := ⟨_, rfl⟩
          have hs1 := covsCost_in hci _ _ _ _ _ hsum.out hcost.1
          have hs2 := covsN_take_le ks k
          have hs3 : 0 ≤ s ∧ s ≤ 65535 * 20000 := ⟨by omega, by omega⟩
          have hbz := hb.size
          have hbbz := hbb.size
          clear hs1 hs2
          by_cases hlt : k < n
          · have hkc : k < ks.length := by rw [hn.out]; exact hlt
            have hkp : k < ps.length := by rw [hpl.out]; exact hlt
            have hkt : k < ts.length := by rw [htl.out]; exact Nat.lt_of_lt_of_le hlt hnp
            obtain ⟨ok1, h1⟩ := HPS.out.below hbb
            obtain ⟨g1, off1, B1, d1, hX1, _, hg1, ⟨a0, a1, a2⟩, _⟩ := pats_at h1 k hkp
            obtain ⟨ok2, h2⟩ := HTS.out.below hbb
            obtain ⟨g2, off2, B2, d2, hX2, _, hg2, ⟨b0, b1, b2⟩, hu⟩ := pats_at h2 k hkt
            obtain ⟨ok3, h3⟩ := HKS.out.below hb
            obtain ⟨g3, off3, B3, d4, hX3, _, hg3, ⟨e0, e1⟩, hv⟩ := covs_at h3 k hkc
            cases hX1
            cases hX2
            cases hX3
            have hcall := fun W' => ih k hkc ts[k] ps[k].nt B2 (some ⟨g, off, none⟩) B3 d2 c2 d4 W' (HTO2.out k hkt)
            have hnext := Lib.hid (covsCost_take rs ks ts ps k hkc hkt hkp _ _ hsum.out)
            have hnone := Lib.hid (fun h => covsCost_none rs ks ts ps (k + 1) cost h)
            have hN2 := covsN_mem ks k hkc
            obtain ⟨o2, ho2⟩ : ∃ x, Hid (covCost rs ks[k] ts[k] ps[k].nt = x) := ⟨_, Lib.hid rfl⟩
            have hin2 : ∀ x, o2 = some x → 0 ≤ x ∧ x ≤ 65535 * 20000 := fun x hx => by
              have := covCost_in hci ks[k] ts[k] ps[k].nt x (by rw [ho2.out, hx])
              omega
            rw [ho2.out] at hcall hnext
            obtain ⟨q, hq⟩ : ∃ x, Hid (ps[k] = x) := ⟨_, Lib.hid rfl⟩
            obtain ⟨u, hu2⟩ : ∃ x, Hid (ts[k] = x) := ⟨_, Lib.hid rfl⟩
            obtain ⟨v, hv2⟩ : ∃ x, Hid (ks[k] = x) := ⟨_, Lib.hid rfl⟩
            rw [hq.out] at a0 a1 a2 hcall
            rw [hu2.out] at b0 b1 b2 hu hcall
            rw [hv2.out] at e0 e1 hv hcall
            rw [hrn.out] at hcall
            have HU : Hid (PatIn wo B2 d2 u) := Lib.hid ⟨_, hu⟩
            have HV : Hid (CovIn wo B3 d4 v) := Lib.hid ⟨_, hv⟩
            have HRo : Hid (RulesIn wo (some ⟨g, off, none⟩) c2 rs) := Lib.hid (HR.out.below hb)
            have kco := kc.below hbb kc.lt
            have c9 : wo.cell? ⟨w.heap.size + 1, 1, none⟩ = some (.slice (some ⟨g3, off3, none⟩) n d3) := kco.cell 1
            have hlz : w.heap.size + 1 < wo.heap.size := kco.lt
            clear h1 h2 h3 hu hv
            go_wp2_with fail
            obtain ⟨w1, hw1⟩ : ∃ w1, w1 = wo.alloc (.cells #[.int .i64 q.op, .int .i64 q.nt, .slice B1 q.kids.length d1] 31) := ⟨_, rfl⟩
            have hz1 : wo.heap.size < w1.heap.size := by rw [hw1]; simp
            have hb1 : Below wo.heap.size wo w1 := by rw [hw1]; exact below_alloc _ _
            have pb : BlkIs w1 wo.heap.size 31 #[.int .i64 q.op, .int .i64 q.nt, .slice B1 q.kids.length d1] := by rw [hw1]; exact BlkIs.fresh _ _ _
            rw [← hw1]
            have p1 : w1.cell? ⟨wo.heap.size, 1, none⟩ = some (.int .i64 q.nt) := pb.cell 1
            have b0 := cell_later hb1 b0
            have b1 := cell_later hb1 b1
            have b2 := cell_later hb1 b2
            have e0 := cell_later hb1 e0
            have e1 := cell_later hb1 e1
            have c9 := cell_later hb1 c9
            have hd0 : Below w1.heap.size w1 w1.drew := (Below.refl _ _).drew
            clear hw1 a0 a1 a2
            refine anyJ_begin 17 (fun W => Below w1.heap.size w1 W) (by kernel_rfl) ((Below.refl _ _).drew) (fun hHeld => ?_)
            refine take (i := 0) (d := some 88) (v := .slice (some ⟨g, off, none⟩) rn c2) (by kernel_rfl) rfl rfl rfl (fun _ _ _ h => h) hHeld (fun W hSw => by go_simp) ?_
            simp only [Act.put, List.setIfInBounds_toArray, List.set_cons_zero, List.set_cons_succ]
            refine take (i := 1) (d := some 89) (v := .slice (some ⟨g2, off2, none⟩) n d) (by kernel_rfl) rfl rfl rfl (fun _ _ _ h => h) hHeld (fun W hSw => by go_simp) ?_
            simp only [Act.put, List.setIfInBounds_toArray, List.set_cons_zero, List.set_cons_succ]
            refine take (i := 2) (d := some 90) (v := .int .i64 k) (by kernel_rfl) rfl rfl rfl (fun _ _ _ h => h) hHeld (fun W hSw => by go_simp) ?_
            simp only [Act.put, List.setIfInBounds_toArray, List.set_cons_zero, List.set_cons_succ]
            refine take (i := 3) (d := some 91) (v := .pointer (some ⟨g2, off2 + k * 3, none⟩)) (by kernel_rfl) rfl rfl rfl (fun _ _ _ h => h) hHeld (fun W hSw => by go_simp) ?_
            simp only [Act.put, List.setIfInBounds_toArray, List.set_cons_zero, List.set_cons_succ]
            refine take (i := 4) (d := some 92) (v := .agg #[.int .i64 u.op, .int .i64 u.nt, .slice B2 u.kids.length d2]) (by kernel_rfl) rfl rfl rfl (fun _ _ _ h => h) hHeld (fun W hSw => by have x0 := (hSw.cell (p := ⟨g2, off2 + k * 3, none⟩) (by show g2 < _; omega)).trans b0; have x1 := (hSw.cell (p := ⟨g2, off2 + k * 3 + 1, none⟩) (by show g2 < _; omega)).trans b1; have x2 := (hSw.cell (p := ⟨g2, off2 + k * 3 + 2, none⟩) (by show g2 < _; omega)).trans b2; go_simp) ?_
            simp only [Act.put, List.setIfInBounds_toArray, List.set_cons_zero, List.set_cons_succ]
            refine take (i := 5) (d := some 93) (v := .pointer (some ⟨wo.heap.size, 1, none⟩)) (by kernel_rfl) rfl rfl rfl (fun _ _ _ h => h) hHeld (fun W hSw => by go_simp) ?_
            simp only [Act.put, List.setIfInBounds_toArray, List.set_cons_zero, List.set_cons_succ]
            refine take (i := 6) (d := some 94) (v := .int .i64 q.nt) (by kernel_rfl) rfl rfl rfl (fun _ _ _ h => h) hHeld (fun W hSw => by have x0 := (hSw.cell (p := ⟨wo.heap.size, 1, none⟩) (by show wo.heap.size < _; omega)).trans p1; go_simp) ?_
            simp only [Act.put, List.setIfInBounds_toArray, List.set_cons_zero, List.set_cons_succ]
            refine take (i := 7) (d := some 95) (v := .pointer (some ⟨w.heap.size + 1, 1, none⟩)) (by kernel_rfl) rfl rfl rfl (fun _ _ _ h => h) hHeld (fun W hSw => by go_simp) ?_
            simp only [Act.put, List.setIfInBounds_toArray, List.set_cons_zero, List.set_cons_succ]
            refine take (i := 8) (d := some 96) (v := .slice (some ⟨g3, off3, none⟩) n d3) (by kernel_rfl) rfl rfl rfl (fun _ _ _ h => h) hHeld (fun W hSw => by have x0 := (hSw.cell (p := ⟨w.heap.size + 1, 1, none⟩) (by show w.heap.size + 1 < _; omega)).trans c9; go_simp) ?_
            simp only [Act.put, List.setIfInBounds_toArray, List.set_cons_zero, List.set_cons_succ]
            refine take (i := 9) (d := some 97) (v := .int .i64 k) (by kernel_rfl) rfl rfl rfl (fun _ _ _ h => h) hHeld (fun W hSw => by go_simp) ?_
            simp only [Act.put, List.setIfInBounds_toArray, List.set_cons_zero, List.set_cons_succ]
            refine take (i := 10) (d := some 98) (v := .pointer (some ⟨g3, off3 + k * 2, none⟩)) (by kernel_rfl) rfl rfl rfl (fun _ _ _ h => h) hHeld (fun W hSw => by go_simp) ?_
            simp only [Act.put, List.setIfInBounds_toArray, List.set_cons_zero, List.set_cons_succ]
            refine take (i := 11) (d := some 99) (v := .agg #[.int .i64 v.rule, .slice B3 v.kids.length d4]) (by kernel_rfl) rfl rfl rfl (fun _ _ _ h => h) hHeld (fun W hSw => by have x0 := (hSw.cell (p := ⟨g3, off3 + k * 2, none⟩) (by show g3 < _; omega)).trans e0; have x1 := (hSw.cell (p := ⟨g3, off3 + k * 2 + 1, none⟩) (by show g3 < _; omega)).trans e1; go_simp) ?_
            simp only [Act.put, List.setIfInBounds_toArray, List.set_cons_zero, List.set_cons_succ]
            refine anyJ_only (i := 12) (d := some 100) (by kernel_rfl) rfl rfl rfl (fun K' hK => ?_)
            refine wp_go_call 76 _ _ rfl #[.slice (some ⟨g, off, none⟩) rn c2, .agg #[.int .i64 u.op, .int .i64 u.nt, .slice B2 u.kids.length d2], .int .i64 q.nt, .agg #[.int .i64 v.rule, .slice B3 v.kids.length d4]] rfl (fun W => by go_simp) (hcall _ ((HRo.out.below hb1).below hd0) ((HU.out.below hb1).below hd0) ((HV.out.below hb1).below hd0)) (fun e w3 he => ?_)
            obtain ⟨hb3, he⟩ := he
            have hb3' : Below w1.heap.size w1 w3 := hHeld.trans hb3
            have hbw3 : Below w.heap.size w w3 := (hb.trans (hb1.mono hbz)).trans (hb3'.mono (by omega))
            have hbW3 : Below W.heap.size W w3 := (hbb.trans (hb1.mono hbbz)).trans (hb3'.mono (by omega))
            clear hcall
            cases o2 with
            | none =>
              obtain rfl : e = _ := he
              refine ⟨_, rfl, hK.out _ _ (fun _ => hb3') (fun hHeld => ?_)⟩
              have hHeld := hHeld (by decide)
              simp only [Act.put, List.setIfInBounds_toArray, List.set_cons_zero, List.set_cons_succ]
              refine take (i := 13) (d := some 87) (v := .tuple #[.int .i64 0, .bool false]) (by kernel_rfl) rfl rfl rfl (fun _ _ _ h => h) hHeld (fun W hSw => by go_simp) ?_
              simp only [Act.put, List.setIfInBounds_toArray, List.set_cons_zero, List.set_cons_succ]
              refine take (i := 14) (d := some 101) (v := .int .i64 0) (by kernel_rfl) rfl rfl rfl (fun _ _ _ h => h) hHeld (fun W hSw => by go_simp) ?_
              simp only [Act.put, List.setIfInBounds_toArray, List.set_cons_zero, List.set_cons_succ]
              refine take (i := 15) (d := some 102) (v := .bool false) (by kernel_rfl) rfl rfl rfl (fun _ _ _ h => h) hHeld (fun W hSw => by go_simp) ?_
              simp only [Act.put, List.setIfInBounds_toArray, List.set_cons_zero, List.set_cons_succ]
              refine take (i := 16) (d := some 16) (v := .int .i64 0) (by kernel_rfl) rfl rfl rfl (fun _ _ _ h => h) hHeld (fun W hSw => by go_simp) ?_
              simp only [Act.put, List.setIfInBounds_toArray, List.set_cons_zero, List.set_cons_succ]
              refine anyJ_only (i := 17) (d := some 17) (by kernel_rfl) rfl rfl rfl (fun K' hK => ?_)
              refine wp_val (w' := w3) (v := .bool false) (by go_simp) (hK.out _ _ (fun h => absurd rfl h) (fun _ => ?_))
              simp only [Act.put, List.setIfInBounds_toArray, List.set_cons_zero, List.set_cons_succ]
              refine anyJ_done (by kernel_rfl) ?_ _
              obtain rfl : o = none := by rw [HO.out]; exact hnone.out (by rw [hnext.out]; rfl)
              go_wp2_with fail
              go_ret2
              exact ⟨hbw3, rfl⟩
            | some x =>
              obtain rfl : e = _ := he
              obtain ⟨hx0, hx1⟩ := hin2 x rfl
              refine ⟨_, rfl, hK.out _ _ (fun _ => hb3') (fun hHeld => ?_)⟩
              have hHeld := hHeld (by decide)
              simp only [Act.put, List.setIfInBounds_toArray, List.set_cons_zero, List.set_cons_succ]
              refine take (i := 13) (d := some 87) (v := .tuple #[.int .i64 x, .bool true]) (by kernel_rfl) rfl rfl rfl (fun _ _ _ h => h) hHeld (fun W hSw => by go_simp) ?_
              simp only [Act.put, List.setIfInBounds_toArray, List.set_cons_zero, List.set_cons_succ]
              refine take (i := 14) (d := some 101) (v := .int .i64 x) (by kernel_rfl) rfl rfl rfl (fun _ _ _ h => h) hHeld (fun W hSw => by go_simp) ?_
              simp only [Act.put, List.setIfInBounds_toArray, List.set_cons_zero, List.set_cons_succ]
              refine take (i := 15) (d := some 102) (v := .bool true) (by kernel_rfl) rfl rfl rfl (fun _ _ _ h => h) hHeld (fun W hSw => by go_simp) ?_
              simp only [Act.put, List.setIfInBounds_toArray, List.set_cons_zero, List.set_cons_succ]
              refine take (i := 16) (d := some 16) (v := .int .i64 x) (by kernel_rfl) rfl rfl rfl (fun _ _ _ h => h) hHeld (fun W hSw => by go_simp) ?_
              simp only [Act.put, List.setIfInBounds_toArray, List.set_cons_zero, List.set_cons_succ]
              refine anyJ_only (i := 17) (d := some 17) (by kernel_rfl) rfl rfl rfl (fun K' hK => ?_)
              refine wp_val (w' := w3) (v := .bool true) (by go_simp) (hK.out _ _ (fun h => absurd rfl h) (fun _ => ?_))
              simp only [Act.put, List.setIfInBounds_toArray, List.set_cons_zero, List.set_cons_succ]
              refine anyJ_done (by kernel_rfl) ?_ _
              go_wp2_with fail
              go_roundw
              case rel => exact ⟨k + 1, s + x, by omega, rfl, by go_num, hbw3, hbW3, Lib.hid (by rw [hnext.out]; rfl)⟩
              case measure => simp [intOf]; omega
          · have hkn : k = n := by omega
            have h1 : ks.take k = ks := List.take_of_length_le (by rw [hn.out]; omega)
            have h2 := hsum.out
            rw [h1] at h2
            obtain rfl : o = some s := by rw [HO.out]; exact h2
            go_wp2_with fail
            go_ret2
            exact ⟨hb, rfl⟩
    · have hne2 : (rnt == 2) = false := by simpa using hn2
      have hlast : Hid (o = if n ≠ m then none else covsCost rs ks t.kids R.pat.kids cost) := Lib.hid (by
        rw [HO1.out, hco.out]
        exact bad_if (by unfold asksBad; rw [hps.out.1, hm.out, hpop.out, hop.out, hrnt.out]; simp [hn2]) (by rw [hps.out.1, hps.out.2]))
      obtain ⟨W, hWe⟩ : ∃ W, W = w0.drewN nq := ⟨_, rfl⟩
      rw [← hWe]
      have hbW : Below w.heap.size w W := by rw [hWe]; exact (below_drewsN hb0 _)
      have hbs' : Below w0.heap.size w0 W := by rw [hWe]; exact below_drewsN (Below.refl _ _) _
      clear hWe
      have hbs2 := hbs'.size
      have kcW := kc.below hbs' kc.lt
      have kc := kcW
      have r1 := cell_later hbs' r1
      have r2 := cell_later hbs' r2
      have r3 := cell_later hbs' r3
      have r4 := cell_later hbs' r4
      have t0 := cell_later hbs' t0
      have c0 := cell_later hbs' c0
      obtain ⟨ps, hpse⟩ : ∃ x, Hid (R.pat.kids = x) := ⟨_, Lib.hid rfl⟩
      obtain ⟨ts, htse⟩ : ∃ x, Hid (t.kids = x) := ⟨_, Lib.hid rfl⟩
      rw [hpse.out, htse.out] at hlast
      have hpl : Hid (ps.length = m) := Lib.hid (by rw [← hpse.out]; exact hm.out)
      have htl : Hid (ts.length = tn) := Lib.hid (by rw [← htse.out]; exact htn.out)
      have HPS : Hid (PatsIn W B d0 ps) := Lib.hid (by rw [← hpse.out]; exact HPR.out.kids.below hbW)
      have HTS : Hid (PatsIn W A d ts) := Lib.hid (by rw [← htse.out]; exact HP.out.kids.below hbW)
      have HTO2 : Hid (∀ i (h : i < ts.length), treeOk ts[i] = true) := Lib.hid (by rw [← htse.out]; exact fun i h => kid_ok HTO.out i h)
      have hmt : m = tn := by
        have h1 := HAR.out (by rw [hpop.out]; exact hop0)
        have h2 := (kids_arity HTO.out).1
        rw [hpop.out, hm.out] at h1
        rw [htn.out, hop.out] at h2
        omega
      subst hmt
      by_cases hnm : n = m
      case neg =>
        obtain rfl : o = none := by rw [hlast.out, if_pos hnm]
        go_wp2_with fail
        go_ret2
        exact ⟨hbW, rfl⟩
      subst hnm
      have HO : Hid (o = covsCost rs ks ts ps cost) := Lib.hid (by rw [hlast.out, if_neg (by simp)])
      have hnp : n ≤ n := Nat.le_refl _
      clear hlast
      go_wp2_with fail

      go_loopw [13, 82] (fun sv i wr => ∃ (k : Nat) (s : Int), k ≤ n ∧ sv = .int .i64 s ∧ i = .int .i64 k ∧ Below w.heap.size w wr ∧ Below W.heap.size W wr ∧ Hid (covsCost rs (ks.take k) ts ps cost = some s)) (fun _ i _ => n - (intOf i).toNat)
      case atStart => exact ⟨0, cost, by omega, rfl, rfl, hbW, Below.refl _ _, Lib.hid (by rw [List.take_zero]; cases ts <;> cases ps <;> rfl)⟩
      case round =>
        obtain ⟨k, s, hk, rfl, rfl, hb, hbb, hsum⟩ := hrel
        obtain ⟨wo, rfl⟩ : ∃ wo : World, wo = wr := ⟨_, rfl⟩
        have hs1 := covsCost_in hci _ _ _ _ _ hsum.out hcost.1
        have hs2 := covsN_take_le ks k
        have hs3 : 0 ≤ s ∧ s ≤ 65535 * 20000 := ⟨by omega, by omega⟩
        have hbz := hb.size
        have hbbz := hbb.size
        clear hs1 hs2
        by_cases hlt : k < n
        · have hkc : k < ks.length := by rw [hn.out]; exact hlt
          have hkp : k < ps.length := by rw [hpl.out]; exact hlt
          have hkt : k < ts.length := by rw [htl.out]; exact Nat.lt_of_lt_of_le hlt hnp
          obtain ⟨ok1, h1⟩ := HPS.out.below hbb
          obtain ⟨g1, off1, B1, d1, hX1, _, hg1, ⟨a0, a1, a2⟩, _⟩ := pats_at h1 k hkp
          obtain ⟨ok2, h2⟩ := HTS.out.below hbb
          obtain ⟨g2, off2, B2, d2, hX2, _, hg2, ⟨b0, b1, b2⟩, hu⟩ := pats_at h2 k hkt
          obtain ⟨ok3, h3⟩ := HKS.out.below hb
          obtain ⟨g3, off3, B3, d4, hX3, _, hg3, ⟨e0, e1⟩, hv⟩ := covs_at h3 k hkc
          cases hX1
          cases hX2
          cases hX3
          have hcall := fun W' => ih k hkc ts[k] ps[k].nt B2 (some ⟨g, off, none⟩) B3 d2 c2 d4 W' (HTO2.out k hkt)
          have hnext := Lib.hid (covsCost_take rs ks ts ps k hkc hkt hkp _ _ hsum.out)
          have hnone := Lib.hid (fun h => covsCost_none rs ks ts ps (k + 1) cost h)
          have hN2 := covsN_mem ks k hkc
          obtain ⟨o2, ho2⟩ : ∃ x, Hid (covCost rs ks[k] ts[k] ps[k].nt = x) := ⟨_, Lib.hid rfl⟩
          have hin2 : ∀ x, o2 = some x → 0 ≤ x ∧ x ≤ 65535 * 20000 := fun x hx => by
            have := covCost_in hci ks[k] ts[k] ps[k].nt x (by rw [ho2.out, hx])
            omega
          rw [ho2.out] at hcall hnext
          obtain ⟨q, hq⟩ : ∃ x, Hid (ps[k] = x) := ⟨_, Lib.hid rfl⟩
          obtain ⟨u, hu2⟩ : ∃ x, Hid (ts[k] = x) := ⟨_, Lib.hid rfl⟩
          obtain ⟨v, hv2⟩ : ∃ x, Hid (ks[k] = x) := ⟨_, Lib.hid rfl⟩
          rw [hq.out] at a0 a1 a2 hcall
          rw [hu2.out] at b0 b1 b2 hu hcall
          rw [hv2.out] at e0 e1 hv hcall
          rw [hrn.out] at hcall
          have HU : Hid (PatIn wo B2 d2 u) := Lib.hid ⟨_, hu⟩
          have HV : Hid (CovIn wo B3 d4 v) := Lib.hid ⟨_, hv⟩
          have HRo : Hid (RulesIn wo (some ⟨g, off, none⟩) c2 rs) := Lib.hid (HR.out.below hb)
          have kco := kc.below hbb kc.lt
          have c9 : wo.cell? ⟨w.heap.size + 1, 1, none⟩ = some (.slice (some ⟨g3, off3, none⟩) n d3) := kco.cell 1
          have hlz : w.heap.size + 1 < wo.heap.size := kco.lt
          clear h1 h2 h3 hu hv
          go_wp2_with fail
          obtain ⟨w1, hw1⟩ : ∃ w1, w1 = wo.alloc (.cells #[.int .i64 q.op, .int .i64 q.nt, .slice B1 q.kids.length d1] 31) := ⟨_, rfl⟩
          have hz1 : wo.heap.size < w1.heap.size := by rw [hw1]; simp
          have hb1 : Below wo.heap.size wo w1 := by rw [hw1]; exact below_alloc _ _
          have pb : BlkIs w1 wo.heap.size 31 #[.int .i64 q.op, .int .i64 q.nt, .slice B1 q.kids.length d1] := by rw [hw1]; exact BlkIs.fresh _ _ _
          rw [← hw1]
          have p1 : w1.cell? ⟨wo.heap.size, 1, none⟩ = some (.int .i64 q.nt) := pb.cell 1
          have b0 := cell_later hb1 b0
          have b1 := cell_later hb1 b1
          have b2 := cell_later hb1 b2
          have e0 := cell_later hb1 e0
          have e1 := cell_later hb1 e1
          have c9 := cell_later hb1 c9
          have hd0 : Below w1.heap.size w1 w1.drew := (Below.refl _ _).drew
          clear hw1 a0 a1 a2
          refine anyJ_begin 17 (fun W => Below w1.heap.size w1 W) (by kernel_rfl) ((Below.refl _ _).drew) (fun hHeld => ?_)
          refine take (i := 0) (d := some 88) (v := .slice (some ⟨g, off, none⟩) rn c2) (by kernel_rfl) rfl rfl rfl (fun _ _ _ h => h) hHeld (fun W hSw => by go_simp) ?_
          simp only [Act.put, List.setIfInBounds_toArray, List.set_cons_zero, List.set_cons_succ]
          refine take (i := 1) (d := some 89) (v := .slice (some ⟨g2, off2, none⟩) n d) (by kernel_rfl) rfl rfl rfl (fun _ _ _ h => h) hHeld (fun W hSw => by go_simp) ?_
          simp only [Act.put, List.setIfInBounds_toArray, List.set_cons_zero, List.set_cons_succ]
          refine take (i := 2) (d := some 90) (v := .int .i64 k) (by kernel_rfl) rfl rfl rfl (fun _ _ _ h => h) hHeld (fun W hSw => by go_simp) ?_
          simp only [Act.put, List.setIfInBounds_toArray, List.set_cons_zero, List.set_cons_succ]
          refine take (i := 3) (d := some 91) (v := .pointer (some ⟨g2, off2 + k * 3, none⟩)) (by kernel_rfl) rfl rfl rfl (fun _ _ _ h => h) hHeld (fun W hSw => by go_simp) ?_
          simp only [Act.put, List.setIfInBounds_toArray, List.set_cons_zero, List.set_cons_succ]
          refine take (i := 4) (d := some 92) (v := .agg #[.int .i64 u.op, .int .i64 u.nt, .slice B2 u.kids.length d2]) (by kernel_rfl) rfl rfl rfl (fun _ _ _ h => h) hHeld (fun W hSw => by have x0 := (hSw.cell (p := ⟨g2, off2 + k * 3, none⟩) (by show g2 < _; omega)).trans b0; have x1 := (hSw.cell (p := ⟨g2, off2 + k * 3 + 1, none⟩) (by show g2 < _; omega)).trans b1; have x2 := (hSw.cell (p := ⟨g2, off2 + k * 3 + 2, none⟩) (by show g2 < _; omega)).trans b2; go_simp) ?_
          simp only [Act.put, List.setIfInBounds_toArray, List.set_cons_zero, List.set_cons_succ]
          refine take (i := 5) (d := some 93) (v := .pointer (some ⟨wo.heap.size, 1, none⟩)) (by kernel_rfl) rfl rfl rfl (fun _ _ _ h => h) hHeld (fun W hSw => by go_simp) ?_
          simp only [Act.put, List.setIfInBounds_toArray, List.set_cons_zero, List.set_cons_succ]
          refine take (i := 6) (d := some 94) (v := .int .i64 q.nt) (by kernel_rfl) rfl rfl rfl (fun _ _ _ h => h) hHeld (fun W hSw => by have x0 := (hSw.cell (p := ⟨wo.heap.size, 1, none⟩) (by show wo.heap.size < _; omega)).trans p1; go_simp) ?_
          simp only [Act.put, List.setIfInBounds_toArray, List.set_cons_zero, List.set_cons_succ]
          refine take (i := 7) (d := some 95) (v := .pointer (some ⟨w.heap.size + 1, 1, none⟩)) (by kernel_rfl) rfl rfl rfl (fun _ _ _ h => h) hHeld (fun W hSw => by go_simp) ?_
          simp only [Act.put, List.setIfInBounds_toArray, List.set_cons_zero, List.set_cons_succ]
          refine take (i := 8) (d := some 96) (v := .slice (some ⟨g3, off3, none⟩) n d3) (by kernel_rfl) rfl rfl rfl (fun _ _ _ h => h) hHeld (fun W hSw => by have x0 := (hSw.cell (p := ⟨w.heap.size + 1, 1, none⟩) (by show w.heap.size + 1 < _; omega)).trans c9; go_simp) ?_
          simp only [Act.put, List.setIfInBounds_toArray, List.set_cons_zero, List.set_cons_succ]
          refine take (i := 9) (d := some 97) (v := .int .i64 k) (by kernel_rfl) rfl rfl rfl (fun _ _ _ h => h) hHeld (fun W hSw => by go_simp) ?_
          simp only [Act.put, List.setIfInBounds_toArray, List.set_cons_zero, List.set_cons_succ]
          refine take (i := 10) (d := some 98) (v := .pointer (some ⟨g3, off3 + k * 2, none⟩)) (by kernel_rfl) rfl rfl rfl (fun _ _ _ h => h) hHeld (fun W hSw => by go_simp) ?_
          simp only [Act.put, List.setIfInBounds_toArray, List.set_cons_zero, List.set_cons_succ]
          refine take (i := 11) (d := some 99) (v := .agg #[.int .i64 v.rule, .slice B3 v.kids.length d4]) (by kernel_rfl) rfl rfl rfl (fun _ _ _ h => h) hHeld (fun W hSw => by have x0 := (hSw.cell (p := ⟨g3, off3 + k * 2, none⟩) (by show g3 < _; omega)).trans e0; have x1 := (hSw.cell (p := ⟨g3, off3 + k * 2 + 1, none⟩) (by show g3 < _; omega)).trans e1; go_simp) ?_
          simp only [Act.put, List.setIfInBounds_toArray, List.set_cons_zero, List.set_cons_succ]
          refine anyJ_only (i := 12) (d := some 100) (by kernel_rfl) rfl rfl rfl (fun K' hK => ?_)
          refine wp_go_call 76 _ _ rfl #[.slice (some ⟨g, off, none⟩) rn c2, .agg #[.int .i64 u.op, .int .i64 u.nt, .slice B2 u.kids.length d2], .int .i64 q.nt, .agg #[.int .i64 v.rule, .slice B3 v.kids.length d4]] rfl (fun W => by go_simp) (hcall _ ((HRo.out.below hb1).below hd0) ((HU.out.below hb1).below hd0) ((HV.out.below hb1).below hd0)) (fun e w3 he => ?_)
          obtain ⟨hb3, he⟩ := he
          have hb3' : Below w1.heap.size w1 w3 := hHeld.trans hb3
          have hbw3 : Below w.heap.size w w3 := (hb.trans (hb1.mono hbz)).trans (hb3'.mono (by omega))
          have hbW3 : Below W.heap.size W w3 := (hbb.trans (hb1.mono hbbz)).trans (hb3'.mono (by omega))
          clear hcall
          cases o2 with
          | none =>
            obtain rfl : e = _ := he
            refine ⟨_, rfl, hK.out _ _ (fun _ => hb3') (fun hHeld => ?_)⟩
            have hHeld := hHeld (by decide)
            simp only [Act.put, List.setIfInBounds_toArray, List.set_cons_zero, List.set_cons_succ]
            refine take (i := 13) (d := some 87) (v := .tuple #[.int .i64 0, .bool false]) (by kernel_rfl) rfl rfl rfl (fun _ _ _ h => h) hHeld (fun W hSw => by go_simp) ?_
            simp only [Act.put, List.setIfInBounds_toArray, List.set_cons_zero, List.set_cons_succ]
            refine take (i := 14) (d := some 101) (v := .int .i64 0) (by kernel_rfl) rfl rfl rfl (fun _ _ _ h => h) hHeld (fun W hSw => by go_simp) ?_
            simp only [Act.put, List.setIfInBounds_toArray, List.set_cons_zero, List.set_cons_succ]
            refine take (i := 15) (d := some 102) (v := .bool false) (by kernel_rfl) rfl rfl rfl (fun _ _ _ h => h) hHeld (fun W hSw => by go_simp) ?_
            simp only [Act.put, List.setIfInBounds_toArray, List.set_cons_zero, List.set_cons_succ]
            refine take (i := 16) (d := some 16) (v := .int .i64 0) (by kernel_rfl) rfl rfl rfl (fun _ _ _ h => h) hHeld (fun W hSw => by go_simp) ?_
            simp only [Act.put, List.setIfInBounds_toArray, List.set_cons_zero, List.set_cons_succ]
            refine anyJ_only (i := 17) (d := some 17) (by kernel_rfl) rfl rfl rfl (fun K' hK => ?_)
            refine wp_val (w' := w3) (v := .bool false) (by go_simp) (hK.out _ _ (fun h => absurd rfl h) (fun _ => ?_))
            simp only [Act.put, List.setIfInBounds_toArray, List.set_cons_zero, List.set_cons_succ]
            refine anyJ_done (by kernel_rfl) ?_ _
            obtain rfl : o = none := by rw [HO.out]; exact hnone.out (by rw [hnext.out]; rfl)
            go_wp2_with fail
            go_ret2
            exact ⟨hbw3, rfl⟩
          | some x =>
            obtain rfl : e = _ := he
            obtain ⟨hx0, hx1⟩ := hin2 x rfl
            refine ⟨_, rfl, hK.out _ _ (fun _ => hb3') (fun hHeld => ?_)⟩
            have hHeld := hHeld (by decide)
            simp only [Act.put, List.setIfInBounds_toArray, List.set_cons_zero, List.set_cons_succ]
            refine take (i := 13) (d := some 87) (v := .tuple #[.int .i64 x, .bool true]) (by kernel_rfl) rfl rfl rfl (fun _ _ _ h => h) hHeld (fun W hSw => by go_simp) ?_
            simp only [Act.put, List.setIfInBounds_toArray, List.set_cons_zero, List.set_cons_succ]
            refine take (i := 14) (d := some 101) (v := .int .i64 x) (by kernel_rfl) rfl rfl rfl (fun _ _ _ h => h) hHeld (fun W hSw => by go_simp) ?_
            simp only [Act.put, List.setIfInBounds_toArray, List.set_cons_zero, List.set_cons_succ]
            refine take (i := 15) (d := some 102) (v := .bool true) (by kernel_rfl) rfl rfl rfl (fun _ _ _ h => h) hHeld (fun W hSw => by go_simp) ?_
            simp only [Act.put, List.setIfInBounds_toArray, List.set_cons_zero, List.set_cons_succ]
            refine take (i := 16) (d := some 16) (v := .int .i64 x) (by kernel_rfl) rfl rfl rfl (fun _ _ _ h => h) hHeld (fun W hSw => by go_simp) ?_
            simp only [Act.put, List.setIfInBounds_toArray, List.set_cons_zero, List.set_cons_succ]
            refine anyJ_only (i := 17) (d := some 17) (by kernel_rfl) rfl rfl rfl (fun K' hK => ?_)
            refine wp_val (w' := w3) (v := .bool true) (by go_simp) (hK.out _ _ (fun h => absurd rfl h) (fun _ => ?_))
            simp only [Act.put, List.setIfInBounds_toArray, List.set_cons_zero, List.set_cons_succ]
            refine anyJ_done (by kernel_rfl) ?_ _
            go_wp2_with fail
            go_roundw
            case rel => exact ⟨k + 1, s + x, by omega, rfl, by go_num, hbw3, hbW3, Lib.hid (by rw [hnext.out]; rfl)⟩
            case measure => simp [intOf]; omega
        · have hkn : k = n := by omega
          have h1 : ks.take k = ks := List.take_of_length_le (by rw [hn.out]; omega)
          have h2 := hsum.out
          rw [h1] at h2
          obtain rfl : o = some s := by rw [HO.out]; exact h2
          go_wp2_with fail
          go_ret2
          exact ⟨hb, rfl⟩

end

end Go.Proofs.YtaippkdlibampaaDoor

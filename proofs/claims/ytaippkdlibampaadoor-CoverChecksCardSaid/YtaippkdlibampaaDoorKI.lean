/- gantletref11.Cost walked: what a cover costs. -/
import Derived.Test.YtaippkdlibampaaDoorKH
namespace Go.Proofs.YtaippkdlibampaaDoor

/- gantletref11.Cost walked: what a cover costs. -/
section
open Go.RowKit

def CostRet (o : Option Int) (w : World) (e : Ending) (w' : World) : Prop := Below w.heap.size w w' ∧ ∃ x : Int, e = .returned (.tuple #[.int .i64 x, .bool o.isSome]) ∧ ∀ v, o = some v → x = v

def CostOk (rs : List Rule) (c : Cov) : Prop := ∀ (t : Pat) (nt : Int) (A A2 A3 : Option Addr) (d c2 d3 : Nat) (w : World), treeOk t = true → RulesIn w A2 c2 rs → PatIn w A d t → CovIn w A3 d3 c →
  Calls Tryd.prog 41 #[.slice A2 rs.length c2, .agg #[.int .i64 t.op, .int .i64 t.nt, .slice A t.kids.length d], .int .i64 nt, .agg #[.int .i64 c.rule, .slice A3 c.kids.length d3]] w (CostRet (covCost rs c t nt) w)

set_option maxRecDepth 100000 in
set_option maxHeartbeats 16000000 in
theorem costC_of (rs : List Rule) (hrs : RulesFit rs) (hci : CostsIn rs) (c : Cov) (hN : covN c ≤ 20000) (ih : ∀ i (h : i < c.kids.length), CostOk rs c.kids[i]) : CostOk rs c := by
  intro t nt A A2 A3 d c2 d3 w ht hr hp hc
  have HTO := Lib.hid ht
  have hcc := covCost_eq rs c t nt
  obtain ⟨o, ho⟩ : ∃ x, Hid (covCost rs c t nt = x) := ⟨_, Lib.hid rfl⟩
  rw [ho.out] at hcc ⊢
  rw [covN_eq] at hN
  obtain ⟨ks, hks⟩ : ∃ x, Hid (c.kids = x) := ⟨_, Lib.hid rfl⟩
  obtain ⟨cr, hcr⟩ : ∃ x, Hid (c.rule = x) := ⟨_, Lib.hid rfl⟩
  obtain ⟨rn, hrn⟩ : ∃ n, Hid (rs.length = n) := ⟨_, Lib.hid rfl⟩
  obtain ⟨tn, htn⟩ : ∃ n, Hid (t.kids.length = n) := ⟨_, Lib.hid rfl⟩
  obtain ⟨op, hop⟩ : ∃ x, Hid (t.op = x) := ⟨_, Lib.hid rfl⟩
  obtain ⟨tnt, htnt⟩ : ∃ x, Hid (t.nt = x) := ⟨_, Lib.hid rfl⟩
  have HR := Lib.hid hr
  have HP := Lib.hid hp
  have HKS := Lib.hid hc.kids
  rw [hks.out] at HKS
  have hrl := hr.le
  have ih : ∀ i (h : i < ks.length), CostOk rs ks[i] := by rw [← hks.out]; exact ih
  obtain ⟨n, hn⟩ : ∃ n, Hid (ks.length = n) := ⟨_, Lib.hid rfl⟩
  rw [hks.out, hcr.out, hn.out] at hcc
  rw [hks.out] at hN
  have hnb : n ≤ 20000 := by rw [← hn.out]; have := covsN_len ks; omega
  rw [hrn.out, htn.out, hop.out, htnt.out, hcr.out, hks.out, hn.out]
  rw [hrn.out] at hrl
  have hmax : maxLen = maxLen := rfl
  have IH := Lib.hid ih
  clear hr hp hc ih ht hmax
  have ih := IH.out
  have hr96 : rn ≤ 96 := by rw [← hrn.out]; exact hrs.1.1
  by_cases h0 : cr < 0 ∨ (rn : Int) ≤ cr
  · obtain rfl : o = none := by
      by_cases h1 : 0 ≤ cr
      · rw [if_pos h1, List.getElem?_eq_none (by rw [hrn.out]; omega)] at hcc; exact hcc
      · rw [if_neg h1] at hcc; exact hcc
    clear hcc
    have c4 := num0_any cr ((rn : Int) - 1)
    rw [show within cr 0 ((rn : Int) - 1) = false by unfold within; simp; omega] at c4
    clear h0
    go_enter Tryd.func41, Tryd.ntmps41
    go_wp2_with (go_at_call 77; refine (c4 _).mono ?_; rintro e w' ⟨rfl, rfl⟩)
    go_wp2_with fail
    go_ret2
    exact ⟨below_box2 _ _ _, _, rfl, fun v h => by cases h⟩
  have h1 : 0 ≤ cr ∧ cr < (rn : Int) := by omega
  obtain ⟨a, rfl⟩ : ∃ a : Nat, cr = a := ⟨cr.toNat, by omega⟩
  have harn : a < rn := by omega
  have har : a < rs.length := by rw [hrn.out]; exact harn
  rw [if_pos (by omega), Int.toNat_natCast, List.getElem?_eq_getElem har] at hcc
  obtain ⟨ok, hrs0⟩ := HR.out
  obtain ⟨g, off, B, d0, rfl, _, hg, ⟨a0, a1, a2, a3, a4, a5⟩, hle5, hpat⟩ := rules_at hrs0 a har
  have hRm : rs[a] ∈ rs := List.getElem_mem har
  obtain ⟨R, hR⟩ : ∃ x, Hid (rs[a] = x) := ⟨_, Lib.hid rfl⟩
  rw [hR.out] at hcc a0 a1 a2 a3 a4 a5 hpat hRm
  have hfl := (hrs.1.2 R hRm).1
  have har2 := (hrs.2 R hRm).2
  have hfitR := (hrs.2 R hRm).1
  have hcost := hci R hRm
  obtain ⟨rnt, hrnt⟩ : ∃ x, Hid (R.nt = x) := ⟨_, Lib.hid rfl⟩
  obtain ⟨pop, hpop⟩ : ∃ x, Hid (R.pat.op = x) := ⟨_, Lib.hid rfl⟩
  obtain ⟨pnt, hpnt⟩ : ∃ x, Hid (R.pat.nt = x) := ⟨_, Lib.hid rfl⟩
  obtain ⟨m, hm⟩ : ∃ x, Hid (R.pat.kids.length = x) := ⟨_, Lib.hid rfl⟩
  obtain ⟨cost, hco⟩ : ∃ x, Hid (R.cost = x) := ⟨_, Lib.hid rfl⟩
  obtain ⟨form, hfo⟩ : ∃ x, Hid (R.form = x) := ⟨_, Lib.hid rfl⟩
  have hpin : PatIn w B d0 R.pat := ⟨_, hpat⟩
  have HPR := Lib.hid hpin
  have HFL := Lib.hid hfl
  have HAR := Lib.hid har2
  have HFR := Lib.hid hfitR
  rw [hrnt.out] at a0
  rw [hpop.out] at a1
  rw [hpnt.out] at a2
  rw [hm.out] at a3
  rw [hco.out] at a4 hcost
  rw [hfo.out] at a5
  replace hcc : o = if asksBad R t nt n then none else covsCost rs ks (tsOf R t) (psOf R) R.cost := hcc
  have HO1 := Lib.hid hcc
  clear hcc hrs0 hle5 hpat hpin hRm hfl har2 hfitR
  have c4 := num0_any (a : Int) ((rn : Int) - 1)
  rw [show within (a : Int) 0 ((rn : Int) - 1) = true by unfold within; simp; omega] at c4
  by_cases hnt : rnt = nt
  case neg =>
    obtain rfl : o = none := by rw [HO1.out, if_pos (.inl (by rw [hrnt.out]; exact hnt))]
    go_enter Tryd.func41, Tryd.ntmps41
    go_wp2_with (go_at_call 77; refine (c4 _).mono ?_; rintro e w' ⟨rfl, rfl⟩)
    go_wp2_with fail
    go_ret2
    exact ⟨below_box2 _ _ _, _, rfl, fun v h => by cases h⟩
  subst hnt
  go_enter Tryd.func41, Tryd.ntmps41
  go_upto_region 4 with (go_at_call 77; refine (c4 _).mono ?_; rintro e w' ⟨rfl, rfl⟩)
  obtain ⟨w0, hw0⟩ : ∃ w0, w0 = ((w.alloc (.cells #[.int .i64 op, .int .i64 tnt, .slice A tn d] 64)).alloc (.cells #[.int .i64 a, .slice A3 n d3] 60)).alloc (.cells #[.int .i64 rnt, .int .i64 pop, .int .i64 pnt, .slice B m d0, .int .i64 cost, .string ⟨form.toArray⟩] 33) := ⟨_, rfl⟩
  have hb0 : Below w.heap.size w w0 := by rw [hw0]; exact below_box3 _ _ _ _
  have hz0 : w.heap.size + 3 ≤ w0.heap.size := by rw [hw0]; simp
  have kt : BlkIs w0 w.heap.size 64 #[.int .i64 op, .int .i64 tnt, .slice A tn d] := by rw [hw0]; exact ((BlkIs.fresh _ _ _).alloc _).alloc _
  have kc : BlkIs w0 (w.heap.size + 1) 60 #[.int .i64 a, .slice A3 n d3] := by rw [hw0]; exact (BlkIs.fresh1 _ _ _ _).alloc _
  have kr : BlkIs w0 (w.heap.size + 1 + 1) 33 #[.int .i64 rnt, .int .i64 pop, .int .i64 pnt, .slice B m d0, .int .i64 cost, .string ⟨form.toArray⟩] := by rw [hw0]; exact BlkIs.fresh2 (by simp)
  rw [← hw0]
  have r1 : w0.cell? ⟨w.heap.size + 1 + 1, 1, none⟩ = some (.int .i64 pop) := kr.cell 1
  have r2 : w0.cell? ⟨w.heap.size + 1 + 1, 2, none⟩ = some (.int .i64 pnt) := kr.cell 2
  have r3 : w0.cell? ⟨w.heap.size + 1 + 1, 3, none⟩ = some (.slice B m d0) := kr.cell 3
  have r4 : w0.cell? ⟨w.heap.size + 1 + 1, 4, none⟩ = some (.int .i64 cost) := kr.cell 4
  have r5 : w0.cell? ⟨w.heap.size + 1 + 1, 5, none⟩ = some (.string ⟨form.toArray⟩) := kr.cell 5
  have t0 : w0.cell? ⟨w.heap.size, 0, none⟩ = some (.int .i64 op) := kt.cell 0
  have t1 : w0.cell? ⟨w.heap.size, 1, none⟩ = some (.int .i64 tnt) := kt.cell 1
  have t2 : w0.cell? ⟨w.heap.size, 2, none⟩ = some (.slice A tn d) := kt.cell 2
  have c0 : w0.cell? ⟨w.heap.size + 1, 1, none⟩ = some (.slice A3 n d3) := kc.cell 1
  clear hw0 a0 a1 a2 a3 a4 a5 c4
  by_cases hop0 : pop = 0
  · subst hop0
    have hps : Hid (psOf R = [R.pat] ∧ tsOf R t = [t]) := Lib.hid (by unfold psOf tsOf; rw [if_pos hpop.out, if_pos hpop.out]; exact ⟨rfl, rfl⟩)
    have hlast : Hid (o = if n ≠ 1 then none else covsCost rs ks [t] [R.pat] cost) := Lib.hid (by
      rw [HO1.out, hco.out]
      exact bad_if (by unfold asksBad; rw [hps.out.1, hpop.out, hrnt.out]; simp) (by rw [hps.out.1, hps.out.2]))
    by_cases hnm : n = 1
    case neg =>
      obtain rfl : o = none := by rw [hlast.out, if_pos hnm]
      have hne1 : ((n : Int) != 1) = true := by simp; omega
      go_wp2_with fail
      go_ret2
      exact ⟨hb0, _, rfl, fun v h => by cases h⟩
    subst hnm
    have hk0 : 0 < ks.length := by rw [hn.out]; omega
    have HO : Hid (o = (covCost rs ks[0] t R.pat.nt).map (cost + ·)) := Lib.hid (by
      rw [hlast.out, if_neg (by simp)]
      have h1 := covsCost_take rs ks [t] [R.pat] 0 hk0 (by simp) (by simp) cost cost (by simp [covsCost])
      rw [List.take_of_length_le (by rw [hn.out]; omega)] at h1
      exact h1)
    obtain ⟨ok3, h3⟩ := HKS.out.below hb0
    obtain ⟨g3, off3, B3, d4, hX3, _, hg3, ⟨e0, e1⟩, hv⟩ := covs_at h3 0 hk0
    cases hX3
    simp only [Nat.zero_mul, Nat.add_zero] at e0 e1
    have hcall := fun W' => ih 0 hk0 t R.pat.nt A (some ⟨g, off, none⟩) B3 d c2 d4 W' HTO.out
    have hN2 := covsN_mem ks 0 hk0
    obtain ⟨o2, ho2⟩ : ∃ x, Hid (covCost rs ks[0] t R.pat.nt = x) := ⟨_, Lib.hid rfl⟩
    have hin2 : ∀ x, o2 = some x → 0 ≤ x ∧ x ≤ 65535 * 20000 := fun x hx => by
      have := covCost_in hci ks[0] t R.pat.nt x (by rw [ho2.out, hx])
      omega
    rw [ho2.out] at hcall HO
    obtain ⟨v, hv2⟩ : ∃ x, Hid (ks[0] = x) := ⟨_, Lib.hid rfl⟩
    rw [hv2.out] at e0 e1 hv hcall
    rw [hrn.out, hpnt.out, hop.out, htnt.out, htn.out] at hcall
    have HV : Hid (CovIn w0 B3 d4 v) := Lib.hid ⟨_, hv⟩
    have hd0 : Below w0.heap.size w0 w0.drew := (Below.refl _ _).drew
    have hHR : Hid (RulesIn w0 (some ⟨g, off, none⟩) c2 rs) := Lib.hid (HR.out.below hb0)
    have hHP : Hid (PatIn w0 A d t) := Lib.hid (HP.out.below hb0)
    clear h3 hv
    go_upto_region 7 with fail
    refine anyJ_begin 14 (fun W => Below w0.heap.size w0 W) (by kernel_rfl) ((Below.refl _ _).drew) (fun hHeld => ?_)
    refine take (i := 0) (d := some 48) (v := .slice (some ⟨g, off, none⟩) rn c2) (by kernel_rfl) rfl rfl rfl (fun _ _ _ h => h) hHeld (fun W hSw => by go_simp) ?_
    simp only [Act.put, List.setIfInBounds_toArray, List.set_cons_zero, List.set_cons_succ]
    refine take (i := 1) (d := some 49) (v := .agg #[.int .i64 op, .int .i64 tnt, .slice A tn d]) (by kernel_rfl) rfl rfl rfl (fun _ _ _ h => h) hHeld (fun W hSw => by have x0 := (hSw.cell (p := ⟨w.heap.size, 0, none⟩) (by show w.heap.size < _; omega)).trans t0; have x1 := (hSw.cell (p := ⟨w.heap.size, 1, none⟩) (by show w.heap.size < _; omega)).trans t1; have x2 := (hSw.cell (p := ⟨w.heap.size, 2, none⟩) (by show w.heap.size < _; omega)).trans t2; go_simp) ?_
    simp only [Act.put, List.setIfInBounds_toArray, List.set_cons_zero, List.set_cons_succ]
    refine take (i := 2) (d := some 50) (v := .pointer (some ⟨w.heap.size + 1 + 1, 1, none⟩)) (by kernel_rfl) rfl rfl rfl (fun _ _ _ h => h) hHeld (fun W hSw => by go_simp) ?_
    simp only [Act.put, List.setIfInBounds_toArray, List.set_cons_zero, List.set_cons_succ]
    refine take (i := 3) (d := some 51) (v := .pointer (some ⟨w.heap.size + 1 + 1, 2, none⟩)) (by kernel_rfl) rfl rfl rfl (fun _ _ _ h => h) hHeld (fun W hSw => by go_simp) ?_
    simp only [Act.put, List.setIfInBounds_toArray, List.set_cons_zero, List.set_cons_succ]
    refine take (i := 4) (d := some 52) (v := .int .i64 pnt) (by kernel_rfl) rfl rfl rfl (fun _ _ _ h => h) hHeld (fun W hSw => by have x0 := (hSw.cell (p := ⟨w.heap.size + 1 + 1, 2, none⟩) (by show w.heap.size + 1 + 1 < _; omega)).trans r2; go_simp) ?_
    simp only [Act.put, List.setIfInBounds_toArray, List.set_cons_zero, List.set_cons_succ]
    refine take (i := 5) (d := some 53) (v := .pointer (some ⟨w.heap.size + 1, 1, none⟩)) (by kernel_rfl) rfl rfl rfl (fun _ _ _ h => h) hHeld (fun W hSw => by go_simp) ?_
    simp only [Act.put, List.setIfInBounds_toArray, List.set_cons_zero, List.set_cons_succ]
    refine take (i := 6) (d := some 54) (v := .slice (some ⟨g3, off3, none⟩) 1 d3) (by kernel_rfl) rfl rfl rfl (fun _ _ _ h => h) hHeld (fun W hSw => by have x0 := (hSw.cell (p := ⟨w.heap.size + 1, 1, none⟩) (by show w.heap.size + 1 < _; omega)).trans c0; go_simp) ?_
    simp only [Act.put, List.setIfInBounds_toArray, List.set_cons_zero, List.set_cons_succ]
    refine take (i := 7) (d := some 55) (v := .pointer (some ⟨g3, off3, none⟩)) (by kernel_rfl) rfl rfl rfl (fun _ _ _ h => h) hHeld (fun W hSw => by go_simp) ?_
    simp only [Act.put, List.setIfInBounds_toArray, List.set_cons_zero, List.set_cons_succ]
    refine take (i := 8) (d := some 56) (v := .agg #[.int .i64 v.rule, .slice B3 v.kids.length d4]) (by kernel_rfl) rfl rfl rfl (fun _ _ _ h => h) hHeld (fun W hSw => by have x0 := (hSw.cell (p := ⟨g3, off3, none⟩) (by show g3 < _; omega)).trans e0; have x1 := (hSw.cell (p := ⟨g3, off3 + 1, none⟩) (by show g3 < _; omega)).trans e1; go_simp) ?_
    simp only [Act.put, List.setIfInBounds_toArray, List.set_cons_zero, List.set_cons_succ]
    refine anyJ_only (i := 9) (d := some 57) (by kernel_rfl) rfl rfl rfl (fun K' hK => ?_)
    refine wp_go_call 41 _ _ rfl #[.slice (some ⟨g, off, none⟩) rn c2, .agg #[.int .i64 op, .int .i64 tnt, .slice A tn d], .int .i64 pnt, .agg #[.int .i64 v.rule, .slice B3 v.kids.length d4]] rfl (fun W => by go_simp) (hcall _ (hHR.out.below hd0) (hHP.out.below hd0) (HV.out.below hd0)) (fun e w3 he => ?_)
    obtain ⟨hb3, x, rfl, hx⟩ := he
    have hb3' : Below w0.heap.size w0 w3 := hHeld.trans hb3
    have hbw3 : Below w.heap.size w w3 := hb0.trans (hb3'.mono (by omega))
    have r4 := cell_later hb3' r4
    obtain ⟨bb, hbb⟩ : ∃ x, Hid (o2.isSome = x) := ⟨_, Lib.hid rfl⟩
    rw [hbb.out]
    refine ⟨_, rfl, hK.out _ _ (fun _ => hb3') (fun hHeld => ?_)⟩
    have hHeld := hHeld (by decide)
    clear hcall
    simp only [Act.put, List.setIfInBounds_toArray, List.set_cons_zero, List.set_cons_succ]
    refine take (i := 10) (d := some 47) (v := .tuple #[.int .i64 x, .bool bb]) (by kernel_rfl) rfl rfl rfl (fun _ _ _ h => h) hHeld (fun W hSw => by go_simp) ?_
    simp only [Act.put, List.setIfInBounds_toArray, List.set_cons_zero, List.set_cons_succ]
    refine take (i := 11) (d := some 58) (v := .int .i64 x) (by kernel_rfl) rfl rfl rfl (fun _ _ _ h => h) hHeld (fun W hSw => by go_simp) ?_
    simp only [Act.put, List.setIfInBounds_toArray, List.set_cons_zero, List.set_cons_succ]
    refine take (i := 12) (d := some 59) (v := .bool bb) (by kernel_rfl) rfl rfl rfl (fun _ _ _ h => h) hHeld (fun W hSw => by go_simp) ?_
    simp only [Act.put, List.setIfInBounds_toArray, List.set_cons_zero, List.set_cons_succ]
    refine take (i := 13) (d := some 11) (v := .int .i64 x) (by kernel_rfl) rfl rfl rfl (fun _ _ _ h => h) hHeld (fun W hSw => by go_simp) ?_
    simp only [Act.put, List.setIfInBounds_toArray, List.set_cons_zero, List.set_cons_succ]
    refine anyJ_only (i := 14) (d := some 12) (by kernel_rfl) rfl rfl rfl (fun K' hK => ?_)
    refine wp_val (w' := w3) (v := .bool bb) (by go_simp) (hK.out _ _ (fun h => absurd rfl h) (fun _ => ?_))
    simp only [Act.put, List.setIfInBounds_toArray, List.set_cons_zero, List.set_cons_succ]
    refine anyJ_done (by kernel_rfl) ?_ _
    go_wp2_with fail
    go_ret2
    have hoi : o.isSome = bb := by rw [HO.out, Option.isSome_map, hbb.out]
    unfold CostRet
    rw [hoi]
    refine ⟨hbw3, _, rfl, fun y hy => ?_⟩
    rw [HO.out] at hy
    cases o2 with
    | none => cases hy
    | some z =>
      obtain rfl : x = z := hx z rfl
      have h1 := hin2 x rfl
      injection hy with hy
      exact (IntWalk.wrap64_in _ (by omega)).trans hy
  · have hpe : (pop == 0) = false := by simpa using hop0
    have hps : Hid (psOf R = R.pat.kids ∧ tsOf R t = t.kids) := Lib.hid (by unfold psOf tsOf; rw [if_neg (by rw [hpop.out]; exact hop0), if_neg (by rw [hpop.out]; exact hop0)]; exact ⟨rfl, rfl⟩)
    by_cases hpt : pop = op
    case neg =>
      obtain rfl : o = none := by rw [HO1.out, if_pos (.inr (.inl ⟨by rw [hpop.out]; exact hop0, .inl (by rw [hpop.out, hop.out]; exact hpt)⟩))]
      have hpte : (pop != op) = true := by simpa using hpt
      go_wp2_with fail
      go_ret2
      exact ⟨hb0, _, rfl, fun v h => by cases h⟩
    subst hpt
    have hpte : (pop != pop) = false := by simp
    have hmt : m = tn := by
      have h1 := HAR.out (by rw [hpop.out]; exact hop0)
      have h2 := (kids_arity HTO.out).1
      rw [hpop.out, hm.out] at h1
      rw [htn.out, hop.out] at h2
      omega
    subst hmt
    by_cases hn2 : rnt = 2
    · subst hn2
      obtain rfl : form = [102, 105, 116] := by rw [← hfo.out]; exact HFR.out.1.2 hrnt.out
      have hp1 : pop = 1 := by rw [← hpop.out]; exact HFR.out.2 hrnt.out
      by_cases hlo : tnt < -2048
      · have hlo' : decide (tnt < -2048) = true := by simpa using hlo
        obtain rfl : o = none := by rw [HO1.out, if_pos (.inr (.inl ⟨by rw [hpop.out]; exact hop0, .inr ⟨hrnt.out, by rw [htnt.out]; unfold smallT; simp; omega⟩⟩))]
        go_wp2_with fail
        go_ret2
        exact ⟨hb0, _, rfl, fun v h => by cases h⟩
      have hlo' : decide (tnt < -2048) = false := by simpa using hlo
      by_cases hhi : 2047 < tnt
      · have hhi' : decide (2047 < tnt) = true := by simpa using hhi
        obtain rfl : o = none := by rw [HO1.out, if_pos (.inr (.inl ⟨by rw [hpop.out]; exact hop0, .inr ⟨hrnt.out, by rw [htnt.out]; unfold smallT; simp; omega⟩⟩))]
        go_wp2_with fail
        go_ret2
        exact ⟨hb0, _, rfl, fun v h => by cases h⟩
      have hhi' : decide (2047 < tnt) = false := by simpa using hhi
      have hlast : Hid (o = if n ≠ m then none else covsCost rs ks t.kids R.pat.kids cost) := Lib.hid (by
        rw [HO1.out, hco.out]
        exact bad_if (by unfold asksBad; rw [hps.out.1, hm.out, hpop.out, hop.out, hrnt.out, htnt.out, show smallT pop tnt = true by unfold smallT; simp; omega]; simp) (by rw [hps.out.1, hps.out.2]))
      obtain ⟨ps, hpse⟩ : ∃ x, Hid (R.pat.kids = x) := ⟨_, Lib.hid rfl⟩
      obtain ⟨ts, htse⟩ : ∃ x, Hid (t.kids = x) := ⟨_, Lib.hid rfl⟩
      rw [hpse.out, htse.out] at hlast
      have hpl : Hid (ps.length = m) := Lib.hid (by rw [← hpse.out]; exact hm.out)
      have htl : Hid (ts.length = m) := Lib.hid (by rw [← htse.out]; exact htn.out)
      have HPS : Hid (PatsIn w0 B d0 ps) := Lib.hid (by rw [← hpse.out]; exact HPR.out.kids.below hb0)
      have HTS : Hid (PatsIn w0 A d ts) := Lib.hid (by rw [← htse.out]; exact HP.out.kids.below hb0)
      have HTO2 : Hid (∀ i (h : i < ts.length), treeOk ts[i] = true) := Lib.hid (by rw [← htse.out]; exact fun i h => kid_ok HTO.out i h)
      by_cases hnm : n = m
      case neg =>
        obtain rfl : o = none := by rw [hlast.out, if_pos hnm]
        go_wp2_with fail
        go_ret2
        exact ⟨hb0, _, rfl, fun v h => by cases h⟩
      subst hnm
      have HO : Hid (o = covsCost rs ks ts ps cost) := Lib.hid (by rw [hlast.out, if_neg (by simp)])
      clear hlast
      go_wp2_with fail
      go_loopw [13, 14] (fun sv i wr => ∃ (k : Nat) (s : Int), k ≤ n ∧ sv = .int .i64 s ∧ i = .int .i64 k ∧ Below w0.heap.size w0 wr ∧ Hid (covsCost rs (ks.take k) ts ps cost = some s)) (fun _ i _ => n - (intOf i).toNat)
      case atStart => exact ⟨0, cost, by omega, rfl, rfl, Below.refl _ _, Lib.hid (by rw [List.take_zero]; cases ts <;> cases ps <;> rfl)⟩
      case round =>
        obtain ⟨k, s, hk, rfl, rfl, hbb, hsum⟩ := hrel
        obtain ⟨wo, rfl⟩ : ∃ wo : World, wo = wr := ⟨_, rfl⟩
        have hs1 := covsCost_in hci _ _ _ _ _ hsum.out hcost.1
        have hs2 := covsN_take_le ks k
        have hs3 : 0 ≤ s ∧ s ≤ 65535 * 20000 := ⟨by omega, by omega⟩
        have hb : Below w.heap.size w wo := hb0.trans (hbb.mono (by omega))
        have hbbz := hbb.size
        clear hs1 hs2
        have c9 := cell_later hbb c0
        by_cases hlt : k < n
        · have hkc : k < ks.length := by rw [hn.out]; exact hlt
          have hkp : k < ps.length := by rw [hpl.out]; exact hlt
          have hkt : k < ts.length := by rw [htl.out]; exact hlt
          obtain ⟨ok1, h1⟩ := HPS.out.below hbb
          obtain ⟨g1, off1, B1, d1, hX1, _, hg1, ⟨a0, a1, a2⟩, _⟩ := pats_at h1 k hkp
          obtain ⟨ok2, h2⟩ := HTS.out.below hbb
          obtain ⟨g2, off2, B2, d2, hX2, _, hg2, ⟨b0, b1, b2⟩, hu⟩ := pats_at h2 k hkt
          obtain ⟨ok3, h3⟩ := HKS.out.below hb
          obtain ⟨g3, off3, B3, d4, hX3, _, hg3, ⟨e0, e1⟩, hv⟩ := covs_at h3 k hkc
          cases hX1
          cases hX2
          cases hX3
          have hcall := fun W' => ih k hkc ts[k] ps[k].nt B2 (some ⟨g, off, none⟩) B3 d2 c2 d4 W' (HTO2.out k hkt)
          have hnext := Lib.hid (covsCost_take rs ks ts ps k hkc hkt hkp _ _ hsum.out)
          have hnone := Lib.hid (fun h => covsCost_none rs ks ts ps (k + 1) cost h)
          have hN2 := covsN_mem ks k hkc
          obtain ⟨o2, ho2⟩ : ∃ x, Hid (covCost rs ks[k] ts[k] ps[k].nt = x) := ⟨_, Lib.hid rfl⟩
          have hin2 : ∀ x, o2 = some x → 0 ≤ x ∧ x ≤ 65535 * 20000 := fun x hx => by
            have := covCost_in hci ks[k] ts[k] ps[k].nt x (by rw [ho2.out, hx])
            omega
          rw [ho2.out] at hcall hnext
          obtain ⟨q, hq⟩ : ∃ x, Hid (ps[k] = x) := ⟨_, Lib.hid rfl⟩
          obtain ⟨u, hu2⟩ : ∃ x, Hid (ts[k] = x) := ⟨_, Lib.hid rfl⟩
          obtain ⟨v, hv2⟩ : ∃ x, Hid (ks[k] = x) := ⟨_, Lib.hid rfl⟩
          rw [hq.out] at a0 a1 a2 hcall
          rw [hu2.out] at b0 b1 b2 hu hcall
          rw [hv2.out] at e0 e1 hv hcall
          rw [hrn.out] at hcall
          have HU : Hid (PatIn wo B2 d2 u) := Lib.hid ⟨_, hu⟩
          have HV : Hid (CovIn wo B3 d4 v) := Lib.hid ⟨_, hv⟩
          have HRo : Hid (RulesIn wo (some ⟨g, off, none⟩) c2 rs) := Lib.hid (HR.out.below hb)
          have t9 := cell_later hbb t2
          have r9 := cell_later hbb r3
          have hlz : w.heap.size + 3 ≤ wo.heap.size := by omega
          have hd0 : Below wo.heap.size wo wo.drew := (Below.refl _ _).drew
          clear h1 h2 h3 hu hv a0 a2
          go_wp2_with fail
          refine anyJ_begin 23 (fun W => Below wo.heap.size wo W) (by kernel_rfl) ((Below.refl _ _).drew) (fun hHeld => ?_)
          refine take (i := 0) (d := some 106) (v := .slice (some ⟨g, off, none⟩) rn c2) (by kernel_rfl) rfl rfl rfl (fun _ _ _ h => h) hHeld (fun W hSw => by go_simp) ?_
          simp only [Act.put, List.setIfInBounds_toArray, List.set_cons_zero, List.set_cons_succ]
          refine take (i := 1) (d := some 107) (v := .pointer (some ⟨w.heap.size, 2, none⟩)) (by kernel_rfl) rfl rfl rfl (fun _ _ _ h => h) hHeld (fun W hSw => by go_simp) ?_
          simp only [Act.put, List.setIfInBounds_toArray, List.set_cons_zero, List.set_cons_succ]
          refine take (i := 2) (d := some 108) (v := .slice (some ⟨g2, off2, none⟩) n d) (by kernel_rfl) rfl rfl rfl (fun _ _ _ h => h) hHeld (fun W hSw => by have x0 := (hSw.cell (p := ⟨w.heap.size, 2, none⟩) (by show w.heap.size < _; omega)).trans t9; go_simp) ?_
          simp only [Act.put, List.setIfInBounds_toArray, List.set_cons_zero, List.set_cons_succ]
          refine take (i := 3) (d := some 109) (v := .int .i64 k) (by kernel_rfl) rfl rfl rfl (fun _ _ _ h => h) hHeld (fun W hSw => by go_simp) ?_
          simp only [Act.put, List.setIfInBounds_toArray, List.set_cons_zero, List.set_cons_succ]
          refine take (i := 4) (d := some 110) (v := .pointer (some ⟨g2, off2 + k * 3, none⟩)) (by kernel_rfl) rfl rfl rfl (fun _ _ _ h => h) hHeld (fun W hSw => by go_simp) ?_
          simp only [Act.put, List.setIfInBounds_toArray, List.set_cons_zero, List.set_cons_succ]
          refine take (i := 5) (d := some 111) (v := .agg #[.int .i64 u.op, .int .i64 u.nt, .slice B2 u.kids.length d2]) (by kernel_rfl) rfl rfl rfl (fun _ _ _ h => h) hHeld (fun W hSw => by have x0 := (hSw.cell (p := ⟨g2, off2 + k * 3, none⟩) (by show g2 < _; omega)).trans b0; have x1 := (hSw.cell (p := ⟨g2, off2 + k * 3 + 1, none⟩) (by show g2 < _; omega)).trans b1; have x2 := (hSw.cell (p := ⟨g2, off2 + k * 3 + 2, none⟩) (by show g2 < _; omega)).trans b2; go_simp) ?_
          simp only [Act.put, List.setIfInBounds_toArray, List.set_cons_zero, List.set_cons_succ]
          refine take (i := 6) (d := some 112) (v := .pointer (some ⟨w.heap.size + 1 + 1, 1, none⟩)) (by kernel_rfl) rfl rfl rfl (fun _ _ _ h => h) hHeld (fun W hSw => by go_simp) ?_
          simp only [Act.put, List.setIfInBounds_toArray, List.set_cons_zero, List.set_cons_succ]
          refine take (i := 7) (d := some 113) (v := .pointer (some ⟨w.heap.size + 1 + 1, 3, none⟩)) (by kernel_rfl) rfl rfl rfl (fun _ _ _ h => h) hHeld (fun W hSw => by go_simp) ?_
          simp only [Act.put, List.setIfInBounds_toArray, List.set_cons_zero, List.set_cons_succ]
          refine take (i := 8) (d := some 114) (v := .slice (some ⟨g1, off1, none⟩) n d0) (by kernel_rfl) rfl rfl rfl (fun _ _ _ h => h) hHeld (fun W hSw => by have x0 := (hSw.cell (p := ⟨w.heap.size + 1 + 1, 3, none⟩) (by show w.heap.size + 1 + 1 < _; omega)).trans r9; go_simp) ?_
          simp only [Act.put, List.setIfInBounds_toArray, List.set_cons_zero, List.set_cons_succ]
          refine take (i := 9) (d := some 115) (v := .int .i64 k) (by kernel_rfl) rfl rfl rfl (fun _ _ _ h => h) hHeld (fun W hSw => by go_simp) ?_
          simp only [Act.put, List.setIfInBounds_toArray, List.set_cons_zero, List.set_cons_succ]
          refine take (i := 10) (d := some 116) (v := .pointer (some ⟨g1, off1 + k * 3, none⟩)) (by kernel_rfl) rfl rfl rfl (fun _ _ _ h => h) hHeld (fun W hSw => by go_simp) ?_
          simp only [Act.put, List.setIfInBounds_toArray, List.set_cons_zero, List.set_cons_succ]
          refine take (i := 11) (d := some 117) (v := .pointer (some ⟨g1, off1 + k * 3 + 1, none⟩)) (by kernel_rfl) rfl rfl rfl (fun _ _ _ h => h) hHeld (fun W hSw => by go_simp) ?_
          simp only [Act.put, List.setIfInBounds_toArray, List.set_cons_zero, List.set_cons_succ]
          refine take (i := 12) (d := some 118) (v := .int .i64 q.nt) (by kernel_rfl) rfl rfl rfl (fun _ _ _ h => h) hHeld (fun W hSw => by have x0 := (hSw.cell (p := ⟨g1, off1 + k * 3 + 1, none⟩) (by show g1 < _; omega)).trans a1; go_simp) ?_
          simp only [Act.put, List.setIfInBounds_toArray, List.set_cons_zero, List.set_cons_succ]
          refine take (i := 13) (d := some 119) (v := .pointer (some ⟨w.heap.size + 1, 1, none⟩)) (by kernel_rfl) rfl rfl rfl (fun _ _ _ h => h) hHeld (fun W hSw => by go_simp) ?_
          simp only [Act.put, List.setIfInBounds_toArray, List.set_cons_zero, List.set_cons_succ]
          refine take (i := 14) (d := some 120) (v := .slice (some ⟨g3, off3, none⟩) n d3) (by kernel_rfl) rfl rfl rfl (fun _ _ _ h => h) hHeld (fun W hSw => by have x0 := (hSw.cell (p := ⟨w.heap.size + 1, 1, none⟩) (by show w.heap.size + 1 < _; omega)).trans c9; go_simp) ?_
          simp only [Act.put, List.setIfInBounds_toArray, List.set_cons_zero, List.set_cons_succ]
          refine take (i := 15) (d := some 121) (v := .int .i64 k) (by kernel_rfl) rfl rfl rfl (fun _ _ _ h => h) hHeld (fun W hSw => by go_simp) ?_
          simp only [Act.put, List.setIfInBounds_toArray, List.set_cons_zero, List.set_cons_succ]
          refine take (i := 16) (d := some 122) (v := .pointer (some ⟨g3, off3 + k * 2, none⟩)) (by kernel_rfl) rfl rfl rfl (fun _ _ _ h => h) hHeld (fun W hSw => by go_simp) ?_
          simp only [Act.put, List.setIfInBounds_toArray, List.set_cons_zero, List.set_cons_succ]
          refine take (i := 17) (d := some 123) (v := .agg #[.int .i64 v.rule, .slice B3 v.kids.length d4]) (by kernel_rfl) rfl rfl rfl (fun _ _ _ h => h) hHeld (fun W hSw => by have x0 := (hSw.cell (p := ⟨g3, off3 + k * 2, none⟩) (by show g3 < _; omega)).trans e0; have x1 := (hSw.cell (p := ⟨g3, off3 + k * 2 + 1, none⟩) (by show g3 < _; omega)).trans e1; go_simp) ?_
          simp only [Act.put, List.setIfInBounds_toArray, List.set_cons_zero, List.set_cons_succ]
          refine anyJ_only (i := 18) (d := some 124) (by kernel_rfl) rfl rfl rfl (fun K' hK => ?_)
          refine wp_go_call 41 _ _ rfl #[.slice (some ⟨g, off, none⟩) rn c2, .agg #[.int .i64 u.op, .int .i64 u.nt, .slice B2 u.kids.length d2], .int .i64 q.nt, .agg #[.int .i64 v.rule, .slice B3 v.kids.length d4]] rfl (fun W => by go_simp) (hcall _ (HRo.out.below hd0) (HU.out.below hd0) (HV.out.below hd0)) (fun e w3 he => ?_)
          obtain ⟨hb3, x, he, hx⟩ := he
          have hb3' : Below wo.heap.size wo w3 := hHeld.trans hb3
          have hbw3 : Below w.heap.size w w3 := hb.trans (hb3'.mono (by omega))
          have hbW3 : Below w0.heap.size w0 w3 := hbb.trans (hb3'.mono (by omega))
          clear hcall
          cases o2 with
          | none =>
            obtain rfl : e = .returned (.tuple #[.int .i64 x, .bool false]) := he
            refine ⟨_, rfl, hK.out _ _ (fun _ => hb3') (fun hHeld => ?_)⟩
            have hHeld := hHeld (by decide)
            simp only [Act.put, List.setIfInBounds_toArray, List.set_cons_zero, List.set_cons_succ]
            refine take (i := 19) (d := some 105) (v := .tuple #[.int .i64 x, .bool false]) (by kernel_rfl) rfl rfl rfl (fun _ _ _ h => h) hHeld (fun W hSw => by go_simp) ?_
            simp only [Act.put, List.setIfInBounds_toArray, List.set_cons_zero, List.set_cons_succ]
            refine take (i := 20) (d := some 125) (v := .int .i64 x) (by kernel_rfl) rfl rfl rfl (fun _ _ _ h => h) hHeld (fun W hSw => by go_simp) ?_
            simp only [Act.put, List.setIfInBounds_toArray, List.set_cons_zero, List.set_cons_succ]
            refine take (i := 21) (d := some 126) (v := .bool false) (by kernel_rfl) rfl rfl rfl (fun _ _ _ h => h) hHeld (fun W hSw => by go_simp) ?_
            simp only [Act.put, List.setIfInBounds_toArray, List.set_cons_zero, List.set_cons_succ]
            refine take (i := 22) (d := some 15) (v := .int .i64 x) (by kernel_rfl) rfl rfl rfl (fun _ _ _ h => h) hHeld (fun W hSw => by go_simp) ?_
            simp only [Act.put, List.setIfInBounds_toArray, List.set_cons_zero, List.set_cons_succ]
            refine anyJ_only (i := 23) (d := some 16) (by kernel_rfl) rfl rfl rfl (fun K' hK => ?_)
            refine wp_val (w' := w3) (v := .bool false) (by go_simp) (hK.out _ _ (fun h => absurd rfl h) (fun _ => ?_))
            simp only [Act.put, List.setIfInBounds_toArray, List.set_cons_zero, List.set_cons_succ]
            refine anyJ_done (by kernel_rfl) ?_ _
            obtain rfl : o = none := by rw [HO.out]; exact hnone.out (by rw [hnext.out]; rfl)
            go_wp2_with fail
            go_ret2
            exact ⟨hbw3, _, rfl, fun v h => by cases h⟩
          | some z =>
            obtain rfl : e = .returned (.tuple #[.int .i64 x, .bool true]) := he
            obtain rfl : x = z := hx z rfl
            obtain ⟨hx0, hx1⟩ := hin2 x rfl
            refine ⟨_, rfl, hK.out _ _ (fun _ => hb3') (fun hHeld => ?_)⟩
            have hHeld := hHeld (by decide)
            simp only [Act.put, List.setIfInBounds_toArray, List.set_cons_zero, List.set_cons_succ]
            refine take (i := 19) (d := some 105) (v := .tuple #[.int .i64 x, .bool true]) (by kernel_rfl) rfl rfl rfl (fun _ _ _ h => h) hHeld (fun W hSw => by go_simp) ?_
            simp only [Act.put, List.setIfInBounds_toArray, List.set_cons_zero, List.set_cons_succ]
            refine take (i := 20) (d := some 125) (v := .int .i64 x) (by kernel_rfl) rfl rfl rfl (fun _ _ _ h => h) hHeld (fun W hSw => by go_simp) ?_
            simp only [Act.put, List.setIfInBounds_toArray, List.set_cons_zero, List.set_cons_succ]
            refine take (i := 21) (d := some 126) (v := .bool true) (by kernel_rfl) rfl rfl rfl (fun _ _ _ h => h) hHeld (fun W hSw => by go_simp) ?_
            simp only [Act.put, List.setIfInBounds_toArray, List.set_cons_zero, List.set_cons_succ]
            refine take (i := 22) (d := some 15) (v := .int .i64 x) (by kernel_rfl) rfl rfl rfl (fun _ _ _ h => h) hHeld (fun W hSw => by go_simp) ?_
            simp only [Act.put, List.setIfInBounds_toArray, List.set_cons_zero, List.set_cons_succ]
            refine anyJ_only (i := 23) (d := some 16) (by kernel_rfl) rfl rfl rfl (fun K' hK => ?_)
            refine wp_val (w' := w3) (v := .bool true) (by go_simp) (hK.out _ _ (fun h => absurd rfl h) (fun _ => ?_))
            simp only [Act.put, List.setIfInBounds_toArray, List.set_cons_zero, List.set_cons_succ]
            refine anyJ_done (by kernel_rfl) ?_ _
            go_wp2_with fail
            go_roundw
            case rel => exact ⟨k + 1, s + x, by omega, rfl, by go_num, hbW3, Lib.hid (by rw [hnext.out]; rfl)⟩
            case measure => simp [intOf]; omega
        · have hkn : k = n := by omega
          have h1 : ks.take k = ks := List.take_of_length_le (by rw [hn.out]; omega)
          have h2 := hsum.out
          rw [h1] at h2
          obtain rfl : o = some s := by rw [HO.out]; exact h2
          go_wp2_with fail
          go_ret2
          exact ⟨hb, _, rfl, fun v h => by injection h⟩
    · have hform : (form == [102, 105, 116]) = false := by
        have h : ¬ form = [102, 105, 116] := fun h => hn2 (by rw [← hrnt.out]; exact HFR.out.1.1 (by rw [hfo.out]; exact h))
        simpa using h
      have hlast : Hid (o = if n ≠ m then none else covsCost rs ks t.kids R.pat.kids cost) := Lib.hid (by
        rw [HO1.out, hco.out]
        exact bad_if (by unfold asksBad; rw [hps.out.1, hm.out, hpop.out, hop.out, hrnt.out]; simp [hn2]) (by rw [hps.out.1, hps.out.2]))
      obtain ⟨ps, hpse⟩ : ∃ x, Hid (R.pat.kids = x) := ⟨_, Lib.hid rfl⟩
      obtain ⟨ts, htse⟩ : ∃ x, Hid (t.kids = x) := ⟨_, Lib.hid rfl⟩
      rw [hpse.out, htse.out] at hlast
      have hpl : Hid (ps.length = m) := Lib.hid (by rw [← hpse.out]; exact hm.out)
      have htl : Hid (ts.length = m) := Lib.hid (by rw [← htse.out]; exact htn.out)
      have HPS : Hid (PatsIn w0 B d0 ps) := Lib.hid (by rw [← hpse.out]; exact HPR.out.kids.below hb0)
      have HTS : Hid (PatsIn w0 A d ts) := Lib.hid (by rw [← htse.out]; exact HP.out.kids.below hb0)
      have HTO2 : Hid (∀ i (h : i < ts.length), treeOk ts[i] = true) := Lib.hid (by rw [← htse.out]; exact fun i h => kid_ok HTO.out i h)
      by_cases hnm : n = m
      case neg =>
        obtain rfl : o = none := by rw [hlast.out, if_pos hnm]
        go_wp2_with fail
        go_ret2
        exact ⟨hb0, _, rfl, fun v h => by cases h⟩
      subst hnm
      have HO : Hid (o = covsCost rs ks ts ps cost) := Lib.hid (by rw [hlast.out, if_neg (by simp)])
      clear hlast
      go_wp2_with fail
      go_loopw [13, 14] (fun sv i wr => ∃ (k : Nat) (s : Int), k ≤ n ∧ sv = .int .i64 s ∧ i = .int .i64 k ∧ Below w0.heap.size w0 wr ∧ Hid (covsCost rs (ks.take k) ts ps cost = some s)) (fun _ i _ => n - (intOf i).toNat)
      case atStart => exact ⟨0, cost, by omega, rfl, rfl, Below.refl _ _, Lib.hid (by rw [List.take_zero]; cases ts <;> cases ps <;> rfl)⟩
      case round =>
        obtain ⟨k, s, hk, rfl, rfl, hbb, hsum⟩ := hrel
        obtain ⟨wo, rfl⟩ : ∃ wo : World, wo = wr := ⟨_, rfl⟩
        have hs1 := covsCost_in hci _ _ _ _ _ hsum.out hcost.1
        have hs2 := covsN_take_le ks k
        have hs3 : 0 ≤ s ∧ s ≤ 65535 * 20000 := ⟨by omega, by omega⟩
        have hb : Below w.heap.size w wo := hb0.trans (hbb.mono (by omega))
        have hbbz := hbb.size
        clear hs1 hs2
        have c9 := cell_later hbb c0
        by_cases hlt : k < n
        · have hkc : k < ks.length := by rw [hn.out]; exact hlt
          have hkp : k < ps.length := by rw [hpl.out]; exact hlt
          have hkt : k < ts.length := by rw [htl.out]; exact hlt
          obtain ⟨ok1, h1⟩ := HPS.out.below hbb
          obtain ⟨g1, off1, B1, d1, hX1, _, hg1, ⟨a0, a1, a2⟩, _⟩ := pats_at h1 k hkp
          obtain ⟨ok2, h2⟩ := HTS.out.below hbb
          obtain ⟨g2, off2, B2, d2, hX2, _, hg2, ⟨b0, b1, b2⟩, hu⟩ := pats_at h2 k hkt
          obtain ⟨ok3, h3⟩ := HKS.out.below hb
          obtain ⟨g3, off3, B3, d4, hX3, _, hg3, ⟨e0, e1⟩, hv⟩ := covs_at h3 k hkc
          cases hX1
          cases hX2
          cases hX3
          have hcall := fun W' => ih k hkc ts[k] ps[k].nt B2 (some ⟨g, off, none⟩) B3 d2 c2 d4 W' (HTO2.out k hkt)
          have hnext := Lib.hid (covsCost_take rs ks ts ps k hkc hkt hkp _ _ hsum.out)
          have hnone := Lib.hid (fun h => covsCost_none rs ks ts ps (k + 1) cost h)
          have hN2 := covsN_mem ks k hkc
          obtain ⟨o2, ho2⟩ : ∃ x, Hid (covCost rs ks[k] ts[k] ps[k].nt = x) := ⟨_, Lib.hid rfl⟩
          have hin2 : ∀ x, o2 = some x → 0 ≤ x ∧ x ≤ 65535 * 20000 := fun x hx => by
            have := covCost_in hci ks[k] ts[k] ps[k].nt x (by rw [ho2.out, hx])
            omega
          rw [ho2.out] at hcall hnext
          obtain ⟨q, hq⟩ : ∃ x, Hid (ps[k] = x) := ⟨_, Lib.hid rfl⟩
          obtain ⟨u, hu2⟩ : ∃ x, Hid (ts[k] = x) := ⟨_, Lib.hid rfl⟩
          obtain ⟨v, hv2⟩ : ∃ x, Hid (ks[k] = x) := ⟨_, Lib.hid rfl⟩
          rw [hq.out] at a0 a1 a2 hcall
          rw [hu2.out] at b0 b1 b2 hu hcall
          rw [hv2.out] at e0 e1 hv hcall
          rw [hrn.out] at hcall
          have HU : Hid (PatIn wo B2 d2 u) := Lib.hid ⟨_, hu⟩
          have HV : Hid (CovIn wo B3 d4 v) := Lib.hid ⟨_, hv⟩
          have HRo : Hid (RulesIn wo (some ⟨g, off, none⟩) c2 rs) := Lib.hid (HR.out.below hb)
          have t9 := cell_later hbb t2
          have r9 := cell_later hbb r3
          have hlz : w.heap.size + 3 ≤ wo.heap.size := by omega
          have hd0 : Below wo.heap.size wo wo.drew := (Below.refl _ _).drew
          clear h1 h2 h3 hu hv a0 a2
          go_wp2_with fail
          refine anyJ_begin 23 (fun W => Below wo.heap.size wo W) (by kernel_rfl) ((Below.refl _ _).drew) (fun hHeld => ?_)
          refine take (i := 0) (d := some 106) (v := .slice (some ⟨g, off, none⟩) rn c2) (by kernel_rfl) rfl rfl rfl (fun _ _ _ h => h) hHeld (fun W hSw => by go_simp) ?_
          simp only [Act.put, List.setIfInBounds_toArray, List.set_cons_zero, List.set_cons_succ]
          refine take (i := 1) (d := some 107) (v := .pointer (some ⟨w.heap.size, 2, none⟩)) (by kernel_rfl) rfl rfl rfl (fun _ _ _ h => h) hHeld (fun W hSw => by go_simp) ?_
          simp only [Act.put, List.setIfInBounds_toArray, List.set_cons_zero, List.set_cons_succ]
          refine take (i := 2) (d := some 108) (v := .slice (some ⟨g2, off2, none⟩) n d) (by kernel_rfl) rfl rfl rfl (fun _ _ _ h => h) hHeld (fun W hSw => by have x0 := (hSw.cell (p := ⟨w.heap.size, 2, none⟩) (by show w.heap.size < _; omega)).trans t9; go_simp) ?_
          simp only [Act.put, List.setIfInBounds_toArray, List.set_cons_zero, List.set_cons_succ]
          refine take (i := 3) (d := some 109) (v := .int .i64 k) (by kernel_rfl) rfl rfl rfl (fun _ _ _ h => h) hHeld (fun W hSw => by go_simp) ?_
          simp only [Act.put, List.setIfInBounds_toArray, List.set_cons_zero, List.set_cons_succ]
          refine take (i := 4) (d := some 110) (v := .pointer (some ⟨g2, off2 + k * 3, none⟩)) (by kernel_rfl) rfl rfl rfl (fun _ _ _ h => h) hHeld (fun W hSw => by go_simp) ?_
          simp only [Act.put, List.setIfInBounds_toArray, List.set_cons_zero, List.set_cons_succ]
          refine take (i := 5) (d := some 111) (v := .agg #[.int .i64 u.op, .int .i64 u.nt, .slice B2 u.kids.length d2]) (by kernel_rfl) rfl rfl rfl (fun _ _ _ h => h) hHeld (fun W hSw => by have x0 := (hSw.cell (p := ⟨g2, off2 + k * 3, none⟩) (by show g2 < _; omega)).trans b0; have x1 := (hSw.cell (p := ⟨g2, off2 + k * 3 + 1, none⟩) (by show g2 < _; omega)).trans b1; have x2 := (hSw.cell (p := ⟨g2, off2 + k * 3 + 2, none⟩) (by show g2 < _; omega)).trans b2; go_simp) ?_
          simp only [Act.put, List.setIfInBounds_toArray, List.set_cons_zero, List.set_cons_succ]
          refine take (i := 6) (d := some 112) (v := .pointer (some ⟨w.heap.size + 1 + 1, 1, none⟩)) (by kernel_rfl) rfl rfl rfl (fun _ _ _ h => h) hHeld (fun W hSw => by go_simp) ?_
          simp only [Act.put, List.setIfInBounds_toArray, List.set_cons_zero, List.set_cons_succ]
          refine take (i := 7) (d := some 113) (v := .pointer (some ⟨w.heap.size + 1 + 1, 3, none⟩)) (by kernel_rfl) rfl rfl rfl (fun _ _ _ h => h) hHeld (fun W hSw => by go_simp) ?_
          simp only [Act.put, List.setIfInBounds_toArray, List.set_cons_zero, List.set_cons_succ]
          refine take (i := 8) (d := some 114) (v := .slice (some ⟨g1, off1, none⟩) n d0) (by kernel_rfl) rfl rfl rfl (fun _ _ _ h => h) hHeld (fun W hSw => by have x0 := (hSw.cell (p := ⟨w.heap.size + 1 + 1, 3, none⟩) (by show w.heap.size + 1 + 1 < _; omega)).trans r9; go_simp) ?_
          simp only [Act.put, List.setIfInBounds_toArray, List.set_cons_zero, List.set_cons_succ]
          refine take (i := 9) (d := some 115) (v := .int .i64 k) (by kernel_rfl) rfl rfl rfl (fun _ _ _ h => h) hHeld (fun W hSw => by go_simp) ?_
          simp only [Act.put, List.setIfInBounds_toArray, List.set_cons_zero, List.set_cons_succ]
          refine take (i := 10) (d := some 116) (v := .pointer (some ⟨g1, off1 + k * 3, none⟩)) (by kernel_rfl) rfl rfl rfl (fun _ _ _ h => h) hHeld (fun W hSw => by go_simp) ?_
          simp only [Act.put, List.setIfInBounds_toArray, List.set_cons_zero, List.set_cons_succ]
          refine take (i := 11) (d := some 117) (v := .pointer (some ⟨g1, off1 + k * 3 + 1, none⟩)) (by kernel_rfl) rfl rfl rfl (fun _ _ _ h => h) hHeld (fun W hSw => by go_simp) ?_
          simp only [Act.put, List.setIfInBounds_toArray, List.set_cons_zero, List.set_cons_succ]
          refine take (i := 12) (d := some 118) (v := .int .i64 q.nt) (by kernel_rfl) rfl rfl rfl (fun _ _ _ h => h) hHeld (fun W hSw => by have x0 := (hSw.cell (p := ⟨g1, off1 + k * 3 + 1, none⟩) (by show g1 < _; omega)).trans a1; go_simp) ?_
          simp only [Act.put, List.setIfInBounds_toArray, List.set_cons_zero, List.set_cons_succ]
          refine take (i := 13) (d := some 119) (v := .pointer (some ⟨w.heap.size + 1, 1, none⟩)) (by kernel_rfl) rfl rfl rfl (fun _ _ _ h => h) hHeld (fun W hSw => by go_simp) ?_
          simp only [Act.put, List.setIfInBounds_toArray, List.set_cons_zero, List.set_cons_succ]
          refine take (i := 14) (d := some 120) (v := .slice (some ⟨g3, off3, none⟩) n d3) (by kernel_rfl) rfl rfl rfl (fun _ _ _ h => h) hHeld (fun W hSw => by have x0 := (hSw.cell (p := ⟨w.heap.size + 1, 1, none⟩) (by show w.heap.size + 1 < _; omega)).trans c9; go_simp) ?_
          simp only [Act.put, List.setIfInBounds_toArray, List.set_cons_zero, List.set_cons_succ]
          refine take (i := 15) (d := some 121) (v := .int .i64 k) (by kernel_rfl) rfl rfl rfl (fun _ _ _ h => h) hHeld (fun W hSw => by go_simp) ?_
          simp only [Act.put, List.setIfInBounds_toArray, List.set_cons_zero, List.set_cons_succ]
          refine take (i := 16) (d := some 122) (v := .pointer (some ⟨g3, off3 + k * 2, none⟩)) (by kernel_rfl) rfl rfl rfl (fun _ _ _ h => h) hHeld (fun W hSw => by go_simp) ?_
          simp only [Act.put, List.setIfInBounds_toArray, List.set_cons_zero, List.set_cons_succ]
          refine take (i := 17) (d := some 123) (v := .agg #[.int .i64 v.rule, .slice B3 v.kids.length d4]) (by kernel_rfl) rfl rfl rfl (fun _ _ _ h => h) hHeld (fun W hSw => by have x0 := (hSw.cell (p := ⟨g3, off3 + k * 2, none⟩) (by show g3 < _; omega)).trans e0; have x1 := (hSw.cell (p := ⟨g3, off3 + k * 2 + 1, none⟩) (by show g3 < _; omega)).trans e1; go_simp) ?_
          simp only [Act.put, List.setIfInBounds_toArray, List.set_cons_zero, List.set_cons_succ]
          refine anyJ_only (i := 18) (d := some 124) (by kernel_rfl) rfl rfl rfl (fun K' hK => ?_)
          refine wp_go_call 41 _ _ rfl #[.slice (some ⟨g, off, none⟩) rn c2, .agg #[.int .i64 u.op, .int .i64 u.nt, .slice B2 u.kids.length d2], .int .i64 q.nt, .agg #[.int .i64 v.rule, .slice B3 v.kids.length d4]] rfl (fun W => by go_simp) (hcall _ (HRo.out.below hd0) (HU.out.below hd0) (HV.out.below hd0)) (fun e w3 he => ?_)
          obtain ⟨hb3, x, he, hx⟩ := he
          have hb3' : Below wo.heap.size wo w3 := hHeld.trans hb3
          have hbw3 : Below w.heap.size w w3 := hb.trans (hb3'.mono (by omega))
          have hbW3 : Below w0.heap.size w0 w3 := hbb.trans (hb3'.mono (by omega))
          clear hcall
          cases o2 with
          | none =>
            obtain rfl : e = .returned (.tuple #[.int .i64 x, .bool false]) := he
            refine ⟨_, rfl, hK.out _ _ (fun _ => hb3') (fun hHeld => ?_)⟩
            have hHeld := hHeld (by decide)
            simp only [Act.put, List.setIfInBounds_toArray, List.set_cons_zero, List.set_cons_succ]
            refine take (i := 19) (d := some 105) (v := .tuple #[.int .i64 x, .bool false]) (by kernel_rfl) rfl rfl rfl (fun _ _ _ h => h) hHeld (fun W hSw => by go_simp) ?_
            simp only [Act.put, List.setIfInBounds_toArray, List.set_cons_zero, List.set_cons_succ]
            refine take (i := 20) (d := some 125) (v := .int .i64 x) (by kernel_rfl) rfl rfl rfl (fun _ _ _ h => h) hHeld (fun W hSw => by go_simp) ?_
            simp only [Act.put, List.setIfInBounds_toArray, List.set_cons_zero, List.set_cons_succ]
            refine take (i := 21) (d := some 126) (v := .bool false) (by kernel_rfl) rfl rfl rfl (fun _ _ _ h => h) hHeld (fun W hSw => by go_simp) ?_
            simp only [Act.put, List.setIfInBounds_toArray, List.set_cons_zero, List.set_cons_succ]
            refine take (i := 22) (d := some 15) (v := .int .i64 x) (by kernel_rfl) rfl rfl rfl (fun _ _ _ h => h) hHeld (fun W hSw => by go_simp) ?_
            simp only [Act.put, List.setIfInBounds_toArray, List.set_cons_zero, List.set_cons_succ]
            refine anyJ_only (i := 23) (d := some 16) (by kernel_rfl) rfl rfl rfl (fun K' hK => ?_)
            refine wp_val (w' := w3) (v := .bool false) (by go_simp) (hK.out _ _ (fun h => absurd rfl h) (fun _ => ?_))
            simp only [Act.put, List.setIfInBounds_toArray, List.set_cons_zero, List.set_cons_succ]
            refine anyJ_done (by kernel_rfl) ?_ _
            obtain rfl : o = none := by rw [HO.out]; exact hnone.out (by rw [hnext.out]; rfl)
            go_wp2_with fail
            go_ret2
            exact ⟨hbw3, _, rfl, fun v h => by cases h⟩
          | some z =>
            obtain rfl : e = .returned (.tuple #[.int .i64 x, .bool true]) := he
            obtain rfl : x = z := hx z rfl
            obtain ⟨hx0, hx1⟩ := hin2 x rfl
            refine ⟨_, rfl, hK.out _ _ (fun _ => hb3') (fun hHeld => ?_)⟩
            have hHeld := hHeld (by decide)
            simp only [Act.put, List.setIfInBounds_toArray, List.set_cons_zero, List.set_cons_succ]
            refine take (i := 19) (d := some 105) (v := .tuple #[.int .i64 x, .bool true]) (by kernel_rfl) rfl rfl rfl (fun _ _ _ h => h) hHeld (fun W hSw => by go_simp) ?_
            simp only [Act.put, List.setIfInBounds_toArray, List.set_cons_zero, List.set_cons_succ]
            refine take (i := 20) (d := some 125) (v := .int .i64 x) (by kernel_rfl) rfl rfl rfl (fun _ _ _ h => h) hHeld (fun W hSw => by go_simp) ?_
            simp only [Act.put, List.setIfInBounds_toArray, List.set_cons_zero, List.set_cons_succ]
            refine take (i := 21) (d := some 126) (v := .bool true) (by kernel_rfl) rfl rfl rfl (fun _ _ _ h => h) hHeld (fun W hSw => by go_simp) ?_
            simp only [Act.put, List.setIfInBounds_toArray, List.set_cons_zero, List.set_cons_succ]
            refine take (i := 22) (d := some 15) (v := .int .i64 x) (by kernel_rfl) rfl rfl rfl (fun _ _ _ h => h) hHeld (fun W hSw => by go_simp) ?_
            simp only [Act.put, List.setIfInBounds_toArray, List.set_cons_zero, List.set_cons_succ]
            refine anyJ_only (i := 23) (d := some 16) (by kernel_rfl) rfl rfl rfl (fun K' hK => ?_)
            refine wp_val (w' := w3) (v := .bool true) (by go_simp) (hK.out _ _ (fun h => absurd rfl h) (fun _ => ?_))
            simp only [Act.put, List.setIfInBounds_toArray, List.set_cons_zero, List.set_cons_succ]
            refine anyJ_done (by kernel_rfl) ?_ _
            go_wp2_with fail
            go_roundw
            case rel => exact ⟨k + 1, s + x, by omega, rfl, by go_num, hbW3, Lib.hid (by rw [hnext.out]; rfl)⟩
            case measure => simp [intOf]; omega
        · have hkn : k = n := by omega
          have h1 : ks.take k = ks := List.take_of_length_le (by rw [hn.out]; omega)
          have h2 := hsum.out
          rw [h1] at h2
          obtain rfl : o = some s := by rw [HO.out]; exact h2
          go_wp2_with fail
          go_ret2
          exact ⟨hb, _, rfl, fun v h => by injection h⟩

end

end Go.Proofs.YtaippkdlibampaaDoor

/- cover.Check walked; how large the cheapest covers are; both walks of what a cover costs, closed. other: a copy of a cover with another rule somewhere. -/
import Derived.Test.YtaippkdlibampaaDoorKI
import Derived.Test.YtaippkdlibampaaDoorKE
namespace Go.Proofs.YtaippkdlibampaaDoor

/- cover.Check walked; how large the cheapest covers are; both walks of what a cover costs, closed. -/
section
open Go.RowKit

theorem asks_any {rs : List Rule} (hrs : RulesFit rs) (hci : CostsIn rs) : ∀ c : Cov, covN c ≤ 20000 → AsksOk rs c
  | .mk r kids, h => asks_of rs hrs hci _ h fun i hi => asks_any hrs hci kids[i] (by
      rw [covN_eq] at h
      have := covsN_mem kids i hi
      simp only [Cov.kids] at h
      omega)
termination_by c => SizeOf.sizeOf c
decreasing_by
  have := List.sizeOf_lt_of_mem (List.getElem_mem hi)
  simp only [Cov.kids] at this
  simp only [Cov.mk.sizeOf_spec]
  omega

theorem costC_any {rs : List Rule} (hrs : RulesFit rs) (hci : CostsIn rs) : ∀ c : Cov, covN c ≤ 20000 → CostOk rs c
  | .mk r kids, h => costC_of rs hrs hci _ h fun i hi => costC_any hrs hci kids[i] (by
      rw [covN_eq] at h
      have := covsN_mem kids i hi
      simp only [Cov.kids] at h
      omega)
termination_by c => SizeOf.sizeOf c
decreasing_by
  have := List.sizeOf_lt_of_mem (List.getElem_mem hi)
  simp only [Cov.kids] at this
  simp only [Cov.mk.sizeOf_spec]
  omega

def CheckRet (o : Option Int) (w : World) (e : Ending) (w' : World) : Prop := Below w.heap.size w w' ∧ match o with
  | none => e = .returned (.tuple #[.int .i64 0, .int .i64 8])
  | some n => e = .returned (.tuple #[.int .i64 n, .int .i64 0])

set_option maxRecDepth 100000 in
set_option maxHeartbeats 4000000 in
theorem checkC_any (rs : List Rule) (hwf : RulesWf rs) (t : Pat) (nt : Int) (c : Cov) (hN : covN c ≤ 20000) (hm : coverMay rs t nt = true) (A A2 A3 : Option Addr) (d c2 d3 : Nat) (w : World) (htab : Tab w) (hr : RulesIn w A2 c2 rs) (hp : PatIn w A d t) (hc : CovIn w A3 d3 c) :
    Calls Tryd.prog 40 #[.slice A2 rs.length c2, .agg #[.int .i64 t.op, .int .i64 t.nt, .slice A t.kids.length d], .int .i64 nt, .agg #[.int .i64 c.rule, .slice A3 c.kids.length d3]] w (CheckRet (covCost rs c t nt) w) := by
  have hmay := fun W => may13_any rs hwf t nt A A2 d c2 W
  rw [hm] at hmay
  have hsp := coverMay_spec hm
  have hci : CostsIn rs := fun r hr => ⟨(hsp.1.1.1.2 r hr).1.2.2.1, (hsp.1.1.1.2 r hr).1.2.2.2⟩
  have hask := fun W => asks_any hsp.1.1 hci c hN t nt A A2 A3 d c2 d3 W hsp.2.1.1
  obtain ⟨o, ho⟩ : ∃ x, Hid (covCost rs c t nt = x) := ⟨_, Lib.hid rfl⟩
  rw [ho.out] at hask ⊢
  obtain ⟨rn, hrn⟩ : ∃ n, Hid (rs.length = n) := ⟨_, Lib.hid rfl⟩
  obtain ⟨tn, htn⟩ : ∃ n, Hid (t.kids.length = n) := ⟨_, Lib.hid rfl⟩
  obtain ⟨op, hop⟩ : ∃ x, Hid (t.op = x) := ⟨_, Lib.hid rfl⟩
  obtain ⟨tnt, htnt⟩ : ∃ x, Hid (t.nt = x) := ⟨_, Lib.hid rfl⟩
  obtain ⟨cr, hcr⟩ : ∃ x, Hid (c.rule = x) := ⟨_, Lib.hid rfl⟩
  obtain ⟨n, hn⟩ : ∃ x, Hid (c.kids.length = x) := ⟨_, Lib.hid rfl⟩
  rw [hrn.out, htn.out, hop.out, htnt.out] at hmay hask ⊢
  rw [hcr.out, hn.out] at hask ⊢
  have HR := Lib.hid hr
  have HP := Lib.hid hp
  have HC := Lib.hid hc
  clear hr hp hc hsp hci
  go_enter Tryd.func40, Tryd.ntmps40
  go_wp2_with fail
  have hb0 : Below w.heap.size w ((w.alloc (.cells #[.int .i64 op, .int .i64 tnt, .slice A tn d] 64)).alloc (.cells #[.int .i64 cr, .slice A3 n d3] 60)) := below_box2 _ _ _
  refine (hmay _ (tab_alloc (tab_alloc htab _ (below_alloc _ _)) _ (below_alloc _ _)) (HR.out.below hb0) (HP.out.below hb0)).mono ?_
  rintro e w1 ⟨rfl, hb1⟩
  have hb01 : Below w.heap.size w w1 := hb0.trans (hb1.mono (by simp; omega))
  have k1 : BlkIs w1 w.heap.size 64 #[.int .i64 op, .int .i64 tnt, .slice A tn d] := ((BlkIs.fresh _ _ _).alloc _).below hb1 (by simp; omega)
  have z1 : BlkIs w1 (w.heap.size + 1) 60 #[.int .i64 cr, .slice A3 n d3] := (BlkIs.fresh1 _ _ _ _).below hb1 (by simp)
  have x0 : w1.cell? ⟨w.heap.size, 0, none⟩ = some (.int .i64 op) := k1.cell 0
  have x1 : w1.cell? ⟨w.heap.size, 1, none⟩ = some (.int .i64 tnt) := k1.cell 1
  have x2 : w1.cell? ⟨w.heap.size, 2, none⟩ = some (.slice A tn d) := k1.cell 2
  have y0 : w1.cell? ⟨w.heap.size + 1, 0, none⟩ = some (.int .i64 cr) := z1.cell 0
  have y1 : w1.cell? ⟨w.heap.size + 1, 1, none⟩ = some (.slice A3 n d3) := z1.cell 1
  clear hmay
  go_wp2_with fail
  refine (hask _ (HR.out.below hb01) (HP.out.below hb01) (HC.out.below hb01)).mono ?_
  rintro e w2 ⟨hb2, he⟩
  have hb02 : Below w.heap.size w w2 := hb01.trans (hb2.mono hb01.size)
  clear hask
  cases o with
  | none =>
    obtain rfl : e = _ := he
    go_wp2_with fail
    go_ret2
    exact ⟨hb02, rfl⟩
  | some x =>
    obtain rfl : e = _ := he
    go_wp2_with fail
    go_ret2
    exact ⟨hb02, rfl⟩

def rankN : Nat → Nat
  | 2 => 0
  | 1 => 1
  | 0 => 2
  | _ => 3
theorem rankN_le (n : Nat) : rankN n ≤ 3 := by unfold rankN; split <;> omega

theorem covsN_le4 : ∀ (cs : List Cov) (ts : List Pat), cs.length = ts.length → (∀ i (h : i < cs.length) (h' : i < ts.length), covN cs[i] ≤ 4 * patN ts[i]) → covsN cs ≤ 4 * patsN ts
  | [], _, _, _ => by unfold covsN; omega
  | c :: cs, [], h, _ => by simp at h
  | c :: cs, t :: ts, h, hk => by
    unfold covsN patsN
    have h0 := hk 0 (by simp) (by simp)
    have := covsN_le4 cs ts (by simpa using h) (fun i h1 h2 => by have := hk (i + 1) (by simpa using h1) (by simpa using h2); simpa using this)
    simp only [List.getElem_cons_zero] at h0
    omega

/-- the cheapest covers are small -/
theorem isCov_size {rs : List Rule} (hrs : RulesFit rs) {t : Pat} {nt : Nat} {c : Cov} (h : IsCov rs t nt c) : treeOk t = true → nt < 4 → 0 ≤ (labB rs t).cost nt → covN c ≤ rankN nt + 1 + 4 * patsN t.kids := by
  induction h with
  | chain t nt a ha m c hr h0 hm hm4 hc ih =>
    intro ht hnt hcost
    rcases labB_fix hrs.1 t ht nt hnt with ⟨h1, _, _⟩ | ⟨i, hi, h1, h2, h3, _⟩
    · omega
    · obtain rfl : i = a := by omega
      have hri := hrs.1.2 _ (List.getElem_mem hi)
      unfold ruleCost at h3
      rw [if_pos h0] at h3
      split at h3
      · cases h3
      · rename_i hne
        have hmm : rs[i].pat.nt.toNat = m := by omega
        rw [hmm] at hne
        have hlow := labB_low hrs.1 t ht m
        have hsub := ih ht hm4 (by omega)
        have hrank : rankN nt = rankN m + 1 := by
          rcases hri.2.1 h0 with h | h | h
          · obtain rfl : nt = 1 := by omega
            obtain rfl : m = 2 := by omega
            rfl
          · obtain rfl : nt = 0 := by omega
            obtain rfl : m = 1 := by omega
            rfl
          · obtain rfl : nt = 3 := by omega
            obtain rfl : m = 0 := by omega
            rfl
        rw [covN_eq]
        show 1 + (covN c + 0) ≤ _
        omega
  | op t nt a ha cs hr h0 hl ht m hm hc ih =>
    intro hto hnt hcost
    rcases labB_fix hrs.1 t hto nt hnt with ⟨h1, _, _⟩ | ⟨i, hi, h1, h2, h3, _⟩
    · omega
    · obtain rfl : i = a := by omega
      have hri := hrs.1.2 _ (List.getElem_mem hi)
      unfold ruleCost at h3
      rw [if_neg h0] at h3
      split at h3
      · cases h3
      · cases hs : kidsSum rs[i].pat.kids 0 (nodeKey t (labBs rs t.kids)).kc with
        | none => rw [hs] at h3; cases h3
        | some s =>
          have hk := kidsSum_some _ _ _ _ hs
          have h2' := hri.1.2.1.1
          rw [covN_eq]
          show 1 + covsN cs ≤ _
          have := covsN_le4 cs t.kids ht (fun j hj1 hj3 => by
            have hj' : j < rs[i].pat.kids.length := by omega
            have hne := hk j hj'
            rw [Nat.zero_add, kc_at t j _ hj3 (by omega)] at hne
            have hmj := hm j hj'
            rw [show rs[i].pat.kids[j].nt.toNat = m j by omega] at hne
            have hlow := labB_low hrs.1 _ (kid_ok hto j hj3) (m j)
            have := ih j hj1 hj3 (kid_ok hto j hj3) hmj.2 (by omega)
            have hr := rankN_le (m j)
            have := patN_eq t.kids[j]
            omega)
          omega

end

/- other: a copy of a cover with another rule somewhere. -/
section
open Go.RowKit

/-- a number within -/
theorem within0_any (i : Int) (n : Nat) (hn : 0 < n) (hm : n ≤ 1000000000) (w : World) : Calls Tryd.prog 75 #[.int .i64 i, .int .i64 n] w fun e w' => (∃ z : Nat, z < n ∧ e = .returned (.int .i64 z)) ∧ w = w' := by
  have hu0 : 0 ≤ IntKind.u64.wrap i := by
    have h : IntKind.u64.wrap i = i % 18446744073709551616 := by simp [IntKind.wrap, IntKind.bits, IntKind.signed]
    omega
  have hun : IntKind.u64.wrap (n : Int) = n := by simp [IntKind.wrap, IntKind.bits]; omega
  go_enter Tryd.func75, Tryd.ntmps75
  go_wp2_with fail
  go_ret
  have h2 := Int.emod_nonneg (IntKind.u64.wrap i) (show (n : Int) ≠ 0 by omega)
  have h3 := Int.emod_lt_of_pos (IntKind.u64.wrap i) (show (0 : Int) < n by omega)
  refine ⟨⟨(IntKind.u64.wrap i % n).toNat, by omega, ?_⟩, rfl⟩
  show Ending.returned (.int .i64 (wrap64 (IntKind.u64.wrap i % n))) = _
  rw [IntWalk.wrap64_in _ (by omega), Int.toNat_of_nonneg (by omega)]

/-- a copy, its kids a row of its own -/
theorem copyCov_own (p : Cov) (h : covN p ≤ 1048576) (A : Option Addr) (c : Nat) (w : World) (hp : CovIn w A c p) : Calls Tryd.prog 74 #[.agg #[.int .i64 p.rule, .slice A p.kids.length c]] w fun e w' =>
    ∃ A3 c3, e = .returned (.agg #[.int .i64 p.rule, .slice A3 p.kids.length c3]) ∧ Own w' w.heap.size (fun g => w.heap.size ≤ g) 60 2 (.slice A3 p.kids.length c3) (p.kids.map encC) ∧ Below w.heap.size w w' := by
  have hk := covN_kids p
  have hcall := fun W => copyCovs_of p.kids (by omega) (fun i hi => copyCov_any _ (by rw [covN_eq] at h; have := covsN_mem p.kids i hi; omega)) A c W
  have HP := Lib.hid hp.kids
  clear hp
  go_enter Tryd.func74, Tryd.ntmps74
  go_wp2_with fail
  refine (hcall _ ?_).mono ?_
  · refine CovsIn.below ?_ (below_alloc _ _)
    refine CovsIn.below ?_ (below_alloc _ _)
    exact CovsIn.below HP.out (below_alloc _ _)
  rintro e w3 ⟨v, rfl, hown, hb3⟩
  obtain ⟨A3, c3, rfl, _⟩ := hown.rep.len
  rw [List.length_map]
  have HO := Lib.hid hown
  rw [List.length_map] at HO
  obtain ⟨hc, hf⟩ := bcell hb3
  have hz3 : w.heap.size + 2 < w3.heap.size := by have := hb3.size; simp at this; omega
  have hz31 : w.heap.size + 1 < w3.heap.size := by omega
  clear hown hcall
  go_wp2_with fail
  refine bodyPost_ret (v := .agg #[.int .i64 p.rule, .slice A3 p.kids.length c3]) (by simp [results, Tryd.results74, go_sem, hc]) rfl ?_
  refine ⟨A3, c3, rfl, ?_, ?_⟩
  · have ho := (HO.out.imp (ok' := fun g => w.heap.size + 3 ≤ g) (fun g hg _ => by simp at hg; omega)).base (B' := w.heap.size + 3) (by simp)
    refine ((?_ : Own _ (w.heap.size + 3) (fun g => w.heap.size + 3 ≤ g) _ _ _ _).imp (fun g hg _ => by omega)).base (by omega)
    iterate 3 refine Own.far ?_ (fun g hg => hg) (fun g hg _ => heap_setCell_other _ _ _ _ (by simp; omega))
    exact ho
  · iterate 3 refine Below.setCell ?_ (by simp; try omega) _
    exact (below_box3 _ _ _ _).trans (hb3.mono (by simp; omega))

theorem covsN_set : ∀ (cs : List Cov) (k : Nat) (h : k < cs.length) (x : Cov), covN x = covN cs[k] → covsN (cs.set k x) = covsN cs
  | c :: cs, 0, _, x, h => by simp only [List.set_cons_zero, covsN]; simp at h; omega
  | c :: cs, k + 1, hk, x, h => by
    simp only [List.set_cons_succ, covsN]
    rw [covsN_set cs k (by simpa using hk) x (by simpa using h)]

def OtherRet (p : Cov) (w : World) (e : Ending) (w' : World) : Prop := ∃ X : Cov, covN X = covN p ∧ CovRet w X e w'
def OtherOk (p : Cov) : Prop := ∀ (n rules : Nat) (A : Option Addr) (c : Nat) (w : World), n ≤ 1000 → rules ≤ 1000000 → CovIn w A c p →
  Calls Tryd.prog 39 #[.agg #[.int .i64 p.rule, .slice A p.kids.length c], .int .i64 rules, .int .i64 n] w (OtherRet p w)

set_option maxRecDepth 100000 in
set_option maxHeartbeats 8000000 in
theorem other_of (p : Cov) (h : covN p ≤ 1048576) (ih : ∀ i (h : i < p.kids.length), OtherOk p.kids[i]) : OtherOk p := by
  intro n rules A c w hn hru hp
  have hcopy := fun W => copyCov_own p h A c W
  have hkl := covN_kids p
  obtain ⟨ks, hks⟩ : ∃ x, Hid (p.kids = x) := ⟨_, Lib.hid rfl⟩
  obtain ⟨r, hr⟩ : ∃ x, Hid (p.rule = x) := ⟨_, Lib.hid rfl⟩
  obtain ⟨kn, hkn⟩ : ∃ x, Hid (ks.length = x) := ⟨_, Lib.hid rfl⟩
  have hpe : Hid (∀ r' ks', covsN ks' = covsN ks → covN (.mk r' ks') = covN p) := Lib.hid (fun r' ks' h => by rw [covN_eq, covN_eq p, hks.out]; show 1 + covsN ks' = _; rw [h])
  have IH : Hid (∀ i (h : i < ks.length), OtherOk ks[i]) := Lib.hid (by rw [← hks.out]; exact ih)
  rw [hks.out, hr.out, hkn.out] at hcopy
  rw [hks.out, hkn.out] at hkl
  have HP := Lib.hid hp
  rw [hks.out, hkn.out, hr.out]
  clear hp ih
  go_enter Tryd.func39, Tryd.ntmps39
  go_wp2_with fail
  refine (hcopy _ (HP.out.below (below_box2 _ _ _))).mono ?_
  rintro e w3 ⟨A3, c3, rfl, hown, hb3⟩
  have hb03 : Below w.heap.size w w3 := (below_box2 _ _ _).trans (hb3.mono (by simp; omega))
  have z3 : BlkIs w3 (w.heap.size + 1) 60 #[.int .i64 0, .slice none 0 0] := (BlkIs.fresh1 _ _ _ _).below hb3 (by simp)
  have hz3 : w.heap.size + 2 ≤ w3.heap.size := by have := hb3.size; simp at this; omega
  have HO : Hid (Own w3 (w.heap.size + 2) (fun g => w.heap.size + 2 ≤ g) 60 2 (.slice A3 kn c3) (ks.map encC)) := Lib.hid ((hown.imp (fun g hg _ => by simpa using hg)).base (by simp))
  clear hown hcopy hb3
  go_upto_region 2 with fail
  obtain ⟨w4, hw4⟩ : ∃ w4, w4 = w3.alloc (.cells #[.int .i64 r, .slice A3 kn c3] 60) := ⟨_, rfl⟩
  obtain ⟨gx, hgx⟩ : ∃ g, Hid (w3.heap.size = g) := ⟨_, Lib.hid rfl⟩
  have x4 : BlkIs w4 gx 60 #[.int .i64 r, .slice A3 kn c3] := by rw [hw4]; exact BlkIs.fresh_at hgx.out.symm
  have z4 : BlkIs w4 (w.heap.size + 1) 60 #[.int .i64 0, .slice none 0 0] := by rw [hw4]; exact z3.alloc _
  have HO4 : Hid (Own w4 (w.heap.size + 2) (fun g => w.heap.size + 2 ≤ g) 60 2 (.slice A3 kn c3) (ks.map encC)) := Lib.hid (by rw [hw4]; exact HO.out.alloc _)
  have HL : Hid (Rep w4 (fun g => w.heap.size + 2 ≤ g ∧ g < gx) (.lst 2 (ks.map encC)) [.slice A3 kn c3]) := Lib.hid (by
    rw [hw4]
    exact (HO.out.rep.lt.imp (fun g hg _ => by rw [← hgx.out]; omega)).alloc _)
  have hb4 : Below w.heap.size w w4 := by rw [hw4]; exact hb03.alloc (by omega) _
  have hz4 : w4.heap.size = gx + 1 := by rw [hw4, ← hgx.out]; simp
  have hgo : ∀ g : Nat, A3 = some ⟨g, 0, none⟩ → 0 < kn → g < gx := fun g h hk => by
    obtain ⟨g', cur, h', _, hblk⟩ := Own.blk HO.out (by rw [List.length_map, hkn.out]; exact hk)
    rw [h'] at h
    have hlt := hblk.lt
    rw [hgx.out] at hlt
    injection h with h
    injection h with h
    omega
  rw [hgx.out]
  rw [hgx.out] at hz3
  rw [← hw4]
  clear hw4 z3 HO hb03
  have y0 : w4.cell? ⟨gx, 0, none⟩ = some (.int .i64 r) := x4.cell 0
  have y1 : w4.cell? ⟨gx, 1, none⟩ = some (.slice A3 kn c3) := x4.cell 1
  have yf : ∀ i, w4.frozen? ⟨gx, i, none⟩ = false := fun i => x4.frozen i
  have lz : w.heap.size + 1 < w4.heap.size := z4.lt
  have g0 : w4.cell? ⟨w.heap.size + 1, 0, none⟩ = some (.int .i64 0) := z4.cell 0
  have g1 : w4.cell? ⟨w.heap.size + 1, 1, none⟩ = some (.slice none 0 0) := z4.cell 1
  have g3 : ∀ i, w4.frozen? ⟨w.heap.size + 1, i, none⟩ = false := fun i => z4.frozen i
  have hgxn : gx ≠ w.heap.size + 1 := by omega
  rcases (by omega : (0 < kn ∧ (0 : Int) < (n : Int) % 3) ∨ (¬ 0 < kn) ∨ (0 < kn ∧ ¬ (0 : Int) < (n : Int) % 3)) with ⟨hk0, hm⟩ | hk0 | ⟨hk0, hm⟩
  · obtain ⟨g, cur, rfl, hg2, hgb⟩ := Own.blk HO4.out (by rw [List.length_map, hkn.out]; exact hk0)
    have hgl := hgo g rfl hk0
    go_upto_region 3 with fail
    go_wp2_with fail
    refine (within0_any n kn hk0 (by omega) _).mono ?_
    rintro e w' ⟨⟨k, hkk, rfl⟩, rfl⟩
    go_upto_region 4 with fail
    have hkl2 : k < ks.length := by rw [hkn.out]; exact hkk
    have hrep := HO4.out.rep
    rw [← hkn.out] at hrep
    obtain ⟨g', off', B1, d1, hX, _, _, ⟨a0, a1⟩, hrk⟩ := covs_at hrep k hkl2
    cases hX
    simp only [Nat.zero_add] at a0 a1
    have hcall := fun W => IH.out k hkl2 (n / 2) rules B1 d1 W (by omega) hru
    obtain ⟨v, hv⟩ : ∃ x, Hid (ks[k] = x) := ⟨_, Lib.hid rfl⟩
    rw [hv.out] at a0 a1 hrk hcall
    have HV : Hid (CovIn w4 B1 d1 v) := Lib.hid ⟨_, hrk⟩
    have hd0 : Below w4.heap.size w4 w4.drew := (Below.refl _ _).drew
    clear hrep hrk
    refine anyJ_begin 13 (fun W => Below w4.heap.size w4 W) (by kernel_rfl) ((Below.refl _ _).drew) (fun hHeld => ?_)
    refine take (i := 0) (d := some 25) (v := .pointer (some ⟨gx, 1, none⟩)) (by kernel_rfl) rfl rfl rfl (fun _ _ _ h => h) hHeld (fun W hSw => by go_simp) ?_
    simp only [Act.put, List.setIfInBounds_toArray, List.set_cons_zero, List.set_cons_succ]
    refine take (i := 1) (d := some 26) (v := .slice (some ⟨g, 0, none⟩) kn c3) (by kernel_rfl) rfl rfl rfl (fun _ _ _ h => h) hHeld (fun W hSw => by have x0 := (hSw.cell (p := ⟨gx, 1, none⟩) (by show gx < _; omega)).trans y1; go_simp) ?_
    simp only [Act.put, List.setIfInBounds_toArray, List.set_cons_zero, List.set_cons_succ]
    refine take (i := 2) (d := some 27) (v := .int .i64 k) (by kernel_rfl) rfl rfl rfl (fun _ _ _ h => h) hHeld (fun W hSw => by go_simp) ?_
    simp only [Act.put, List.setIfInBounds_toArray, List.set_cons_zero, List.set_cons_succ]
    refine take (i := 3) (d := some 28) (v := .pointer (some ⟨gx, 1, none⟩)) (by kernel_rfl) rfl rfl rfl (fun _ _ _ h => h) hHeld (fun W hSw => by go_simp) ?_
    simp only [Act.put, List.setIfInBounds_toArray, List.set_cons_zero, List.set_cons_succ]
    refine take (i := 4) (d := some 29) (v := .slice (some ⟨g, 0, none⟩) kn c3) (by kernel_rfl) rfl rfl rfl (fun _ _ _ h => h) hHeld (fun W hSw => by have x0 := (hSw.cell (p := ⟨gx, 1, none⟩) (by show gx < _; omega)).trans y1; go_simp) ?_
    simp only [Act.put, List.setIfInBounds_toArray, List.set_cons_zero, List.set_cons_succ]
    refine take (i := 5) (d := some 30) (v := .int .i64 k) (by kernel_rfl) rfl rfl rfl (fun _ _ _ h => h) hHeld (fun W hSw => by go_simp) ?_
    simp only [Act.put, List.setIfInBounds_toArray, List.set_cons_zero, List.set_cons_succ]
    refine take (i := 6) (d := some 31) (v := .pointer (some ⟨g, k * 2, none⟩)) (by kernel_rfl) rfl rfl rfl (fun _ _ _ h => h) hHeld (fun W hSw => by go_simp) ?_
    simp only [Act.put, List.setIfInBounds_toArray, List.set_cons_zero, List.set_cons_succ]
    refine take (i := 7) (d := some 32) (v := .agg #[.int .i64 v.rule, .slice B1 v.kids.length d1]) (by kernel_rfl) rfl rfl rfl (fun _ _ _ h => h) hHeld (fun W hSw => by have x0 := (hSw.cell (p := ⟨g, k * 2, none⟩) (by show g < _; omega)).trans a0; have x1 := (hSw.cell (p := ⟨g, k * 2 + 1, none⟩) (by show g < _; omega)).trans a1; go_simp) ?_
    simp only [Act.put, List.setIfInBounds_toArray, List.set_cons_zero, List.set_cons_succ]
    refine take (i := 8) (d := some 33) (v := .int .i64 rules) (by kernel_rfl) rfl rfl rfl (fun _ _ _ h => h) hHeld (fun W hSw => by go_simp) ?_
    simp only [Act.put, List.setIfInBounds_toArray, List.set_cons_zero, List.set_cons_succ]
    refine take (i := 9) (d := some 34) (v := .int .i64 n) (by kernel_rfl) rfl rfl rfl (fun _ _ _ h => h) hHeld (fun W hSw => by go_simp) ?_
    simp only [Act.put, List.setIfInBounds_toArray, List.set_cons_zero, List.set_cons_succ]
    refine take (i := 10) (d := some 35) (v := .int .i64 ((n / 2 : Nat) : Int)) (by kernel_rfl) rfl rfl rfl (fun _ _ _ h => h) hHeld (fun W hSw => by go_simp; exact IntWalk.i64_in _ (by omega)) ?_
    simp only [Act.put, List.setIfInBounds_toArray, List.set_cons_zero, List.set_cons_succ]
    refine anyJ_only (i := 11) (d := some 36) (by kernel_rfl) rfl rfl rfl (fun K' hK => ?_)
    refine wp_go_call 39 _ _ rfl #[.agg #[.int .i64 v.rule, .slice B1 v.kids.length d1], .int .i64 rules, .int .i64 ((n / 2 : Nat) : Int)] rfl (fun W => by go_simp) (hcall _ (HV.out.below hd0)) (fun e w5 he => ?_)
    obtain ⟨X, hXN, A5, d5, rfl, hrep5, hb5⟩ := he
    have hb5' : Below w4.heap.size w4 w5 := hHeld.trans hb5
    refine ⟨_, rfl, hK.out _ _ (fun _ => hb5') (fun hHeld => ?_)⟩
    have hHeld := hHeld (by decide)
    simp only [Act.put, List.setIfInBounds_toArray, List.set_cons_zero, List.set_cons_succ]
    have HO5 := HO4.out.below hb5'
    have hset1 := Own.set_at HO5 k (by rw [List.length_map]; exact hkl2) (encC (.mk X.rule v.kids)) 0 (by omega) (.int .i64 X.rule) (fun a ha => by
      rw [List.getElem_map, hv.out] at ha
      obtain ⟨A', d', rfl, _, hr'⟩ := rep_cov_inv ha
      exact rep_cov_mk (c := .mk X.rule v.kids) hr')
    have hset2 := Own.set_at hset1 k (by rw [List.length_set, List.length_map]; exact hkl2) (encC X) 1 (by omega) (.slice A5 X.kids.length d5) (fun a ha => by
      rw [List.getElem_set_self] at ha
      obtain ⟨A', d', rfl, _, hr'⟩ := rep_cov_inv ha
      refine rep_cov_mk (c := X) ?_
      obtain ⟨A', d', he, _, hr5⟩ := rep_cov_inv hrep5
      injection he with _ he
      injection he with he _
      rw [← he] at hr5
      refine Rep.setCell (hr5.imp (fun g' hg' _ => ⟨?_, ?_⟩)) (fun g' hg' => ?_)
      · have : w4.heap.size ≤ g' := hg'
        omega
      · have : w4.heap.size ≤ g' := hg'
        intro e
        have e : g' = g := by injection e
        omega
      · intro e
        have e2 : g' = g := e
        exact hg'.2 (by rw [e2]; rfl))
    rw [Nat.add_zero, List.set_set, show ((ks.map encC).set k (encC X)) = (ks.set k X).map encC from (List.map_set ..).symm] at hset2
    have c0 := cell_later hb5' a0
    have c1 := cell_later hb5' a1
    have hfz := (hgb.below hb5' (by omega)).frozen
    have hf0 := hfz (k * 2)
    have hf1 := hfz (k * 2 + 1)
    have hl5 : g < w5.heap.size := by have := hb5'.size; omega
    refine take (i := 12) (d := some 37) (v := .pointer (some ⟨g, k * 2, none⟩)) (by kernel_rfl) rfl rfl rfl (fun _ _ _ h => h) hHeld (fun W hSw => by go_simp) ?_
    simp only [Act.put, List.setIfInBounds_toArray, List.set_cons_zero, List.set_cons_succ]
    refine anyJ_only (i := 13) (d := none) (by kernel_rfl) rfl rfl rfl (fun K' hK => ?_)
    refine wp_skip (w' := (w5.setCell ⟨g, k * 2, none⟩ (.int .i64 X.rule)).setCell ⟨g, k * 2 + 1, none⟩ (.slice A5 X.kids.length d5)) (by go_simp) (hK.out _ _ (fun h => absurd rfl h) (fun _ => ?_))
    refine anyJ_done (by kernel_rfl) ?_ _
    simp only [Act.put]
    obtain ⟨w6, hw6⟩ : ∃ W, W = (w5.setCell ⟨g, k * 2, none⟩ (.int .i64 X.rule)).setCell ⟨g, k * 2 + 1, none⟩ (.slice A5 X.kids.length d5) := ⟨_, rfl⟩
    rw [← hw6] at hset2 ⊢
    have x6 : BlkIs w6 gx 60 #[.int .i64 r, .slice (some ⟨g, 0, none⟩) kn c3] := by rw [hw6]; exact ((x4.below hb5' (by omega)).far (by simp; omega) _).far (by simp; omega) _
    have z6 : BlkIs w6 (w.heap.size + 1) 60 #[.int .i64 0, .slice none 0 0] := by rw [hw6]; exact ((z4.below hb5' (by omega)).far (by simp; omega) _).far (by simp; omega) _
    have hb6 : Below w.heap.size w w6 := by rw [hw6]; exact ((hb4.trans (hb5'.mono (by omega))).setCell (by simp; omega) _).setCell (by simp; omega) _
    have y0 : w6.cell? ⟨gx, 0, none⟩ = some (.int .i64 r) := x6.cell 0
    have y1 : w6.cell? ⟨gx, 1, none⟩ = some (.slice (some ⟨g, 0, none⟩) kn c3) := x6.cell 1
    have lz : w.heap.size + 1 < w6.heap.size := z6.lt
    have g0 : w6.cell? ⟨w.heap.size + 1, 0, none⟩ = some (.int .i64 0) := z6.cell 0
    have g1 : w6.cell? ⟨w.heap.size + 1, 1, none⟩ = some (.slice none 0 0) := z6.cell 1
    have g3 : ∀ i, w6.frozen? ⟨w.heap.size + 1, i, none⟩ = false := fun i => z6.frozen i
    have HS := Lib.hid hset2
    clear hset1 hset2 hw6 c0 c1 hf0 hf1 a0 a1
    go_wp2_with fail
    have zz := (z6.put 0 (.int .i64 r)).put 1 (.slice (some ⟨g, 0, none⟩) kn c3)
    refine bodyPost_ret (v := .agg #[.int .i64 r, .slice (some ⟨g, 0, none⟩) kn c3]) (by simp [results, Tryd.results39, go_sem, zz.cell]) rfl ?_
    refine ⟨.mk r (ks.set k X), hpe.out _ _ (covsN_set ks k hkl2 X (by rw [hv.out]; exact hXN)), some ⟨g, 0, none⟩, c3, ?_, ?_, ?_⟩
    · show Ending.returned (Value.agg #[.int .i64 r, .slice _ kn c3]) = .returned (.agg #[.int .i64 r, .slice _ (ks.set k X).length c3])
      rw [List.length_set, hkn.out]
    · have e : (Cov.mk r (ks.set k X)).kids.length = kn := by show (ks.set k X).length = kn; rw [List.length_set, hkn.out]
      rw [e]
      refine rep_cov_mk (c := .mk r (ks.set k X)) ?_
      refine Rep.imp (ok := fun g => w.heap.size + 2 ≤ g) ?_ (fun g hg _ => by omega)
      iterate 2 refine Rep.setCell ?_ (fun g hg => by simp; omega)
      exact Rep.imp HS.out.rep (fun g hg _ => by omega)
    · iterate 2 refine Below.setCell ?_ (by simp; try omega) _
      exact hb6
  all_goals
    by_cases hru0 : 0 < rules
    · go_wp2_with fail
      refine (within0_any _ rules hru0 (by omega) _).mono ?_
      rintro e w' ⟨⟨z, hz, rfl⟩, rfl⟩
      go_wp2_with fail
      have zz := (((z4.far (p := ⟨gx, 0, none⟩) (by simp; omega) (.int .i64 z)).put 0 (.int .i64 z)).put 1 (.slice A3 kn c3))
      refine bodyPost_ret (v := .agg #[.int .i64 z, .slice A3 kn c3]) (by simp [results, Tryd.results39, go_sem, zz.cell]) rfl ?_
      refine ⟨.mk z ks, hpe.out _ _ rfl, A3, c3, ?_, ?_, ?_⟩
      · show Ending.returned (Value.agg #[.int .i64 z, .slice A3 kn c3]) = .returned (.agg #[.int .i64 z, .slice A3 ks.length c3])
        rw [hkn.out]
      · have e : (Cov.mk z ks).kids.length = kn := hkn.out
        rw [e]
        refine rep_cov_mk (c := .mk z ks) ?_
        refine Rep.imp (ok := fun g => w.heap.size + 2 ≤ g ∧ g < gx) ?_ (fun g hg _ => by omega)
        iterate 3 refine Rep.setCell ?_ (fun g hg => by simp; omega)
        exact HL.out
      · iterate 3 refine Below.setCell ?_ (by simp; try omega) _
        exact hb4
    · go_wp2_with fail
      have zz := (z4.put 0 (.int .i64 r)).put 1 (.slice A3 kn c3)
      refine bodyPost_ret (v := .agg #[.int .i64 r, .slice A3 kn c3]) (by simp [results, Tryd.results39, go_sem, zz.cell]) rfl ?_
      refine ⟨.mk r ks, hpe.out _ _ rfl, A3, c3, ?_, ?_, ?_⟩
      · show Ending.returned (Value.agg #[.int .i64 r, .slice A3 kn c3]) = .returned (.agg #[.int .i64 r, .slice A3 ks.length c3])
        rw [hkn.out]
      · have e : (Cov.mk r ks).kids.length = kn := hkn.out
        rw [e]
        refine rep_cov_mk (c := .mk r ks) ?_
        refine Rep.imp (ok := fun g => w.heap.size + 2 ≤ g) ?_ (fun g hg _ => by omega)
        iterate 2 refine Rep.setCell ?_ (fun g hg => by simp; omega)
        exact Rep.imp HO4.out.rep (fun g hg _ => by omega)
      · iterate 2 refine Below.setCell ?_ (by simp; try omega) _
        exact hb4

theorem other_any : ∀ p : Cov, covN p ≤ 1048576 → OtherOk p
  | .mk r kids, h => other_of _ h fun i hi => other_any kids[i] (by
      rw [covN_eq] at h
      have := covsN_mem kids i hi
      simp only [Cov.kids] at h
      omega)
termination_by p => SizeOf.sizeOf p
decreasing_by
  have := List.sizeOf_lt_of_mem (List.getElem_mem hi)
  simp only [Cov.kids] at this
  simp only [Cov.mk.sizeOf_spec]
  omega

end

end Go.Proofs.YtaippkdlibampaaDoor

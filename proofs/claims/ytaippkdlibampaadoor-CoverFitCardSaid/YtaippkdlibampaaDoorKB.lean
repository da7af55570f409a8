/- cover.Least walked. cover.Label walked. Covers: EqCover, CopyCover walked. (Begun by turning the walks of patterns: gen/gen_cov.py.) -/
import Derived.Test.YtaippkdlibampaaDoorKA
import Derived.Deep.RegionHeld3
namespace Go.Proofs.YtaippkdlibampaaDoor

/- cover.Least walked. -/
section
open Go.RowKit

/-- what Least tells -/
def LeastIs (rs : List Rule) (t : Pat) (nt n E : Int) (X : Cov) : Prop :=
  (coverMay rs t nt = false ∧ n = 0 ∧ E = 1 ∧ X = .mk 0 []) ∨
  (coverMay rs t nt = true ∧ (labB rs t).cost nt.toNat = -1 ∧ n = 0 ∧ E = 8 ∧ X = .mk 0 []) ∨
  (coverMay rs t nt = true ∧ 0 ≤ (labB rs t).cost nt.toNat ∧ n = (labB rs t).cost nt.toNat ∧ E = 0 ∧ IsCov rs t nt.toNat X)

def LeastRet (rs : List Rule) (t : Pat) (nt : Int) (w : World) (e : Ending) (w' : World) : Prop :=
  ∃ (n E : Int) (X : Cov) (A : Option Addr) (d : Nat), e = .returned (.tuple #[.int .i64 n, .agg #[.int .i64 X.rule, .slice A X.kids.length d], .int .i64 E]) ∧ Rep w' (fun g => w.heap.size ≤ g) (encC X) [.int .i64 X.rule, .slice A X.kids.length d] ∧ Below w.heap.size w w' ∧ LeastIs rs t nt n E X

theorem coverMay_spec {rs : List Rule} {t : Pat} {nt : Int} (h : coverMay rs t nt = true) : (RulesFit rs ∧ BareOk rs) ∧ (treeOk t = true ∧ patN t ≤ 200) ∧ 0 ≤ nt ∧ nt ≤ 3 := by
  unfold coverMay at h
  simp only [Bool.and_eq_true, decide_eq_true_eq] at h
  exact ⟨fit_of_check h.1, mayT_fit h.2.1, h.2.2.1, h.2.2.2⟩

theorem rep_cov0 {w : World} {ok : Nat → Prop} : Rep w ok (encC (.mk 0 [])) [.int .i64 0, .slice none 0 0] := by
  refine rep_cov_mk (c := .mk 0 []) ?_
  unfold Rep
  exact ⟨none, 0, rfl, by simp [Cov.kids], by simp, fun h => absurd h (by simp [Cov.kids])⟩

theorem RulesIn.off {gm : Nat} {w w' : World} {A : Option Addr} {c : Nat} {rs : List Rule} (h : RulesIn w A c rs) (hb : Below w.heap.size w w') (hg : w.heap.size ≤ gm) : RulesOff gm w' A c rs := by
  obtain ⟨ok, h⟩ := h
  exact ⟨fun g => ok g ∧ g < w.heap.size, fun g hk => by have := hk.2; omega, h.lt.below hb⟩
theorem PatIn.off {gm : Nat} {w w' : World} {A : Option Addr} {c : Nat} {p : Pat} (h : PatIn w A c p) (hb : Below w.heap.size w w') (hg : w.heap.size ≤ gm) : PatOff gm w' A c p := by
  obtain ⟨ok, h⟩ := h
  exact ⟨fun g => ok g ∧ g < w.heap.size, fun g hk => by have := hk.2; omega, h.lt.below hb⟩

set_option maxRecDepth 100000 in
set_option maxHeartbeats 8000000 in
theorem least_any (rs : List Rule) (hwf : RulesWf rs) (t : Pat) (nt : Int) (A A2 : Option Addr) (d c2 : Nat) (w : World) (htab : Tab w) (hr : RulesIn w A2 c2 rs) (hp : PatIn w A d t) :
    Calls Tryd.prog 24 #[.slice A2 rs.length c2, .agg #[.int .i64 t.op, .int .i64 t.nt, .slice A t.kids.length d], .int .i64 nt] w (LeastRet rs t nt w) := by
  have hmay := fun W => may13_any rs hwf t nt A A2 d c2 W
  have hspec := Lib.hid (fun h => coverMay_spec (rs := rs) (t := t) (nt := nt) h)
  have HW : Hid (∀ n E X, LeastIs rs t nt n E X → LeastIs rs t nt n E X) := Lib.hid (fun _ _ _ h => h)
  obtain ⟨b, hb⟩ : ∃ x, Hid (coverMay rs t nt = x) := ⟨_, Lib.hid rfl⟩
  rw [hb.out] at hmay
  obtain ⟨rn, hrn⟩ : ∃ n, Hid (rs.length = n) := ⟨_, Lib.hid rfl⟩
  obtain ⟨tn, htn⟩ : ∃ n, Hid (t.kids.length = n) := ⟨_, Lib.hid rfl⟩
  obtain ⟨op, hop⟩ : ∃ x, Hid (t.op = x) := ⟨_, Lib.hid rfl⟩
  obtain ⟨tnt, htnt⟩ : ∃ x, Hid (t.nt = x) := ⟨_, Lib.hid rfl⟩
  rw [hrn.out] at hmay
  rw [htn.out, hop.out, htnt.out] at hmay
  have HR := Lib.hid hr
  have HP := Lib.hid hp
  rw [hrn.out, htn.out, hop.out, htnt.out]
  clear hr hp
  go_enter Tryd.func24, Tryd.ntmps24
  go_wp2_with fail
  have hb0 : Below w.heap.size w ((w.alloc (.cells #[.int .i64 op, .int .i64 tnt, .slice A tn d] 64)).alloc (.cells #[.int .i64 0, .slice none 0 0] 60)) := below_box2 _ _ _
  refine (hmay _ (tab_alloc htab _ hb0) (HR.out.below hb0) (HP.out.below hb0)).mono ?_
  rintro e w1 ⟨rfl, hb1⟩
  have hb01 : Below w.heap.size w w1 := hb0.trans (hb1.mono (by simp; omega))
  have z1 : BlkIs w1 (w.heap.size + 1) 60 #[.int .i64 0, .slice none 0 0] := (BlkIs.fresh1 _ _ _ _).below hb1 (by simp)
  have k1 : BlkIs w1 w.heap.size 64 #[.int .i64 op, .int .i64 tnt, .slice A tn d] := ((BlkIs.fresh _ _ _).alloc _).below hb1 (by simp; omega)
  have hz1 : w.heap.size + 1 < w1.heap.size := z1.lt
  have g0 : w1.cell? ⟨w.heap.size + 1, 0, none⟩ = some (.int .i64 0) := z1.cell 0
  have g1 : w1.cell? ⟨w.heap.size + 1, 1, none⟩ = some (.slice none 0 0) := z1.cell 1
  have g3 : ∀ i, w1.frozen? ⟨w.heap.size + 1, i, none⟩ = false := fun i => z1.frozen i
  cases b
  · go_wp2_with fail
    have zz := (z1.put 0 (.int .i64 0)).put 1 (.slice none 0 0)
    refine bodyPost_ret (v := .tuple #[.int .i64 0, .agg #[.int .i64 0, .slice none 0 0], .int .i64 1]) (by simp [results, Tryd.results24, go_sem, zz.cell]) rfl ?_
    refine ⟨0, 1, .mk 0 [], none, 0, rfl, rep_cov0, ?_, .inl ⟨hb.out, rfl, rfl, rfl⟩⟩
    iterate 2 refine Below.setCell ?_ (by simp; try omega) _
    exact hb01
  · obtain ⟨⟨hfit, hbare⟩, ⟨hto, hN⟩, hn0, hn3⟩ := hspec.out hb.out
    obtain ⟨m, rfl⟩ : ∃ m : Nat, nt = m := ⟨nt.toNat, by omega⟩
    have hm4 : m < 4 := by omega
    have x0 : w1.cell? ⟨w.heap.size, 0, none⟩ = some (.int .i64 op) := k1.cell 0
    have x1 : w1.cell? ⟨w.heap.size, 1, none⟩ = some (.int .i64 tnt) := k1.cell 1
    have x2 : w1.cell? ⟨w.heap.size, 2, none⟩ = some (.slice A tn d) := k1.cell 2
    have hnew := new_any A2 rn c2 w1
    clear hmay hspec
    go_wp2_with fail
    refine hnew.mono ?_
    rintro e w3 ⟨rfl, hb3, hch, hmap⟩
    have hb03 : Below w.heap.size w w3 := hb01.trans (hb3.mono hb01.size)
    have hm3 : Memo rs w3 w1.heap.size := ⟨#[], 0, hmap, by simp⟩
    have hr3 := HR.out.off (gm := w1.heap.size) hb03 (by omega)
    have hp3 := HP.out.off (gm := w1.heap.size) hb03 (by omega)
    have k3 := k1.below hb3 k1.lt
    have z3 := z1.below hb3 z1.lt
    have y0 : w3.cell? ⟨w.heap.size, 0, none⟩ = some (.int .i64 op) := k3.cell 0
    have y1 : w3.cell? ⟨w.heap.size, 1, none⟩ = some (.int .i64 tnt) := k3.cell 1
    have y2 : w3.cell? ⟨w.heap.size, 2, none⟩ = some (.slice A tn d) := k3.cell 2
    have hcost := cost_any rs hfit t hto hN m hm4 w1.heap.size (w1.heap.size + 1) A A2 d c2 w3 hr3 hp3 (by rw [hrn.out]; exact hch) hm3
    obtain ⟨x, hx⟩ : ∃ x, Hid ((labB rs t).cost m = x) := ⟨_, Lib.hid rfl⟩
    rw [hx.out, hop.out, htnt.out, htn.out] at hcost
    have hlow := labB_low hfit.1 t hto m
    rw [hx.out] at hlow
    have hz3 := hb3.size
    clear hnew x0 x1 x2 g0 g1 g3 hr3 hp3
    go_wp2_with fail
    refine hcost.mono ?_
    rintro e w4 ⟨rfl, hm4', hk4⟩
    have k4 := k3.keepM hk4 (by omega)
    have z4 := z3.keepM hk4 (by omega)
    have hch4 := hch.keepM hk4 (by omega)
    have hb04 : Below w.heap.size w w4 := hb03.trans ((hk4.below (by omega)).mono (by omega))
    have hz4 := hk4.size
    have lz : w.heap.size + 1 < w4.heap.size := z4.lt
    have g0 : w4.cell? ⟨w.heap.size + 1, 0, none⟩ = some (.int .i64 0) := z4.cell 0
    have g1 : w4.cell? ⟨w.heap.size + 1, 1, none⟩ = some (.slice none 0 0) := z4.cell 1
    have g3 : ∀ i, w4.frozen? ⟨w.heap.size + 1, i, none⟩ = false := fun i => z4.frozen i
    clear hcost y0 y1 y2
    by_cases hx1 : x = -1
    · subst hx1
      simp only [ne_eq, not_true_eq_false, decide_false]
      go_wp2_with fail
      have zz := (z4.put 0 (.int .i64 0)).put 1 (.slice none 0 0)
      refine bodyPost_ret (v := .tuple #[.int .i64 0, .agg #[.int .i64 0, .slice none 0 0], .int .i64 8]) (by simp [results, Tryd.results24, go_sem, zz.cell]) rfl ?_
      refine ⟨0, 8, .mk 0 [], none, 0, rfl, rep_cov0, ?_, .inr (.inl ⟨hb.out, hx.out, rfl, rfl, rfl⟩)⟩
      iterate 2 refine Below.setCell ?_ (by simp; try omega) _
      exact hb04
    · have hx2 : decide (x ≠ -1) = true := by simpa using hx1
      rw [hx2]
      obtain ⟨X, hX⟩ := isCov_ex hfit t hto m hm4 (by rw [hx.out]; omega)
      have hof := of_cov rs hfit hbare t m X hX hto hN hm4 w1.heap.size (w1.heap.size + 1) A A2 d c2 w4 ((HR.out.off (gm := w1.heap.size) hb04 (by omega))) ((HP.out.off (gm := w1.heap.size) hb04 (by omega))) (by rw [hrn.out]; exact hch4) hm4'
      rw [hop.out, htnt.out, htn.out] at hof
      have y0 : w4.cell? ⟨w.heap.size, 0, none⟩ = some (.int .i64 op) := k4.cell 0
      have y1 : w4.cell? ⟨w.heap.size, 1, none⟩ = some (.int .i64 tnt) := k4.cell 1
      have y2 : w4.cell? ⟨w.heap.size, 2, none⟩ = some (.slice A tn d) := k4.cell 2
      clear g0 g1 g3
      go_wp2_with fail
      refine hof.mono ?_
      rintro e w5 ⟨A5, d5, rfl, hrep5, hm5, hk5⟩
      have z5 := z4.keepM hk5 (by omega)
      have hb05 : Below w.heap.size w w5 := hb04.trans ((hk5.below (by omega)).mono (by omega))
      have hz5 := hk5.size
      have lz5 : w.heap.size + 1 < w5.heap.size := z5.lt
      have g0 : w5.cell? ⟨w.heap.size + 1, 0, none⟩ = some (.int .i64 0) := z5.cell 0
      have g1 : w5.cell? ⟨w.heap.size + 1, 1, none⟩ = some (.slice none 0 0) := z5.cell 1
      have g3 : ∀ i, w5.frozen? ⟨w.heap.size + 1, i, none⟩ = false := fun i => z5.frozen i
      have HREP := Lib.hid hrep5
      clear hrep5 hof y0 y1 y2
      go_wp2_with fail
      refine bodyPost_ret (v := .tuple #[.int .i64 x, .agg #[.int .i64 X.rule, .slice A5 X.kids.length d5], .int .i64 0]) (by simp [results, Tryd.results24, go_sem, g0, g1]) rfl ?_
      refine ⟨x, 0, X, A5, d5, rfl, ?_, ?_, .inr (.inr ⟨hb.out, by show 0 ≤ (labB rs t).cost m; rw [hx.out]; omega, by show x = (labB rs t).cost m; rw [hx.out], rfl, hX⟩)⟩
      · refine Rep.imp (ok := fun g => w4.heap.size ≤ g) ?_ (fun g hg _ => by omega)
        iterate 2 refine Rep.setCell ?_ (fun g hg => by simp; omega)
        exact HREP.out
      · iterate 2 refine Below.setCell ?_ (by simp; try omega) _
        exact hb05

end

/- cover.Label walked. -/
section
open Go.RowKit

def LabelRet (rs : List Rule) (t : Pat) (w : World) (e : Ending) (w' : World) : Prop :=
  ∃ (B : Best) (E : Int), e = .returned (.tuple #[.agg (costCells B), .int .i64 E]) ∧ Below w.heap.size w w' ∧ ((coverMay rs t 0 = false ∧ E = 1 ∧ B = zeroB) ∨ (coverMay rs t 0 = true ∧ E = 0 ∧ B = labB rs t))

set_option maxRecDepth 100000 in
set_option maxHeartbeats 8000000 in
theorem labelP_any (rs : List Rule) (hwf : RulesWf rs) (t : Pat) (A A2 : Option Addr) (d c2 : Nat) (w : World) (htab : Tab w) (hr : RulesIn w A2 c2 rs) (hp : PatIn w A d t) :
    Calls Tryd.prog 32 #[.slice A2 rs.length c2, .agg #[.int .i64 t.op, .int .i64 t.nt, .slice A t.kids.length d]] w (LabelRet rs t w) := by
  have hmay := fun W => may13_any rs hwf t 0 A A2 d c2 W
  have hspec := Lib.hid (fun h => coverMay_spec (rs := rs) (t := t) (nt := 0) h)
  obtain ⟨b, hb⟩ : ∃ x, Hid (coverMay rs t 0 = x) := ⟨_, Lib.hid rfl⟩
  rw [hb.out] at hmay
  obtain ⟨rn, hrn⟩ : ∃ n, Hid (rs.length = n) := ⟨_, Lib.hid rfl⟩
  obtain ⟨tn, htn⟩ : ∃ n, Hid (t.kids.length = n) := ⟨_, Lib.hid rfl⟩
  obtain ⟨op, hop⟩ : ∃ x, Hid (t.op = x) := ⟨_, Lib.hid rfl⟩
  obtain ⟨tnt, htnt⟩ : ∃ x, Hid (t.nt = x) := ⟨_, Lib.hid rfl⟩
  rw [hrn.out] at hmay
  rw [htn.out, hop.out, htnt.out] at hmay
  have HR := Lib.hid hr
  have HP := Lib.hid hp
  rw [hrn.out, htn.out, hop.out, htnt.out]
  clear hr hp
  go_enter Tryd.func32, Tryd.ntmps32
  go_wp2_with fail
  have hb0 : Below w.heap.size w ((w.alloc (.cells #[.int .i64 op, .int .i64 tnt, .slice A tn d] 64)).alloc (.cells #[.int .i64 0, .int .i64 0, .int .i64 0, .int .i64 0] 70)) := below_box2 _ _ _
  refine (hmay _ (tab_alloc htab _ hb0) (HR.out.below hb0) (HP.out.below hb0)).mono ?_
  rintro e w1 ⟨rfl, hb1⟩
  have hb01 : Below w.heap.size w w1 := hb0.trans (hb1.mono (by simp; omega))
  have z1 : BlkIs w1 (w.heap.size + 1) 70 #[.int .i64 0, .int .i64 0, .int .i64 0, .int .i64 0] := (BlkIs.fresh1 _ _ _ _).below hb1 (by simp)
  have k1 : BlkIs w1 w.heap.size 64 #[.int .i64 op, .int .i64 tnt, .slice A tn d] := ((BlkIs.fresh _ _ _).alloc _).below hb1 (by simp; omega)
  have hz1 : w.heap.size + 1 < w1.heap.size := z1.lt
  clear hmay
  cases b
  · have g0 : w1.cell? ⟨w.heap.size + 1, 0, none⟩ = some (.int .i64 0) := z1.cell 0
    have g1 : w1.cell? ⟨w.heap.size + 1, 1, none⟩ = some (.int .i64 0) := z1.cell 1
    have g2 : w1.cell? ⟨w.heap.size + 1, 2, none⟩ = some (.int .i64 0) := z1.cell 2
    have g4 : w1.cell? ⟨w.heap.size + 1, 3, none⟩ = some (.int .i64 0) := z1.cell 3
    have g3 : ∀ i, w1.frozen? ⟨w.heap.size + 1, i, none⟩ = false := fun i => z1.frozen i
    go_wp2_with fail
    have zz := (((z1.put 0 (.int .i64 0)).put 1 (.int .i64 0)).put 2 (.int .i64 0)).put 3 (.int .i64 0)
    refine bodyPost_ret (v := .tuple #[.agg (costCells zeroB), .int .i64 1]) (by simp [results, Tryd.results32, go_sem, zz.cell, costCells, zeroB]) rfl ?_
    refine ⟨zeroB, 1, rfl, ?_, .inl ⟨hb.out, rfl, rfl⟩⟩
    iterate 4 refine Below.setCell ?_ (by simp; try omega) _
    exact hb01
  · obtain ⟨⟨hfit, hbare⟩, ⟨hto, hN⟩, _, _⟩ := hspec.out hb.out
    have hfield := cost_field (labB rs t)
    go_upto_region 3 with fail
    obtain ⟨CC, hCC⟩ : ∃ x, Hid (costCells (labB rs t) = x) := ⟨_, Lib.hid rfl⟩
    obtain ⟨BC, hBC⟩ : ∃ x, Hid (bestCells (labB rs t) = x) := ⟨_, Lib.hid rfl⟩
    have hCs : CC.size = 4 := by rw [← hCC.out]; rfl
    have hC1 : CC.all (·.oneCell') = true := by rw [← hCC.out]; simp [costCells, Value.oneCell']
    have hic : (Tryd.prog.info? 70).map (·.size) = some CC.size := by rw [hCs]; kernel_rfl
    rw [hCC.out, hBC.out] at hfield
    have hd : Below w1.heap.size w1 w1.drew := (Below.refl _ _).drew
    go_cut [5] (fun s5 wc => s5 = .int .i64 0 ∧ Below w.heap.size w wc ∧ BlkIs wc (w.heap.size + 1) 70 CC)
    case first =>
      refine anyJ_begin 6 (fun W => BlkIs W w.heap.size 64 #[.int .i64 op, .int .i64 tnt, .slice A tn d]) (by kernel_rfl) k1.drew (fun hHeld => ?_)
      refine take (i := 0) (d := some 11) (v := .slice A2 rn c2) (by kernel_rfl) rfl rfl rfl (fun _ _ _ h => h) hHeld (fun W hSw => by go_simp) ?_
      simp only [Act.put, List.setIfInBounds_toArray, List.set_cons_zero, List.set_cons_succ]
      refine take (i := 2) (d := some 13) (v := .agg #[.int .i64 op, .int .i64 tnt, .slice A tn d]) (by kernel_rfl) rfl rfl rfl (fun _ _ _ h => h) hHeld (fun W hSw => by exact exec_load_row rfl rfl hSw Tryd.underlying64 rfl (by kernel_rfl)) ?_
      simp only [Act.put, List.setIfInBounds_toArray, List.set_cons_zero, List.set_cons_succ]
      refine anyJ_only (i := 1) (d := some 12) (by kernel_rfl) rfl rfl rfl (fun K' hK => ?_)
      refine wp_go_call 62 _ _ rfl #[.slice A2 rn c2] rfl (fun W => by go_simp) (new_any A2 rn c2 _) (fun e w3 he => ?_)
      obtain ⟨rfl, hb3, hch, hmap⟩ := he
      have k3 := k1.drew.below hb3 k1.lt
      have z3 := z1.drew.below hb3 z1.lt
      have hb13 : Below w1.heap.size w1 w3 := hd.trans (hb3.mono (Nat.le_refl _))
      have hb03 : Below w.heap.size w w3 := hb01.trans (hb13.mono (by omega))
      refine ⟨_, rfl, hK.out _ _ (fun _ => k3) (fun hHeld => ?_)⟩
      have hHeld := hHeld (by decide)
      simp only [Act.put, List.setIfInBounds_toArray, List.set_cons_zero, List.set_cons_succ]
      have hm3 : Memo rs w3 w1.drew.heap.size := ⟨#[], 0, hmap, by simp⟩
      have hgw : w1.drew.heap.size = w1.heap.size := rfl
      have hz3 := hb13.size
      have hl := label_any rs hfit t hto hN w1.drew.heap.size (w1.drew.heap.size + 1) A A2 d c2 w3 (HR.out.off hb03 (by omega)) (HP.out.off hb03 (by omega)) (by rw [hrn.out]; exact hch) hm3
      rw [hBC.out, hop.out, htnt.out, htn.out] at hl
      refine anyJ_only (i := 3) (d := some 14) (by kernel_rfl) rfl rfl rfl (fun K' hK => ?_)
      refine wp_go_call 69 _ _ rfl #[.pointer (some ⟨w1.drew.heap.size + 1, 0, none⟩), .agg #[.int .i64 op, .int .i64 tnt, .slice A tn d]] rfl (fun W => by go_simp) hl (fun e w4 he => ?_)
      obtain ⟨rfl, hm4, hk4⟩ := he
      have k4 := k3.keepM hk4 (by omega)
      have z4 := z3.keepM hk4 (by omega)
      have hb04 : Below w.heap.size w w4 := hb03.trans ((hk4.below (by omega)).mono (by omega))
      refine ⟨_, rfl, hK.out _ _ (fun _ => k4) (fun hHeld => ?_)⟩
      have hHeld := hHeld (by decide)
      simp only [Act.put, List.setIfInBounds_toArray, List.set_cons_zero, List.set_cons_succ]
      refine take (i := 4) (d := some 15) (v := .agg CC) (by kernel_rfl) rfl rfl rfl (fun _ _ _ h => h) hHeld (fun W hSw => by unfold execOp; exact congrArg (fun r => Result.andThen r fun v w' => Result.ok (Next.value v) w') (hfield _)) ?_
      simp only [Act.put, List.setIfInBounds_toArray, List.set_cons_zero, List.set_cons_succ]
      refine anyJ_only (i := 5) (d := none) (by kernel_rfl) rfl rfl rfl (fun K' hK => ?_)
      refine wp_store_row 70 (.tmp 4) (.tmp 15) rfl (w.heap.size + 1) CC rfl rfl 70 _ z4 hic (by rw [hCs]; rfl) hC1 (hK.out _ _ (fun _ => (setRow_other _ _ _ _ (by omega)).trans k4) (fun hHeld => ?_))
      have hHeld := hHeld (by decide)
      simp only [Act.put]
      refine anyJ_only (i := 6) (d := some 5) (by kernel_rfl) rfl rfl rfl (fun K' hK => ?_)
      refine wp_val (v := .int .i64 0) rfl (hK.out _ _ (fun h => absurd rfl h) (fun _ => ?_))
      refine anyJ_done (by kernel_rfl) ?_ _
      simp only [Act.put, List.setIfInBounds_toArray, List.set_cons_zero, List.set_cons_succ]
      go_wp2_with fail
      go_meet
      exact ⟨rfl, below_setRow hb04 (by omega) _, setRow_heap _ _ _ _ _ _ z4⟩
    case rest =>
      obtain ⟨rfl, hbc, zc⟩ := hcut
      rw [← hCC.out] at zc
      have g0 : wc.cell? ⟨w.heap.size + 1, 0, none⟩ = some (.int .i64 (labB rs t).c0) := zc.cell 0
      have g1 : wc.cell? ⟨w.heap.size + 1, 1, none⟩ = some (.int .i64 (labB rs t).c1) := zc.cell 1
      have g2 : wc.cell? ⟨w.heap.size + 1, 2, none⟩ = some (.int .i64 (labB rs t).c2) := zc.cell 2
      have g4 : wc.cell? ⟨w.heap.size + 1, 3, none⟩ = some (.int .i64 (labB rs t).c3) := zc.cell 3
      go_wp2_with fail
      refine bodyPost_ret (v := .tuple #[.agg (costCells (labB rs t)), .int .i64 0]) (by simp [results, Tryd.results32, go_sem, g0, g1, g2, g4, costCells]) rfl ?_
      exact ⟨labB rs t, 0, rfl, hbc, .inr ⟨hb.out, rfl, rfl⟩⟩

end

/- Covers: EqCover, CopyCover walked. (Begun by turning the walks of patterns: gen/gen_cov.py.) -/
section
open Go.RowKit

theorem rep_cov_inv {w : World} {ok : Nat → Prop} {c : Cov} {cs : List Value} (h : Rep w ok (encC c) cs) : ∃ (A : Option Addr) (d : Nat), cs = [.int .i64 c.rule, .slice A c.kids.length d] ∧ d ≤ maxLen ∧ Rep w ok (.lst 2 (c.kids.map encC)) [.slice A c.kids.length d] := by
  cases c with
  | mk r ks =>
    unfold encC at h
    rw [encCs_map] at h
    obtain ⟨a1, r1, rfl, h1, g1⟩ := repAll_inv (rep_st_inv h)
    obtain ⟨a2, r2, rfl, h2, g2⟩ := repAll_inv g1
    obtain ⟨A, d, e2, hd, _, h3⟩ := rep_lst_inv h2
    rw [List.length_map] at e2 h3
    subst e2
    rw [rep_int_inv h1, repAll_nil g2]
    obtain ⟨A', d', e, _, hd'⟩ := h3.len
    injection e with e1 _ e3
    subst e1 e3
    exact ⟨_, _, rfl, hd', h3⟩

theorem covs_at {w : World} {ok : Nat → Prop} {ps : List Cov} {A : Option Addr} {n c : Nat} (h : Rep w ok (.lst 2 (ps.map encC)) [.slice A n c]) (k : Nat) (hk : k < ps.length) :
    ∃ (g off : Nat) (B : Option Addr) (d : Nat), A = some ⟨g, off, none⟩ ∧ ok g ∧ g < w.heap.size ∧
      (w.cell? ⟨g, off + k * 2, none⟩ = some (.int .i64 ps[k].rule) ∧ w.cell? ⟨g, off + k * 2 + 1, none⟩ = some (.slice B ps[k].kids.length d)) ∧
      Rep w ok (encC ps[k]) [.int .i64 ps[k].rule, .slice B ps[k].kids.length d] := by
  obtain ⟨g, off, a, hA, hok, hlt, hl, hr, hc⟩ := h.at_ k (by simpa using hk)
  rw [List.getElem_map] at hr
  have hr0 := hr
  obtain ⟨B, d, rfl, hd, hp⟩ := rep_cov_inv hr
  have e : ∀ j, off + (k * 2 + j) = off + k * 2 + j := fun j => by omega
  refine ⟨g, off, B, d, hA, hok, hlt, ⟨?_, ?_⟩, hr0⟩
  · have := hc 0 (by omega); rw [e] at this; exact this
  · have := hc 1 (by omega); rw [e] at this; exact this

def CovIn (w : World) (A : Option Addr) (c : Nat) (p : Cov) : Prop := ∃ ok, Rep w ok (encC p) [.int .i64 p.rule, .slice A p.kids.length c]
def CovsIn (w : World) (A : Option Addr) (c : Nat) (ps : List Cov) : Prop := ∃ ok, Rep w ok (.lst 2 (ps.map encC)) [.slice A ps.length c]

theorem CovsIn.below {w w' : World} {A : Option Addr} {c : Nat} {ps : List Cov} (h : CovsIn w A c ps) (hb : Below w.heap.size w w') : CovsIn w' A c ps := by
  obtain ⟨ok, h⟩ := h; exact ⟨ok, h.below hb⟩
theorem CovIn.below {w w' : World} {A : Option Addr} {c : Nat} {p : Cov} (h : CovIn w A c p) (hb : Below w.heap.size w w') : CovIn w' A c p := by
  obtain ⟨ok, h⟩ := h; exact ⟨ok, h.below hb⟩
theorem CovIn.drewN {w : World} {A : Option Addr} {c : Nat} {p : Cov} (h : CovIn w A c p) (n : Nat) : CovIn (w.drewN n) A c p := by
  obtain ⟨ok, h⟩ := h; exact ⟨ok, h.drewN n⟩
theorem CovIn.drew {w : World} {A : Option Addr} {c : Nat} {p : Cov} (h : CovIn w A c p) : CovIn w.drew A c p := by
  obtain ⟨ok, h⟩ := h; exact ⟨ok, h.drew⟩
theorem CovIn.kids {w : World} {A : Option Addr} {c : Nat} {p : Cov} (h : CovIn w A c p) : CovsIn w A c p.kids := by
  obtain ⟨ok, h⟩ := h
  obtain ⟨A', c', he, _, h2⟩ := rep_cov_inv h
  injection he with _ he; injection he with he _; injection he with e1 _ e3
  subst e1 e3
  exact ⟨ok, h2⟩
theorem CovsIn.le {w : World} {A : Option Addr} {c : Nat} {ps : List Cov} (h : CovsIn w A c ps) : ps.length ≤ maxLen := by
  obtain ⟨ok, h⟩ := h
  obtain ⟨A', c', he, h1, h2⟩ := h.len
  rw [List.length_map] at h1
  omega

theorem Cov.ext_iff' (p q : Cov) : p = q ↔ p.rule = q.rule ∧ p.kids = q.kids := by
  cases p; cases q; simp [Cov.rule, Cov.kids]

def EqCovOk (p : Cov) : Prop := ∀ (q : Cov) (A B : Option Addr) (c d : Nat) (w : World), CovIn w A c p → CovIn w B d q →
  Calls Tryd.prog 36 #[.agg #[.int .i64 p.rule, .slice A p.kids.length c], .agg #[.int .i64 q.rule, .slice B q.kids.length d]] w (SomeBoolBelow (same p q) w)

set_option maxHeartbeats 2000000 in
theorem eqCovs_of (ps qs : List Cov) (ih : ∀ i (h : i < ps.length), EqCovOk ps[i]) (A B : Option Addr) (c d : Nat) (w : World) (hp : CovsIn w A c ps) (hq : CovsIn w B d qs) :
    Calls Tryd.prog 72 #[.slice A ps.length c, .slice B qs.length d] w (SomeBoolBelow (same ps qs) w) := by
  have hm := hp.le
  unfold maxLen at hm
  by_cases hl : ps.length = qs.length
  · obtain ⟨n, hn⟩ : ∃ n, Hid (ps.length = n) := ⟨_, Lib.hid rfl⟩
    have hn2 : Hid (qs.length = n) := Lib.hid (by rw [← hl]; exact hn.out)
    rw [hn.out, hn2.out]
    rw [hn.out] at hm
    clear hl
    go_enter Tryd.func72, Tryd.ntmps72
    go_wp2_with fail
    go_loopw [5] (fun i wr => ∃ k : Nat, k ≤ n ∧ i = .int .i64 k ∧ Below w.heap.size w wr ∧ Hid (∀ j (h1 : j < ps.length) (h2 : j < qs.length), j < k → ps[j] = qs[j])) (fun i _ => n - (intOf i).toNat)
    case atStart => exact ⟨0, by omega, rfl, Below.refl _ _, Lib.hid (fun j _ _ h => absurd h (by omega))⟩
    case round =>
      obtain ⟨k, hk, rfl, hb, hsame⟩ := hrel
      obtain ⟨wo, rfl⟩ : ∃ wo : World, wo = wr := ⟨_, rfl⟩
      by_cases hlt : k < n
      · have hkp : k < ps.length := by rw [hn.out]; exact hlt
        have hkq : k < qs.length := by rw [hn2.out]; exact hlt
        have hp1 := hp.below hb
        have hq1 := hq.below hb
        obtain ⟨okp, hp1⟩ := hp1
        obtain ⟨okq, hq1⟩ := hq1
        obtain ⟨g, off, A', c', rfl, _, hg, ⟨a0, a1⟩, hpi⟩ := covs_at hp1 k hkp
        obtain ⟨g', off', B', d', rfl, _, hg', ⟨b0, b1⟩, hqi⟩ := covs_at hq1 k hkq
        have hc := ih k hkp qs[k] A' B' c' d'
        obtain ⟨p, hpe⟩ : ∃ p, Hid (ps[k] = p) := ⟨_, Lib.hid rfl⟩
        obtain ⟨q, hqe⟩ : ∃ q, Hid (qs[k] = q) := ⟨_, Lib.hid rfl⟩
        rw [hpe.out] at a0 a1 hpi hc
        rw [hqe.out] at b0 b1 hqi hc
        have HP : Hid (CovIn wo A' c' p) := Lib.hid ⟨_, hpi⟩
        have HQ : Hid (CovIn wo B' d' q) := Lib.hid ⟨_, hqi⟩
        clear hp1 hq1 hpi hqi hp hq ih
        have hg0 : g ≠ wo.heap.size := by omega
        have hg0' : g' ≠ wo.heap.size := by omega
        go_wp2_with fail
        obtain ⟨s, hs⟩ : ∃ s, Hid (same p q = s) := ⟨_, Lib.hid rfl⟩
        rw [hs.out] at hc
        cases s
        all_goals
          go_region_held3 (fun W => W.cell? ⟨g, off + k * 2, none⟩ = some (.int .i64 p.rule) ∧ W.cell? ⟨g, off + k * 2 + 1, none⟩ = some (.slice A' p.kids.length c') ∧ W.cell? ⟨g', off' + k * 2, none⟩ = some (.int .i64 q.rule) ∧ W.cell? ⟨g', off' + k * 2 + 1, none⟩ = some (.slice B' q.kids.length d')) ((refine ⟨?_, ?_, ?_, ?_⟩ <;> (with_reducible (repeat (first | assumption | refine cell_drewN ?_ _ | refine cell_drew ?_)))))
            ((go_at_call 36; refine (hc _ (by with_reducible (repeat (first | exact HP.out | refine CovIn.drewN ?_ _ | refine CovIn.drew ?_))) (by with_reducible (repeat (first | exact HQ.out | refine CovIn.drewN ?_ _ | refine CovIn.drew ?_)))).mono ?_; rintro e w3 ⟨rfl, hb3⟩; have d0 := cell_later hb3 a0; have d1 := cell_later hb3 a1; have d3 := cell_later hb3 b0; have d4 := cell_later hb3 b1))
          go_wp2_with fail
        · go_ret
          refine ⟨ret_bool ?_, hb.trans (((Below.refl _ _).drew).trans (hb3.mono hb.size))⟩
          symm
          rw [same_false]
          intro he
          have h1 := (same_false p q).1 hs.out
          apply h1
          rw [← hpe.out, ← hqe.out]
          simp only [he]
        · go_roundw
          case rel =>
            refine ⟨k + 1, by omega, by go_num, ?_, Lib.hid (fun j h1 h2 hjk => ?_)⟩
            · exact hb.trans (((Below.refl _ _).drew).trans (hb3.mono hb.size))
            · by_cases e : j = k
              · subst e; rw [hpe.out, hqe.out]; exact (same_iff p q).1 hs.out
              · exact hsame.out j h1 h2 (by omega)
          case measure => simp [intOf]; omega
      · obtain rfl : k = n := by omega
        go_wp2_with fail
        go_ret
        refine ⟨ret_bool ?_, hb⟩
        have : ps = qs := List.ext_getElem (by rw [hn.out, hn2.out]) (fun j h1 h2 => hsame.out j h1 h2 (by rw [← hn.out]; exact h1))
        rw [(same_iff _ _).2 this]
  · go_enter Tryd.func72, Tryd.ntmps72
    go_wp2_with fail
    · go_ret
      refine ⟨ret_bool ?_, Below.refl _ _⟩
      symm
      rw [same_false]
      intro he
      exact hl (by rw [he])

set_option maxHeartbeats 2000000 in
theorem eqCov_of (p : Cov) (ih : ∀ i (h : i < p.kids.length), EqCovOk p.kids[i]) : EqCovOk p := by
  intro q A B c d w hp hq
  have hk := fun W => eqCovs_of p.kids q.kids ih A B c d W
  obtain ⟨po, hpo⟩ : ∃ x, Hid (p.rule = x) := ⟨_, Lib.hid rfl⟩
  obtain ⟨qo, hqo⟩ : ∃ x, Hid (q.rule = x) := ⟨_, Lib.hid rfl⟩
  have HPK : Hid (CovsIn w A c p.kids) := Lib.hid hp.kids
  have HQK : Hid (CovsIn w B d q.kids) := Lib.hid hq.kids
  have hsm : Hid (same p q = true ↔ po = qo ∧ same p.kids q.kids = true) := by
    refine Lib.hid ?_
    rw [same_iff, same_iff, Cov.ext_iff', hpo.out, hqo.out]
  rw [hpo.out, hqo.out]
  clear hp hq ih
  by_cases h1 : po = qo
  · subst h1
    have hs : Hid (same p q = same p.kids q.kids) := by
      refine Lib.hid ?_
      rw [Bool.eq_iff_iff, hsm.out]; simp
    rw [hs.out]
    go_enter Tryd.func36, Tryd.ntmps36
    go_wp2_with fail
    refine (hk _ (HPK.out.below (below_box2 _ _ _)) (HQK.out.below (below_box2 _ _ _))).mono ?_
    rintro e w3 ⟨rfl, hb3⟩
    go_wp2_with fail
    go_ret
    exact ⟨ret_bool rfl, (below_box2 _ _ _).trans (hb3.mono (by simp; omega))⟩
  · have hs : Hid (same p q = false) := by
      refine Lib.hid ?_
      rw [← Bool.not_eq_true, hsm.out]; exact fun h => h1 h.1
    rw [hs.out]
    have hne : (po == qo) = false := by simpa using h1
    go_enter Tryd.func36, Tryd.ntmps36
    go_wp2_with fail
    go_ret
    exact ⟨ret_bool rfl, below_box2 _ _ _⟩

theorem eqCov_any : ∀ p : Cov, EqCovOk p
  | .mk r kids => eqCov_of _ fun i h => eqCov_any kids[i]
termination_by p => SizeOf.sizeOf p
decreasing_by
  have := List.sizeOf_lt_of_mem (List.getElem_mem h)
  simp only [Cov.kids] at this
  simp only [Cov.mk.sizeOf_spec]
  omega

def CopyCovOk (p : Cov) : Prop := ∀ (A : Option Addr) (c : Nat) (w : World), CovIn w A c p → Calls Tryd.prog 74 #[.agg #[.int .i64 p.rule, .slice A p.kids.length c]] w (CovRet w p)

set_option maxHeartbeats 2000000 in
theorem copyCovs_of (ps : List Cov) (hs : ps.length ≤ 1048576) (ih : ∀ i (h : i < ps.length), CopyCovOk ps[i]) (A : Option Addr) (c : Nat) (w : World) (hp : CovsIn w A c ps) :
    Calls Tryd.prog 38 #[.slice A ps.length c] w (OwnRet 60 2 (ps.map encC) w) := by
  obtain ⟨n, hn⟩ : ∃ n, Hid (ps.length = n) := ⟨_, Lib.hid rfl⟩
  rw [hn.out] at hs ⊢
  have HP := Lib.hid hp
  clear hp
  go_enter Tryd.func38, Tryd.ntmps38
  go_wp2_with fail
  go_loopw [3, 4] (fun v i wr => ∃ k : Nat, k ≤ n ∧ i = .int .i64 k ∧ Own wr w.heap.size (fun g => w.heap.size ≤ g) 60 2 v ((ps.take k).map encC) ∧ Below w.heap.size w wr) (fun _ i _ => n - (intOf i).toNat)
  case atStart => exact ⟨0, by omega, rfl, Own.nil _ _ _ _ _, Below.refl _ _⟩
  case round =>
    obtain ⟨k, hk, rfl, hown, hb⟩ := hrel
    obtain ⟨wo, rfl⟩ : ∃ wo : World, wo = wr := ⟨_, rfl⟩
    by_cases hlt : k < n
    · have hkl : k < ps.length := by rw [hn.out]; exact hlt
      obtain ⟨ok, hps⟩ := HP.out.below hb
      obtain ⟨g, off, B, c', rfl, _, hg, ⟨a0, a1⟩, hpi⟩ := covs_at hps k hkl
      have hcall := fun W => ih k hkl B c' W
      have hts := Lib.hid (take_map encC ps k hkl)
      obtain ⟨q, hq⟩ : ∃ q, Hid (ps[k] = q) := ⟨_, Lib.hid rfl⟩
      rw [hq.out] at a0 a1 hpi hcall hts
      have hlen : ((ps.take k).map encC).length ≤ 1000000000 := by simp; omega
      have HQ : Hid (CovIn wo B c' q) := Lib.hid ⟨_, hpi⟩
      have hbz := hb.size
      clear hps hpi
      go_wp2_with fail
      refine (hcall _ HQ.out).mono ?_
      rintro e w3 ⟨A3, c3, rfl, hp3, hb3⟩
      have HP3 := Lib.hid hp3
      have hb3z := hb3.size
      clear hp3 hcall
      go_wp2_with (at_builtin; go_must (refine append_one rfl (.tmp 11) (.tmp 17) 53 60 2 32 _ rfl Tryd.underlying53 cov_info rfl (by decide) (by decide) w.heap.size (fun g => w.heap.size ≤ g) _ _ rfl w3.heap.size rfl ((hown.below hb3).alloc _) [.int .i64 q.rule, .slice A3 q.kids.length c3] (encC q) (BlkIs.fresh _ _ _) rfl (by simp [Value.oneCell']) ((HP3.out.imp (fun g hg _ => ⟨by omega, hown.ne_far hg⟩)).alloc _) hlen (by simp; omega) ?_); intro v2 w2 hown2 hb2 hk2)
      go_roundw
      case rel => exact ⟨k + 1, by omega, by go_num, by rw [hts.out]; exact hown2, (((hb.trans (hb3.mono hbz))).alloc (by omega) _).trans hb2⟩
      case measure => simp [intOf]; omega
    · obtain rfl : k = n := by omega
      go_wp2_with fail
      go_ret
      have h1 : ps.take k = ps := List.take_of_length_le (by rw [hn.out]; omega)
      rw [h1] at hown
      exact ⟨_, rfl, hown, hb⟩

set_option maxHeartbeats 2000000 in
theorem copyCov_of (p : Cov) (hs : p.kids.length ≤ 1048576) (ih : ∀ i (h : i < p.kids.length), CopyCovOk p.kids[i]) : CopyCovOk p := by
  intro A c w hp
  have hcall := fun W => copyCovs_of p.kids hs ih A c W
  have HP := Lib.hid hp.kids
  clear hp hs ih
  go_enter Tryd.func74, Tryd.ntmps74
  go_wp2_with fail
  refine (hcall _ ?_).mono ?_
  · refine CovsIn.below ?_ (below_alloc _ _)
    refine CovsIn.below ?_ (below_alloc _ _)
    exact CovsIn.below HP.out (below_alloc _ _)
  rintro e w3 ⟨v, rfl, hown, hb3⟩
  have hrep := hown.rep
  obtain ⟨A3, c3, rfl, _⟩ := hrep.len
  rw [List.length_map] at hrep ⊢
  have HR := Lib.hid hrep
  obtain ⟨hc, hf⟩ := bcell hb3
  have hz3 : w.heap.size + 2 < w3.heap.size := by have := hb3.size; simp at this; omega
  have hz31 : w.heap.size + 1 < w3.heap.size := by omega
  clear hown hrep hcall
  go_wp2_with fail
  refine bodyPost_ret (v := .agg #[.int .i64 p.rule, .slice A3 p.kids.length c3]) (by simp [results, Tryd.results74, go_sem, hc]) rfl ?_
  refine ⟨A3, c3, rfl, rep_cov_mk ?_, ?_⟩
  · refine Rep.imp (ok := fun g => w.heap.size + 3 ≤ g) ?_ (fun g hg _ => by omega)
    iterate 3 refine Rep.setCell ?_ (fun g hg => by simp; omega)
    exact Rep.imp HR.out (fun g hg _ => by simp at hg; omega)
  · iterate 3 refine Below.setCell ?_ (by simp; try omega) _
    exact (below_box3 _ _ _ _).trans (hb3.mono (by simp; omega))

theorem covsN_len : ∀ cs : List Cov, cs.length ≤ covsN cs
  | [] => by simp
  | c :: cs => by unfold covsN; have := covN_pos c; have := covsN_len cs; simp; omega
theorem covN_kids (c : Cov) : c.kids.length + 1 ≤ covN c := by
  rw [covN_eq]
  have := covsN_len c.kids
  omega

theorem copyCov_any : ∀ p : Cov, covN p ≤ 1048576 → CopyCovOk p
  | .mk r kids, h => copyCov_of _ (by have := covN_kids (.mk r kids); omega) fun i hi => copyCov_any kids[i] (by
      rw [covN_eq] at h
      have := covsN_mem kids i hi
      simp only [Cov.kids] at h
      omega)
termination_by p => SizeOf.sizeOf p
decreasing_by
  have := List.sizeOf_lt_of_mem (List.getElem_mem hi)
  simp only [Cov.kids] at this
  simp only [Cov.mk.sizeOf_spec]
  omega

end

end Go.Proofs.YtaippkdlibampaaDoor

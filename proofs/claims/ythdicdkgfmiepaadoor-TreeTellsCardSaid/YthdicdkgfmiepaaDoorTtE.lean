/- The law TreeTells: its walk. (Printed by gen/gen_tte.py.) -/
import Derived.Test.YthdicdkgfmiepaaDoorTtD
namespace Go.Proofs.YthdicdkgfmiepaaDoor
open Go.RowKit

set_option maxRecDepth 100000 in
set_option maxHeartbeats 8000000 in
theorem treeTells_any (L : List Pat) (S : List (List UInt8)) (A1 A2' : Option Addr) (c1 c2' : Nat) (w : World) (hwf : TAskWf L S) (hpw : ∀ t ∈ L, PatWf t)
    (h1 : Rep w (fun _ => True) (.lst 3 (L.map encP)) [.slice A1 L.length c1]) (h2 : Rep w (fun _ => True) (.lst 1 (S.map .str)) [.slice A2' S.length c2']) (ht : Tabs w) :
    Calls Tryd.prog 5 #[.agg #[.slice A1 L.length c1, .slice A2' S.length c2']] w fun e w' => e = .returned (.bool true) ∧ Below w.heap.size w w' := by
  have hhv := fun W h1 h2 => heavy6_any L S A1 A2' c1 c2' W hwf h1 h2
  obtain ⟨hL, hS, _⟩ := hwf
  unfold reachBytes at hL hS
  have HPW := Lib.hid hpw
  obtain ⟨n, hn⟩ : ∃ n, Hid (L.length = n) := ⟨_, Lib.hid rfl⟩
  obtain ⟨sn, hsn⟩ : ∃ s, Hid (S.length = s) := ⟨_, Lib.hid rfl⟩
  rw [hn.out] at hL h1 hhv ⊢
  rw [hsn.out] at hS h2 hhv ⊢
  have H1 := Lib.hid h1
  have H2 := Lib.hid h2
  have HT := Lib.hid ht
  clear h1 h2 ht hpw
  have hb0 := below_alloc w (.cells #[.slice A1 n c1, .slice A2' sn c2'] 52)
  have hbox : BlkIs (w.alloc (.cells #[.slice A1 n c1, .slice A2' sn c2'] 52)) w.heap.size 52 #[.slice A1 n c1, .slice A2' sn c2'] := BlkIs.fresh _ _ _
  have cn := fun (x : Int) W => num6_any x W
  go_enter Tryd.func5, Tryd.ntmps5
  go_wp2_with fail
  refine (hhv _ (H1.out.below hb0) (H2.out.below hb0)).mono ?_
  rintro e wh ⟨b, rfl, hsm, hbh⟩
  have hbw := hb0.trans (hbh.mono (by simp))
  have hbx2 := hbox.below hbh hbox.lt
  clear hhv hbox
  cases b
  case true =>
    go_wp2_with fail
    go_ret
    exact ⟨rfl, hbw⟩
  case false =>
    have HSM := Lib.hid (hsm rfl)
    clear hsm
    go_wp2_with fail
    go_loopw [3] (fun i wr => ∃ k : Nat, k ≤ n ∧ i = .int .i64 k ∧ Below w.heap.size w wr ∧ BlkIs wr w.heap.size 52 #[.slice A1 n c1, .slice A2' sn c2']) (fun i _ => n - (intOf i).toNat)
    case atStart => exact ⟨0, by omega, rfl, hbw, hbx2⟩
    case round =>
      obtain ⟨k, hk, rfl, hb, hbk⟩ := hrel
      obtain ⟨wo, rfl⟩ : ∃ wo : World, wo = wr := ⟨_, rfl⟩
      clear hbx2 hbw hbh
      have hbz0 := hbk.lt
      have hc0 : wo.cell? ⟨w.heap.size, 0, none⟩ = some (.slice A1 n c1) := hbk.cell 0
      by_cases hlt : k < n ∧ k < 8
      · obtain ⟨hlt, hk8⟩ := hlt
        have hkl : k < L.length := by rw [hn.out]; exact hlt
        obtain ⟨g, off, B, c, rfl, _, hg, ⟨a0, a1, a2⟩, hpi⟩ := pats_at (H1.out.below hb) k hkl
        have hqw := HPW.out _ (List.getElem_mem hkl)
        have hqs := HSM.out _ (List.getElem_mem hkl)
        obtain ⟨q, hq⟩ : ∃ q, Hid (L[k] = q) := ⟨_, Lib.hid rfl⟩
        rw [hq.out] at a0 a1 a2 hpi hqw hqs
        have HL : Hid (PatIn wo B c q) := Lib.hid ⟨_, hpi⟩
        clear hpi
        have d0 := fun W h => copyTree_any q hqs B c W h
        have d1 := fun A c W h => tsize_any q A c W h
        have d2 := fun A c W h => tpure_any q A c W h
        have d3 := fun A c W h => teval_any q A c W h hqw
        have d4 := fun A c W h => mayTR_any q A c W h
        have d5 := fun A c W h => tcheck_any q A c W h
        have d6 := fun A B c d W h h2 => eqTree_any q q A B c d W h h2
        have d7 := fun A c W h => pureR_any q A c W h
        have d8 := fun A c W h h1 h2 => evalR_any q A c W h hqw h1 h2
        rw [same_self] at d6
        obtain ⟨N, hN⟩ : ∃ N : Nat, Hid (patN q = N) := ⟨_, Lib.hid rfl⟩
        obtain ⟨V, hV⟩ : ∃ V, Hid (valT q = V) := ⟨_, Lib.hid rfl⟩
        unfold sizeA at d1
        unfold pureA at d2
        unfold evalA pureA at d3
        unfold FitTPost at d4
        rw [hN.out] at d1
        rw [hV.out] at d3 d8
        cases hmay : mayT q
        · rw [hmay] at d1 d2 d3 d4 d5
          clear hmay d7 d8 hqw hqs
          simp only [Bool.false_and, errT] at d1 d2 d3 d5
          go_wp2_with fail
          refine (d0 _ HL.out).mono ?_
          rintro e w1 ⟨A2, c2, rfl, hr1, hc1⟩
          have hbk1 := hc1.size
          have HP2 : Hid (PatIn w1 A2 c2 q) := Lib.hid ⟨_, hr1⟩
          clear hr1
          have hxi : BlkIs (w1.alloc (.cells #[.int .i64 q.op, .int .i64 q.nt, .slice A2 q.kids.length c2] 55)) w1.heap.size 55 #[.int .i64 q.op, .int .i64 q.nt, .slice A2 q.kids.length c2] := BlkIs.fresh _ _ _
          have hbi := hc1.trans ((below_alloc w1 (.cells #[.int .i64 q.op, .int .i64 q.nt, .slice A2 q.kids.length c2] 55)).mono hbk1)
          have hb1i := below_alloc w1 (.cells #[.int .i64 q.op, .int .i64 q.nt, .slice A2 q.kids.length c2] 55)
          have xi0 := trivial
          have xi1 := trivial
          have xi2 := trivial
          have qi := trivial
          have ai0 := trivial
          have ai1 := trivial
          have ai2 := trivial
          go_wp2_with fail
          refine (d1 _ _ _ (HP2.out.below hb1i)).mono ?_
          rintro e w3 ⟨rfl, hc3⟩
          have hbs := hbi.trans (hc3.mono hbi.size)
          have hb1s := hb1i.trans (hc3.mono hb1i.size)
          have hxs := hxi.below hc3 hxi.lt
          have xs0 : w3.cell? ⟨w1.heap.size, 0, none⟩ = some (.int .i64 q.op) := hxs.cell 0
          have xs1 : w3.cell? ⟨w1.heap.size, 1, none⟩ = some (.int .i64 q.nt) := hxs.cell 1
          have xs2 : w3.cell? ⟨w1.heap.size, 2, none⟩ = some (.slice A2 q.kids.length c2) := hxs.cell 2
          have qs : w3.cell? ⟨w.heap.size, 0, none⟩ = some (.slice (some ⟨g, off, none⟩) n c1) := (hbs.cell (p := ⟨w.heap.size, 0, none⟩) hbz0).trans hc0
          have as0 := (hbs.cell (p := ⟨g, off + k * 3, none⟩) hg).trans a0
          have as1 := (hbs.cell (p := ⟨g, off + k * 3 + 1, none⟩) hg).trans a1
          have as2 := (hbs.cell (p := ⟨g, off + k * 3 + 2, none⟩) hg).trans a2
          clear xi0 xi1 xi2 qi ai0 ai1 ai2
          go_wp2_with fail
          refine (d2 _ _ _ (HP2.out.below hb1s)).mono ?_
          rintro e w4 ⟨rfl, hc4⟩
          have hbt := hbs.trans (hc4.mono hbs.size)
          have hb1t := hb1s.trans (hc4.mono hb1s.size)
          have hxt := hxs.below hc4 hxs.lt
          have xt0 : w4.cell? ⟨w1.heap.size, 0, none⟩ = some (.int .i64 q.op) := hxt.cell 0
          have xt1 : w4.cell? ⟨w1.heap.size, 1, none⟩ = some (.int .i64 q.nt) := hxt.cell 1
          have xt2 : w4.cell? ⟨w1.heap.size, 2, none⟩ = some (.slice A2 q.kids.length c2) := hxt.cell 2
          have qt : w4.cell? ⟨w.heap.size, 0, none⟩ = some (.slice (some ⟨g, off, none⟩) n c1) := (hbt.cell (p := ⟨w.heap.size, 0, none⟩) hbz0).trans hc0
          have at0 := (hbt.cell (p := ⟨g, off + k * 3, none⟩) hg).trans a0
          have at1 := (hbt.cell (p := ⟨g, off + k * 3 + 1, none⟩) hg).trans a1
          have at2 := (hbt.cell (p := ⟨g, off + k * 3 + 2, none⟩) hg).trans a2
          clear xs0 xs1 xs2 qs as0 as1 as2
          go_wp2_with fail
          refine (d3 _ _ _ (HP2.out.below hb1t)).mono ?_
          rintro e w5 ⟨rfl, hc5⟩
          have hbu := hbt.trans (hc5.mono hbt.size)
          have hb1u := hb1t.trans (hc5.mono hb1t.size)
          have hxu := hxt.below hc5 hxt.lt
          have xu0 : w5.cell? ⟨w1.heap.size, 0, none⟩ = some (.int .i64 q.op) := hxu.cell 0
          have xu1 : w5.cell? ⟨w1.heap.size, 1, none⟩ = some (.int .i64 q.nt) := hxu.cell 1
          have xu2 : w5.cell? ⟨w1.heap.size, 2, none⟩ = some (.slice A2 q.kids.length c2) := hxu.cell 2
          have qu : w5.cell? ⟨w.heap.size, 0, none⟩ = some (.slice (some ⟨g, off, none⟩) n c1) := (hbu.cell (p := ⟨w.heap.size, 0, none⟩) hbz0).trans hc0
          have au0 := (hbu.cell (p := ⟨g, off + k * 3, none⟩) hg).trans a0
          have au1 := (hbu.cell (p := ⟨g, off + k * 3 + 1, none⟩) hg).trans a1
          have au2 := (hbu.cell (p := ⟨g, off + k * 3 + 2, none⟩) hg).trans a2
          clear xt0 xt1 xt2 qt at0 at1 at2
          go_wp2_with fail
          refine (d4 _ _ _ (HL.out.below hbu)).mono ?_
          rintro e w6 ⟨m, rfl, _, hc6⟩
          have hbv := hbu.trans (hc6.mono hbu.size)
          have hb1v := hb1u.trans (hc6.mono hb1u.size)
          have hxv := hxu.below hc6 hxu.lt
          have xv0 : w6.cell? ⟨w1.heap.size, 0, none⟩ = some (.int .i64 q.op) := hxv.cell 0
          have xv1 : w6.cell? ⟨w1.heap.size, 1, none⟩ = some (.int .i64 q.nt) := hxv.cell 1
          have xv2 : w6.cell? ⟨w1.heap.size, 2, none⟩ = some (.slice A2 q.kids.length c2) := hxv.cell 2
          have qv : w6.cell? ⟨w.heap.size, 0, none⟩ = some (.slice (some ⟨g, off, none⟩) n c1) := (hbv.cell (p := ⟨w.heap.size, 0, none⟩) hbz0).trans hc0
          have av0 := (hbv.cell (p := ⟨g, off + k * 3, none⟩) hg).trans a0
          have av1 := (hbv.cell (p := ⟨g, off + k * 3 + 1, none⟩) hg).trans a1
          have av2 := (hbv.cell (p := ⟨g, off + k * 3 + 2, none⟩) hg).trans a2
          clear xu0 xu1 xu2 qu au0 au1 au2
          go_upto_region 17 with fail
          obtain ⟨wz, rfl⟩ : ∃ wz : World, wz = w6 := ⟨_, rfl⟩
          have hbz := hbv
          have hb1z := hb1v
          have hxz := hxv
          have qz := qv
          have az0 := av0
          have az1 := av1
          have az2 := av2
          have hsz := hbz.size
          clear hbv hb1v hxv qv av0 av1 av2 xv0 xv1 xv2
          refine beginH (fun W' => Below wz.heap.size wz W') (by kernel_rfl) ((Below.refl _ _).drew) (fun hHeld => ?_)
          refine takeH (i := 0) (d := some 74) (v := .agg #[.int .i64 q.op, .int .i64 q.nt, .slice A2 q.kids.length c2]) (by kernel_rfl) rfl rfl rfl (fun _ _ _ h => h) hHeld (fun W hSw => by exact exec_load_row rfl rfl (hxz.below hSw hxz.lt) Tryd.underlying55 rfl (by kernel_rfl)) ?_
          simp only [Act.put, List.setIfInBounds_toArray, List.set_cons_zero, List.set_cons_succ]
          refine takeH (i := 3) (d := some 77) (v := .int .i64 1) (by kernel_rfl) rfl rfl rfl (fun _ _ _ h => h) hHeld (fun W hSw => by go_simp) ?_
          simp only [Act.put, List.setIfInBounds_toArray, List.set_cons_zero, List.set_cons_succ]
          refine onlyH (i := 1) (d := some 75) (by kernel_rfl) rfl rfl rfl (fun K' hK => ?_)
          refine wp_go_call 30 _ _ rfl #[.agg #[.int .i64 q.op, .int .i64 q.nt, .slice A2 q.kids.length c2]] rfl (fun W' => by go_simp) (d5 _ _ _ (HP2.out.below (hb1z.trans (hHeld.mono hb1z.size)))) (fun e wg he => ?_)
          obtain ⟨rfl, hbg⟩ := he
          refine ⟨_, rfl, hK.out _ _ (hHeld.trans (hbg.mono hHeld.size)) (fun hHeld => ?_)⟩
          simp only [Act.put, List.setIfInBounds_toArray, List.set_cons_zero, List.set_cons_succ]
          refine onlyH (i := 2) (d := some 76) (by kernel_rfl) rfl rfl rfl (fun K' hK => ?_)
          refine wp_go_call 29 _ _ rfl #[.int .i64 1] rfl (fun W' => by go_simp) (cn 1 _) (fun e wg he => ?_)
          obtain ⟨rfl, rfl⟩ := he
          refine ⟨_, rfl, hK.out _ _ (hHeld) (fun hHeld => ?_)⟩
          simp only [Act.put, List.setIfInBounds_toArray, List.set_cons_zero, List.set_cons_succ]
          refine takeH (i := 4) (d := some 78) (v := .bool false) (by kernel_rfl) rfl rfl rfl (fun _ _ _ h => h) hHeld (fun W hSw => by go_simp) ?_
          simp only [Act.put, List.setIfInBounds_toArray, List.set_cons_zero, List.set_cons_succ]
          refine takeH (i := 5) (d := some 79) (v := .bool false) (by kernel_rfl) rfl rfl rfl (fun _ _ _ h => h) hHeld (fun W hSw => by go_simp) ?_
          simp only [Act.put, List.setIfInBounds_toArray, List.set_cons_zero, List.set_cons_succ]
          refine takeH (i := 6) (d := some 80) (v := .int .i64 1) (by kernel_rfl) rfl rfl rfl (fun _ _ _ h => h) hHeld (fun W hSw => by go_simp) ?_
          simp only [Act.put, List.setIfInBounds_toArray, List.set_cons_zero, List.set_cons_succ]
          refine takeH (i := 8) (d := some 82) (v := .int .i64 1) (by kernel_rfl) rfl rfl rfl (fun _ _ _ h => h) hHeld (fun W hSw => by go_simp) ?_
          simp only [Act.put, List.setIfInBounds_toArray, List.set_cons_zero, List.set_cons_succ]
          refine onlyH (i := 7) (d := some 81) (by kernel_rfl) rfl rfl rfl (fun K' hK => ?_)
          refine wp_go_call 29 _ _ rfl #[.int .i64 1] rfl (fun W' => by go_simp) (cn 1 _) (fun e wg he => ?_)
          obtain ⟨rfl, rfl⟩ := he
          refine ⟨_, rfl, hK.out _ _ (hHeld) (fun hHeld => ?_)⟩
          simp only [Act.put, List.setIfInBounds_toArray, List.set_cons_zero, List.set_cons_succ]
          refine takeH (i := 9) (d := some 83) (v := .bool false) (by kernel_rfl) rfl rfl rfl (fun _ _ _ h => h) hHeld (fun W hSw => by go_simp) ?_
          simp only [Act.put, List.setIfInBounds_toArray, List.set_cons_zero, List.set_cons_succ]
          refine takeH (i := 10) (d := some 84) (v := .bool false) (by kernel_rfl) rfl rfl rfl (fun _ _ _ h => h) hHeld (fun W hSw => by go_simp) ?_
          simp only [Act.put, List.setIfInBounds_toArray, List.set_cons_zero, List.set_cons_succ]
          refine takeH (i := 11) (d := some 85) (v := .bool false) (by kernel_rfl) rfl rfl rfl (fun _ _ _ h => h) hHeld (fun W hSw => by go_simp) ?_
          simp only [Act.put, List.setIfInBounds_toArray, List.set_cons_zero, List.set_cons_succ]
          refine takeH (i := 12) (d := some 86) (v := .int .i64 0) (by kernel_rfl) rfl rfl rfl (fun _ _ _ h => h) hHeld (fun W hSw => by go_simp) ?_
          simp only [Act.put, List.setIfInBounds_toArray, List.set_cons_zero, List.set_cons_succ]
          refine takeH (i := 13) (d := some 87) (v := .int .i64 0) (by kernel_rfl) rfl rfl rfl (fun _ _ _ h => h) hHeld (fun W hSw => by go_simp) ?_
          simp only [Act.put, List.setIfInBounds_toArray, List.set_cons_zero, List.set_cons_succ]
          refine takeH (i := 14) (d := some 88) (v := .bool false) (by kernel_rfl) rfl rfl rfl (fun _ _ _ h => h) hHeld (fun W hSw => by go_simp) ?_
          simp only [Act.put, List.setIfInBounds_toArray, List.set_cons_zero, List.set_cons_succ]
          refine takeH (i := 15) (d := some 89) (v := .bool false) (by kernel_rfl) rfl rfl rfl (fun _ _ _ h => h) hHeld (fun W hSw => by go_simp) ?_
          simp only [Act.put, List.setIfInBounds_toArray, List.set_cons_zero, List.set_cons_succ]
          refine takeH (i := 16) (d := some 90) (v := .bool false) (by kernel_rfl) rfl rfl rfl (fun _ _ _ h => h) hHeld (fun W hSw => by go_simp) ?_
          simp only [Act.put, List.setIfInBounds_toArray, List.set_cons_zero, List.set_cons_succ]
          refine takeH (i := 17) (d := some 91) (v := .int .i64 1) (by kernel_rfl) rfl rfl rfl (fun _ _ _ h => h) hHeld (fun W hSw => by go_simp) ?_
          simp only [Act.put, List.setIfInBounds_toArray, List.set_cons_zero, List.set_cons_succ]
          refine takeH (i := 19) (d := some 93) (v := .int .i64 1) (by kernel_rfl) rfl rfl rfl (fun _ _ _ h => h) hHeld (fun W hSw => by go_simp) ?_
          simp only [Act.put, List.setIfInBounds_toArray, List.set_cons_zero, List.set_cons_succ]
          refine onlyH (i := 18) (d := some 92) (by kernel_rfl) rfl rfl rfl (fun K' hK => ?_)
          refine wp_go_call 29 _ _ rfl #[.int .i64 1] rfl (fun W' => by go_simp) (cn 1 _) (fun e wg he => ?_)
          obtain ⟨rfl, rfl⟩ := he
          refine ⟨_, rfl, hK.out _ _ (hHeld) (fun hHeld => ?_)⟩
          simp only [Act.put, List.setIfInBounds_toArray, List.set_cons_zero, List.set_cons_succ]
          refine takeH (i := 20) (d := some 94) (v := .bool false) (by kernel_rfl) rfl rfl rfl (fun _ _ _ h => h) hHeld (fun W hSw => by go_simp) ?_
          simp only [Act.put, List.setIfInBounds_toArray, List.set_cons_zero, List.set_cons_succ]
          refine takeH (i := 21) (d := some 95) (v := .bool false) (by kernel_rfl) rfl rfl rfl (fun _ _ _ h => h) hHeld (fun W hSw => by go_simp) ?_
          simp only [Act.put, List.setIfInBounds_toArray, List.set_cons_zero, List.set_cons_succ]
          refine takeH (i := 22) (d := some 96) (v := .bool false) (by kernel_rfl) rfl rfl rfl (fun _ _ _ h => h) hHeld (fun W hSw => by go_simp) ?_
          simp only [Act.put, List.setIfInBounds_toArray, List.set_cons_zero, List.set_cons_succ]
          refine takeH (i := 23) (d := some 97) (v := .bool false) (by kernel_rfl) rfl rfl rfl (fun _ _ _ h => h) hHeld (fun W hSw => by go_simp) ?_
          simp only [Act.put, List.setIfInBounds_toArray, List.set_cons_zero, List.set_cons_succ]
          refine takeH (i := 24) (d := some 98) (v := .bool false) (by kernel_rfl) rfl rfl rfl (fun _ _ _ h => h) hHeld (fun W hSw => by go_simp) ?_
          simp only [Act.put, List.setIfInBounds_toArray, List.set_cons_zero, List.set_cons_succ]
          refine takeH (i := 25) (d := some 99) (v := .bool false) (by kernel_rfl) rfl rfl rfl (fun _ _ _ h => h) hHeld (fun W hSw => by go_simp) ?_
          simp only [Act.put, List.setIfInBounds_toArray, List.set_cons_zero, List.set_cons_succ]
          refine takeH (i := 26) (d := some 100) (v := .bool false) (by kernel_rfl) rfl rfl rfl (fun _ _ _ h => h) hHeld (fun W hSw => by go_simp) ?_
          simp only [Act.put, List.setIfInBounds_toArray, List.set_cons_zero, List.set_cons_succ]
          refine takeH (i := 27) (d := some 101) (v := .bool false) (by kernel_rfl) rfl rfl rfl (fun _ _ _ h => h) hHeld (fun W hSw => by go_simp) ?_
          simp only [Act.put, List.setIfInBounds_toArray, List.set_cons_zero, List.set_cons_succ]
          refine takeH (i := 28) (d := some 102) (v := .int .i64 1) (by kernel_rfl) rfl rfl rfl (fun _ _ _ h => h) hHeld (fun W hSw => by go_simp) ?_
          simp only [Act.put, List.setIfInBounds_toArray, List.set_cons_zero, List.set_cons_succ]
          refine takeH (i := 30) (d := some 104) (v := .int .i64 1) (by kernel_rfl) rfl rfl rfl (fun _ _ _ h => h) hHeld (fun W hSw => by go_simp) ?_
          simp only [Act.put, List.setIfInBounds_toArray, List.set_cons_zero, List.set_cons_succ]
          refine onlyH (i := 29) (d := some 103) (by kernel_rfl) rfl rfl rfl (fun K' hK => ?_)
          refine wp_go_call 29 _ _ rfl #[.int .i64 1] rfl (fun W' => by go_simp) (cn 1 _) (fun e wg he => ?_)
          obtain ⟨rfl, rfl⟩ := he
          refine ⟨_, rfl, hK.out _ _ (hHeld) (fun hHeld => ?_)⟩
          simp only [Act.put, List.setIfInBounds_toArray, List.set_cons_zero, List.set_cons_succ]
          refine takeH (i := 31) (d := some 105) (v := .bool false) (by kernel_rfl) rfl rfl rfl (fun _ _ _ h => h) hHeld (fun W hSw => by go_simp) ?_
          simp only [Act.put, List.setIfInBounds_toArray, List.set_cons_zero, List.set_cons_succ]
          refine takeH (i := 32) (d := some 106) (v := .bool false) (by kernel_rfl) rfl rfl rfl (fun _ _ _ h => h) hHeld (fun W hSw => by go_simp) ?_
          simp only [Act.put, List.setIfInBounds_toArray, List.set_cons_zero, List.set_cons_succ]
          refine takeH (i := 33) (d := some 107) (v := .bool false) (by kernel_rfl) rfl rfl rfl (fun _ _ _ h => h) hHeld (fun W hSw => by go_simp) ?_
          simp only [Act.put, List.setIfInBounds_toArray, List.set_cons_zero, List.set_cons_succ]
          refine takeH (i := 34) (d := some 108) (v := .int .i64 0) (by kernel_rfl) rfl rfl rfl (fun _ _ _ h => h) hHeld (fun W hSw => by go_simp) ?_
          simp only [Act.put, List.setIfInBounds_toArray, List.set_cons_zero, List.set_cons_succ]
          refine takeH (i := 35) (d := some 109) (v := .int .i64 0) (by kernel_rfl) rfl rfl rfl (fun _ _ _ h => h) hHeld (fun W hSw => by go_simp) ?_
          simp only [Act.put, List.setIfInBounds_toArray, List.set_cons_zero, List.set_cons_succ]
          refine takeH (i := 36) (d := some 110) (v := .bool false) (by kernel_rfl) rfl rfl rfl (fun _ _ _ h => h) hHeld (fun W hSw => by go_simp) ?_
          simp only [Act.put, List.setIfInBounds_toArray, List.set_cons_zero, List.set_cons_succ]
          refine takeH (i := 37) (d := some 111) (v := .bool false) (by kernel_rfl) rfl rfl rfl (fun _ _ _ h => h) hHeld (fun W hSw => by go_simp) ?_
          simp only [Act.put, List.setIfInBounds_toArray, List.set_cons_zero, List.set_cons_succ]
          refine takeH (i := 38) (d := some 112) (v := .bool false) (by kernel_rfl) rfl rfl rfl (fun _ _ _ h => h) hHeld (fun W hSw => by go_simp) ?_
          simp only [Act.put, List.setIfInBounds_toArray, List.set_cons_zero, List.set_cons_succ]
          refine takeH (i := 39) (d := some 113) (v := .agg #[.int .i64 q.op, .int .i64 q.nt, .slice A2 q.kids.length c2]) (by kernel_rfl) rfl rfl rfl (fun _ _ _ h => h) hHeld (fun W hSw => by exact exec_load_row rfl rfl (hxz.below hSw hxz.lt) Tryd.underlying55 rfl (by kernel_rfl)) ?_
          simp only [Act.put, List.setIfInBounds_toArray, List.set_cons_zero, List.set_cons_succ]
          refine takeH (i := 40) (d := some 114) (v := .pointer (some ⟨w.heap.size, 0, none⟩)) (by kernel_rfl) rfl rfl rfl (fun _ _ _ h => h) hHeld (fun W hSw => by go_simp) ?_
          simp only [Act.put, List.setIfInBounds_toArray, List.set_cons_zero, List.set_cons_succ]
          refine takeH (i := 41) (d := some 115) (v := .slice (some ⟨g, off, none⟩) n c1) (by kernel_rfl) rfl rfl rfl (fun _ _ _ h => h) hHeld (fun W hSw => by have x0 := (hSw.cell (p := ⟨w.heap.size, 0, none⟩) (by show w.heap.size < _; omega)).trans qz; go_simp) ?_
          simp only [Act.put, List.setIfInBounds_toArray, List.set_cons_zero, List.set_cons_succ]
          refine takeH (i := 42) (d := some 116) (v := .int .i64 k) (by kernel_rfl) rfl rfl rfl (fun _ _ _ h => h) hHeld (fun W hSw => by go_simp) ?_
          simp only [Act.put, List.setIfInBounds_toArray, List.set_cons_zero, List.set_cons_succ]
          refine takeH (i := 43) (d := some 117) (v := .pointer (some ⟨g, off + k * 3, none⟩)) (by kernel_rfl) rfl rfl rfl (fun _ _ _ h => h) hHeld (fun W hSw => by go_simp) ?_
          simp only [Act.put, List.setIfInBounds_toArray, List.set_cons_zero, List.set_cons_succ]
          refine takeH (i := 44) (d := some 118) (v := .agg #[.int .i64 q.op, .int .i64 q.nt, .slice B q.kids.length c]) (by kernel_rfl) rfl rfl rfl (fun _ _ _ h => h) hHeld (fun W hSw => by have x0 := (hSw.cell (p := ⟨g, off + k * 3, none⟩) (by show g < _; omega)).trans az0; have x1 := (hSw.cell (p := ⟨g, off + k * 3 + 1, none⟩) (by show g < _; omega)).trans az1; have x2 := (hSw.cell (p := ⟨g, off + k * 3 + 2, none⟩) (by show g < _; omega)).trans az2; go_simp) ?_
          simp only [Act.put, List.setIfInBounds_toArray, List.set_cons_zero, List.set_cons_succ]
          refine onlyH (i := 45) (d := some 119) (by kernel_rfl) rfl rfl rfl (fun K' hK => ?_)
          refine wp_go_call 31 _ _ rfl #[.agg #[.int .i64 q.op, .int .i64 q.nt, .slice A2 q.kids.length c2], .agg #[.int .i64 q.op, .int .i64 q.nt, .slice B q.kids.length c]] rfl (fun W' => by go_simp) (d6 _ _ _ _ _ (HP2.out.below (hb1z.trans (hHeld.mono hb1z.size))) (HL.out.below (hbz.trans (hHeld.mono hbz.size)))) (fun e wg he => ?_)
          obtain ⟨rfl, hbg2⟩ := he
          refine ⟨_, rfl, hK.out _ _ (hHeld.trans (hbg2.mono hHeld.size)) (fun hHeld => ?_)⟩
          simp only [Act.put, List.setIfInBounds_toArray, List.set_cons_zero, List.set_cons_succ]
          refine takeH (i := 46) (d := some 120) (v := .bool false) (by kernel_rfl) rfl rfl rfl (fun _ _ _ h => h) hHeld (fun W hSw => by go_simp) ?_
          simp only [Act.put, List.setIfInBounds_toArray, List.set_cons_zero, List.set_cons_succ]
          refine takeH (i := 47) (d := some 121) (v := .bool false) (by kernel_rfl) rfl rfl rfl (fun _ _ _ h => h) hHeld (fun W hSw => by go_simp) ?_
          simp only [Act.put, List.setIfInBounds_toArray, List.set_cons_zero, List.set_cons_succ]
          refine wpAnyH_done (by kernel_rfl) ?_ _
          go_wp2_with fail
          go_roundw
          case rel => exact ⟨k + 1, by omega, by go_num, hb.trans ((hbz.trans (hHeld.mono hbz.size)).mono hb.size), hbk.below (hbz.trans (hHeld.mono hbz.size)) hbk.lt⟩
          case measure => simp [intOf]; omega
        · have hok := (mayT_ok hmay).1
          rw [hmay] at d1 d2 d3 d4 d5
          clear hmay hqs
          cases hpl : plainT q
          · unfold PlainOk at *
            rw [hpl] at d2 d3 d7
            clear hpl hok hqw d8
            simp only [Bool.true_and, errT] at d1 d2 d3 d5
            go_wp2_with fail
            refine (d0 _ HL.out).mono ?_
            rintro e w1 ⟨A2, c2, rfl, hr1, hc1⟩
            have hbk1 := hc1.size
            have HP2 : Hid (PatIn w1 A2 c2 q) := Lib.hid ⟨_, hr1⟩
            clear hr1
            have hxi : BlkIs (w1.alloc (.cells #[.int .i64 q.op, .int .i64 q.nt, .slice A2 q.kids.length c2] 55)) w1.heap.size 55 #[.int .i64 q.op, .int .i64 q.nt, .slice A2 q.kids.length c2] := BlkIs.fresh _ _ _
            have hbi := hc1.trans ((below_alloc w1 (.cells #[.int .i64 q.op, .int .i64 q.nt, .slice A2 q.kids.length c2] 55)).mono hbk1)
            have hb1i := below_alloc w1 (.cells #[.int .i64 q.op, .int .i64 q.nt, .slice A2 q.kids.length c2] 55)
            have xi0 := trivial
            have xi1 := trivial
            have xi2 := trivial
            have qi := trivial
            have ai0 := trivial
            have ai1 := trivial
            have ai2 := trivial
            go_wp2_with fail
            refine (d1 _ _ _ (HP2.out.below hb1i)).mono ?_
            rintro e w3 ⟨rfl, hc3⟩
            have hbs := hbi.trans (hc3.mono hbi.size)
            have hb1s := hb1i.trans (hc3.mono hb1i.size)
            have hxs := hxi.below hc3 hxi.lt
            have xs0 : w3.cell? ⟨w1.heap.size, 0, none⟩ = some (.int .i64 q.op) := hxs.cell 0
            have xs1 : w3.cell? ⟨w1.heap.size, 1, none⟩ = some (.int .i64 q.nt) := hxs.cell 1
            have xs2 : w3.cell? ⟨w1.heap.size, 2, none⟩ = some (.slice A2 q.kids.length c2) := hxs.cell 2
            have qs : w3.cell? ⟨w.heap.size, 0, none⟩ = some (.slice (some ⟨g, off, none⟩) n c1) := (hbs.cell (p := ⟨w.heap.size, 0, none⟩) hbz0).trans hc0
            have as0 := (hbs.cell (p := ⟨g, off + k * 3, none⟩) hg).trans a0
            have as1 := (hbs.cell (p := ⟨g, off + k * 3 + 1, none⟩) hg).trans a1
            have as2 := (hbs.cell (p := ⟨g, off + k * 3 + 2, none⟩) hg).trans a2
            clear xi0 xi1 xi2 qi ai0 ai1 ai2
            go_wp2_with fail
            refine (d2 _ _ _ (HP2.out.below hb1s)).mono ?_
            rintro e w4 ⟨rfl, hc4⟩
            have hbt := hbs.trans (hc4.mono hbs.size)
            have hb1t := hb1s.trans (hc4.mono hb1s.size)
            have hxt := hxs.below hc4 hxs.lt
            have xt0 : w4.cell? ⟨w1.heap.size, 0, none⟩ = some (.int .i64 q.op) := hxt.cell 0
            have xt1 : w4.cell? ⟨w1.heap.size, 1, none⟩ = some (.int .i64 q.nt) := hxt.cell 1
            have xt2 : w4.cell? ⟨w1.heap.size, 2, none⟩ = some (.slice A2 q.kids.length c2) := hxt.cell 2
            have qt : w4.cell? ⟨w.heap.size, 0, none⟩ = some (.slice (some ⟨g, off, none⟩) n c1) := (hbt.cell (p := ⟨w.heap.size, 0, none⟩) hbz0).trans hc0
            have at0 := (hbt.cell (p := ⟨g, off + k * 3, none⟩) hg).trans a0
            have at1 := (hbt.cell (p := ⟨g, off + k * 3 + 1, none⟩) hg).trans a1
            have at2 := (hbt.cell (p := ⟨g, off + k * 3 + 2, none⟩) hg).trans a2
            clear xs0 xs1 xs2 qs as0 as1 as2
            go_wp2_with fail
            refine (d3 _ _ _ (HP2.out.below hb1t)).mono ?_
            rintro e w5 ⟨rfl, hc5⟩
            have hbu := hbt.trans (hc5.mono hbt.size)
            have hb1u := hb1t.trans (hc5.mono hb1t.size)
            have hxu := hxt.below hc5 hxt.lt
            have xu0 : w5.cell? ⟨w1.heap.size, 0, none⟩ = some (.int .i64 q.op) := hxu.cell 0
            have xu1 : w5.cell? ⟨w1.heap.size, 1, none⟩ = some (.int .i64 q.nt) := hxu.cell 1
            have xu2 : w5.cell? ⟨w1.heap.size, 2, none⟩ = some (.slice A2 q.kids.length c2) := hxu.cell 2
            have qu : w5.cell? ⟨w.heap.size, 0, none⟩ = some (.slice (some ⟨g, off, none⟩) n c1) := (hbu.cell (p := ⟨w.heap.size, 0, none⟩) hbz0).trans hc0
            have au0 := (hbu.cell (p := ⟨g, off + k * 3, none⟩) hg).trans a0
            have au1 := (hbu.cell (p := ⟨g, off + k * 3 + 1, none⟩) hg).trans a1
            have au2 := (hbu.cell (p := ⟨g, off + k * 3 + 2, none⟩) hg).trans a2
            clear xt0 xt1 xt2 qt at0 at1 at2
            go_wp2_with fail
            refine (d4 _ _ _ (HL.out.below hbu)).mono ?_
            rintro e w6 ⟨m, rfl, hm, hc6⟩
            obtain rfl : m = N := by have := hm trivial; rw [hN.out] at this; omega
            clear hm
            have hbv := hbu.trans (hc6.mono hbu.size)
            have hb1v := hb1u.trans (hc6.mono hb1u.size)
            have hxv := hxu.below hc6 hxu.lt
            have xv0 : w6.cell? ⟨w1.heap.size, 0, none⟩ = some (.int .i64 q.op) := hxv.cell 0
            have xv1 : w6.cell? ⟨w1.heap.size, 1, none⟩ = some (.int .i64 q.nt) := hxv.cell 1
            have xv2 : w6.cell? ⟨w1.heap.size, 2, none⟩ = some (.slice A2 q.kids.length c2) := hxv.cell 2
            have qv : w6.cell? ⟨w.heap.size, 0, none⟩ = some (.slice (some ⟨g, off, none⟩) n c1) := (hbv.cell (p := ⟨w.heap.size, 0, none⟩) hbz0).trans hc0
            have av0 := (hbv.cell (p := ⟨g, off + k * 3, none⟩) hg).trans a0
            have av1 := (hbv.cell (p := ⟨g, off + k * 3 + 1, none⟩) hg).trans a1
            have av2 := (hbv.cell (p := ⟨g, off + k * 3 + 2, none⟩) hg).trans a2
            clear xu0 xu1 xu2 qu au0 au1 au2
            go_wp2_with fail
            refine (d7 _ _ _ (HL.out.below hbv)).mono ?_
            rintro e w7 ⟨rfl, hc7⟩
            have hbr := hbv.trans (hc7.mono hbv.size)
            have hb1r := hb1v.trans (hc7.mono hb1v.size)
            have hxr := hxv.below hc7 hxv.lt
            have xr0 : w7.cell? ⟨w1.heap.size, 0, none⟩ = some (.int .i64 q.op) := hxr.cell 0
            have xr1 : w7.cell? ⟨w1.heap.size, 1, none⟩ = some (.int .i64 q.nt) := hxr.cell 1
            have xr2 : w7.cell? ⟨w1.heap.size, 2, none⟩ = some (.slice A2 q.kids.length c2) := hxr.cell 2
            have qr : w7.cell? ⟨w.heap.size, 0, none⟩ = some (.slice (some ⟨g, off, none⟩) n c1) := (hbr.cell (p := ⟨w.heap.size, 0, none⟩) hbz0).trans hc0
            have ar0 := (hbr.cell (p := ⟨g, off + k * 3, none⟩) hg).trans a0
            have ar1 := (hbr.cell (p := ⟨g, off + k * 3 + 1, none⟩) hg).trans a1
            have ar2 := (hbr.cell (p := ⟨g, off + k * 3 + 2, none⟩) hg).trans a2
            clear xv0 xv1 xv2 qv av0 av1 av2
            go_upto_region 17 with fail
            obtain ⟨wz, rfl⟩ : ∃ wz : World, wz = w7 := ⟨_, rfl⟩
            have hbz := hbr
            have hb1z := hb1r
            have hxz := hxr
            have qz := qr
            have az0 := ar0
            have az1 := ar1
            have az2 := ar2
            have hsz := hbz.size
            clear hbr hb1r hxr qr ar0 ar1 ar2 xr0 xr1 xr2
            refine beginH (fun W' => Below wz.heap.size wz W') (by kernel_rfl) ((Below.refl _ _).drew) (fun hHeld => ?_)
            refine takeH (i := 0) (d := some 74) (v := .agg #[.int .i64 q.op, .int .i64 q.nt, .slice A2 q.kids.length c2]) (by kernel_rfl) rfl rfl rfl (fun _ _ _ h => h) hHeld (fun W hSw => by exact exec_load_row rfl rfl (hxz.below hSw hxz.lt) Tryd.underlying55 rfl (by kernel_rfl)) ?_
            simp only [Act.put, List.setIfInBounds_toArray, List.set_cons_zero, List.set_cons_succ]
            refine takeH (i := 3) (d := some 77) (v := .int .i64 0) (by kernel_rfl) rfl rfl rfl (fun _ _ _ h => h) hHeld (fun W hSw => by go_simp) ?_
            simp only [Act.put, List.setIfInBounds_toArray, List.set_cons_zero, List.set_cons_succ]
            refine onlyH (i := 1) (d := some 75) (by kernel_rfl) rfl rfl rfl (fun K' hK => ?_)
            refine wp_go_call 30 _ _ rfl #[.agg #[.int .i64 q.op, .int .i64 q.nt, .slice A2 q.kids.length c2]] rfl (fun W' => by go_simp) (d5 _ _ _ (HP2.out.below (hb1z.trans (hHeld.mono hb1z.size)))) (fun e wg he => ?_)
            obtain ⟨rfl, hbg⟩ := he
            refine ⟨_, rfl, hK.out _ _ (hHeld.trans (hbg.mono hHeld.size)) (fun hHeld => ?_)⟩
            simp only [Act.put, List.setIfInBounds_toArray, List.set_cons_zero, List.set_cons_succ]
            refine onlyH (i := 2) (d := some 76) (by kernel_rfl) rfl rfl rfl (fun K' hK => ?_)
            refine wp_go_call 29 _ _ rfl #[.int .i64 0] rfl (fun W' => by go_simp) (cn 0 _) (fun e wg he => ?_)
            obtain ⟨rfl, rfl⟩ := he
            refine ⟨_, rfl, hK.out _ _ (hHeld) (fun hHeld => ?_)⟩
            simp only [Act.put, List.setIfInBounds_toArray, List.set_cons_zero, List.set_cons_succ]
            refine takeH (i := 4) (d := some 78) (v := .bool false) (by kernel_rfl) rfl rfl rfl (fun _ _ _ h => h) hHeld (fun W hSw => by go_simp) ?_
            simp only [Act.put, List.setIfInBounds_toArray, List.set_cons_zero, List.set_cons_succ]
            refine takeH (i := 5) (d := some 79) (v := .bool false) (by kernel_rfl) rfl rfl rfl (fun _ _ _ h => h) hHeld (fun W hSw => by go_simp) ?_
            simp only [Act.put, List.setIfInBounds_toArray, List.set_cons_zero, List.set_cons_succ]
            refine takeH (i := 6) (d := some 80) (v := .int .i64 0) (by kernel_rfl) rfl rfl rfl (fun _ _ _ h => h) hHeld (fun W hSw => by go_simp) ?_
            simp only [Act.put, List.setIfInBounds_toArray, List.set_cons_zero, List.set_cons_succ]
            refine takeH (i := 8) (d := some 82) (v := .int .i64 0) (by kernel_rfl) rfl rfl rfl (fun _ _ _ h => h) hHeld (fun W hSw => by go_simp) ?_
            simp only [Act.put, List.setIfInBounds_toArray, List.set_cons_zero, List.set_cons_succ]
            refine onlyH (i := 7) (d := some 81) (by kernel_rfl) rfl rfl rfl (fun K' hK => ?_)
            refine wp_go_call 29 _ _ rfl #[.int .i64 0] rfl (fun W' => by go_simp) (cn 0 _) (fun e wg he => ?_)
            obtain ⟨rfl, rfl⟩ := he
            refine ⟨_, rfl, hK.out _ _ (hHeld) (fun hHeld => ?_)⟩
            simp only [Act.put, List.setIfInBounds_toArray, List.set_cons_zero, List.set_cons_succ]
            refine takeH (i := 9) (d := some 83) (v := .bool false) (by kernel_rfl) rfl rfl rfl (fun _ _ _ h => h) hHeld (fun W hSw => by go_simp) ?_
            simp only [Act.put, List.setIfInBounds_toArray, List.set_cons_zero, List.set_cons_succ]
            refine takeH (i := 10) (d := some 84) (v := .bool false) (by kernel_rfl) rfl rfl rfl (fun _ _ _ h => h) hHeld (fun W hSw => by go_simp) ?_
            simp only [Act.put, List.setIfInBounds_toArray, List.set_cons_zero, List.set_cons_succ]
            refine takeH (i := 11) (d := some 85) (v := .bool false) (by kernel_rfl) rfl rfl rfl (fun _ _ _ h => h) hHeld (fun W hSw => by go_simp) ?_
            simp only [Act.put, List.setIfInBounds_toArray, List.set_cons_zero, List.set_cons_succ]
            refine takeH (i := 12) (d := some 86) (v := .int .i64 N) (by kernel_rfl) rfl rfl rfl (fun _ _ _ h => h) hHeld (fun W hSw => by go_simp) ?_
            simp only [Act.put, List.setIfInBounds_toArray, List.set_cons_zero, List.set_cons_succ]
            refine takeH (i := 13) (d := some 87) (v := .int .i64 N) (by kernel_rfl) rfl rfl rfl (fun _ _ _ h => h) hHeld (fun W hSw => by go_simp) ?_
            simp only [Act.put, List.setIfInBounds_toArray, List.set_cons_zero, List.set_cons_succ]
            refine takeH (i := 14) (d := some 88) (v := .bool false) (by kernel_rfl) rfl rfl rfl (fun _ _ _ h => h) hHeld (fun W hSw => by go_simp) ?_
            simp only [Act.put, List.setIfInBounds_toArray, List.set_cons_zero, List.set_cons_succ]
            refine takeH (i := 15) (d := some 89) (v := .bool false) (by kernel_rfl) rfl rfl rfl (fun _ _ _ h => h) hHeld (fun W hSw => by go_simp) ?_
            simp only [Act.put, List.setIfInBounds_toArray, List.set_cons_zero, List.set_cons_succ]
            refine takeH (i := 16) (d := some 90) (v := .bool false) (by kernel_rfl) rfl rfl rfl (fun _ _ _ h => h) hHeld (fun W hSw => by go_simp) ?_
            simp only [Act.put, List.setIfInBounds_toArray, List.set_cons_zero, List.set_cons_succ]
            refine takeH (i := 17) (d := some 91) (v := .int .i64 0) (by kernel_rfl) rfl rfl rfl (fun _ _ _ h => h) hHeld (fun W hSw => by go_simp) ?_
            simp only [Act.put, List.setIfInBounds_toArray, List.set_cons_zero, List.set_cons_succ]
            refine takeH (i := 19) (d := some 93) (v := .int .i64 0) (by kernel_rfl) rfl rfl rfl (fun _ _ _ h => h) hHeld (fun W hSw => by go_simp) ?_
            simp only [Act.put, List.setIfInBounds_toArray, List.set_cons_zero, List.set_cons_succ]
            refine onlyH (i := 18) (d := some 92) (by kernel_rfl) rfl rfl rfl (fun K' hK => ?_)
            refine wp_go_call 29 _ _ rfl #[.int .i64 0] rfl (fun W' => by go_simp) (cn 0 _) (fun e wg he => ?_)
            obtain ⟨rfl, rfl⟩ := he
            refine ⟨_, rfl, hK.out _ _ (hHeld) (fun hHeld => ?_)⟩
            simp only [Act.put, List.setIfInBounds_toArray, List.set_cons_zero, List.set_cons_succ]
            refine takeH (i := 20) (d := some 94) (v := .bool false) (by kernel_rfl) rfl rfl rfl (fun _ _ _ h => h) hHeld (fun W hSw => by go_simp) ?_
            simp only [Act.put, List.setIfInBounds_toArray, List.set_cons_zero, List.set_cons_succ]
            refine takeH (i := 21) (d := some 95) (v := .bool false) (by kernel_rfl) rfl rfl rfl (fun _ _ _ h => h) hHeld (fun W hSw => by go_simp) ?_
            simp only [Act.put, List.setIfInBounds_toArray, List.set_cons_zero, List.set_cons_succ]
            refine takeH (i := 22) (d := some 96) (v := .bool false) (by kernel_rfl) rfl rfl rfl (fun _ _ _ h => h) hHeld (fun W hSw => by go_simp) ?_
            simp only [Act.put, List.setIfInBounds_toArray, List.set_cons_zero, List.set_cons_succ]
            refine takeH (i := 23) (d := some 97) (v := .bool false) (by kernel_rfl) rfl rfl rfl (fun _ _ _ h => h) hHeld (fun W hSw => by go_simp) ?_
            simp only [Act.put, List.setIfInBounds_toArray, List.set_cons_zero, List.set_cons_succ]
            refine takeH (i := 24) (d := some 98) (v := .bool false) (by kernel_rfl) rfl rfl rfl (fun _ _ _ h => h) hHeld (fun W hSw => by go_simp) ?_
            simp only [Act.put, List.setIfInBounds_toArray, List.set_cons_zero, List.set_cons_succ]
            refine takeH (i := 25) (d := some 99) (v := .bool false) (by kernel_rfl) rfl rfl rfl (fun _ _ _ h => h) hHeld (fun W hSw => by go_simp) ?_
            simp only [Act.put, List.setIfInBounds_toArray, List.set_cons_zero, List.set_cons_succ]
            refine takeH (i := 26) (d := some 100) (v := .bool false) (by kernel_rfl) rfl rfl rfl (fun _ _ _ h => h) hHeld (fun W hSw => by go_simp) ?_
            simp only [Act.put, List.setIfInBounds_toArray, List.set_cons_zero, List.set_cons_succ]
            refine takeH (i := 27) (d := some 101) (v := .bool false) (by kernel_rfl) rfl rfl rfl (fun _ _ _ h => h) hHeld (fun W hSw => by go_simp) ?_
            simp only [Act.put, List.setIfInBounds_toArray, List.set_cons_zero, List.set_cons_succ]
            refine takeH (i := 28) (d := some 102) (v := .int .i64 1) (by kernel_rfl) rfl rfl rfl (fun _ _ _ h => h) hHeld (fun W hSw => by go_simp) ?_
            simp only [Act.put, List.setIfInBounds_toArray, List.set_cons_zero, List.set_cons_succ]
            refine takeH (i := 30) (d := some 104) (v := .int .i64 1) (by kernel_rfl) rfl rfl rfl (fun _ _ _ h => h) hHeld (fun W hSw => by go_simp) ?_
            simp only [Act.put, List.setIfInBounds_toArray, List.set_cons_zero, List.set_cons_succ]
            refine onlyH (i := 29) (d := some 103) (by kernel_rfl) rfl rfl rfl (fun K' hK => ?_)
            refine wp_go_call 29 _ _ rfl #[.int .i64 1] rfl (fun W' => by go_simp) (cn 1 _) (fun e wg he => ?_)
            obtain ⟨rfl, rfl⟩ := he
            refine ⟨_, rfl, hK.out _ _ (hHeld) (fun hHeld => ?_)⟩
            simp only [Act.put, List.setIfInBounds_toArray, List.set_cons_zero, List.set_cons_succ]
            refine takeH (i := 31) (d := some 105) (v := .bool false) (by kernel_rfl) rfl rfl rfl (fun _ _ _ h => h) hHeld (fun W hSw => by go_simp) ?_
            simp only [Act.put, List.setIfInBounds_toArray, List.set_cons_zero, List.set_cons_succ]
            refine takeH (i := 32) (d := some 106) (v := .bool false) (by kernel_rfl) rfl rfl rfl (fun _ _ _ h => h) hHeld (fun W hSw => by go_simp) ?_
            simp only [Act.put, List.setIfInBounds_toArray, List.set_cons_zero, List.set_cons_succ]
            refine takeH (i := 33) (d := some 107) (v := .bool false) (by kernel_rfl) rfl rfl rfl (fun _ _ _ h => h) hHeld (fun W hSw => by go_simp) ?_
            simp only [Act.put, List.setIfInBounds_toArray, List.set_cons_zero, List.set_cons_succ]
            refine takeH (i := 34) (d := some 108) (v := .int .i64 0) (by kernel_rfl) rfl rfl rfl (fun _ _ _ h => h) hHeld (fun W hSw => by go_simp) ?_
            simp only [Act.put, List.setIfInBounds_toArray, List.set_cons_zero, List.set_cons_succ]
            refine takeH (i := 35) (d := some 109) (v := .int .i64 0) (by kernel_rfl) rfl rfl rfl (fun _ _ _ h => h) hHeld (fun W hSw => by go_simp) ?_
            simp only [Act.put, List.setIfInBounds_toArray, List.set_cons_zero, List.set_cons_succ]
            refine takeH (i := 36) (d := some 110) (v := .bool false) (by kernel_rfl) rfl rfl rfl (fun _ _ _ h => h) hHeld (fun W hSw => by go_simp) ?_
            simp only [Act.put, List.setIfInBounds_toArray, List.set_cons_zero, List.set_cons_succ]
            refine takeH (i := 37) (d := some 111) (v := .bool false) (by kernel_rfl) rfl rfl rfl (fun _ _ _ h => h) hHeld (fun W hSw => by go_simp) ?_
            simp only [Act.put, List.setIfInBounds_toArray, List.set_cons_zero, List.set_cons_succ]
            refine takeH (i := 38) (d := some 112) (v := .bool false) (by kernel_rfl) rfl rfl rfl (fun _ _ _ h => h) hHeld (fun W hSw => by go_simp) ?_
            simp only [Act.put, List.setIfInBounds_toArray, List.set_cons_zero, List.set_cons_succ]
            refine takeH (i := 39) (d := some 113) (v := .agg #[.int .i64 q.op, .int .i64 q.nt, .slice A2 q.kids.length c2]) (by kernel_rfl) rfl rfl rfl (fun _ _ _ h => h) hHeld (fun W hSw => by exact exec_load_row rfl rfl (hxz.below hSw hxz.lt) Tryd.underlying55 rfl (by kernel_rfl)) ?_
            simp only [Act.put, List.setIfInBounds_toArray, List.set_cons_zero, List.set_cons_succ]
            refine takeH (i := 40) (d := some 114) (v := .pointer (some ⟨w.heap.size, 0, none⟩)) (by kernel_rfl) rfl rfl rfl (fun _ _ _ h => h) hHeld (fun W hSw => by go_simp) ?_
            simp only [Act.put, List.setIfInBounds_toArray, List.set_cons_zero, List.set_cons_succ]
            refine takeH (i := 41) (d := some 115) (v := .slice (some ⟨g, off, none⟩) n c1) (by kernel_rfl) rfl rfl rfl (fun _ _ _ h => h) hHeld (fun W hSw => by have x0 := (hSw.cell (p := ⟨w.heap.size, 0, none⟩) (by show w.heap.size < _; omega)).trans qz; go_simp) ?_
            simp only [Act.put, List.setIfInBounds_toArray, List.set_cons_zero, List.set_cons_succ]
            refine takeH (i := 42) (d := some 116) (v := .int .i64 k) (by kernel_rfl) rfl rfl rfl (fun _ _ _ h => h) hHeld (fun W hSw => by go_simp) ?_
            simp only [Act.put, List.setIfInBounds_toArray, List.set_cons_zero, List.set_cons_succ]
            refine takeH (i := 43) (d := some 117) (v := .pointer (some ⟨g, off + k * 3, none⟩)) (by kernel_rfl) rfl rfl rfl (fun _ _ _ h => h) hHeld (fun W hSw => by go_simp) ?_
            simp only [Act.put, List.setIfInBounds_toArray, List.set_cons_zero, List.set_cons_succ]
            refine takeH (i := 44) (d := some 118) (v := .agg #[.int .i64 q.op, .int .i64 q.nt, .slice B q.kids.length c]) (by kernel_rfl) rfl rfl rfl (fun _ _ _ h => h) hHeld (fun W hSw => by have x0 := (hSw.cell (p := ⟨g, off + k * 3, none⟩) (by show g < _; omega)).trans az0; have x1 := (hSw.cell (p := ⟨g, off + k * 3 + 1, none⟩) (by show g < _; omega)).trans az1; have x2 := (hSw.cell (p := ⟨g, off + k * 3 + 2, none⟩) (by show g < _; omega)).trans az2; go_simp) ?_
            simp only [Act.put, List.setIfInBounds_toArray, List.set_cons_zero, List.set_cons_succ]
            refine onlyH (i := 45) (d := some 119) (by kernel_rfl) rfl rfl rfl (fun K' hK => ?_)
            refine wp_go_call 31 _ _ rfl #[.agg #[.int .i64 q.op, .int .i64 q.nt, .slice A2 q.kids.length c2], .agg #[.int .i64 q.op, .int .i64 q.nt, .slice B q.kids.length c]] rfl (fun W' => by go_simp) (d6 _ _ _ _ _ (HP2.out.below (hb1z.trans (hHeld.mono hb1z.size))) (HL.out.below (hbz.trans (hHeld.mono hbz.size)))) (fun e wg he => ?_)
            obtain ⟨rfl, hbg2⟩ := he
            refine ⟨_, rfl, hK.out _ _ (hHeld.trans (hbg2.mono hHeld.size)) (fun hHeld => ?_)⟩
            simp only [Act.put, List.setIfInBounds_toArray, List.set_cons_zero, List.set_cons_succ]
            refine takeH (i := 46) (d := some 120) (v := .bool false) (by kernel_rfl) rfl rfl rfl (fun _ _ _ h => h) hHeld (fun W hSw => by go_simp) ?_
            simp only [Act.put, List.setIfInBounds_toArray, List.set_cons_zero, List.set_cons_succ]
            refine takeH (i := 47) (d := some 121) (v := .bool false) (by kernel_rfl) rfl rfl rfl (fun _ _ _ h => h) hHeld (fun W hSw => by go_simp) ?_
            simp only [Act.put, List.setIfInBounds_toArray, List.set_cons_zero, List.set_cons_succ]
            refine wpAnyH_done (by kernel_rfl) ?_ _
            go_wp2_with fail
            go_roundw
            case rel => exact ⟨k + 1, by omega, by go_num, hb.trans ((hbz.trans (hHeld.mono hbz.size)).mono hb.size), hbk.below (hbz.trans (hHeld.mono hbz.size)) hbk.lt⟩
            case measure => simp [intOf]; omega
          · have HOK := Lib.hid (And.intro hok hpl)
            rw [hpl] at d2 d3 d7
            clear hpl hok hqw
            simp only [Bool.true_and, errT] at d1 d2 d3 d5
            go_wp2_with fail
            refine (d0 _ HL.out).mono ?_
            rintro e w1 ⟨A2, c2, rfl, hr1, hc1⟩
            have hbk1 := hc1.size
            have HP2 : Hid (PatIn w1 A2 c2 q) := Lib.hid ⟨_, hr1⟩
            clear hr1
            have hxi : BlkIs (w1.alloc (.cells #[.int .i64 q.op, .int .i64 q.nt, .slice A2 q.kids.length c2] 55)) w1.heap.size 55 #[.int .i64 q.op, .int .i64 q.nt, .slice A2 q.kids.length c2] := BlkIs.fresh _ _ _
            have hbi := hc1.trans ((below_alloc w1 (.cells #[.int .i64 q.op, .int .i64 q.nt, .slice A2 q.kids.length c2] 55)).mono hbk1)
            have hb1i := below_alloc w1 (.cells #[.int .i64 q.op, .int .i64 q.nt, .slice A2 q.kids.length c2] 55)
            have xi0 := trivial
            have xi1 := trivial
            have xi2 := trivial
            have qi := trivial
            have ai0 := trivial
            have ai1 := trivial
            have ai2 := trivial
            go_wp2_with fail
            refine (d1 _ _ _ (HP2.out.below hb1i)).mono ?_
            rintro e w3 ⟨rfl, hc3⟩
            have hbs := hbi.trans (hc3.mono hbi.size)
            have hb1s := hb1i.trans (hc3.mono hb1i.size)
            have hxs := hxi.below hc3 hxi.lt
            have xs0 : w3.cell? ⟨w1.heap.size, 0, none⟩ = some (.int .i64 q.op) := hxs.cell 0
            have xs1 : w3.cell? ⟨w1.heap.size, 1, none⟩ = some (.int .i64 q.nt) := hxs.cell 1
            have xs2 : w3.cell? ⟨w1.heap.size, 2, none⟩ = some (.slice A2 q.kids.length c2) := hxs.cell 2
            have qs : w3.cell? ⟨w.heap.size, 0, none⟩ = some (.slice (some ⟨g, off, none⟩) n c1) := (hbs.cell (p := ⟨w.heap.size, 0, none⟩) hbz0).trans hc0
            have as0 := (hbs.cell (p := ⟨g, off + k * 3, none⟩) hg).trans a0
            have as1 := (hbs.cell (p := ⟨g, off + k * 3 + 1, none⟩) hg).trans a1
            have as2 := (hbs.cell (p := ⟨g, off + k * 3 + 2, none⟩) hg).trans a2
            clear xi0 xi1 xi2 qi ai0 ai1 ai2
            go_wp2_with fail
            refine (d2 _ _ _ (HP2.out.below hb1s)).mono ?_
            rintro e w4 ⟨rfl, hc4⟩
            have hbt := hbs.trans (hc4.mono hbs.size)
            have hb1t := hb1s.trans (hc4.mono hb1s.size)
            have hxt := hxs.below hc4 hxs.lt
            have xt0 : w4.cell? ⟨w1.heap.size, 0, none⟩ = some (.int .i64 q.op) := hxt.cell 0
            have xt1 : w4.cell? ⟨w1.heap.size, 1, none⟩ = some (.int .i64 q.nt) := hxt.cell 1
            have xt2 : w4.cell? ⟨w1.heap.size, 2, none⟩ = some (.slice A2 q.kids.length c2) := hxt.cell 2
            have qt : w4.cell? ⟨w.heap.size, 0, none⟩ = some (.slice (some ⟨g, off, none⟩) n c1) := (hbt.cell (p := ⟨w.heap.size, 0, none⟩) hbz0).trans hc0
            have at0 := (hbt.cell (p := ⟨g, off + k * 3, none⟩) hg).trans a0
            have at1 := (hbt.cell (p := ⟨g, off + k * 3 + 1, none⟩) hg).trans a1
            have at2 := (hbt.cell (p := ⟨g, off + k * 3 + 2, none⟩) hg).trans a2
            clear xs0 xs1 xs2 qs as0 as1 as2
            go_wp2_with fail
            refine (d3 _ _ _ (HP2.out.below hb1t)).mono ?_
            rintro e w5 ⟨rfl, hc5⟩
            have hbu := hbt.trans (hc5.mono hbt.size)
            have hb1u := hb1t.trans (hc5.mono hb1t.size)
            have hxu := hxt.below hc5 hxt.lt
            have xu0 : w5.cell? ⟨w1.heap.size, 0, none⟩ = some (.int .i64 q.op) := hxu.cell 0
            have xu1 : w5.cell? ⟨w1.heap.size, 1, none⟩ = some (.int .i64 q.nt) := hxu.cell 1
            have xu2 : w5.cell? ⟨w1.heap.size, 2, none⟩ = some (.slice A2 q.kids.length c2) := hxu.cell 2
            have qu : w5.cell? ⟨w.heap.size, 0, none⟩ = some (.slice (some ⟨g, off, none⟩) n c1) := (hbu.cell (p := ⟨w.heap.size, 0, none⟩) hbz0).trans hc0
            have au0 := (hbu.cell (p := ⟨g, off + k * 3, none⟩) hg).trans a0
            have au1 := (hbu.cell (p := ⟨g, off + k * 3 + 1, none⟩) hg).trans a1
            have au2 := (hbu.cell (p := ⟨g, off + k * 3 + 2, none⟩) hg).trans a2
            clear xt0 xt1 xt2 qt at0 at1 at2
            go_wp2_with fail
            refine (d4 _ _ _ (HL.out.below hbu)).mono ?_
            rintro e w6 ⟨m, rfl, hm, hc6⟩
            obtain rfl : m = N := by have := hm trivial; rw [hN.out] at this; omega
            clear hm
            have hbv := hbu.trans (hc6.mono hbu.size)
            have hb1v := hb1u.trans (hc6.mono hb1u.size)
            have hxv := hxu.below hc6 hxu.lt
            have xv0 : w6.cell? ⟨w1.heap.size, 0, none⟩ = some (.int .i64 q.op) := hxv.cell 0
            have xv1 : w6.cell? ⟨w1.heap.size, 1, none⟩ = some (.int .i64 q.nt) := hxv.cell 1
            have xv2 : w6.cell? ⟨w1.heap.size, 2, none⟩ = some (.slice A2 q.kids.length c2) := hxv.cell 2
            have qv : w6.cell? ⟨w.heap.size, 0, none⟩ = some (.slice (some ⟨g, off, none⟩) n c1) := (hbv.cell (p := ⟨w.heap.size, 0, none⟩) hbz0).trans hc0
            have av0 := (hbv.cell (p := ⟨g, off + k * 3, none⟩) hg).trans a0
            have av1 := (hbv.cell (p := ⟨g, off + k * 3 + 1, none⟩) hg).trans a1
            have av2 := (hbv.cell (p := ⟨g, off + k * 3 + 2, none⟩) hg).trans a2
            clear xu0 xu1 xu2 qu au0 au1 au2
            go_wp2_with fail
            refine (d7 _ _ _ (HL.out.below hbv)).mono ?_
            rintro e w7 ⟨rfl, hc7⟩
            have hbr := hbv.trans (hc7.mono hbv.size)
            have hb1r := hb1v.trans (hc7.mono hb1v.size)
            have hxr := hxv.below hc7 hxv.lt
            have xr0 : w7.cell? ⟨w1.heap.size, 0, none⟩ = some (.int .i64 q.op) := hxr.cell 0
            have xr1 : w7.cell? ⟨w1.heap.size, 1, none⟩ = some (.int .i64 q.nt) := hxr.cell 1
            have xr2 : w7.cell? ⟨w1.heap.size, 2, none⟩ = some (.slice A2 q.kids.length c2) := hxr.cell 2
            have qr : w7.cell? ⟨w.heap.size, 0, none⟩ = some (.slice (some ⟨g, off, none⟩) n c1) := (hbr.cell (p := ⟨w.heap.size, 0, none⟩) hbz0).trans hc0
            have ar0 := (hbr.cell (p := ⟨g, off + k * 3, none⟩) hg).trans a0
            have ar1 := (hbr.cell (p := ⟨g, off + k * 3 + 1, none⟩) hg).trans a1
            have ar2 := (hbr.cell (p := ⟨g, off + k * 3 + 2, none⟩) hg).trans a2
            clear xv0 xv1 xv2 qv av0 av1 av2
            go_wp2_with fail
            refine (d8 _ _ _ (HL.out.below hbr) HOK.out.1 HOK.out.2).mono ?_
            rintro e w8 ⟨rfl, hc8⟩
            have hby := hbr.trans (hc8.mono hbr.size)
            have hb1y := hb1r.trans (hc8.mono hb1r.size)
            have hxy := hxr.below hc8 hxr.lt
            have xy0 : w8.cell? ⟨w1.heap.size, 0, none⟩ = some (.int .i64 q.op) := hxy.cell 0
            have xy1 : w8.cell? ⟨w1.heap.size, 1, none⟩ = some (.int .i64 q.nt) := hxy.cell 1
            have xy2 : w8.cell? ⟨w1.heap.size, 2, none⟩ = some (.slice A2 q.kids.length c2) := hxy.cell 2
            have qy : w8.cell? ⟨w.heap.size, 0, none⟩ = some (.slice (some ⟨g, off, none⟩) n c1) := (hby.cell (p := ⟨w.heap.size, 0, none⟩) hbz0).trans hc0
            have ay0 := (hby.cell (p := ⟨g, off + k * 3, none⟩) hg).trans a0
            have ay1 := (hby.cell (p := ⟨g, off + k * 3 + 1, none⟩) hg).trans a1
            have ay2 := (hby.cell (p := ⟨g, off + k * 3 + 2, none⟩) hg).trans a2
            clear xr0 xr1 xr2 qr ar0 ar1 ar2
            go_upto_region 17 with fail
            obtain ⟨wz, rfl⟩ : ∃ wz : World, wz = w8 := ⟨_, rfl⟩
            have hbz := hby
            have hb1z := hb1y
            have hxz := hxy
            have qz := qy
            have az0 := ay0
            have az1 := ay1
            have az2 := ay2
            have hsz := hbz.size
            clear hby hb1y hxy qy ay0 ay1 ay2 xy0 xy1 xy2
            refine beginH (fun W' => Below wz.heap.size wz W') (by kernel_rfl) ((Below.refl _ _).drew) (fun hHeld => ?_)
            refine takeH (i := 0) (d := some 74) (v := .agg #[.int .i64 q.op, .int .i64 q.nt, .slice A2 q.kids.length c2]) (by kernel_rfl) rfl rfl rfl (fun _ _ _ h => h) hHeld (fun W hSw => by exact exec_load_row rfl rfl (hxz.below hSw hxz.lt) Tryd.underlying55 rfl (by kernel_rfl)) ?_
            simp only [Act.put, List.setIfInBounds_toArray, List.set_cons_zero, List.set_cons_succ]
            refine takeH (i := 3) (d := some 77) (v := .int .i64 0) (by kernel_rfl) rfl rfl rfl (fun _ _ _ h => h) hHeld (fun W hSw => by go_simp) ?_
            simp only [Act.put, List.setIfInBounds_toArray, List.set_cons_zero, List.set_cons_succ]
            refine onlyH (i := 1) (d := some 75) (by kernel_rfl) rfl rfl rfl (fun K' hK => ?_)
            refine wp_go_call 30 _ _ rfl #[.agg #[.int .i64 q.op, .int .i64 q.nt, .slice A2 q.kids.length c2]] rfl (fun W' => by go_simp) (d5 _ _ _ (HP2.out.below (hb1z.trans (hHeld.mono hb1z.size)))) (fun e wg he => ?_)
            obtain ⟨rfl, hbg⟩ := he
            refine ⟨_, rfl, hK.out _ _ (hHeld.trans (hbg.mono hHeld.size)) (fun hHeld => ?_)⟩
            simp only [Act.put, List.setIfInBounds_toArray, List.set_cons_zero, List.set_cons_succ]
            refine onlyH (i := 2) (d := some 76) (by kernel_rfl) rfl rfl rfl (fun K' hK => ?_)
            refine wp_go_call 29 _ _ rfl #[.int .i64 0] rfl (fun W' => by go_simp) (cn 0 _) (fun e wg he => ?_)
            obtain ⟨rfl, rfl⟩ := he
            refine ⟨_, rfl, hK.out _ _ (hHeld) (fun hHeld => ?_)⟩
            simp only [Act.put, List.setIfInBounds_toArray, List.set_cons_zero, List.set_cons_succ]
            refine takeH (i := 4) (d := some 78) (v := .bool false) (by kernel_rfl) rfl rfl rfl (fun _ _ _ h => h) hHeld (fun W hSw => by go_simp) ?_
            simp only [Act.put, List.setIfInBounds_toArray, List.set_cons_zero, List.set_cons_succ]
            refine takeH (i := 5) (d := some 79) (v := .bool false) (by kernel_rfl) rfl rfl rfl (fun _ _ _ h => h) hHeld (fun W hSw => by go_simp) ?_
            simp only [Act.put, List.setIfInBounds_toArray, List.set_cons_zero, List.set_cons_succ]
            refine takeH (i := 6) (d := some 80) (v := .int .i64 0) (by kernel_rfl) rfl rfl rfl (fun _ _ _ h => h) hHeld (fun W hSw => by go_simp) ?_
            simp only [Act.put, List.setIfInBounds_toArray, List.set_cons_zero, List.set_cons_succ]
            refine takeH (i := 8) (d := some 82) (v := .int .i64 0) (by kernel_rfl) rfl rfl rfl (fun _ _ _ h => h) hHeld (fun W hSw => by go_simp) ?_
            simp only [Act.put, List.setIfInBounds_toArray, List.set_cons_zero, List.set_cons_succ]
            refine onlyH (i := 7) (d := some 81) (by kernel_rfl) rfl rfl rfl (fun K' hK => ?_)
            refine wp_go_call 29 _ _ rfl #[.int .i64 0] rfl (fun W' => by go_simp) (cn 0 _) (fun e wg he => ?_)
            obtain ⟨rfl, rfl⟩ := he
            refine ⟨_, rfl, hK.out _ _ (hHeld) (fun hHeld => ?_)⟩
            simp only [Act.put, List.setIfInBounds_toArray, List.set_cons_zero, List.set_cons_succ]
            refine takeH (i := 9) (d := some 83) (v := .bool false) (by kernel_rfl) rfl rfl rfl (fun _ _ _ h => h) hHeld (fun W hSw => by go_simp) ?_
            simp only [Act.put, List.setIfInBounds_toArray, List.set_cons_zero, List.set_cons_succ]
            refine takeH (i := 10) (d := some 84) (v := .bool false) (by kernel_rfl) rfl rfl rfl (fun _ _ _ h => h) hHeld (fun W hSw => by go_simp) ?_
            simp only [Act.put, List.setIfInBounds_toArray, List.set_cons_zero, List.set_cons_succ]
            refine takeH (i := 11) (d := some 85) (v := .bool false) (by kernel_rfl) rfl rfl rfl (fun _ _ _ h => h) hHeld (fun W hSw => by go_simp) ?_
            simp only [Act.put, List.setIfInBounds_toArray, List.set_cons_zero, List.set_cons_succ]
            refine takeH (i := 12) (d := some 86) (v := .int .i64 N) (by kernel_rfl) rfl rfl rfl (fun _ _ _ h => h) hHeld (fun W hSw => by go_simp) ?_
            simp only [Act.put, List.setIfInBounds_toArray, List.set_cons_zero, List.set_cons_succ]
            refine takeH (i := 13) (d := some 87) (v := .int .i64 N) (by kernel_rfl) rfl rfl rfl (fun _ _ _ h => h) hHeld (fun W hSw => by go_simp) ?_
            simp only [Act.put, List.setIfInBounds_toArray, List.set_cons_zero, List.set_cons_succ]
            refine takeH (i := 14) (d := some 88) (v := .bool false) (by kernel_rfl) rfl rfl rfl (fun _ _ _ h => h) hHeld (fun W hSw => by go_simp) ?_
            simp only [Act.put, List.setIfInBounds_toArray, List.set_cons_zero, List.set_cons_succ]
            refine takeH (i := 15) (d := some 89) (v := .bool false) (by kernel_rfl) rfl rfl rfl (fun _ _ _ h => h) hHeld (fun W hSw => by go_simp) ?_
            simp only [Act.put, List.setIfInBounds_toArray, List.set_cons_zero, List.set_cons_succ]
            refine takeH (i := 16) (d := some 90) (v := .bool false) (by kernel_rfl) rfl rfl rfl (fun _ _ _ h => h) hHeld (fun W hSw => by go_simp) ?_
            simp only [Act.put, List.setIfInBounds_toArray, List.set_cons_zero, List.set_cons_succ]
            refine takeH (i := 17) (d := some 91) (v := .int .i64 0) (by kernel_rfl) rfl rfl rfl (fun _ _ _ h => h) hHeld (fun W hSw => by go_simp) ?_
            simp only [Act.put, List.setIfInBounds_toArray, List.set_cons_zero, List.set_cons_succ]
            refine takeH (i := 19) (d := some 93) (v := .int .i64 0) (by kernel_rfl) rfl rfl rfl (fun _ _ _ h => h) hHeld (fun W hSw => by go_simp) ?_
            simp only [Act.put, List.setIfInBounds_toArray, List.set_cons_zero, List.set_cons_succ]
            refine onlyH (i := 18) (d := some 92) (by kernel_rfl) rfl rfl rfl (fun K' hK => ?_)
            refine wp_go_call 29 _ _ rfl #[.int .i64 0] rfl (fun W' => by go_simp) (cn 0 _) (fun e wg he => ?_)
            obtain ⟨rfl, rfl⟩ := he
            refine ⟨_, rfl, hK.out _ _ (hHeld) (fun hHeld => ?_)⟩
            simp only [Act.put, List.setIfInBounds_toArray, List.set_cons_zero, List.set_cons_succ]
            refine takeH (i := 20) (d := some 94) (v := .bool false) (by kernel_rfl) rfl rfl rfl (fun _ _ _ h => h) hHeld (fun W hSw => by go_simp) ?_
            simp only [Act.put, List.setIfInBounds_toArray, List.set_cons_zero, List.set_cons_succ]
            refine takeH (i := 21) (d := some 95) (v := .bool false) (by kernel_rfl) rfl rfl rfl (fun _ _ _ h => h) hHeld (fun W hSw => by go_simp) ?_
            simp only [Act.put, List.setIfInBounds_toArray, List.set_cons_zero, List.set_cons_succ]
            refine takeH (i := 22) (d := some 96) (v := .bool false) (by kernel_rfl) rfl rfl rfl (fun _ _ _ h => h) hHeld (fun W hSw => by go_simp) ?_
            simp only [Act.put, List.setIfInBounds_toArray, List.set_cons_zero, List.set_cons_succ]
            refine takeH (i := 23) (d := some 97) (v := .bool true) (by kernel_rfl) rfl rfl rfl (fun _ _ _ h => h) hHeld (fun W hSw => by go_simp) ?_
            simp only [Act.put, List.setIfInBounds_toArray, List.set_cons_zero, List.set_cons_succ]
            refine takeH (i := 24) (d := some 98) (v := .bool true) (by kernel_rfl) rfl rfl rfl (fun _ _ _ h => h) hHeld (fun W hSw => by go_simp) ?_
            simp only [Act.put, List.setIfInBounds_toArray, List.set_cons_zero, List.set_cons_succ]
            refine takeH (i := 25) (d := some 99) (v := .bool false) (by kernel_rfl) rfl rfl rfl (fun _ _ _ h => h) hHeld (fun W hSw => by go_simp) ?_
            simp only [Act.put, List.setIfInBounds_toArray, List.set_cons_zero, List.set_cons_succ]
            refine takeH (i := 26) (d := some 100) (v := .bool false) (by kernel_rfl) rfl rfl rfl (fun _ _ _ h => h) hHeld (fun W hSw => by go_simp) ?_
            simp only [Act.put, List.setIfInBounds_toArray, List.set_cons_zero, List.set_cons_succ]
            refine takeH (i := 27) (d := some 101) (v := .bool false) (by kernel_rfl) rfl rfl rfl (fun _ _ _ h => h) hHeld (fun W hSw => by go_simp) ?_
            simp only [Act.put, List.setIfInBounds_toArray, List.set_cons_zero, List.set_cons_succ]
            refine takeH (i := 28) (d := some 102) (v := .int .i64 0) (by kernel_rfl) rfl rfl rfl (fun _ _ _ h => h) hHeld (fun W hSw => by go_simp) ?_
            simp only [Act.put, List.setIfInBounds_toArray, List.set_cons_zero, List.set_cons_succ]
            refine takeH (i := 30) (d := some 104) (v := .int .i64 0) (by kernel_rfl) rfl rfl rfl (fun _ _ _ h => h) hHeld (fun W hSw => by go_simp) ?_
            simp only [Act.put, List.setIfInBounds_toArray, List.set_cons_zero, List.set_cons_succ]
            refine onlyH (i := 29) (d := some 103) (by kernel_rfl) rfl rfl rfl (fun K' hK => ?_)
            refine wp_go_call 29 _ _ rfl #[.int .i64 0] rfl (fun W' => by go_simp) (cn 0 _) (fun e wg he => ?_)
            obtain ⟨rfl, rfl⟩ := he
            refine ⟨_, rfl, hK.out _ _ (hHeld) (fun hHeld => ?_)⟩
            simp only [Act.put, List.setIfInBounds_toArray, List.set_cons_zero, List.set_cons_succ]
            refine takeH (i := 31) (d := some 105) (v := .bool false) (by kernel_rfl) rfl rfl rfl (fun _ _ _ h => h) hHeld (fun W hSw => by go_simp) ?_
            simp only [Act.put, List.setIfInBounds_toArray, List.set_cons_zero, List.set_cons_succ]
            refine takeH (i := 32) (d := some 106) (v := .bool false) (by kernel_rfl) rfl rfl rfl (fun _ _ _ h => h) hHeld (fun W hSw => by go_simp) ?_
            simp only [Act.put, List.setIfInBounds_toArray, List.set_cons_zero, List.set_cons_succ]
            refine takeH (i := 33) (d := some 107) (v := .bool false) (by kernel_rfl) rfl rfl rfl (fun _ _ _ h => h) hHeld (fun W hSw => by go_simp) ?_
            simp only [Act.put, List.setIfInBounds_toArray, List.set_cons_zero, List.set_cons_succ]
            refine takeH (i := 34) (d := some 108) (v := .int .i64 V) (by kernel_rfl) rfl rfl rfl (fun _ _ _ h => h) hHeld (fun W hSw => by go_simp) ?_
            simp only [Act.put, List.setIfInBounds_toArray, List.set_cons_zero, List.set_cons_succ]
            refine takeH (i := 35) (d := some 109) (v := .int .i64 V) (by kernel_rfl) rfl rfl rfl (fun _ _ _ h => h) hHeld (fun W hSw => by go_simp) ?_
            simp only [Act.put, List.setIfInBounds_toArray, List.set_cons_zero, List.set_cons_succ]
            refine takeH (i := 36) (d := some 110) (v := .bool false) (by kernel_rfl) rfl rfl rfl (fun _ _ _ h => h) hHeld (fun W hSw => by go_simp) ?_
            simp only [Act.put, List.setIfInBounds_toArray, List.set_cons_zero, List.set_cons_succ]
            refine takeH (i := 37) (d := some 111) (v := .bool false) (by kernel_rfl) rfl rfl rfl (fun _ _ _ h => h) hHeld (fun W hSw => by go_simp) ?_
            simp only [Act.put, List.setIfInBounds_toArray, List.set_cons_zero, List.set_cons_succ]
            refine takeH (i := 38) (d := some 112) (v := .bool false) (by kernel_rfl) rfl rfl rfl (fun _ _ _ h => h) hHeld (fun W hSw => by go_simp) ?_
            simp only [Act.put, List.setIfInBounds_toArray, List.set_cons_zero, List.set_cons_succ]
            refine takeH (i := 39) (d := some 113) (v := .agg #[.int .i64 q.op, .int .i64 q.nt, .slice A2 q.kids.length c2]) (by kernel_rfl) rfl rfl rfl (fun _ _ _ h => h) hHeld (fun W hSw => by exact exec_load_row rfl rfl (hxz.below hSw hxz.lt) Tryd.underlying55 rfl (by kernel_rfl)) ?_
            simp only [Act.put, List.setIfInBounds_toArray, List.set_cons_zero, List.set_cons_succ]
            refine takeH (i := 40) (d := some 114) (v := .pointer (some ⟨w.heap.size, 0, none⟩)) (by kernel_rfl) rfl rfl rfl (fun _ _ _ h => h) hHeld (fun W hSw => by go_simp) ?_
            simp only [Act.put, List.setIfInBounds_toArray, List.set_cons_zero, List.set_cons_succ]
            refine takeH (i := 41) (d := some 115) (v := .slice (some ⟨g, off, none⟩) n c1) (by kernel_rfl) rfl rfl rfl (fun _ _ _ h => h) hHeld (fun W hSw => by have x0 := (hSw.cell (p := ⟨w.heap.size, 0, none⟩) (by show w.heap.size < _; omega)).trans qz; go_simp) ?_
            simp only [Act.put, List.setIfInBounds_toArray, List.set_cons_zero, List.set_cons_succ]
            refine takeH (i := 42) (d := some 116) (v := .int .i64 k) (by kernel_rfl) rfl rfl rfl (fun _ _ _ h => h) hHeld (fun W hSw => by go_simp) ?_
            simp only [Act.put, List.setIfInBounds_toArray, List.set_cons_zero, List.set_cons_succ]
            refine takeH (i := 43) (d := some 117) (v := .pointer (some ⟨g, off + k * 3, none⟩)) (by kernel_rfl) rfl rfl rfl (fun _ _ _ h => h) hHeld (fun W hSw => by go_simp) ?_
            simp only [Act.put, List.setIfInBounds_toArray, List.set_cons_zero, List.set_cons_succ]
            refine takeH (i := 44) (d := some 118) (v := .agg #[.int .i64 q.op, .int .i64 q.nt, .slice B q.kids.length c]) (by kernel_rfl) rfl rfl rfl (fun _ _ _ h => h) hHeld (fun W hSw => by have x0 := (hSw.cell (p := ⟨g, off + k * 3, none⟩) (by show g < _; omega)).trans az0; have x1 := (hSw.cell (p := ⟨g, off + k * 3 + 1, none⟩) (by show g < _; omega)).trans az1; have x2 := (hSw.cell (p := ⟨g, off + k * 3 + 2, none⟩) (by show g < _; omega)).trans az2; go_simp) ?_
            simp only [Act.put, List.setIfInBounds_toArray, List.set_cons_zero, List.set_cons_succ]
            refine onlyH (i := 45) (d := some 119) (by kernel_rfl) rfl rfl rfl (fun K' hK => ?_)
            refine wp_go_call 31 _ _ rfl #[.agg #[.int .i64 q.op, .int .i64 q.nt, .slice A2 q.kids.length c2], .agg #[.int .i64 q.op, .int .i64 q.nt, .slice B q.kids.length c]] rfl (fun W' => by go_simp) (d6 _ _ _ _ _ (HP2.out.below (hb1z.trans (hHeld.mono hb1z.size))) (HL.out.below (hbz.trans (hHeld.mono hbz.size)))) (fun e wg he => ?_)
            obtain ⟨rfl, hbg2⟩ := he
            refine ⟨_, rfl, hK.out _ _ (hHeld.trans (hbg2.mono hHeld.size)) (fun hHeld => ?_)⟩
            simp only [Act.put, List.setIfInBounds_toArray, List.set_cons_zero, List.set_cons_succ]
            refine takeH (i := 46) (d := some 120) (v := .bool false) (by kernel_rfl) rfl rfl rfl (fun _ _ _ h => h) hHeld (fun W hSw => by go_simp) ?_
            simp only [Act.put, List.setIfInBounds_toArray, List.set_cons_zero, List.set_cons_succ]
            refine takeH (i := 47) (d := some 121) (v := .bool false) (by kernel_rfl) rfl rfl rfl (fun _ _ _ h => h) hHeld (fun W hSw => by go_simp) ?_
            simp only [Act.put, List.setIfInBounds_toArray, List.set_cons_zero, List.set_cons_succ]
            refine wpAnyH_done (by kernel_rfl) ?_ _
            go_wp2_with fail
            go_roundw
            case rel => exact ⟨k + 1, by omega, by go_num, hb.trans ((hbz.trans (hHeld.mono hbz.size)).mono hb.size), hbk.below (hbz.trans (hHeld.mono hbz.size)) hbk.lt⟩
            case measure => simp [intOf]; omega
      · clear HPW HSM hbz0
        have hx : Hid (¬ (k < n ∧ k < 8)) := Lib.hid hlt
        by_cases hkn : k < n
        · have hk8 : ¬ k < 8 := fun h => hlt ⟨hkn, h⟩
          clear hlt
          go_wp2_with fail
          refine (wakes6_any _ (HT.out.below hb)).mono ?_
          rintro e w9 ⟨rfl, hb9⟩
          go_wp2_with fail
          go_ret
          exact ⟨rfl, hb.trans (hb9.mono hb.size)⟩
        · clear hlt
          go_wp2_with fail
          refine (wakes6_any _ (HT.out.below hb)).mono ?_
          rintro e w9 ⟨rfl, hb9⟩
          go_wp2_with fail
          go_ret
          exact ⟨rfl, hb.trans (hb9.mono hb.size)⟩

end Go.Proofs.YthdicdkgfmiepaaDoor

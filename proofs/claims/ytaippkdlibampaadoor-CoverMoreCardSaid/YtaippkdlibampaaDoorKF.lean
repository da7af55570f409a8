/- CoverMore walked: all but the questions as they come in. -/
import Derived.Test.YtaippkdlibampaaDoorKE
namespace Go.Proofs.YtaippkdlibampaaDoor

/- CoverMore walked: all but the questions as they come in. -/
section
open Go.RowKit

set_option maxRecDepth 100000 in
set_option maxHeartbeats 40000000 in
theorem coverMore_any (L : List (List Rule)) (S : List (List UInt8)) (T : List Pat) (S2 : List (List UInt8)) (C : List Cov) (A1 A2 A3 A4 A5 : Option Addr) (c1 c2 c3 c4 c5 : Nat) (W : World) (hask : Ask13 W L S T S2 C A1 A2 A3 A4 A5 c1 c2 c3 c4 c5) (htab : Tab W) :
    Calls Tryd.prog 7 #[.agg #[.slice A1 L.length c1, .slice A2 S.length c2, .slice A3 T.length c3, .slice A4 S2.length c4, .slice A5 C.length c5]] W (SomeBoolBelow true W) := by
  have hHv := fun w h1 h2 h3 h4 h5 => heavy13_any L S T S2 C A1 A2 A3 A4 A5 c1 c2 c3 c4 c5 w hask.wf hask.wf2 hask.wf3 h1 h2 h3 h4 h5
  obtain ⟨n, hn⟩ : ∃ n, Hid (L.length = n) := ⟨_, Lib.hid rfl⟩
  obtain ⟨sn, hsn⟩ : ∃ n, Hid (S.length = n) := ⟨_, Lib.hid rfl⟩
  obtain ⟨tn, htn⟩ : ∃ n, Hid (T.length = n) := ⟨_, Lib.hid rfl⟩
  obtain ⟨un, hun⟩ : ∃ n, Hid (S2.length = n) := ⟨_, Lib.hid rfl⟩
  obtain ⟨cn, hcn⟩ : ∃ n, Hid (C.length = n) := ⟨_, Lib.hid rfl⟩
  have HASK := Lib.hid hask
  have H1 := Lib.hid hask.h1
  have H2 := Lib.hid hask.h2
  have H3 := Lib.hid hask.h3
  have H4 := Lib.hid hask.h4
  have H5 := Lib.hid hask.h5
  rw [hn.out, hsn.out, htn.out, hun.out, hcn.out] at hHv ⊢
  rw [hn.out] at H1
  rw [hsn.out] at H2
  rw [htn.out] at H3
  rw [hun.out] at H4
  rw [hcn.out] at H5
  clear hask
  go_enter Tryd.func7, Tryd.ntmps7
  go_wp2_with fail
  refine (hHv _ (Rep.alloc H1.out _) (Rep.alloc H2.out _) (Rep.alloc H3.out _) (Rep.alloc H4.out _) (Rep.alloc H5.out _)).mono ?_
  rintro e w1 ⟨b, rfl, hsm, hb1⟩
  obtain ⟨Q, hQ⟩ : ∃ x : Array Value, Hid (#[.slice A1 n c1, .slice A2 sn c2, .slice A3 tn c3, .slice A4 un c4, .slice A5 cn c5] = x) := ⟨_, Lib.hid rfl⟩
  have hQ0 : Q[0]? = some (.slice A1 n c1) := by rw [← hQ.out]; rfl
  have hQ2 : Q[2]? = some (.slice A3 tn c3) := by rw [← hQ.out]; rfl
  have hb01 : Below W.heap.size W w1 := (below_alloc _ _).trans (hb1.mono (by simp))
  have hbox : BlkIs w1 W.heap.size 55 Q := by rw [← hQ.out]; exact (BlkIs.fresh _ _ _).below hb1 (by simp)
  have HSM := Lib.hid hsm
  clear hHv hsm hb1
  rcases (by cases b <;> simp : b = true ∨ b = false) with rfl | rfl
  · go_wp2_with fail
    go_ret
    exact ⟨rfl, hb01⟩
  · have HSM2 := Lib.hid (HSM.out rfl)
    clear HSM
    have hfin : Hid (∀ W', Below W.heap.size W W' → Calls Tryd.prog 28 #[] W' (SomeBoolBelow true W')) := Lib.hid (fun W' h => wakes13_any W' (tab_alloc htab _ h))
    go_wp2_with fail
    go_loopw [3] (fun i wr => ∃ k : Nat, k ≤ n ∧ k ≤ 4 ∧ i = .int .i64 k ∧ Below W.heap.size W wr ∧ BlkIs wr W.heap.size 55 Q) (fun i _ => 4 - (intOf i).toNat)
    case atStart => exact ⟨0, by omega, by omega, rfl, hb01, hbox⟩
    case round =>
      obtain ⟨k, hk, hk4, rfl, hb, hbk⟩ := hrel
      obtain ⟨wo, rfl⟩ : ∃ wo : World, wo = wr := ⟨_, rfl⟩
      clear hb01 hbox
      have q0 : wo.cell? ⟨W.heap.size, 0, none⟩ = some (.slice A1 n c1) := (hbk.cell 0).trans hQ0
      by_cases hlt : k < n ∧ k < 4
      · obtain ⟨hlt, hlt4⟩ := hlt
        have hk4d : decide ((k : Int) < 4) = true := by simp; omega
        go_wp2_with fail
        go_loopw [4] (fun i wr => ∃ q : Nat, q ≤ tn ∧ q ≤ 4 ∧ i = .int .i64 q ∧ Below W.heap.size W wr ∧ BlkIs wr W.heap.size 55 Q) (fun i _ => 4 - (intOf i).toNat)
        case atStart => exact ⟨0, by omega, by omega, rfl, hb, hbk⟩
        case round =>
          obtain ⟨q, hq, hq4, rfl, hb2, hbk2⟩ := hrel
          obtain ⟨wp, rfl⟩ : ∃ wp : World, wp = wr := ⟨_, rfl⟩
          clear hb hbk q0
          have q2 : wp.cell? ⟨W.heap.size, 2, none⟩ = some (.slice A3 tn c3) := (hbk2.cell 2).trans hQ2
          by_cases hlt2 : q < tn ∧ q < 4
          · obtain ⟨hlt2, hltq4⟩ := hlt2
            have hq4d : decide ((q : Int) < 4) = true := by simp; omega
            have hkl : k < L.length := by rw [hn.out]; exact hlt
            have hql : q < T.length := by rw [htn.out]; exact hlt2
            obtain ⟨g, off, B, d, rfl, hg, a0, hri⟩ := lists_at (H1.out.below hb2) k hkl
            obtain ⟨g', off', B', d', rfl, _, hg', ⟨b0, b1, b2⟩, hpi⟩ := pats_at (H3.out.below hb2) q hql
            have hsr := HSM2.out.1 L[k] (List.getElem_mem hkl)
            have hst := HSM2.out.2.1 T[q] (List.getElem_mem hql)
            have hwr := HASK.out.wf.2.2.1 L[k] (List.getElem_mem hkl)
            obtain ⟨rs, hrs⟩ : ∃ x, Hid (L[k] = x) := ⟨_, Lib.hid rfl⟩
            obtain ⟨t, ht⟩ : ∃ x, Hid (T[q] = x) := ⟨_, Lib.hid rfl⟩
            rw [hrs.out] at a0 hri hsr hwr
            rw [ht.out] at b0 b1 b2 hpi hst
            obtain ⟨m, hm⟩ : ∃ x, Hid (rs.length = x) := ⟨_, Lib.hid rfl⟩
            obtain ⟨tk, htk⟩ : ∃ x, Hid (t.kids.length = x) := ⟨_, Lib.hid rfl⟩
            obtain ⟨op, hop⟩ : ∃ x, Hid (t.op = x) := ⟨_, Lib.hid rfl⟩
            obtain ⟨nt, hnt⟩ : ∃ x, Hid (t.nt = x) := ⟨_, Lib.hid rfl⟩
            have f1 := fun W' h => copyRules_any rs hsr B d W' h
            rw [hm.out] at f1 a0
            rw [hop.out] at b0
            rw [hnt.out] at b1
            rw [htk.out] at b2
            have q0 : wp.cell? ⟨W.heap.size, 0, none⟩ = some (.slice (some ⟨g, off, none⟩) n c1) := (hbk2.cell 0).trans hQ0
            have HRI := Lib.hid hri
            have HPI : Hid (PatIn wp B' d' t) := Lib.hid ⟨_, hpi⟩
            clear hri hpi hsr hst
            go_upto_region 9 with fail
            go_cut [5, 6] (fun s5 s6 wc => ∃ (g6 : Nat), s5 = .slice B m d ∧ s6 = .pointer (some ⟨g6, 0, none⟩) ∧ Below wp.heap.size wp wc ∧ wp.heap.size ≤ g6 ∧ BlkIs wc g6 64 #[.int .i64 op, .int .i64 nt, .slice B' tk d'])
            case first =>
             as_aux_lemma =>
              refine anyJ_begin 14 (fun W' => Below wp.heap.size wp W') (by kernel_rfl) ((Below.refl _ _).drew) (fun hHeld => ?_)
              refine take (i := 0) (d := some 43) (v := .pointer (some ⟨W.heap.size, 0, none⟩)) (by kernel_rfl) rfl rfl rfl (fun _ _ _ h => h) hHeld (fun W' hSw => by go_simp) ?_
              simp only [Act.put, List.setIfInBounds_toArray, List.set_cons_zero, List.set_cons_succ]
              refine take (i := 1) (d := some 44) (v := .pointer (some ⟨W.heap.size, 0, none⟩)) (by kernel_rfl) rfl rfl rfl (fun _ _ _ h => h) hHeld (fun W' hSw => by go_simp) ?_
              simp only [Act.put, List.setIfInBounds_toArray, List.set_cons_zero, List.set_cons_succ]
              refine take (i := 2) (d := some 45) (v := .slice (some ⟨g, off, none⟩) n c1) (by kernel_rfl) rfl rfl rfl (fun _ _ _ h => h) hHeld (fun W' hSw => by have x := cell_later hSw q0; go_simp) ?_
              simp only [Act.put, List.setIfInBounds_toArray, List.set_cons_zero, List.set_cons_succ]
              refine take (i := 3) (d := some 46) (v := .int .i64 k) (by kernel_rfl) rfl rfl rfl (fun _ _ _ h => h) hHeld (fun W' hSw => by go_simp) ?_
              simp only [Act.put, List.setIfInBounds_toArray, List.set_cons_zero, List.set_cons_succ]
              refine take (i := 4) (d := some 47) (v := .pointer (some ⟨g, off + k, none⟩)) (by kernel_rfl) rfl rfl rfl (fun _ _ _ h => h) hHeld (fun W' hSw => by go_simp) ?_
              simp only [Act.put, List.setIfInBounds_toArray, List.set_cons_zero, List.set_cons_succ]
              refine take (i := 5) (d := some 48) (v := .slice B m d) (by kernel_rfl) rfl rfl rfl (fun _ _ _ h => h) hHeld (fun W' hSw => by have x := cell_later hSw a0; go_simp) ?_
              simp only [Act.put, List.setIfInBounds_toArray, List.set_cons_zero, List.set_cons_succ]
              refine take (i := 6) (d := some 49) (v := .pointer (some ⟨W.heap.size, 2, none⟩)) (by kernel_rfl) rfl rfl rfl (fun _ _ _ h => h) hHeld (fun W' hSw => by go_simp) ?_
              simp only [Act.put, List.setIfInBounds_toArray, List.set_cons_zero, List.set_cons_succ]
              refine take (i := 7) (d := some 50) (v := .pointer (some ⟨W.heap.size, 2, none⟩)) (by kernel_rfl) rfl rfl rfl (fun _ _ _ h => h) hHeld (fun W' hSw => by go_simp) ?_
              simp only [Act.put, List.setIfInBounds_toArray, List.set_cons_zero, List.set_cons_succ]
              refine take (i := 8) (d := some 51) (v := .slice (some ⟨g', off', none⟩) tn c3) (by kernel_rfl) rfl rfl rfl (fun _ _ _ h => h) hHeld (fun W' hSw => by have x := cell_later hSw q2; go_simp) ?_
              simp only [Act.put, List.setIfInBounds_toArray, List.set_cons_zero, List.set_cons_succ]
              refine take (i := 9) (d := some 52) (v := .int .i64 q) (by kernel_rfl) rfl rfl rfl (fun _ _ _ h => h) hHeld (fun W' hSw => by go_simp) ?_
              simp only [Act.put, List.setIfInBounds_toArray, List.set_cons_zero, List.set_cons_succ]
              refine take (i := 10) (d := some 53) (v := .pointer (some ⟨g', off' + q * 3, none⟩)) (by kernel_rfl) rfl rfl rfl (fun _ _ _ h => h) hHeld (fun W' hSw => by go_simp) ?_
              simp only [Act.put, List.setIfInBounds_toArray, List.set_cons_zero, List.set_cons_succ]
              refine take (i := 11) (d := some 54) (v := .agg #[.int .i64 op, .int .i64 nt, .slice B' tk d']) (by kernel_rfl) rfl rfl rfl (fun _ _ _ h => h) hHeld (fun W' hSw => by have x0 := cell_later hSw b0; have x1 := cell_later hSw b1; have x2 := cell_later hSw b2; go_simp) ?_
              simp only [Act.put, List.setIfInBounds_toArray, List.set_cons_zero, List.set_cons_succ]
              refine anyJ_only (i := 12) (d := some 6) (by kernel_rfl) rfl rfl rfl (fun K' hK => ?_)
              obtain ⟨g6, hg6⟩ : ∃ g, Hid (wp.drew.heap.size = g) := ⟨_, Lib.hid rfl⟩
              have hg6w : wp.heap.size ≤ g6 := by rw [← hg6.out]; exact hHeld.size
              have hz : BlkIs (wp.drew.alloc (.cells #[.int .i64 0, .int .i64 0, .slice none 0 0] 64)) g6 64 #[.int .i64 0, .int .i64 0, .slice none 0 0] := BlkIs.fresh_at hg6.out.symm
              refine wp_val (w' := wp.drew.alloc (.cells #[.int .i64 0, .int .i64 0, .slice none 0 0] 64)) (v := .pointer (some ⟨g6, 0, none⟩)) (by rw [← hg6.out]; go_simp) (hK.out _ _ (fun _ => hHeld.alloc hHeld.size _) (fun hHeld => ?_))
              have hHeld := hHeld (by decide)
              simp only [Act.put, List.setIfInBounds_toArray, List.set_cons_zero, List.set_cons_succ]
              refine take (i := 13) (d := some 5) (v := .slice B m d) (by kernel_rfl) rfl rfl rfl (fun _ _ _ h => h) hHeld (fun W' hSw => by go_simp) ?_
              simp only [Act.put, List.setIfInBounds_toArray, List.set_cons_zero, List.set_cons_succ]
              refine anyJ_only (i := 14) (d := none) (by kernel_rfl) rfl rfl rfl (fun K' hK => ?_)
              refine wp_store_row 64 (.tmp 6) (.tmp 54) rfl g6 #[.int .i64 op, .int .i64 nt, .slice B' tk d'] rfl rfl 64 _ hz (by kernel_rfl) rfl (by simp [Value.oneCell']) (hK.out _ _ (fun h => absurd rfl h) (fun _ => ?_))
              refine anyJ_done (by kernel_rfl) ?_ _
              simp only [Act.put]
              go_wp2_with fail
              go_meet
              exact ⟨g6, rfl, rfl, below_setRow hHeld hg6w _, hg6w, setRow_heap _ _ _ _ _ _ hz⟩
            case rest =>
              obtain ⟨g6, rfl, rfl, hbc, hg6, hg6b⟩ := hcut
              obtain ⟨wA, rfl⟩ : ∃ wA : World, wA = wc := ⟨_, rfl⟩
              have HRC : Hid (RulesIn wA B d rs) := Lib.hid (HRI.out.below hbc)
              have HPC : Hid (PatIn wA B' d' t) := Lib.hid (HPI.out.below hbc)
              have fm := may13R_any rs hwr t B' B d' d wA HRC.out HPC.out
              obtain ⟨okb, hokb⟩ : ∃ x, Hid ((mayT t && decide (checkE rs = 0)) = x) := ⟨_, Lib.hid rfl⟩
              rw [hokb.out] at fm
              rw [hop.out, hnt.out, htk.out, hm.out] at fm
              have x0 : wA.cell? ⟨g6, 0, none⟩ = some (.int .i64 op) := hg6b.cell 0
              have x1 : wA.cell? ⟨g6, 1, none⟩ = some (.int .i64 nt) := hg6b.cell 1
              have x2 : wA.cell? ⟨g6, 2, none⟩ = some (.slice B' tk d') := hg6b.cell 2
              have hbWA : Below W.heap.size W wA := hb2.trans (hbc.mono hb2.size)
              have hbkA := hbk2.below hbc hbk2.lt
              clear a0 b0 b1 b2 q0 q2 HRI HPI hbk2
              go_wp2_with fail
              refine fm.mono ?_
              rintro e w3 ⟨rfl, hb3⟩
              have hbW3 : Below W.heap.size W w3 := hbWA.trans (hb3.mono hbWA.size)
              have y0 := cell_later hb3 x0
              have y1 := cell_later hb3 x1
              have y2 := cell_later hb3 x2
              have hbk3 := hbkA.below hb3 hbkA.lt
              clear x0 x1 x2 fm hbkA
              cases okb
              · go_wp2_with fail
                go_roundw
                case rel => exact ⟨q + 1, by omega, by omega, by go_num, hbW3, hbk3⟩
                case measure => simp [intOf]; omega
              · have MI := Lib.hid (more_in hwr hokb.out (m / 2))
                have fl := labelP_any rs hwr t B' B d' d w3 (tab_alloc htab _ hbW3) (HRC.out.below hb3) (HPC.out.below hb3)
                rw [hop.out, hnt.out, htk.out, hm.out] at fl
                go_wp2_with fail
                refine fl.mono ?_
                rintro e w4 ⟨B8, E, rfl, hb4, hlab⟩
                have hE : E = 0 ∧ Hid (B8 = labB rs t) := by
                  rcases hlab with ⟨h1, _, _⟩ | ⟨_, h1, h2⟩
                  · rw [MI.out.m1] at h1; cases h1
                  · exact ⟨h1, Lib.hid h2⟩
                obtain ⟨rfl, hB8⟩ := hE
                obtain ⟨CA, hCA⟩ : ∃ x, Hid (costCells B8 = x) := ⟨_, Lib.hid rfl⟩
                have hCs : CA.size = 4 := by rw [← hCA.out]; rfl
                have hC1 : CA.all (·.oneCell') = true := by rw [← hCA.out]; simp [costCells, Value.oneCell']
                have hic : (Tryd.prog.info? 70).map (·.size) = some CA.size := by rw [hCs]; kernel_rfl
                rw [hCA.out]
                clear hlab fl y0 y1 y2
                go_upto_region 12 with (refine wpList_store_row rfl 70 (.tmp 7) (.tmp 63) rfl w4.heap.size CA rfl rfl 70 _ (BlkIs.fresh _ _ _) hic (by rw [hCs]; rfl) hC1 ?_)
                obtain ⟨w5, hw5⟩ : ∃ w5, w5 = (w4.alloc (.cells #[.int .i64 0, .int .i64 0, .int .i64 0, .int .i64 0] 70)).setRow w4.heap.size CA := ⟨_, rfl⟩
                have hb5 : Below w4.heap.size w4 w5 := by rw [hw5]; exact below_setRow (below_alloc _ _) (Nat.le_refl _) _
                obtain ⟨g7, hg7⟩ : ∃ g, Hid (w4.heap.size = g) := ⟨_, Lib.hid rfl⟩
                have k7 : BlkIs w5 g7 70 CA := by rw [hw5, ← hg7.out]; exact setRow_heap _ _ _ _ _ _ (BlkIs.fresh _ _ _)
                rw [← hw5, hg7.out]
                clear hw5
                have hc5 : Below wA.heap.size wA w5 := (hb3.trans (hb4.mono hb3.size)).trans (hb5.mono (hb3.trans (hb4.mono hb3.size)).size)
                have k6 : BlkIs w5 g6 64 #[.int .i64 op, .int .i64 nt, .slice B' tk d'] := hg6b.below hc5 hg6b.lt
                have hbW5 : Below W.heap.size W w5 := hbWA.trans (hc5.mono hbWA.size)
                have hbk5 := hbk3.below ((hb4.trans (hb5.mono hb4.size))) hbk3.lt
                have HR5 := Lib.hid (HRC.out.below hc5)
                have HP5 := Lib.hid (HPC.out.below hc5)
                clear hb5 hb4 hb3 hc5 hg6b hbk3 hbW3 HRC HPC hbWA hbc
                have x0 : w5.cell? ⟨g6, 0, none⟩ = some (.int .i64 op) := k6.cell 0
                have x1 : w5.cell? ⟨g6, 1, none⟩ = some (.int .i64 nt) := k6.cell 1
                have x2 : w5.cell? ⟨g6, 2, none⟩ = some (.slice B' tk d') := k6.cell 2
                obtain ⟨h2, hh2⟩ : ∃ x, Hid (m / 2 = x) := ⟨_, Lib.hid rfl⟩
                have hh2m : h2 ≤ m := by rw [← hh2.out]; omega
                have hh2l : (rs.take h2).length = h2 := by rw [List.length_take, hm.out]; omega
                have hmd : m ≤ d := by have h := HR5.out; obtain ⟨ok, h⟩ := h; obtain ⟨A', c', e1, e2, _⟩ := h.len; injection e1 with i1 i2 i3; rw [List.length_map, hm.out] at e2; omega
                have hnd : ¬ d < h2 := by omega
                have hwrap : IntKind.i64.wrap (h2 : Int) = (h2 : Int) := IntWalk.i64_in _ (by have h1 := hwr.1; rw [hm.out] at h1; unfold reachBytes at h1; omega)
                rw [hh2.out] at MI
                have fh := fun W' h1 h2' h3 => labelP_any (rs.take h2) MI.out.wf2 t B' B d' d W' h1 h2' h3
                rw [hop.out, hnt.out, htk.out, hh2l] at fh
                have hq2 : (Int.tdiv (m : Int) 2) = (h2 : Int) := by rw [← hh2.out]; rfl
                go_cut [9, 10] (fun s9 s10 wc => ∃ (g9 : Nat) (CB : Array Value), s9 = .pointer (some ⟨g9, 0, none⟩) ∧ s10 = .int .i64 0 ∧ Below w5.heap.size w5 wc ∧ w5.heap.size ≤ g9 ∧ BlkIs wc g9 70 CB ∧ Hid (CB = costCells (labB (rs.take h2) t)))
                case first =>
                 as_aux_lemma =>
                  refine anyJ_begin 12 (fun W' => Below w5.heap.size w5 W') (by kernel_rfl) ((Below.refl _ _).drew) (fun hHeld => ?_)
                  refine take (i := 0) (d := some 66) (v := .slice B m d) (by kernel_rfl) rfl rfl rfl (fun _ _ _ h => h) hHeld (fun W' hSw => by go_simp) ?_
                  simp only [Act.put, List.setIfInBounds_toArray, List.set_cons_zero, List.set_cons_succ]
                  refine take (i := 1) (d := some 67) (v := .slice B m d) (by kernel_rfl) rfl rfl rfl (fun _ _ _ h => h) hHeld (fun W' hSw => by go_simp) ?_
                  simp only [Act.put, List.setIfInBounds_toArray, List.set_cons_zero, List.set_cons_succ]
                  refine take (i := 2) (d := some 68) (v := .int .i64 m) (by kernel_rfl) rfl rfl rfl (fun _ _ _ h => h) hHeld (fun W' hSw => by go_simp) ?_
                  simp only [Act.put, List.setIfInBounds_toArray, List.set_cons_zero, List.set_cons_succ]
                  refine take (i := 3) (d := some 69) (v := .int .i64 h2) (by kernel_rfl) rfl rfl rfl (fun _ _ _ h => h) hHeld (fun W' hSw => by go_simp) ?_
                  simp only [Act.put, List.setIfInBounds_toArray, List.set_cons_zero, List.set_cons_succ]
                  refine take (i := 4) (d := some 70) (v := .slice B h2 d) (by kernel_rfl) rfl rfl rfl (fun _ _ _ h => h) hHeld (fun W' hSw => by go_simp) ?_
                  simp only [Act.put, List.setIfInBounds_toArray, List.set_cons_zero, List.set_cons_succ]
                  refine take (i := 5) (d := some 71) (v := .agg #[.int .i64 op, .int .i64 nt, .slice B' tk d']) (by kernel_rfl) rfl rfl rfl (fun _ _ _ h => h) hHeld (fun W' hSw => by have z0 := cell_later hSw x0; have z1 := cell_later hSw x1; have z2 := cell_later hSw x2; go_simp) ?_
                  simp only [Act.put, List.setIfInBounds_toArray, List.set_cons_zero, List.set_cons_succ]
                  refine anyJ_two (i := 6) (j := 10) (d := some 72) (d2 := some 9) (by kernel_rfl) rfl rfl rfl rfl rfl rfl (fun K' hK => ?_) (fun K' hK => ?_)
                  · skip
                    refine wp_go_call 32 _ _ rfl #[.slice B h2 d, .agg #[.int .i64 op, .int .i64 nt, .slice B' tk d']] rfl (fun W' => by go_simp) (fh _ (tab_alloc htab _ (hbW5.trans (hHeld.mono hbW5.size))) ((HR5.out.take h2 (by rw [hm.out]; exact hh2m)).below hHeld) (HP5.out.below hHeld)) (fun e w6 he => ?_)
                    obtain ⟨B9, E, rfl, hb6, hlab⟩ := he
                    have hE : E = 0 ∧ Hid (B9 = labB (rs.take h2) t) := by
                      rcases hlab with ⟨h1, _, _⟩ | ⟨_, h1, h2⟩
                      · rw [MI.out.m2] at h1; cases h1
                      · exact ⟨h1, Lib.hid h2⟩
                    obtain ⟨rfl, hB9⟩ := hE
                    obtain ⟨CB, hCB⟩ : ∃ x, Hid (costCells B9 = x) := ⟨_, Lib.hid rfl⟩
                    have hBs : CB.size = 4 := by rw [← hCB.out]; rfl
                    have hB1 : CB.all (·.oneCell') = true := by rw [← hCB.out]; simp [costCells, Value.oneCell']
                    have hib : (Tryd.prog.info? 70).map (·.size) = some CB.size := by rw [hBs]; kernel_rfl
                    rw [hCB.out]
                    have hCB := Lib.hid (show CB = costCells (labB (rs.take h2) t) by rw [← hCB.out, hB9.out])
                    refine ⟨_, rfl, hK.out _ _ (fun _ => hHeld.trans (hb6.mono hHeld.size)) (fun hHeld => ?_)⟩
                    have hHeld := hHeld (by decide)
                    simp only [Act.put, List.setIfInBounds_toArray, List.set_cons_zero, List.set_cons_succ]
                    refine take (i := 7) (d := some 65) (v := .tuple #[.agg CB, .int .i64 0]) (by kernel_rfl) rfl rfl rfl (fun _ _ _ h => h) hHeld (fun W' hSw => by go_simp) ?_
                    simp only [Act.put, List.setIfInBounds_toArray, List.set_cons_zero, List.set_cons_succ]
                    refine take (i := 8) (d := some 73) (v := .agg CB) (by kernel_rfl) rfl rfl rfl (fun _ _ _ h => h) hHeld (fun W' hSw => by go_simp) ?_
                    simp only [Act.put, List.setIfInBounds_toArray, List.set_cons_zero, List.set_cons_succ]
                    refine take (i := 9) (d := some 74) (v := .int .i64 0) (by kernel_rfl) rfl rfl rfl (fun _ _ _ h => h) hHeld (fun W' hSw => by go_simp) ?_
                    simp only [Act.put, List.setIfInBounds_toArray, List.set_cons_zero, List.set_cons_succ]
                    refine anyJ_only (i := 10) (d := some 9) (by kernel_rfl) rfl rfl rfl (fun K' hK => ?_)
                    obtain ⟨g9, hg9⟩ : ∃ g, Hid (w6.heap.size = g) := ⟨_, Lib.hid rfl⟩
                    have hg9w : w5.heap.size ≤ g9 := by rw [← hg9.out]; exact hHeld.size
                    have hz : BlkIs (w6.alloc (.cells #[.int .i64 0, .int .i64 0, .int .i64 0, .int .i64 0] 70)) g9 70 #[.int .i64 0, .int .i64 0, .int .i64 0, .int .i64 0] := BlkIs.fresh_at hg9.out.symm
                    refine wp_val (w' := w6.alloc (.cells #[.int .i64 0, .int .i64 0, .int .i64 0, .int .i64 0] 70)) (v := .pointer (some ⟨g9, 0, none⟩)) (by rw [← hg9.out]; go_simp) (hK.out _ _ (fun _ => hHeld.alloc hHeld.size _) (fun hHeld => ?_))
                    have hHeld := hHeld (by decide)
                    simp only [Act.put, List.setIfInBounds_toArray, List.set_cons_zero, List.set_cons_succ]
                    refine anyJ_only (i := 11) (d := none) (by kernel_rfl) rfl rfl rfl (fun K' hK => ?_)
                    refine wp_store_row 70 (.tmp 9) (.tmp 73) rfl g9 CB rfl rfl 70 _ hz hib (by rw [hBs]; rfl) hB1 (hK.out _ _ (fun _ => below_setRow hHeld hg9w _) (fun hHeld => ?_))
                    have hHeld := hHeld (by decide)
                    simp only [Act.put]
                    refine anyJ_only (i := 12) (d := some 10) (by kernel_rfl) rfl rfl rfl (fun K' hK => ?_)
                    refine wp_val (w' := (w6.alloc (.cells #[.int .i64 0, .int .i64 0, .int .i64 0, .int .i64 0] 70)).setRow g9 CB) (v := .int .i64 0) (by go_simp) (hK.out _ _ (fun h => absurd rfl h) (fun _ => ?_))
                    refine anyJ_done (by kernel_rfl) ?_ _
                    simp only [Act.put, List.setIfInBounds_toArray, List.set_cons_zero, List.set_cons_succ]
                    go_wp2_with fail
                    go_meet
                    exact ⟨g9, CB, rfl, rfl, hHeld, hg9w, setRow_heap _ _ _ _ _ _ hz, hCB⟩
                  · skip
                    obtain ⟨g9, hg9⟩ : ∃ g, Hid (w5.drew.heap.size = g) := ⟨_, Lib.hid rfl⟩
                    have hg9w : w5.heap.size ≤ g9 := by rw [← hg9.out]; exact hHeld.size
                    have hz : BlkIs (w5.drew.alloc (.cells #[.int .i64 0, .int .i64 0, .int .i64 0, .int .i64 0] 70)) g9 70 #[.int .i64 0, .int .i64 0, .int .i64 0, .int .i64 0] := BlkIs.fresh_at hg9.out.symm
                    refine wp_val (w' := w5.drew.alloc (.cells #[.int .i64 0, .int .i64 0, .int .i64 0, .int .i64 0] 70)) (v := .pointer (some ⟨g9, 0, none⟩)) (by rw [← hg9.out]; go_simp) (hK.out _ _ (fun _ => hHeld.alloc hHeld.size _) (fun hHeld => ?_))
                    have hHeld := hHeld (by decide)
                    simp only [Act.put, List.setIfInBounds_toArray, List.set_cons_zero, List.set_cons_succ]
                    refine anyJ_only (i := 6) (d := some 72) (by kernel_rfl) rfl rfl rfl (fun K' hK => ?_)
                    refine wp_go_call 32 _ _ rfl #[.slice B h2 d, .agg #[.int .i64 op, .int .i64 nt, .slice B' tk d']] rfl (fun W' => by go_simp) (fh _ (tab_alloc htab _ (hbW5.trans (hHeld.mono hbW5.size))) ((HR5.out.take h2 (by rw [hm.out]; exact hh2m)).below hHeld) (HP5.out.below hHeld)) (fun e w6 he => ?_)
                    obtain ⟨B9, E, rfl, hb6, hlab⟩ := he
                    have hE : E = 0 ∧ Hid (B9 = labB (rs.take h2) t) := by
                      rcases hlab with ⟨h1, _, _⟩ | ⟨_, h1, h2⟩
                      · rw [MI.out.m2] at h1; cases h1
                      · exact ⟨h1, Lib.hid h2⟩
                    obtain ⟨rfl, hB9⟩ := hE
                    obtain ⟨CB, hCB⟩ : ∃ x, Hid (costCells B9 = x) := ⟨_, Lib.hid rfl⟩
                    have hBs : CB.size = 4 := by rw [← hCB.out]; rfl
                    have hB1 : CB.all (·.oneCell') = true := by rw [← hCB.out]; simp [costCells, Value.oneCell']
                    have hib : (Tryd.prog.info? 70).map (·.size) = some CB.size := by rw [hBs]; kernel_rfl
                    rw [hCB.out]
                    have hCB := Lib.hid (show CB = costCells (labB (rs.take h2) t) by rw [← hCB.out, hB9.out])
                    refine ⟨_, rfl, hK.out _ _ (fun _ => hHeld.trans (hb6.mono hHeld.size)) (fun hHeld => ?_)⟩
                    have hHeld := hHeld (by decide)
                    simp only [Act.put, List.setIfInBounds_toArray, List.set_cons_zero, List.set_cons_succ]
                    have hz := hz.below hb6 hz.lt
                    refine take (i := 7) (d := some 65) (v := .tuple #[.agg CB, .int .i64 0]) (by kernel_rfl) rfl rfl rfl (fun _ _ _ h => h) hHeld (fun W' hSw => by go_simp) ?_
                    simp only [Act.put, List.setIfInBounds_toArray, List.set_cons_zero, List.set_cons_succ]
                    refine take (i := 8) (d := some 73) (v := .agg CB) (by kernel_rfl) rfl rfl rfl (fun _ _ _ h => h) hHeld (fun W' hSw => by go_simp) ?_
                    simp only [Act.put, List.setIfInBounds_toArray, List.set_cons_zero, List.set_cons_succ]
                    refine take (i := 9) (d := some 74) (v := .int .i64 0) (by kernel_rfl) rfl rfl rfl (fun _ _ _ h => h) hHeld (fun W' hSw => by go_simp) ?_
                    simp only [Act.put, List.setIfInBounds_toArray, List.set_cons_zero, List.set_cons_succ]
                    refine anyJ_only (i := 11) (d := none) (by kernel_rfl) rfl rfl rfl (fun K' hK => ?_)
                    refine wp_store_row 70 (.tmp 9) (.tmp 73) rfl g9 CB rfl rfl 70 _ hz hib (by rw [hBs]; rfl) hB1 (hK.out _ _ (fun _ => below_setRow hHeld hg9w _) (fun hHeld => ?_))
                    have hHeld := hHeld (by decide)
                    simp only [Act.put]
                    refine anyJ_only (i := 12) (d := some 10) (by kernel_rfl) rfl rfl rfl (fun K' hK => ?_)
                    refine wp_val (w' := w6.setRow g9 CB) (v := .int .i64 0) (by go_simp) (hK.out _ _ (fun h => absurd rfl h) (fun _ => ?_))
                    refine anyJ_done (by kernel_rfl) ?_ _
                    simp only [Act.put, List.setIfInBounds_toArray, List.set_cons_zero, List.set_cons_succ]
                    go_wp2_with fail
                    go_meet
                    exact ⟨g9, CB, rfl, rfl, hHeld, hg9w, setRow_heap _ _ _ _ _ _ hz, hCB⟩
                case rest =>
                  obtain ⟨g9, CB, rfl, rfl, hbc, hg9, k9, hCB⟩ := hcut
                  obtain ⟨wB, rfl⟩ : ∃ wB : World, wB = wc := ⟨_, rfl⟩
                  have HRB := Lib.hid (HR5.out.below hbc)
                  have HPB := Lib.hid (HP5.out.below hbc)
                  have k7B := k7.below hbc k7.lt
                  have k6B := k6.below hbc k6.lt
                  have hbkB := hbk5.below hbc hbk5.lt
                  have hbWB : Below W.heap.size W wB := hbW5.trans (hbc.mono hbW5.size)
                  have fc := f1 wB HRB.out
                  clear x0 x1 x2 k7 k6 hbk5 fh HR5 HP5 hbc hbW5 f1 hq2 hnd hwrap hC1 hic hCs
                  go_wp2_with fail
                  refine fc.mono ?_
                  rintro e w6 ⟨v6, rfl, ho6, hb6⟩
                  have ho6 : Hid (Own w6 wB.heap.size (fun g => wB.heap.size ≤ g) 33 6 v6 (rs.map encR)) := Lib.hid ho6
                  obtain ⟨A11, c11, rfl⟩ : ∃ A11 c11, v6 = .slice A11 m c11 := by
                    obtain ⟨A', c', e1, _⟩ := ho6.out.rep.len
                    exact ⟨A', c', by rw [e1, List.length_map, hm.out]⟩
                  have H11 := Lib.hid (checked_cost (rs := rs) (by have := hokb.out; rw [Bool.and_eq_true, decide_eq_true_eq] at this; exact this.2))
                  have hmx : m ≤ 1000000000000000000 := by have h1 := hwr.1; rw [hm.out] at h1; unfold reachBytes at h1; omega
                  clear fc
                  go_wp2_with fail
                  go_loopw [12, 13] (fun s12 s13 wr => ∃ j : Nat, j ≤ m ∧ s12 = .bool (fitsTo j rs) ∧ s13 = .int .i64 j ∧ Below wB.heap.size wB wr ∧ Hid (Own wr wB.heap.size (fun g => wB.heap.size ≤ g) 33 6 (.slice A11 m c11) ((dblTo j rs).map encR))) (fun _ s13 _ => m - (intOf s13).toNat)
                  case atStart => exact ⟨0, by omega, rfl, rfl, hb6, by rw [dblTo_zero]; exact ho6⟩
                  case round =>
                   as_aux_lemma =>
                    obtain ⟨j, hj, rfl, rfl, hbr, HO⟩ := hrel
                    obtain ⟨wj, rfl⟩ : ∃ wj : World, wj = wr := ⟨_, rfl⟩
                    obtain ⟨fb, hfb⟩ : ∃ x, Hid (fitsTo j rs = x) := ⟨_, Lib.hid rfl⟩
                    rw [hfb.out]
                    by_cases hltj : j < m
                    · have hjl : j < rs.length := by rw [hm.out]; exact hltj
                      have hjd : j < (dblTo j rs).length := by rw [dblTo_len]; exact hjl
                      obtain ⟨g11, cur, rfl, hg11, hbk11⟩ := HO.out.blk (by rw [List.length_map]; omega)
                      have hbl := hbk11.lt
                      have hfz := hbk11.frozen (j * 6 + 4)
                      obtain ⟨okr, hrr⟩ := (rulesIn_of_own HO.out).2
                      obtain ⟨g2, off2, B2, d2, e1, _, hg2, ⟨z0, z1, z2, z3, z4, z5⟩, hx1, hx2⟩ := rules_at hrr j hjd
                      injection e1 with e1
                      injection e1 with e1 e2
                      subst e1 e2
                      rw [dblTo_at j rs hjl hjd, Nat.zero_add] at z4
                      have hcb := H11.out rs[j] (List.getElem_mem hjl)
                      have hfs := Lib.hid (fitsTo_succ j rs hjl)
                      have hstep := Lib.hid (dblTo_succ j rs hjl)
                      obtain ⟨r0, hr0⟩ : ∃ x, Hid (rs[j] = x) := ⟨_, Lib.hid rfl⟩
                      rw [hr0.out] at z4 hcb hfs hstep
                      obtain ⟨cst, hcst⟩ : ∃ x, Hid (r0.cost = x) := ⟨_, Lib.hid rfl⟩
                      rw [hcst.out] at z4 hcb hfs
                      have hw2 : IntKind.i64.wrap (2 * cst) = 2 * cst := IntWalk.i64_in _ (by omega)
                      have HN := Lib.hid (Own.set_at HO.out j (by rw [List.length_map]; exact hjd) (encR (dblR r0)) 4 (by omega) (.int .i64 (2 * cst)) (fun a ha => by rw [← hcst.out]; exact rep_dbl (by rw [← hr0.out]; simpa [dblTo_at j rs hjl hjd] using ha)))
                      clear z0 z1 z2 z3 z5 hx1 hx2 hrr
                      have hfs2 : fitsTo (j + 1) rs = (fb && decide (2 * cst ≤ 65535)) := by rw [hfs.out, hfb.out]
                      cases fb
                      · go_wp2_with fail
                        go_roundw
                        case rel => exact ⟨j + 1, by omega, by rw [hfs2]; rfl, by go_num, hbr.setCell hg11 _, Lib.hid (by rw [← hstep.out, List.map_set]; exact HN.out)⟩
                        case measure => simp [intOf]; omega
                      · go_wp2_with fail
                        go_roundw
                        case rel => exact ⟨j + 1, by omega, by rw [hfs2, Bool.true_and], by go_num, hbr.setCell hg11 _, Lib.hid (by rw [← hstep.out, List.map_set]; exact HN.out)⟩
                        case measure => simp [intOf]; omega
                    · have hjm : m = j := by omega
                      subst hjm
                      have hall : dblTo m rs = rs.map dblR := by rw [← hm.out]; exact dblTo_all rs
                      have HRD : Hid (RulesIn wj A11 c11 (rs.map dblR)) := Lib.hid (by have h := (rulesIn_of_own HO.out).2; rw [hall] at h; exact h)
                      have hdl : (rs.map dblR).length = m := by rw [List.length_map, hm.out]
                      have hbWj : Below W.heap.size W wj := hbWB.trans (hbr.mono hbWB.size)
                      have fd := labelP_any (rs.map dblR) MI.out.wf3 t B' A11 d' c11 wj (tab_alloc htab _ hbWj) HRD.out (HPB.out.below hbr)
                      rw [hdl, hop.out, hnt.out, htk.out] at fd
                      have k6j := k6B.below hbr k6B.lt
                      have k7j := k7B.below hbr k7B.lt
                      have k9j := k9.below hbr k9.lt
                      have hbkj := hbkB.below hbr hbkB.lt
                      have x0 : wj.cell? ⟨g6, 0, none⟩ = some (.int .i64 op) := k6j.cell 0
                      have x1 : wj.cell? ⟨g6, 1, none⟩ = some (.int .i64 nt) := k6j.cell 1
                      have x2 : wj.cell? ⟨g6, 2, none⟩ = some (.slice B' tk d') := k6j.cell 2
                      clear k6B k7B k9 hbkB HO hb6 ho6 hall hdl HRB HPB HRD hltj hbr hbWB
                      go_wp2_with fail
                      refine fd.mono ?_
                      rintro e w7 ⟨B14, E, rfl, hb7, hlab⟩
                      have hE : Hid (E = if fb then 0 else 1) ∧ Hid (fb = true → B14 = labB (rs.map dblR) t) := by
                        rw [MI.out.m3, hm.out, hfb.out] at hlab
                        rcases hlab with ⟨h1, h2, h3⟩ | ⟨h1, h2, h3⟩
                        · rw [h1]; exact ⟨Lib.hid h2, Lib.hid (fun h => by cases h)⟩
                        · rw [h1]; exact ⟨Lib.hid h2, Lib.hid (fun _ => h3)⟩
                      obtain ⟨hE, hB14⟩ := hE
                      obtain ⟨CC, hCC⟩ : ∃ x, Hid (costCells B14 = x) := ⟨_, Lib.hid rfl⟩
                      have hCs : CC.size = 4 := by rw [← hCC.out]; rfl
                      have hC1 : CC.all (·.oneCell') = true := by rw [← hCC.out]; simp [costCells, Value.oneCell']
                      have hic : (Tryd.prog.info? 70).map (·.size) = some CC.size := by rw [hCs]; kernel_rfl
                      rw [hCC.out]
                      clear hlab fd x0 x1 x2 k6j
                      go_upto_region 21 with (refine wpList_store_row rfl 70 (.tmp 14) (.tmp 106) rfl w7.heap.size CC rfl rfl 70 _ (BlkIs.fresh _ _ _) hic (by rw [hCs]; rfl) hC1 ?_)
                      obtain ⟨w8, hw8⟩ : ∃ w8, w8 = (w7.alloc (.cells #[.int .i64 0, .int .i64 0, .int .i64 0, .int .i64 0] 70)).setRow w7.heap.size CC := ⟨_, rfl⟩
                      have hb8 : Below w7.heap.size w7 w8 := by rw [hw8]; exact below_setRow (below_alloc _ _) (Nat.le_refl _) _
                      have k14 : BlkIs w8 w7.heap.size 70 CC := by rw [hw8]; exact setRow_heap _ _ _ _ _ _ (BlkIs.fresh _ _ _)
                      rw [← hw8]
                      clear hw8 hic hC1 hCs
                      have hb78 := hb7.trans (hb8.mono hb7.size)
                      have k7 := k7j.below hb78 k7j.lt
                      have k9 := k9j.below hb78 k9j.lt
                      have hbk8 := hbkj.below hb78 hbkj.lt
                      have hbW8 := hbWj.trans (hb78.mono hbWj.size)
                      clear k7j k9j hbkj hbWj hb78 hb8 hb7
                      have n0 := fun W' => num13_any 0 W'
                      have n1 := fun W' => num13_any E W'
                      obtain ⟨g14, hg14⟩ : ∃ g, Hid (w7.heap.size = g) := ⟨_, Lib.hid rfl⟩
                      rw [hg14.out] at k14 ⊢
                      have ha := Lib.hid (fun n => MI.out.a1 n)
                      have hb' := Lib.hid (fun n => MI.out.b1 n)
                      have hab := Lib.hid (fun n => MI.out.ab n)
                      have hac := Lib.hid (fun n => MI.out.ac n)
                      have hgo : Hid (∀ z : Nat, z < 4 → CA[z]? = some (.int .i64 ((labB rs t).cost z)) ∧ CB[z]? = some (.int .i64 ((labB (rs.take h2) t).cost z)) ∧ ∃ c, CC[z]? = some (.int .i64 c) ∧ (fb = true → c = dblC ((labB rs t).cost z))) := Lib.hid (fun z hz => by
                        refine ⟨by rw [← hCA.out, hB8.out]; exact costCells_at _ z hz, by rw [hCB.out]; exact costCells_at _ z hz, B14.cost z, by rw [← hCC.out]; exact costCells_at _ z hz, fun h => ?_⟩
                        rw [hB14.out h]; exact hac.out z)
                      have hcase : (fb = true ∧ E = 0) ∨ (fb = false ∧ E = 1) := by
                        have := hE.out
                        cases fb
                        · exact Or.inr ⟨rfl, by simpa using this⟩
                        · exact Or.inl ⟨rfl, by simpa using this⟩
                      clear hE MI H11 hac
                      rcases hcase with ⟨rfl, rfl⟩ | ⟨rfl, rfl⟩
                      · go_wp2_with fail
                        refine (n0 _).mono ?_
                        rintro e w' ⟨rfl, rfl⟩
                        go_wp2_with fail
                        refine (n0 _).mono ?_
                        rintro e w' ⟨rfl, rfl⟩
                        go_wp2_with fail
                        refine (n0 _).mono ?_
                        rintro e w' ⟨rfl, rfl⟩
                        go_wp2_with fail
                        go_loopw [16] (fun s16 wr => ∃ z : Nat, z ≤ 4 ∧ s16 = .int .i64 z ∧ Below w8.heap.size w8 wr) (fun s _ => 4 - (intOf s).toNat)
                        case atStart => exact ⟨0, by omega, rfl, Below.refl _ _⟩
                        case round =>
                         as_aux_lemma =>
                          obtain ⟨z, hz4, rfl, hbz⟩ := hrel
                          obtain ⟨wz, rfl⟩ : ∃ wz : World, wz = wr := ⟨_, rfl⟩
                          by_cases hltz : z < 4
                          · obtain ⟨ga, gb, c, gc, hac⟩ := hgo.out z hltz
                            have qa := hab.out z
                            have ra := ha.out z
                            have rb := hb'.out z
                            obtain ⟨a, hea⟩ : ∃ x, Hid ((labB rs t).cost z = x) := ⟨_, Lib.hid rfl⟩
                            obtain ⟨b, heb⟩ : ∃ x, Hid ((labB (rs.take h2) t).cost z = x) := ⟨_, Lib.hid rfl⟩
                            rw [hea.out] at ga qa ra hac
                            rw [heb.out] at gb qa rb
                            have ca : wz.cell? ⟨g7, z, none⟩ = some (.int .i64 a) := ((k7.below hbz k7.lt).cell z).trans ga
                            have cb : wz.cell? ⟨g9, z, none⟩ = some (.int .i64 b) := ((k9.below hbz k9.lt).cell z).trans gb
                            have cc : wz.cell? ⟨g14, z, none⟩ = some (.int .i64 c) := ((k14.below hbz k14.lt).cell z).trans gc
                            have hw2 : IntKind.i64.wrap (2 * a) = 2 * a := IntWalk.i64_in _ (by omega)
                            have hqa : Hid (b ≠ -1 → a ≠ -1 ∧ a ≤ b) := Lib.hid qa
                            have hcc : Hid (c = dblC a) := Lib.hid (hac trivial)
                            clear qa hac ga gb gc
                            by_cases hb0 : 0 ≤ b
                            · have h3 := hqa.out (by omega)
                              have ha0 : 0 ≤ a := by omega
                              have hba : a ≤ b := h3.2
                              have hna : ¬ a < 0 := by omega
                              have hnab : ¬ b < a := by omega
                              have hc2 : c = 2 * a := by have := hcc.out; unfold dblC at this; rw [if_neg (by omega)] at this; exact this
                              subst hc2
                              clear h3
                              go_upto_region 26 with fail
                              refine wp_region_quiet_lit (by kernel_rfl) (by kernel_rfl) ?_
                              iterate 27 (go_big_quiet_step (fail))
                              iterate 26 (go_big_quiet_step (fail))
                              refine wpQuiet_nil ?_
                              rintro w' ⟨nq, rfl⟩
                              go_wp2_with fail
                              go_roundw
                              case rel => exact ⟨z + 1, by omega, by go_num, below_drewsN hbz _⟩
                              case measure => simp [intOf]; omega
                            · by_cases ha0 : 0 ≤ a
                              · have hna : ¬ a < 0 := by omega
                                have hc2 : c = 2 * a := by have := hcc.out; unfold dblC at this; rw [if_neg (by omega)] at this; exact this
                                subst hc2
                                go_upto_region 26 with fail
                                refine wp_region_quiet_lit (by kernel_rfl) (by kernel_rfl) ?_
                                iterate 27 (go_big_quiet_step (fail))
                                iterate 26 (go_big_quiet_step (fail))
                                refine wpQuiet_nil ?_
                                rintro w' ⟨nq, rfl⟩
                                go_wp2_with fail
                                go_roundw
                                case rel => exact ⟨z + 1, by omega, by go_num, below_drewsN hbz _⟩
                                case measure => simp [intOf]; omega
                              · have hna : a < 0 := by omega
                                have hc2 : ¬ 0 ≤ c := by have := hcc.out; unfold dblC at this; split at this <;> omega
                                go_upto_region 26 with fail
                                refine wp_region_quiet_lit (by kernel_rfl) (by kernel_rfl) ?_
                                iterate 27 (go_big_quiet_step (fail))
                                iterate 26 (go_big_quiet_step (fail))
                                refine wpQuiet_nil ?_
                                rintro w' ⟨nq, rfl⟩
                                go_wp2_with fail
                                go_roundw
                                case rel => exact ⟨z + 1, by omega, by go_num, below_drewsN hbz _⟩
                                case measure => simp [intOf]; omega
                          · clear hgo
                            go_wp2_with fail
                            go_roundw
                            case rel => exact ⟨q + 1, by omega, by omega, by go_num, hbW8.trans (hbz.mono hbW8.size), hbk8.below hbz hbk8.lt⟩
                            case measure => simp [intOf]; omega
                      · go_wp2_with fail
                        refine (n0 _).mono ?_
                        rintro e w' ⟨rfl, rfl⟩
                        go_wp2_with fail
                        refine (n0 _).mono ?_
                        rintro e w' ⟨rfl, rfl⟩
                        go_wp2_with fail
                        refine (n1 _).mono ?_
                        rintro e w' ⟨rfl, rfl⟩
                        go_wp2_with fail
                        go_loopw [16] (fun s16 wr => ∃ z : Nat, z ≤ 4 ∧ s16 = .int .i64 z ∧ Below w8.heap.size w8 wr) (fun s _ => 4 - (intOf s).toNat)
                        case atStart => exact ⟨0, by omega, rfl, Below.refl _ _⟩
                        case round =>
                         as_aux_lemma =>
                          obtain ⟨z, hz4, rfl, hbz⟩ := hrel
                          obtain ⟨wz, rfl⟩ : ∃ wz : World, wz = wr := ⟨_, rfl⟩
                          by_cases hltz : z < 4
                          · obtain ⟨ga, gb, c, gc, hac⟩ := hgo.out z hltz
                            have qa := hab.out z
                            have ra := ha.out z
                            have rb := hb'.out z
                            obtain ⟨a, hea⟩ : ∃ x, Hid ((labB rs t).cost z = x) := ⟨_, Lib.hid rfl⟩
                            obtain ⟨b, heb⟩ : ∃ x, Hid ((labB (rs.take h2) t).cost z = x) := ⟨_, Lib.hid rfl⟩
                            rw [hea.out] at ga qa ra hac
                            rw [heb.out] at gb qa rb
                            have ca : wz.cell? ⟨g7, z, none⟩ = some (.int .i64 a) := ((k7.below hbz k7.lt).cell z).trans ga
                            have cb : wz.cell? ⟨g9, z, none⟩ = some (.int .i64 b) := ((k9.below hbz k9.lt).cell z).trans gb
                            have cc : wz.cell? ⟨g14, z, none⟩ = some (.int .i64 c) := ((k14.below hbz k14.lt).cell z).trans gc
                            have hw2 : IntKind.i64.wrap (2 * a) = 2 * a := IntWalk.i64_in _ (by omega)
                            have hqa : Hid (b ≠ -1 → a ≠ -1 ∧ a ≤ b) := Lib.hid qa
                            have hcc : Hid (True) := Lib.hid trivial
                            clear qa hac ga gb gc
                            by_cases hb0 : 0 ≤ b
                            · have h3 := hqa.out (by omega)
                              have ha0 : 0 ≤ a := by omega
                              have hba : a ≤ b := h3.2
                              have hna : ¬ a < 0 := by omega
                              have hnab : ¬ b < a := by omega
                              skip
                              clear h3
                              go_upto_region 26 with fail
                              refine wp_region_quiet_lit (by kernel_rfl) (by kernel_rfl) ?_
                              iterate 27 (go_big_quiet_step (fail))
                              iterate 26 (go_big_quiet_step (fail))
                              refine wpQuiet_nil ?_
                              rintro w' ⟨nq, rfl⟩
                              go_wp2_with fail
                              go_roundw
                              case rel => exact ⟨z + 1, by omega, by go_num, below_drewsN hbz _⟩
                              case measure => simp [intOf]; omega
                            · by_cases ha0 : 0 ≤ a
                              · have hna : ¬ a < 0 := by omega
                                skip
                                go_upto_region 26 with fail
                                refine wp_region_quiet_lit (by kernel_rfl) (by kernel_rfl) ?_
                                iterate 27 (go_big_quiet_step (fail))
                                iterate 26 (go_big_quiet_step (fail))
                                refine wpQuiet_nil ?_
                                rintro w' ⟨nq, rfl⟩
                                go_wp2_with fail
                                go_roundw
                                case rel => exact ⟨z + 1, by omega, by go_num, below_drewsN hbz _⟩
                                case measure => simp [intOf]; omega
                              · have hna : a < 0 := by omega
                                skip
                                go_upto_region 26 with fail
                                refine wp_region_quiet_lit (by kernel_rfl) (by kernel_rfl) ?_
                                iterate 27 (go_big_quiet_step (fail))
                                iterate 26 (go_big_quiet_step (fail))
                                refine wpQuiet_nil ?_
                                rintro w' ⟨nq, rfl⟩
                                go_wp2_with fail
                                go_roundw
                                case rel => exact ⟨z + 1, by omega, by go_num, below_drewsN hbz _⟩
                                case measure => simp [intOf]; omega
                          · clear hgo
                            go_wp2_with fail
                            go_roundw
                            case rel => exact ⟨q + 1, by omega, by omega, by go_num, hbW8.trans (hbz.mono hbW8.size), hbk8.below hbz hbk8.lt⟩
                            case measure => simp [intOf]; omega
          · by_cases hkn : q < tn
            · have h6 : ¬ q < 4 := fun h => hlt2 ⟨hkn, h⟩
              clear hlt2
              go_wp2_with fail
              go_roundw
              case rel => exact ⟨k + 1, by omega, by omega, by go_num, hb2, hbk2⟩
              case measure => simp [intOf]; omega
            · clear hlt2
              go_wp2_with fail
              go_roundw
              case rel => exact ⟨k + 1, by omega, by omega, by go_num, hb2, hbk2⟩
              case measure => simp [intOf]; omega
      · by_cases hkn : k < n
        · have h6 : ¬ k < 4 := fun h => hlt ⟨hkn, h⟩
          clear hlt
          go_wp2_with fail
          refine (hfin.out _ hb).mono ?_
          rintro e w3 ⟨rfl, hb3⟩
          go_wp2_with fail
          go_ret
          exact ⟨ret_bool rfl, hb.trans (hb3.mono hb.size)⟩
        · clear hlt
          go_wp2_with fail
          refine (hfin.out _ hb).mono ?_
          rintro e w3 ⟨rfl, hb3⟩
          go_wp2_with fail
          go_ret
          exact ⟨ret_bool rfl, hb.trans (hb3.mono hb.size)⟩

end

end Go.Proofs.YtaippkdlibampaaDoor

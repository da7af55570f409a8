/- The reference's covers walked: a rule of an op; covers of any tree. The reference's Cover walked. cover.node walked: a node's key. (*Chooser).label walked: a tree's best, by the memory of bests. -/
import Derived.Test.YtaippkdlibampaaDoorK8
import Derived.Test.YtaippkdlibampaaDoorK6
import Derived.Test.YtaippkdlibampaaDoorK7
import Derived.Deep.RegionHeld3
import Derived.Laws.CopyRow
import Derived.Lib.SlBuf
namespace Go.Proofs.YtaippkdlibampaaDoor

/- The reference's covers walked: a rule of an op; covers of any tree. -/
section
open Go.RowKit

set_option maxRecDepth 100000 in
set_option maxHeartbeats 16000000 in
theorem covers_op (rs : List Rule) (t : Pat) (nt a : Nat) (hnt : nt < 4) (h : a < rs.length) (cs : List Cov) (hr1 : (labB rs t).rule nt = a) (h0 : rs[a].pat.op ≠ 0) (hl : cs.length = rs[a].pat.kids.length) (ht : cs.length = t.kids.length) (h2 : cs.length ≤ 2)
    (m : Nat → Nat) (hm : ∀ (i : Nat) (h2 : i < rs[a].pat.kids.length), rs[a].pat.kids[i].nt = m i ∧ m i < 4) (ih : ∀ (i : Nat) (h1 : i < cs.length) (h3 : i < t.kids.length), CoversOk rs t.kids[i] (m i) cs[i]) : CoversOk rs t nt (.mk a cs) := by
  intro A A2 d c2 w hr hp
  have HP := Lib.hid hp
  have HR := Lib.hid hr
  have hrule := labCells_rule (labB rs t) (.slice A t.kids.length d) nt hnt
  rw [hr1] at hrule
  have hkid : (labCells (labB rs t) (.slice A t.kids.length d))[8]? = some (.slice A t.kids.length d) := rfl
  obtain ⟨LC, hLC⟩ : ∃ K, Hid (labCells (labB rs t) (.slice A t.kids.length d) = K) := ⟨_, Lib.hid rfl⟩
  rw [hLC.out] at hrule hkid
  rw [hLC.out]
  obtain ⟨rn, hrn⟩ : ∃ n, Hid (rs.length = n) := ⟨_, Lib.hid rfl⟩
  obtain ⟨n, hn⟩ : ∃ n, Hid (cs.length = n) := ⟨_, Lib.hid rfl⟩
  have har : a < rn := by rw [← hrn.out]; exact h
  have HTN : Hid (t.kids.length = n) := Lib.hid (by rw [← ht, hn.out])
  have HPN : Hid (rs[a].pat.kids.length = n) := Lib.hid (by rw [← hl, hn.out])
  rw [hn.out] at h2
  rw [HTN.out] at hkid
  rw [hrn.out]
  have HOP := Lib.hid h0
  have HM := Lib.hid hm
  have IH := Lib.hid ih
  have HTS : Hid (∀ k (hk : k < cs.length), (cs.take (k + 1)).map encC = (cs.take k).map encC ++ [encC cs[k]]) := Lib.hid (fun k hk => take_map encC cs k hk)
  clear hr1 h0 hl ht hm hp ih hr
  go_enter Tryd.func71, Tryd.ntmps71
  have b0 : BlkIs (w.alloc (.cells LC 118)) w.heap.size 118 LC := BlkIs.fresh _ _ _
  have r0 : (w.alloc (.cells LC 118)).cell? ⟨w.heap.size, 4 + nt, none⟩ = some (.int .i64 a) := (b0.cell (4 + nt)).trans hrule
  go_upto_region 2 with fail
  obtain ⟨w0, hw0⟩ : ∃ w0, w0 = ((w.alloc (.cells LC 118)).alloc (.cells #[.int .i64 0, .slice none 0 0] 60)).alloc (.cells #[.int .i64 a, .slice none 0 0] 60) := ⟨_, rfl⟩
  have hb0 : Below w.heap.size w w0 := by rw [hw0]; exact below_box3 _ _ _ _
  have hz0 : w.heap.size + 3 ≤ w0.heap.size ∧ w0.heap.size ≤ w.heap.size + 3 := by rw [hw0]; simp
  obtain ⟨hz0, hz1⟩ := hz0
  have k0 : BlkIs w0 w.heap.size 118 LC := by rw [hw0]; exact (b0.alloc _).alloc _
  have z0 : BlkIs w0 (w.heap.size + 1) 60 #[.int .i64 0, .slice none 0 0] := by rw [hw0]; exact (BlkIs.fresh1 _ _ _ _).alloc _
  have v0 : BlkIs w0 (w.heap.size + 1 + 1) 60 #[.int .i64 a, .slice none 0 0] := by rw [hw0]; exact BlkIs.fresh2 (by simp)
  rw [← hw0]
  clear hw0 b0 r0
  have hrs := HR.out
  obtain ⟨ok, hrs⟩ := hrs
  obtain ⟨g, off, B, d2, rfl, _, hg, ⟨a0, a1, a2, a3, a4, a5⟩, hle5, hpat⟩ := rules_at hrs a h
  have a1 := cell_later hb0 a1
  have a2 := cell_later hb0 a2
  have a3 := cell_later hb0 a3
  obtain ⟨pop, hpop⟩ : ∃ x, Hid (rs[a].pat.op = x) := ⟨_, Lib.hid rfl⟩
  obtain ⟨pnt, hpnt⟩ : ∃ x, Hid (rs[a].pat.nt = x) := ⟨_, Lib.hid rfl⟩
  have hpk : PatIn w B d2 rs[a].pat := ⟨_, hpat⟩
  have HPK : Hid (PatsIn w B d2 rs[a].pat.kids) := Lib.hid hpk.kids
  rw [HPN.out] at a3
  rw [hpnt.out] at a2
  have hpo := HOP.out
  rw [hpop.out] at hpo a1
  have hpoe : (pop == 0) = false := by simpa using hpo
  have x0 : w0.cell? ⟨w.heap.size + 1 + 1, 0, none⟩ = some (.int .i64 a) := v0.cell 0
  clear hrs a0 a4 a5 hle5 hpat hpk
  go_wp2_with fail
  obtain ⟨P3, hP3⟩ : ∃ x : Array Value, Hid (#[.int .i64 pop, .int .i64 pnt, .slice B n d2] = x) := ⟨_, Lib.hid rfl⟩
  rw [hP3.out]
  have hb1 : Below w.heap.size w (w0.alloc (.cells P3 31)) := hb0.alloc hb0.size _
  have hP2 : P3[2]? = some (.slice B n d2) := by rw [← hP3.out]; rfl
  go_loopw [9] (fun i wr => ∃ (k : Nat) (v : Value), k ≤ n ∧ i = .int .i64 k ∧ Below w.heap.size w wr ∧ BlkIs wr w.heap.size 118 LC ∧ BlkIs wr (w.heap.size + 1) 60 #[.int .i64 0, .slice none 0 0] ∧ BlkIs wr (w.heap.size + 1 + 1) 60 #[.int .i64 a, v] ∧ BlkIs wr w0.heap.size 31 P3 ∧ Own wr (w.heap.size + 4) (fun g => w.heap.size + 4 ≤ g) 60 2 v ((cs.take k).map encC)) (fun i _ => n - (intOf i).toNat)
  case atStart => exact ⟨0, .slice none 0 0, by omega, rfl, hb1, k0.alloc _, z0.alloc _, v0.alloc _, BlkIs.fresh _ _ _, Own.nil _ _ _ _ _⟩
  case round =>
    obtain ⟨k, v, hk, rfl, hb, kx, zx, vx, px, hown⟩ := hrel
    obtain ⟨wo, rfl⟩ : ∃ wo : World, wo = wr := ⟨_, rfl⟩
    clear hb0 hb1 k0 z0 v0 x0 a1 a2 a3
    have hbz := hb.size
    have p2 : wo.cell? ⟨w0.heap.size, 2, none⟩ = some (.slice B n d2) := (px.cell 2).trans hP2
    have b8 : wo.cell? ⟨w.heap.size, 8, none⟩ = some (.slice A n d) := (kx.cell 8).trans hkid
    have v1 : wo.cell? ⟨w.heap.size + 1 + 1, 1, none⟩ = some v := vx.cell 1
    by_cases hlt : k < n
    · have hkc : k < cs.length := by rw [hn.out]; exact hlt
      have hkt : k < t.kids.length := by rw [HTN.out]; exact hlt
      have hkp : k < rs[a].pat.kids.length := by rw [HPN.out]; exact hlt
      obtain ⟨g1, off1, B1, d1, rfl, hg1, hc1, hlab⟩ := labs_at HP.out k hkt
      obtain ⟨ok2, hps⟩ := HPK.out
      obtain ⟨g2, off2, B2, d3, rfl, _, hg2, ⟨p0, p1, p2'⟩, _⟩ := pats_at hps k hkp
      rw [(HM.out k hkp).1] at p1
      have hcall := fun W => IH.out k hkc hkt B1 (some ⟨g, off, none⟩) d1 c2 W
      rw [hrn.out] at hcall
      have q1 := cell_later hb p1
      obtain ⟨LQ, hLQ⟩ : ∃ x, Hid (labCells (labB rs t.kids[k]) (.slice B1 t.kids[k].kids.length d1) = x) := ⟨_, Lib.hid rfl⟩
      have hLQs : LQ.toList.length = 9 := by rw [← hLQ.out]; rfl
      rw [hLQ.out] at hc1 hcall
      have hrange : wo.rangeAt g1 (off1 + k * 9) LQ.toList := by
        intro j u hj
        have hj9 : j < 9 := by have := (List.getElem?_eq_some_iff.1 hj).1; omega
        have h1 := hc1 j hj9
        rw [show (off1 + k * 9 + j) = off1 + (k * 9 + j) by omega]
        refine cell_later hb (h1.trans ?_)
        simpa using hj
      have hiq : (Tryd.prog.info? 118).map (·.size) = some LQ.toList.length := by rw [hLQs]; kernel_rfl
      have hts := Lib.hid (HTS.out k hkc)
      have hlab2 := hlab.below hb
      have hr2 := HR.out.below hb
      clear hc1 hps p0 p1 p2' hlab
      go_wp2_with fail
      have own0 := hown.drew
      have hz2 : w.heap.size + 1 + 1 < wo.heap.size := vx.lt
      have hz4 : w.heap.size + 4 ≤ wo.heap.size := by have := px.lt; omega
      have hd0 : Below wo.heap.size wo wo.drew := (Below.refl _ _).drew
      refine anyJ_begin 18 (fun W => Below (w.heap.size + 4) wo W) (by kernel_rfl) ((Below.refl _ _).drew) (fun hHeld => ?_)
      refine take (i := 0) (d := some 40) (v := .pointer (some ⟨w.heap.size + 1 + 1, 1, none⟩)) (by kernel_rfl) rfl rfl rfl (fun _ _ _ h => h) hHeld (fun W hSw => by go_simp) ?_
      simp only [Act.put, List.setIfInBounds_toArray, List.set_cons_zero, List.set_cons_succ]
      refine take (i := 1) (d := some 41) (v := v) (by kernel_rfl) rfl rfl rfl (fun _ _ _ h => h) hHeld (fun W hSw => by have x := (hSw.cell (p := ⟨w.heap.size + 1 + 1, 1, none⟩) (by show w.heap.size + 1 + 1 < _; omega)).trans v1; go_simp) ?_
      simp only [Act.put, List.setIfInBounds_toArray, List.set_cons_zero, List.set_cons_succ]
      refine take (i := 2) (d := some 42) (v := .slice (some ⟨g, off, none⟩) rn c2) (by kernel_rfl) rfl rfl rfl (fun _ _ _ h => h) hHeld (fun W hSw => by go_simp) ?_
      simp only [Act.put, List.setIfInBounds_toArray, List.set_cons_zero, List.set_cons_succ]
      refine take (i := 3) (d := some 43) (v := .pointer (some ⟨w.heap.size, 8, none⟩)) (by kernel_rfl) rfl rfl rfl (fun _ _ _ h => h) hHeld (fun W hSw => by go_simp) ?_
      simp only [Act.put, List.setIfInBounds_toArray, List.set_cons_zero, List.set_cons_succ]
      refine take (i := 4) (d := some 44) (v := .slice (some ⟨g1, off1, none⟩) n d) (by kernel_rfl) rfl rfl rfl (fun _ _ _ h => h) hHeld (fun W hSw => by have x := (hSw.cell (p := ⟨w.heap.size, 8, none⟩) (by show w.heap.size < _; omega)).trans b8; go_simp) ?_
      simp only [Act.put, List.setIfInBounds_toArray, List.set_cons_zero, List.set_cons_succ]
      refine take (i := 5) (d := some 45) (v := .int .i64 k) (by kernel_rfl) rfl rfl rfl (fun _ _ _ h => h) hHeld (fun W hSw => by go_simp) ?_
      simp only [Act.put, List.setIfInBounds_toArray, List.set_cons_zero, List.set_cons_succ]
      refine take (i := 6) (d := some 46) (v := .pointer (some ⟨g1, off1 + k * 9, none⟩)) (by kernel_rfl) rfl rfl rfl (fun _ _ _ h => h) hHeld (fun W hSw => by go_simp) ?_
      simp only [Act.put, List.setIfInBounds_toArray, List.set_cons_zero, List.set_cons_succ]
      refine take (i := 7) (d := some 47) (v := .agg LQ) (by kernel_rfl) rfl rfl rfl (fun _ _ _ h => h) hHeld (fun W hSw => by exact exec_load_mid (cs := LQ.toList) rfl rfl (fun j u hj => (hSw.cell (p := ⟨g1, off1 + k * 9 + j, none⟩) (by show g1 < _; omega)).trans (hrange j u hj)) Tryd.underlying118 rfl hiq) ?_
      simp only [Act.put, List.setIfInBounds_toArray, List.set_cons_zero, List.set_cons_succ]
      refine take (i := 8) (d := some 48) (v := .pointer (some ⟨w0.heap.size, 2, none⟩)) (by kernel_rfl) rfl rfl rfl (fun _ _ _ h => h) hHeld (fun W hSw => by go_simp) ?_
      simp only [Act.put, List.setIfInBounds_toArray, List.set_cons_zero, List.set_cons_succ]
      refine take (i := 9) (d := some 49) (v := .slice (some ⟨g2, off2, none⟩) n d2) (by kernel_rfl) rfl rfl rfl (fun _ _ _ h => h) hHeld (fun W hSw => by have x := (hSw.cell (p := ⟨w0.heap.size, 2, none⟩) (by show w0.heap.size < _; omega)).trans p2; go_simp) ?_
      simp only [Act.put, List.setIfInBounds_toArray, List.set_cons_zero, List.set_cons_succ]
      refine take (i := 10) (d := some 50) (v := .int .i64 k) (by kernel_rfl) rfl rfl rfl (fun _ _ _ h => h) hHeld (fun W hSw => by go_simp) ?_
      simp only [Act.put, List.setIfInBounds_toArray, List.set_cons_zero, List.set_cons_succ]
      refine take (i := 11) (d := some 51) (v := .pointer (some ⟨g2, off2 + k * 3, none⟩)) (by kernel_rfl) rfl rfl rfl (fun _ _ _ h => h) hHeld (fun W hSw => by go_simp) ?_
      simp only [Act.put, List.setIfInBounds_toArray, List.set_cons_zero, List.set_cons_succ]
      refine take (i := 12) (d := some 52) (v := .pointer (some ⟨g2, off2 + k * 3 + 1, none⟩)) (by kernel_rfl) rfl rfl rfl (fun _ _ _ h => h) hHeld (fun W hSw => by go_simp) ?_
      simp only [Act.put, List.setIfInBounds_toArray, List.set_cons_zero, List.set_cons_succ]
      refine take (i := 13) (d := some 53) (v := .int .i64 (m k)) (by kernel_rfl) rfl rfl rfl (fun _ _ _ h => h) hHeld (fun W hSw => by have x := (hSw.cell (p := ⟨g2, off2 + k * 3 + 1, none⟩) (by show g2 < _; omega)).trans q1; go_simp) ?_
      simp only [Act.put, List.setIfInBounds_toArray, List.set_cons_zero, List.set_cons_succ]
      refine anyJ_only (i := 14) (d := some 54) (by kernel_rfl) rfl rfl rfl (fun K' hK => ?_)
      refine wp_go_call 71 _ _ rfl #[.slice (some ⟨g, off, none⟩) rn c2, .agg LQ, .int .i64 (m k)] rfl (fun W => by go_simp) (hcall _ (hr2.below hd0) (hlab2.below hd0)) (fun e w3 he => ?_)
      obtain ⟨A3, d4, rfl, hrep3, hb3⟩ := he
      have own3 := own0.below hb3
      refine ⟨_, rfl, hK.out _ _ (fun _ => hHeld.trans (hb3.mono hz4)) (fun hHeld => ?_)⟩
      have hHeld := hHeld (by decide)
      refine anyJ_only (i := 15) (d := some 55) (by kernel_rfl) rfl rfl rfl (fun K' hK => ?_)
      refine wp_val (w' := w3.alloc (.cells #[.int .i64 cs[k].rule, .slice A3 cs[k].kids.length d4] 60)) (v := .slice (some ⟨w3.heap.size, 0, none⟩) 1 1) (by go_simp) (hK.out _ _ (fun _ => hHeld.alloc (Nat.le_trans hz4 hHeld.size) _) (fun hHeld => ?_))
      have hHeld := hHeld (by decide)
      simp only [Act.put, List.setIfInBounds_toArray, List.set_cons_zero, List.set_cons_succ]
      have own4 := own3.alloc (.cells #[.int .i64 cs[k].rule, .slice A3 cs[k].kids.length d4] 60)
      have hv3 : ∀ g, wo.heap.size ≤ g → some g ≠ v.ownBlock := fun g hg => hown.ne_far hg
      have hz3 := hb3.size
      have hz3' : wo.heap.size ≤ w3.heap.size := hz3
      have hl1 : ((cs.take k).map encC).length ≤ 1000000000 := by simp; omega
      have hvr : v.ownBlock ≠ some (w.heap.size + 1 + 1) := fun e => by have := hown.ge _ e; omega
      refine anyJ_only (i := 16) (d := some 56) (by kernel_rfl) rfl rfl rfl (fun K' hK => ?_)
      refine wp_append_one (.tmp 41) (.tmp 55) 53 60 2 32 _ rfl Tryd.underlying53 cov_info rfl (by decide) (by decide) (w.heap.size + 4) (fun g => w.heap.size + 4 ≤ g) v _ rfl w3.heap.size rfl own4 [.int .i64 cs[k].rule, .slice A3 cs[k].kids.length d4] (encC cs[k]) (BlkIs.fresh _ _ _) rfl (by simp [Value.oneCell']) ((hrep3.imp (fun g hg _ => ⟨by have : wo.heap.size ≤ g := hg; omega, hv3 g hg⟩)).alloc _) hl1 (by simp; omega) (fun v5 w5 own5 hb5 hk5 => ?_)
      obtain ⟨A5, e5, rfl, _⟩ := own5.rep.len
      obtain ⟨L5, hL5⟩ : ∃ L, Hid (((cs.take k).map encC ++ [encC cs[k]]).length = L) := ⟨_, Lib.hid rfl⟩
      rw [hL5.out] at own5 ⊢
      refine hK.out _ _ (fun _ => hHeld.trans hb5) (fun hHeld => ?_)
      have hHeld := hHeld (by decide)
      have hz5 := hHeld.size
      simp only [Act.put, List.setIfInBounds_toArray, List.set_cons_zero, List.set_cons_succ]
      refine take (i := 17) (d := some 57) (v := .pointer (some ⟨w.heap.size + 1 + 1, 1, none⟩)) (by kernel_rfl) rfl rfl rfl (fun _ _ _ h => h) hHeld (fun W hSw => by go_simp) ?_
      simp only [Act.put, List.setIfInBounds_toArray, List.set_cons_zero, List.set_cons_succ]
      have vx5 := vx.below hHeld (by omega)
      have c5 : w5.cell? ⟨w.heap.size + 1 + 1, 1, none⟩ = some v := vx5.cell 1
      have f5 : w5.frozen? ⟨w.heap.size + 1 + 1, 1, none⟩ = false := vx5.frozen 1
      have l5 : w.heap.size + 1 + 1 < w5.heap.size := vx5.lt
      refine anyJ_only (i := 18) (d := none) (by kernel_rfl) rfl rfl rfl (fun K' hK => ?_)
      refine wp_skip (w' := w5.setCell ⟨w.heap.size + 1 + 1, 1, none⟩ (.slice A5 L5 e5)) (by go_simp) (hK.out _ _ (fun h => absurd rfl h) (fun _ => ?_))
      refine anyJ_done (by kernel_rfl) ?_ _
      simp only [Act.put]
      go_wp2_with fail
      go_roundw
      case rel =>
        refine ⟨k + 1, .slice A5 L5 e5, by omega, by go_num, (hb.trans (hHeld.mono (by omega))).setCell (by simp; omega) _, (kx.below hHeld (by omega)).far (by simp; omega) _, (zx.below hHeld (by omega)).far (by simp) _, vx5.put 1 _, (px.below hHeld (by omega)).far (by simp; omega) _, ?_⟩
        rw [hts.out]
        exact Own.far own5 (fun g h => h) (fun g hg _ => heap_setCell_other _ _ _ _ (by simp; omega))
      case measure => simp [intOf]; omega
    · obtain rfl : k = n := by omega
      have h1 : cs.take k = cs := List.take_of_length_le (by rw [hn.out]; omega)
      rw [h1] at hown
      obtain ⟨A5, e5, rfl, _⟩ := hown.rep.len
      have HO := Lib.hid hown
      clear hown
      simp only [List.length_map, hn.out] at HO vx v1 ⊢
      have y0 : wo.cell? ⟨w.heap.size + 1 + 1, 0, none⟩ = some (.int .i64 a) := vx.cell 0
      have hz2 : w.heap.size + 1 + 1 < wo.heap.size := vx.lt
      have hz21 : w.heap.size + 1 < wo.heap.size := by omega
      have g0 : wo.cell? ⟨w.heap.size + 1, 0, none⟩ = some (.int .i64 0) := zx.cell 0
      have g1 : wo.cell? ⟨w.heap.size + 1, 1, none⟩ = some (.slice none 0 0) := zx.cell 1
      have g3 : ∀ i, wo.frozen? ⟨w.heap.size + 1, i, none⟩ = false := fun i => zx.frozen i
      go_wp2_with fail
      have zz := (zx.put 0 (.int .i64 a)).put 1 (.slice A5 k e5)
      refine bodyPost_ret (v := .agg #[.int .i64 a, .slice A5 k e5]) (results_cell_row Tryd.results71 _ _ (w.heap.size + 1) 60 #[.int .i64 a, .slice A5 k e5] (0, 0) _ rfl zz Tryd.underlying60 rfl (by kernel_rfl)) rfl ?_
      refine ⟨A5, e5, by rw [show (Cov.mk a cs).kids = cs from rfl, hn.out]; rfl, ?_, ?_⟩
      · have e : (Cov.mk a cs).kids.length = k := hn.out
        rw [e]
        refine rep_cov_mk (c := .mk a cs) ?_
        refine Rep.imp (ok := fun g => w.heap.size + 3 ≤ g) ?_ (fun g hg _ => by omega)
        iterate 2 refine Rep.setCell ?_ (fun g hg => by simp; omega)
        exact Rep.imp HO.out.rep (fun g hg _ => by omega)
      · iterate 2 refine Below.setCell ?_ (by simp; try omega) _
        exact hb

theorem covers_any (rs : List Rule) (hrs : RulesFlat rs) (t : Pat) (nt : Nat) (c : Cov) (h : IsCov rs t nt c) : treeOk t = true → nt < 4 → CoversOk rs t nt c := by
  induction h with
  | chain t nt a h m c hr h0 hm hm4 _ ih => exact fun ht hnt => covers_chain rs t nt a hnt h m c hr h0 hm (ih ht hm4)
  | op t nt a h cs hr h0 hl ht m hm _ ih =>
    intro hto hnt
    refine covers_op rs t nt a hnt h cs hr h0 hl ht (by rw [hl]; exact (hrs.2 _ (List.getElem_mem h)).1.2.1.1) m hm (fun i h1 h3 => ih i h1 h3 (kid_ok hto i h3) ?_)
    exact (hm i (by omega)).2

end

/- The reference's Cover walked. -/
section
open Go.RowKit

set_option maxRecDepth 100000 in
set_option maxHeartbeats 4000000 in
theorem coverR_any (rs : List Rule) (hrs : RulesFit rs) (t : Pat) (ht : treeOk t = true) (hN : patN t ≤ 200) (nt : Nat) (hnt : nt < 4) (c : Cov) (hc : IsCov rs t nt c) (A A2 : Option Addr) (d c2 : Nat) (w : World) (hr : RulesIn w A2 c2 rs) (hp : PatIn w A d t) :
    Calls Tryd.prog 35 #[.slice A2 rs.length c2, .agg #[.int .i64 t.op, .int .i64 t.nt, .slice A t.kids.length d], .int .i64 nt] w (CovRet w c) := by
  have h1 := fun W => labels_any rs hrs t ht hN A A2 d c2 W
  have h2 := fun A3 d3 W => covers_any rs hrs.1 t nt c hc ht hnt A3 A2 d3 c2 W
  have HR := Lib.hid hr
  have HP := Lib.hid hp
  obtain ⟨rn, hrn⟩ : ∃ x, Hid (rs.length = x) := ⟨_, Lib.hid rfl⟩
  obtain ⟨tn, htn⟩ : ∃ x, Hid (t.kids.length = x) := ⟨_, Lib.hid rfl⟩
  rw [hrn.out] at h1 h2
  rw [htn.out] at h1 h2
  rw [hrn.out, htn.out]
  clear hr hp hrs ht hN hc
  go_enter Tryd.func35, Tryd.ntmps35
  go_wp2_with fail
  refine (h1 _ ((HR.out.below (below_alloc _ _)).below (below_alloc _ _)) ((HP.out.below (below_alloc _ _)).below (below_alloc _ _))).mono ?_
  rintro e w3 ⟨A3, d3, rfl, hrep, hb3⟩
  rw [htn.out] at hrep ⊢
  obtain ⟨LC, hLC⟩ : ∃ x, Hid (labCells (labB rs t) (.slice A3 tn d3) = x) := ⟨_, Lib.hid rfl⟩
  have h2' := h2 A3 d3
  rw [hLC.out] at hrep h2' ⊢
  have hlab : LabIn w3 rs t A3 d3 := by
    rw [← hLC.out] at hrep
    obtain ⟨A', d', e, hr⟩ := rep_lab_inv hrep
    rw [htn.out] at e hr
    have e8 := congrArg (fun l : List Value => l[8]?) e
    simp only [labCells, List.getElem?_cons_succ, List.getElem?_cons_zero, Option.some.injEq, Value.slice.injEq] at e8
    obtain ⟨rfl, _, rfl⟩ := e8
    exact ⟨_, by rw [htn.out]; exact hr⟩
  have HL := Lib.hid hlab
  have hb4 : Below w.heap.size w w3 := (below_box2 _ _ _).trans (hb3.mono (by simp; omega))
  have z3 : BlkIs w3 (w.heap.size + 1) 60 #[.int .i64 0, .slice none 0 0] := (BlkIs.fresh1 _ _ _ _).below hb3 (by simp)
  have hr3 := HR.out.below hb4
  clear hrep h1 h2 hlab
  go_wp2_with fail
  refine (h2' _ hr3 HL.out).mono ?_
  rintro e w5 ⟨A5, d5, rfl, hrep5, hb5⟩
  have hb6 : Below w.heap.size w w5 := hb4.trans (hb5.mono hb4.size)
  have z5 := z3.below hb5 z3.lt
  have hz5 : w.heap.size + 1 < w5.heap.size := z5.lt
  have g0 : w5.cell? ⟨w.heap.size + 1, 0, none⟩ = some (.int .i64 0) := z5.cell 0
  have g1 : w5.cell? ⟨w.heap.size + 1, 1, none⟩ = some (.slice none 0 0) := z5.cell 1
  have g3 : ∀ i, w5.frozen? ⟨w.heap.size + 1, i, none⟩ = false := fun i => z5.frozen i
  have hz3 : w.heap.size + 1 < w3.heap.size := z3.lt
  have HREP := Lib.hid hrep5
  clear hrep5 h2'
  go_wp2_with fail
  have zz := (z5.put 0 (.int .i64 c.rule)).put 1 (.slice A5 c.kids.length d5)
  refine bodyPost_ret (v := .agg #[.int .i64 c.rule, .slice A5 c.kids.length d5]) (results_cell_row Tryd.results35 _ _ (w.heap.size + 1) 60 #[.int .i64 c.rule, .slice A5 c.kids.length d5] (0, 0) _ rfl zz Tryd.underlying60 rfl (by kernel_rfl)) rfl ?_
  refine ⟨A5, d5, rfl, ?_, ?_⟩
  · refine Rep.imp (ok := fun g => w3.heap.size ≤ g) ?_ (fun g hg _ => by omega)
    iterate 2 refine Rep.setCell ?_ (fun g hg => by simp; omega)
    exact HREP.out
  · iterate 2 refine Below.setCell ?_ (by simp; try omega) _
    exact hb6

end

/- cover.node walked: a node's key. -/
section
open Go.RowKit

/-- copy of n elements of z cells into a row -/
theorem run_copy_rowz {P : Program} (w : World) (dT sT ty elem : TypeId) (z n g o dLen dCap : Nat) (a : Addr) (sLen sCap : Nat) (cur : Array Value) (t : TypeId) (cs : List Value)
    (hu : P.underlying dT = some (.slice elem)) (hs : (P.info? elem).map (·.size) = some z)
    (hg : w.heap[g]? = some (.cells cur t (0, 0))) (hn : n = Nat.min sLen dLen) (hcs : cs.length = n * z)
    (hsrc : ∀ j v, cs[j]? = some v → w.cell? (a.add j) = some v) (hfit : o + cs.length ≤ cur.size) (h1 : ∀ v ∈ cs, v.oneCell' = true) :
    (Builtin.copy_ #[dT, sT] ty #[.slice (some ⟨g, o, none⟩) dLen dCap, .slice (some a) sLen sCap]).run P w =
      .ok (goInt n) (w.setRow g (cur.toList.take o ++ cs ++ cur.toList.drop (o + cs.length)).toArray) := by
  have hl := run_loadCells_list (P := P) w a cs hsrc
  have hst := run_storeCells_at P g o t cs 0 cur w hg (by simpa using hfit) h1
  cases hq : P.info? elem with
  | none => simp [hq] at hs
  | some i =>
    have hi : i.size = z := by simpa [hq] using hs
    simp [Builtin.copy_, run_underlying hu, Builtin.lenOf, Builtin.firstCells, sizeOf, typeInfo, hq, hi, ← hn, ← hcs, hl, hst]

def bestsCells (bs : List Best) : List Value := bs.flatMap fun b => (bestCells b).toList

theorem bests_len (bs : List Best) : (bestsCells bs).length = bs.length * 8 := by
  induction bs with
  | nil => rfl
  | cons b bs ih =>
    unfold bestsCells at ih ⊢
    simp only [List.flatMap_cons, List.length_append, ih, List.length_cons]
    show 8 + _ = _
    omega
theorem bests_one (bs : List Best) : ∀ v ∈ bestsCells bs, v.oneCell' = true := by
  intro v hv
  unfold bestsCells at hv
  obtain ⟨b, _, h⟩ := List.mem_flatMap.1 hv
  simp [bestCells] at h
  rcases h with rfl | rfl | rfl | rfl | rfl | rfl | rfl | rfl <;> rfl

theorem addr_add (g off j : Nat) : (⟨g, off, none⟩ : Addr).add j = ⟨g, off + j, none⟩ := by
  unfold Addr.add
  split
  · rename_i h0; rw [h0]; rfl
  · rfl

theorem bests_src {w : World} {ok : Nat → Prop} {bs : List Best} {g off d n : Nat} (h : Rep w ok (.lst 8 (bs.map encB)) [.slice (some ⟨g, off, none⟩) n d]) (h2 : bs.length ≤ 2) :
    ∀ j v, (bestsCells bs)[j]? = some v → w.cell? ((⟨g, off, none⟩ : Addr).add j) = some v := by
  have key : ∀ k (hk : k < bs.length) j, j < 8 → w.cell? ⟨g, off + (k * 8 + j), none⟩ = (bestCells bs[k]).toList[j]? := by
    intro k hk j hj
    obtain ⟨g', off', a, hA, _, _, _, hr, hc⟩ := h.at_ k (by simpa using hk)
    injection hA with hA
    injection hA with hg ho _
    subst hg ho
    rw [List.getElem_map] at hr
    rw [hc j hj, rep_best_inv hr]
  intro j v hv
  rw [addr_add]
  match bs, h2, key, hv with
  | [], _, _, hv => simp [bestsCells] at hv
  | [b], _, key, hv =>
    have hl : j < 8 := by
      have := (List.getElem?_eq_some_iff.1 hv).1
      rw [bests_len] at this; simpa using this
    have := key 0 (by simp) j hl
    rw [Nat.zero_mul, Nat.zero_add] at this
    rw [this, ← hv]; simp [bestsCells]
  | [b, b'], _, key, hv =>
    have hl : j < 16 := by
      have := (List.getElem?_eq_some_iff.1 hv).1
      rw [bests_len] at this; simpa using this
    have e : bestsCells [b, b'] = (bestCells b).toList ++ (bestCells b').toList := by simp [bestsCells]
    have hlen : (bestCells b).toList.length = 8 := rfl
    rw [e] at hv
    by_cases h8 : j < 8
    · have := key 0 (by simp) j h8
      rw [Nat.zero_mul, Nat.zero_add] at this
      rw [List.getElem?_append_left (by omega)] at hv
      rw [this]; exact hv
    · have := key 1 (by simp) (j - 8) (by omega)
      rw [show 1 * 8 + (j - 8) = j by omega] at this
      rw [List.getElem?_append_right (by omega), hlen] at hv
      rw [this]; exact hv
  | _ :: _ :: _ :: _, h2, _, _ => simp at h2

theorem key_row (t : Pat) (bs : List Best) (h2 : bs.length ≤ 2) {op : Int} {sm : Bool} (h1 : t.op = op) (hs : smallT op t.nt = sm) {K0 : Array Value} (hK : #[.int .i64 op, .bool sm, .int .i64 0, .int .i64 0, .int .i64 0, .int .i64 0, .int .i64 0, .int .i64 0, .int .i64 0, .int .i64 0, .int .i64 0, .int .i64 0, .int .i64 0, .int .i64 0, .int .i64 0, .int .i64 0, .int .i64 0, .int .i64 0] = K0) :
    (K0.toList.take 2 ++ bestsCells bs ++ K0.toList.drop (2 + (bestsCells bs).length)).toArray = keyCells (nodeKey t bs) := by
  subst hK h1 hs
  match bs, h2 with
  | [], _ => rfl
  | [b], _ => rfl
  | [b, b'], _ => rfl
  | _ :: _ :: _ :: _, h2 => simp at h2

theorem wpList_val {P : Program} {ops : Array Oper} {rest : List Oper} {o : Oper} {a : Act} {Q : Exit → Act → World → Prop} {w w' : World} {v : Value} (hgd : o.guard = none) (hr : (execOp a.eval o).run P w = .ok (.value v) w') (h : wpList P ops Q rest (a.put o.dst v) w') : wpList P ops Q (o :: rest) a w :=
  wpList_plain hgd fun _ hK => wp_val hr (hK _ _ h)

set_option maxRecDepth 100000 in
set_option maxHeartbeats 40000000 in
theorem node_any (t : Pat) (bs : List Best) (hb2 : bs.length ≤ 2) (A B : Option Addr) (c d : Nat) (w : World) (_hp : PatIn w A c t) (ok : Nat → Prop) (hbs : Rep w ok (.lst 8 (bs.map encB)) [.slice B bs.length d]) :
    Calls Tryd.prog 110 #[.agg #[.int .i64 t.op, .int .i64 t.nt, .slice A t.kids.length c], .slice B bs.length d] w fun e w' => e = .returned (.agg (keyCells (nodeKey t bs))) ∧ Below w.heap.size w w' := by
  obtain ⟨op, hop⟩ : ∃ x, Hid (t.op = x) := ⟨_, Lib.hid rfl⟩
  obtain ⟨nt, hnt⟩ : ∃ x, Hid (t.nt = x) := ⟨_, Lib.hid rfl⟩
  obtain ⟨m, hm⟩ : ∃ x, Hid (t.kids.length = x) := ⟨_, Lib.hid rfl⟩
  obtain ⟨n, hn⟩ : ∃ x, Hid (bs.length = x) := ⟨_, Lib.hid rfl⟩
  obtain ⟨K, hK⟩ : ∃ x, Hid (keyCells (nodeKey t bs) = x) := ⟨_, Lib.hid rfl⟩
  have c1 := fun W => small_any op nt A m c W
  obtain ⟨sm, hsm⟩ : ∃ x, Hid (smallT op nt = x) := ⟨_, Lib.hid rfl⟩
  rw [hsm.out] at c1
  rw [hn.out] at hb2 hbs
  have HB := Lib.hid hbs
  rw [hop.out, hnt.out, hm.out, hn.out, hK.out]
  clear _hp hbs
  go_enter Tryd.func110, Tryd.ntmps110
  go_upto_region 1 with fail
  obtain ⟨Z, hZ⟩ : ∃ x : Array Value, Hid (#[.int .i64 0, .bool false, .int .i64 0, .int .i64 0, .int .i64 0, .int .i64 0, .int .i64 0, .int .i64 0, .int .i64 0, .int .i64 0, .int .i64 0, .int .i64 0, .int .i64 0, .int .i64 0, .int .i64 0, .int .i64 0, .int .i64 0, .int .i64 0] = x) := ⟨_, Lib.hid rfl⟩
  obtain ⟨K0, hK0⟩ : ∃ x : Array Value, Hid (#[.int .i64 op, .bool sm, .int .i64 0, .int .i64 0, .int .i64 0, .int .i64 0, .int .i64 0, .int .i64 0, .int .i64 0, .int .i64 0, .int .i64 0, .int .i64 0, .int .i64 0, .int .i64 0, .int .i64 0, .int .i64 0, .int .i64 0, .int .i64 0] = x) := ⟨_, Lib.hid rfl⟩
  have hKs : K0.size = 18 := by rw [← hK0.out]; rfl
  have hZs : Z.size = K0.size := by rw [hKs, ← hZ.out]; rfl
  have hK1 : K0.all (·.oneCell') = true := by rw [← hK0.out]; simp [Value.oneCell']
  have hik : (Tryd.prog.info? 151).map (·.size) = some K0.size := by rw [hKs]; exact key_info
  rw [hZ.out]
  obtain ⟨w1, hw1⟩ : ∃ w1, w1 = (w.alloc (.cells #[.int .i64 op, .int .i64 nt, .slice A m c] 64)).alloc (.cells Z 151) := ⟨_, rfl⟩
  have r0 : w1.cell? ⟨w.heap.size, 0, none⟩ = some (.int .i64 op) := by rw [hw1]; simp
  have r1 : w1.cell? ⟨w.heap.size, 1, none⟩ = some (.int .i64 nt) := by rw [hw1]; simp
  have r2 : w1.cell? ⟨w.heap.size, 2, none⟩ = some (.slice A m c) := by rw [hw1]; simp
  have hz1 : w1.heap.size = w.heap.size + 1 + 1 := by rw [hw1]; simp
  have zb1 : BlkIs w1 (w.heap.size + 1) 151 Z := by rw [hw1]; exact BlkIs.fresh1 _ _ _ _
  have hb1 : Below w.heap.size w w1 := by rw [hw1]; exact below_box2 _ _ _
  rw [← hw1]
  clear hw1
  go_cut [5] (fun s5 wx => ∃ g : Nat, s5 = .pointer (some ⟨g, 0, none⟩) ∧ w.heap.size + 1 < g ∧ Below w1.heap.size w1 wx ∧ BlkIs wx g 151 K0)
  case first =>
    refine anyJ_begin 6 (fun W => Below w1.heap.size w1 W) (by kernel_rfl) ((Below.refl _ _).drew) (fun hHeld => ?_)
    refine take (i := 0) (d := some 6) (v := .pointer (some ⟨w.heap.size, 0, none⟩)) (by kernel_rfl) rfl rfl rfl (fun _ _ _ h => h) hHeld (fun W hSw => by go_simp) ?_
    refine take (i := 1) (d := some 7) (v := .int .i64 op) (by kernel_rfl) rfl rfl rfl (fun _ _ _ h => h) hHeld (fun W hSw => by have x0 := cell_later hSw r0; go_simp) ?_
    refine take (i := 2) (d := some 8) (v := .agg #[.int .i64 op, .int .i64 nt, .slice A m c]) (by kernel_rfl) rfl rfl rfl (fun _ _ _ h => h) hHeld (fun W hSw => by have x0 := cell_later hSw r0; have x1 := cell_later hSw r1; have x2 := cell_later hSw r2; go_simp) ?_
    simp only [Act.put, List.setIfInBounds_toArray, List.set_cons_zero, List.set_cons_succ]
    refine anyJ_two (i := 3) (j := 5) (d := some 9) (d2 := some 5) (by kernel_rfl) rfl rfl rfl rfl rfl rfl (fun K' hK => ?_) (fun K' hK => ?_)
    · refine wp_go_call 113 _ _ rfl #[.agg #[.int .i64 op, .int .i64 nt, .slice A m c]] rfl (fun W => by go_simp) (c1 _) (fun e w3 he => ?_)
      obtain ⟨rfl, hb3⟩ := he
      refine ⟨_, rfl, hK.out _ _ (fun _ => hHeld.trans (hb3.mono hHeld.size)) (fun hHeld => ?_)⟩
      have hHeld := hHeld (by decide)
      refine take (i := 4) (d := some 10) (v := .agg K0) (by kernel_rfl) rfl rfl rfl (fun _ _ _ h => h) hHeld (fun W hSw => by rw [← hK0.out]; go_simp) ?_
      refine anyJ_only (i := 5) (d := some 5) (by kernel_rfl) rfl rfl rfl (fun K' hK => ?_)
      refine wp_val (w' := w3.alloc (.cells Z 151)) (v := .pointer (some ⟨w3.heap.size, 0, none⟩)) (by rw [← hZ.out]; go_simp) (hK.out _ _ (fun _ => hHeld.alloc hHeld.size _) (fun hH2 => ?_))
      refine anyJ_only (i := 6) (d := none) (by kernel_rfl) rfl rfl rfl (fun K' hK => ?_)
      refine wp_store_row 151 (.tmp 5) (.tmp 10) rfl w3.heap.size K0 rfl rfl 151 Z (BlkIs.fresh _ _ _) hik hZs hK1 (hK.out _ _ (fun h => absurd rfl h) (fun _ => ?_))
      refine anyJ_done (by kernel_rfl) ?_ _
      simp only [Act.put, List.setIfInBounds_toArray, List.set_cons_zero, List.set_cons_succ]
      go_wp2_with fail
      go_meet
      exact ⟨_, rfl, by have := hHeld.size; omega, below_setRow (hHeld.alloc hHeld.size _) hHeld.size _, setRow_heap _ _ _ _ _ _ (BlkIs.fresh _ _ _)⟩
    · refine wp_val (w' := w1.drew.alloc (.cells Z 151)) (v := .pointer (some ⟨w1.drew.heap.size, 0, none⟩)) (by rw [← hZ.out]; go_simp) (hK.out _ _ (fun _ => hHeld.alloc hHeld.size _) (fun hHeld => ?_))
      have hHeld := hHeld (by decide)
      have hz : BlkIs (w1.drew.alloc (.cells Z 151)) w1.drew.heap.size 151 Z := BlkIs.fresh _ _ _
      simp only [Act.put, List.setIfInBounds_toArray, List.set_cons_zero, List.set_cons_succ]
      refine anyJ_only (i := 3) (d := some 9) (by kernel_rfl) rfl rfl rfl (fun K' hK => ?_)
      refine wp_go_call 113 _ _ rfl #[.agg #[.int .i64 op, .int .i64 nt, .slice A m c]] rfl (fun W => by go_simp) (c1 _) (fun e w3 he => ?_)
      obtain ⟨rfl, hb3⟩ := he
      have hz3 := hz.below hb3 hz.lt
      refine ⟨_, rfl, hK.out _ _ (fun _ => hHeld.trans (hb3.mono hHeld.size)) (fun hHeld => ?_)⟩
      have hHeld := hHeld (by decide)
      refine take (i := 4) (d := some 10) (v := .agg K0) (by kernel_rfl) rfl rfl rfl (fun _ _ _ h => h) hHeld (fun W hSw => by rw [← hK0.out]; go_simp) ?_
      refine anyJ_only (i := 6) (d := none) (by kernel_rfl) rfl rfl rfl (fun K' hK => ?_)
      refine wp_store_row 151 (.tmp 5) (.tmp 10) rfl w1.drew.heap.size K0 rfl rfl 151 Z hz3 hik hZs hK1 (hK.out _ _ (fun h => absurd rfl h) (fun _ => ?_))
      refine anyJ_done (by kernel_rfl) ?_ _
      simp only [Act.put, List.setIfInBounds_toArray, List.set_cons_zero, List.set_cons_succ]
      go_wp2_with fail
      go_meet
      exact ⟨_, rfl, by show _ < w1.heap.size; omega, below_setRow hHeld (Nat.le_refl _) _, setRow_heap _ _ _ _ _ _ hz3⟩
  case rest =>
    obtain ⟨g, rfl, hg, hbx, hbk⟩ := hcut
    have hbw : Below w.heap.size w wc := hb1.trans (hbx.mono hb1.size)
    have zx := zb1.below hbx (by omega)
    have hrep := HB.out.below hbw
    have hrow : Hid ((K0.toList.take 2 ++ bestsCells bs ++ K0.toList.drop (2 + (bestsCells bs).length)).toArray = K) := Lib.hid (by rw [← hK.out]; exact key_row t bs (by rw [hn.out]; exact hb2) hop.out (by rw [hnt.out]; exact hsm.out) hK0.out)
    have hfit : 2 + (bestsCells bs).length ≤ K0.size := by rw [bests_len, hn.out, hKs]; omega
    have hcopy : ∃ w', (Builtin.copy_ #[148, 148] 3 #[.slice (some ⟨g, 2, none⟩) 2 2, .slice B n d]).run Tryd.prog wc = .ok (.int .i64 n) w' ∧ BlkIs w' g 151 K ∧ Below g wc w' := by
      by_cases h0 : n = 0
      · have hbs0 : bs = [] := List.eq_nil_of_length_eq_zero (by rw [hn.out]; exact h0)
        refine ⟨wc, ?_, ?_, Below.refl _ _⟩
        · subst h0
          cases hq : Tryd.prog.info? 114 with
          | none => have := best_info; rw [hq] at this; cases this
          | some i => cases B <;> simp [Builtin.copy_, run_underlying Tryd.underlying148, Builtin.lenOf, Builtin.firstCells, sizeOf, typeInfo, goInt, hq, storeCells, loadCells, loadCellsFrom]
        · have := hrow.out
          subst hbs0
          rw [← this]
          simpa [bestsCells] using hbk
      · have hr0 := hrep
        unfold Rep at hr0
        obtain ⟨A', c', he, _, _, hr2⟩ := hr0
        obtain ⟨gb, ob, _, _, _, hA, _⟩ := hr2 (by rw [List.length_map, hn.out]; omega)
        injection he with he _
        injection he with hA' _ _
        subst hA'
        subst hA
        have hsrc := bests_src hrep (by rw [hn.out]; exact hb2)
        refine ⟨wc.setRow g K, ?_, setRow_heap _ _ _ _ _ _ hbk, below_setRow (Below.refl _ _) (Nat.le_refl _) _⟩
        rw [run_copy_rowz wc _ _ _ 114 8 n g 2 2 2 ⟨gb, ob, none⟩ n d K0 151 (bestsCells bs) Tryd.underlying148 best_info hbk (Nat.min_eq_left hb2).symm (by rw [bests_len, hn.out]) hsrc hfit (bests_one bs), hrow.out]
        rfl
    obtain ⟨w4, hrun, hbk4, hb4⟩ := hcopy
    have hgz : w1.heap.size ≤ g := by omega
    have z4 := zx.below hb4 (by omega)
    have hb5 : Below w.heap.size w w4 := hbw.trans (hb4.mono (by omega))
    have hKs4 : K.size = 18 := by rw [← hK.out]; rfl
    have hK4 : K.all (·.oneCell') = true := by rw [← hK.out]; simp [keyCells, Value.oneCell']
    have hik4 : (Tryd.prog.info? 151).map (·.size) = some K.size := by rw [hKs4]; exact key_info
    have hZ4 : Z.size = K.size := by rw [hKs4, hZs, hKs]
    clear hrow hfit hrep
    go_wp2_with (first
      | (at_builtin; go_must (refine wpList_val (w' := w4) (v := .int .i64 n) rfl (by unfold execOp; simp only [resolve, invoke, builtin, Sem.run_bind, Sem.run_pure, Result.andThen_ok, List.map_toArray, List.map_cons, List.map_nil]; exact congrArg (fun r => Result.andThen r fun v w' => Result.ok (Next.value v) w') hrun) ?_))
      | (refine wpList_load_row rfl 151 (.tmp 5) rfl g rfl 151 K (0, 0) _ hbk4 Tryd.underlying151 rfl hik4 ?_)
      | (refine wpList_store_row rfl 151 (.tmp 4) (.tmp 15) rfl (w.heap.size + 1) K rfl rfl 151 Z z4 hik4 hZ4 hK4 ?_))
    refine bodyPost_ret (v := .agg K) (results_cell_row Tryd.results110 _ _ (w.heap.size + 1) 151 K (0, 0) _ rfl (setRow_heap _ _ _ _ _ _ z4) Tryd.underlying151 rfl hik4) rfl ?_
    exact ⟨rfl, below_setRow hb5 (by omega) _⟩

end

/- (*Chooser).label walked: a tree's best, by the memory of bests. -/
section
open Go.RowKit

def RulesOff (gm : Nat) (w : World) (A : Option Addr) (c : Nat) (rs : List Rule) : Prop := ∃ ok, (∀ g, ok g → g ≠ gm) ∧ Rep w ok (.lst 6 (rs.map encR)) [.slice A rs.length c]
def PatOff (gm : Nat) (w : World) (A : Option Addr) (c : Nat) (p : Pat) : Prop := ∃ ok, (∀ g, ok g → g ≠ gm) ∧ Rep w ok (encP p) [.int .i64 p.op, .int .i64 p.nt, .slice A p.kids.length c]

section
variable {gm : Nat} {w w' : World} {A : Option Addr} {c : Nat}
theorem RulesOff.keepM {rs : List Rule} (h : RulesOff gm w A c rs) (hk : KeepM gm w w') : RulesOff gm w' A c rs := by
  obtain ⟨ok, h1, h2⟩ := h; exact ⟨ok, h1, h2.keepM hk h1⟩
theorem RulesOff.in_ {rs : List Rule} (h : RulesOff gm w A c rs) : RulesIn w A c rs := by
  obtain ⟨ok, h1, h2⟩ := h; exact ⟨ok, h2⟩
theorem PatOff.keepM {p : Pat} (h : PatOff gm w A c p) (hk : KeepM gm w w') : PatOff gm w' A c p := by
  obtain ⟨ok, h1, h2⟩ := h; exact ⟨ok, h1, h2.keepM hk h1⟩
theorem PatOff.in_ {p : Pat} (h : PatOff gm w A c p) : PatIn w A c p := by
  obtain ⟨ok, h1, h2⟩ := h; exact ⟨ok, h2⟩
theorem PatOff.kid {p : Pat} (h : PatOff gm w A c p) (k : Nat) (hk : k < p.kids.length) :
    ∃ (g off : Nat) (B : Option Addr) (d : Nat), A = some ⟨g, off, none⟩ ∧ g ≠ gm ∧ g < w.heap.size ∧
      (w.cell? ⟨g, off + k * 3, none⟩ = some (.int .i64 p.kids[k].op) ∧ w.cell? ⟨g, off + k * 3 + 1, none⟩ = some (.int .i64 p.kids[k].nt) ∧ w.cell? ⟨g, off + k * 3 + 2, none⟩ = some (.slice B p.kids[k].kids.length d)) ∧ PatOff gm w B d p.kids[k] := by
  obtain ⟨ok, h1, h⟩ := h
  obtain ⟨A', c', he, _, h2⟩ := rep_pat_inv h
  simp only [List.cons.injEq, Value.slice.injEq, true_and, and_true] at he
  obtain ⟨rfl, rfl⟩ := he
  obtain ⟨g, off, B, d, hA, hok, hlt, hc, hr⟩ := pats_at h2 k hk
  exact ⟨g, off, B, d, hA, h1 g hok, hlt, hc, ok, h1, hr⟩
theorem Memo.keepB {rs : List Rule} {B : Nat} (h : Memo rs w gm) (hb : Below B w w') (hB : gm < B) : Memo rs w' gm := h.keep (hb.block gm hB)
theorem KeepM.belowB {B : Nat} {w2 : World} (h : KeepM gm w w') (hb : Below B w' w2) (hB : w.heap.size ≤ B) : KeepM gm w w2 :=
  ⟨hb.os.trans h.os, hb.tape.trans h.tape, hb.output.trans h.output, Nat.le_trans h.size hb.size, fun g hg hl => (hb.block g (by omega)).trans (h.block g hg hl)⟩
theorem Own.keepM {B : Nat} {ok : Nat → Prop} {e : TypeId} {z : Nat} {v : Value} {ds : List D} (h : Own w B ok e z v ds) (hk : KeepM gm w w') (hB : gm < B) (hok : ∀ g, ok g → B ≤ g) : Own w' B ok e z v ds :=
  Own.far h hok fun g hg hl => hk.block g (by omega) hl
end

theorem best_info3 : (Tryd.prog.info? 114).map (fun i => (i.zero, i.size, i.bytes)) = some (some (.agg (bestCells zeroB)), 8, 64) := by kernel_rfl

set_option maxRecDepth 100000 in
theorem memo_look_all {rs : List Rule} {w : World} {gm : Nat} (h : Memo rs w gm) (k : Key) (hk : KeyWf k) :
    ∃ (v : Array Value) (f : Bool), v.size = 8 ∧ v.all (·.oneCell') = true ∧ (f = true → v = bestCells (bestOf rs k)) ∧
      ∀ W : World, W.heap[gm]? = w.heap[gm]? → (Instr.lookup 145 (.map (some gm)) (.agg (keyCells k)) true).run Tryd.prog W = .ok (.tuple #[.agg v, .bool f]) W := by
  obtain ⟨es, clock, h1, h2⟩ := h
  obtain ⟨l, hl⟩ := key_lit k hk
  by_cases hex : ∃ e ∈ es.toList, e.key = .agg (keyCells k)
  · refine ⟨bestCells (bestOf rs k), true, rfl, by simp [bestCells, Value.oneCell'], fun _ => rfl, fun W hW => ?_⟩
    have h1' := hW.trans h1
    rcases keyed.find W hl es.toList (memo_keys h2) with ⟨g1, g2⟩ | ⟨j, e0, g1, g2, g3⟩
    · obtain ⟨e, he, hek⟩ := hex
      exact absurd hek (g2 e he)
    · obtain ⟨k', _, e1, e2⟩ := h2 e0 (List.mem_of_getElem? g2)
      rw [e1] at g3
      injection g3 with g3
      have := keyCells_inj g3
      subst this
      rw [e2] at g1
      simp [Instr.lookup, run_underlying Tryd.underlying145, MapKept.run_getObj_map h1', keyed.check W _ hl, g1, Result.andThen]
  · refine ⟨#[.int .i64 0, .int .i64 0, .int .i64 0, .int .i64 0, .int .i64 0, .int .i64 0, .int .i64 0, .int .i64 0], false, rfl, by simp [Value.oneCell'], fun h => Bool.noConfusion h, fun W hW => ?_⟩
    have h1' := hW.trans h1
    rcases keyed.find W hl es.toList (memo_keys h2) with ⟨g1, g2⟩ | ⟨j, e0, g1, g2, g3⟩
    · simp [Instr.lookup, run_underlying Tryd.underlying145, MapKept.run_getObj_map h1', keyed.check W _ hl, g1, Result.andThen]
    · exact absurd ⟨e0, List.mem_of_getElem? g2, g3⟩ hex

theorem keyWf_of {rs : List Rule} (hrs : RulesFlat rs) (t : Pat) (ht : treeOk t = true) (hN : patN t ≤ 200) : KeyWf (nodeKey t (labBs rs t.kids)) := by
  have hop : I64 t.op := by
    rw [treeOk_eq, Bool.and_eq_true] at ht
    have h1 := ht.1
    unfold topOk isOp at h1
    simp only [Bool.and_eq_true, decide_eq_true_eq] at h1
    exact i64_of (by omega) (by omega)
  have key : ∀ j, BestWf ((labBs rs t.kids).getD j zeroB) := fun j => by
    rw [labBs_map]
    by_cases hj : j < t.kids.length
    · rw [show (t.kids.map (labB rs)).getD j zeroB = labB rs t.kids[j] by simp [List.getD, hj]]
      refine bestWf_of (N := patN t.kids[j]) ?_ (labB_in hrs _ (by rw [treeOk_eq, Bool.and_eq_true] at ht; exact (treesOk_iff _).1 ht.2 j hj))
      rw [patN_eq t] at hN
      have := patsN_take t.kids j hj
      have := patsN_take_le t.kids (j + 1)
      omega
    · rw [show (t.kids.map (labB rs)).getD j zeroB = zeroB by simp [List.getD, List.getElem?_eq_none (Nat.le_of_not_lt hj)]]
      exact bestWf_of (N := 0) (by omega) (zeroB_in rs)
  exact ⟨hop, key 0, key 1⟩

def LabelOk (rs : List Rule) (t : Pat) : Prop := ∀ (gm gc : Nat) (A A2 : Option Addr) (c c2 : Nat) (w : World), RulesOff gm w A2 c2 rs → PatOff gm w A c t → BlkIs w gc 147 #[.slice A2 rs.length c2, .map (some gm)] → Memo rs w gm →
  Calls Tryd.prog 69 #[.pointer (some ⟨gc, 0, none⟩), .agg #[.int .i64 t.op, .int .i64 t.nt, .slice A t.kids.length c]] w fun e w' => e = .returned (.agg (bestCells (labB rs t))) ∧ Memo rs w' gm ∧ KeepM gm w w'

set_option maxRecDepth 100000 in
set_option maxHeartbeats 16000000 in
theorem label_of (rs : List Rule) (hrs : RulesFit rs) (t : Pat) (ht : treeOk t = true) (hN : patN t ≤ 200) (ih : ∀ i (h : i < t.kids.length), LabelOk rs t.kids[i]) : LabelOk rs t := by
  intro gm gc A A2 c c2 w hr hp hgc hmemo
  have hk2 := kids_two ht
  have hkc := kcOf_in hrs.1 t ht hN
  have HP := Lib.hid hp
  have HR := Lib.hid hr
  have hgm := hmemo.lt
  have hgcl := hgc.lt
  have hgne := hmemo.blk hgc
  obtain ⟨n, hn⟩ : ∃ n, Hid (t.kids.length = n) := ⟨_, Lib.hid rfl⟩
  obtain ⟨rn, hrn⟩ : ∃ n, Hid (rs.length = n) := ⟨_, Lib.hid rfl⟩
  obtain ⟨ts, hts⟩ : ∃ x, Hid (t.kids = x) := ⟨_, Lib.hid rfl⟩
  obtain ⟨op, hop⟩ : ∃ x, Hid (t.op = x) := ⟨_, Lib.hid rfl⟩
  obtain ⟨nt, hnt⟩ : ∃ x, Hid (t.nt = x) := ⟨_, Lib.hid rfl⟩
  rw [hrn.out] at hgc
  rw [hn.out] at hk2
  have IH := Lib.hid ih
  rw [hn.out, hop.out, hnt.out]
  clear hr hp ih
  go_enter Tryd.func69, Tryd.ntmps69
  go_wp2_with fail
  obtain ⟨Z, hZ⟩ : ∃ Z : Array Value, Hid (#[.int .i64 0, .int .i64 0, .int .i64 0, .int .i64 0, .int .i64 0, .int .i64 0, .int .i64 0, .int .i64 0] = Z) := ⟨_, Lib.hid rfl⟩
  rw [hZ.out]
  obtain ⟨T3, hT3⟩ : ∃ x : Array Value, Hid (#[.int .i64 op, .int .i64 nt, .slice A n c] = x) := ⟨_, Lib.hid rfl⟩
  obtain ⟨w0, hw0⟩ : ∃ w0, w0 = (w.alloc (.cells #[.int .i64 op, .int .i64 nt, .slice A n c] 64)).alloc (.cells Z 114) := ⟨_, rfl⟩
  have hb0 : KeepM gm w w0 := by rw [hw0]; exact KeepM.of (below_box2 _ _ _)
  have k0 : BlkIs w0 w.heap.size 64 T3 := by rw [hw0, ← hT3.out]; exact (BlkIs.fresh _ _ _).alloc _
  have z0 : BlkIs w0 (w.heap.size + 1) 114 Z := by rw [hw0]; exact BlkIs.fresh1 _ _ _ _
  have m0 : Memo rs w0 gm := by rw [hw0]; exact hmemo.keepB (below_box2 _ _ _) hgm
  rw [← hw0]
  clear hw0
  go_loopw [5, 14] (fun v i wr => ∃ (k : Nat), k ≤ n ∧ i = .int .i64 k ∧ Memo rs wr gm ∧ KeepM gm w wr ∧ BlkIs wr w.heap.size 64 T3 ∧ BlkIs wr (w.heap.size + 1) 114 Z ∧ Own wr (w.heap.size + 2) (fun g => w.heap.size + 2 ≤ g) 114 8 v ((ts.take k).map (encB ∘ labB rs))) (fun _ i _ => n - (intOf i).toNat)
  case atStart => exact ⟨0, by omega, rfl, m0, hb0, k0, z0, Own.nil _ _ _ _ _⟩
  case round =>
    obtain ⟨k, hk, rfl, hm, hb, kx, zx, hown⟩ := hrel
    obtain ⟨wo, rfl⟩ : ∃ wo : World, wo = wr := ⟨_, rfl⟩
    clear hb0 k0 z0 m0
    have hbz := hb.size
    have hgcw := hgc.keepM hb hgne
    have hpo := HP.out.keepM hb
    have hro := HR.out.keepM hb
    have hz1 : w.heap.size + 1 < wo.heap.size := zx.lt
    by_cases hlt : k < n
    · have hkl : k < t.kids.length := by rw [hn.out]; exact hlt
      obtain ⟨g, off, B, c', rfl, hg0, hg, ⟨a0, a1, a2⟩, hpi⟩ := hpo.kid k hkl
      have hcall := fun W => IH.out k hkl gm gc B A2 c' c2 W
      have hts2 := Lib.hid (take_map (encB ∘ labB rs) t.kids k hkl)
      obtain ⟨q, hq⟩ : ∃ q, Hid (t.kids[k] = q) := ⟨_, Lib.hid rfl⟩
      rw [hq.out] at a0 a1 a2 hpi hcall
      rw [hq.out, hts.out] at hts2
      rw [hrn.out] at hcall
      have HPI := Lib.hid hpi
      have HRO := Lib.hid hro
      clear hpi hro hpo
      go_wp2_with fail
      refine (hcall _ (HRO.out.keepM (KeepM.of (below_alloc _ _))) (HPI.out.keepM (KeepM.of (below_alloc _ _))) (hgcw.alloc _) (hm.keepB (below_alloc _ _) hm.lt)).mono ?_
      rintro e w3 ⟨rfl, hm3, hb3⟩
      obtain ⟨bq, hbq⟩ : ∃ x, Hid (labB rs q = x) := ⟨_, Lib.hid rfl⟩
      rw [hbq.out]
      unfold bestCells
      have hb3A : KeepM gm wo w3 := (KeepM.of (below_alloc _ _)).trans hb3
      have own3 := hown.keepM hb3A (by omega) (fun g h => h)
      have hl2 : ((ts.take k).map (encB ∘ labB rs)).length ≤ 1000000000 := by simp; omega
      have hz3 := hb3A.size
      clear hown a0 a1 a2
      go_wp2_with (at_builtin; go_must (refine append_one rfl (.tmp 18) (.tmp 22) 148 114 8 64 _ rfl Tryd.underlying148 best_info3 rfl (by decide) (by decide) (w.heap.size + 2) (fun g => w.heap.size + 2 ≤ g) u5 _ rfl w3.heap.size rfl (own3.alloc _) (bestCells bq).toList (encB bq) (BlkIs.fresh_at (by simp)) rfl (by simp [bestCells, Value.oneCell']) (rep_best bq) hl2 (by simp; omega) ?_); intro v' w7 own7 hb7 hk7)
      go_roundw
      case rel =>
        have hb8 : KeepM gm w w7 := ((hb.trans hb3A).alloc _).belowB hb7 (by omega)
        have hb9 : Below w3.heap.size w3 (w3.alloc (.cells #[.int .i64 bq.c0, .int .i64 bq.c1, .int .i64 bq.c2, .int .i64 bq.c3, .int .i64 bq.r0, .int .i64 bq.r1, .int .i64 bq.r2, .int .i64 bq.r3] 114)) := below_alloc _ _
        refine ⟨k + 1, by omega, by go_num, (hm3.keepB hb9 hm3.lt).keepB hb7 (by omega), hb8, ((kx.keepM hb3A (by omega)).alloc _).below hb7 (by omega), ((zx.keepM hb3A (by omega)).alloc _).below hb7 (by omega), ?_⟩
        rw [hts2.out]
        show Own _ _ _ _ _ _ (_ ++ [encB (labB rs q)])
        rw [hbq.out]
        exact own7
      case measure => simp [intOf]; omega
    · obtain rfl : k = n := by omega
      have h1 : ts.take k = ts := List.take_of_length_le (by rw [← hts.out, hn.out]; omega)
      rw [h1] at hown
      have hlk : ts.length = k := by rw [← hts.out]; exact hn.out
      obtain ⟨A6, c6, rfl, _⟩ := hown.rep.len
      have hrep : Rep wo (fun g => w.heap.size + 2 ≤ g ∨ w.heap.size + 2 ≤ g) (.lst 8 ((ts.map (labB rs)).map encB)) [.slice A6 k c6] := by
        have := hown.rep
        rw [List.length_map, hlk] at this
        rwa [List.map_map]
      simp only [List.length_map, hlk] at hown ⊢
      have HREP := Lib.hid hrep
      have hT0 : T3[0]? = some (.int .i64 op) := by rw [← hT3.out]; rfl
      have hT1 : T3[1]? = some (.int .i64 nt) := by rw [← hT3.out]; rfl
      have hT2 : T3[2]? = some (.slice A k c) := by rw [← hT3.out]; rfl
      have s0 : wo.cell? ⟨w.heap.size, 0, none⟩ = some (.int .i64 op) := (kx.cell 0).trans hT0
      have s1 : wo.cell? ⟨w.heap.size, 1, none⟩ = some (.int .i64 nt) := (kx.cell 1).trans hT1
      have s2 : wo.cell? ⟨w.heap.size, 2, none⟩ = some (.slice A k c) := (kx.cell 2).trans hT2
      have hnode := fun W => node_any t (ts.map (labB rs)) (by rw [List.length_map, hlk]; exact hk2) A A6 c c6 W
      rw [hop.out, hnt.out, hn.out, List.length_map, hlk] at hnode
      have hnk : Hid (nodeKey t (ts.map (labB rs)) = nodeKey t (labBs rs t.kids)) := Lib.hid (by rw [labBs_map, hts.out])
      obtain ⟨K, hK⟩ : ∃ x, Hid (keyCells (nodeKey t (ts.map (labB rs))) = x) := ⟨_, Lib.hid rfl⟩
      have hKs : K.size = 18 := by rw [← hK.out]; rfl
      have hK1 : K.all (·.oneCell') = true := by rw [← hK.out]; simp [keyCells, Value.oneCell']
      have hik : (Tryd.prog.info? 151).map (·.size) = some K.size := by rw [hKs]; exact key_info
      rw [hK.out] at hnode
      clear hown hT0 hT1 hT2 hrep
      go_wp2_with fail
      refine (hnode _ (HP.out.keepM hb).in_ _ HREP.out).mono ?_
      rintro e w3 ⟨rfl, hb3⟩
      go_upto_region 8 with (refine wpList_store_row rfl 151 (.tmp 8) (.tmp 27) rfl w3.heap.size K rfl rfl 151 _ (BlkIs.fresh _ _ _) hik (by rw [hKs]; rfl) hK1 ?_)
      simp only [Act.put]
      obtain ⟨w4, hw4⟩ : ∃ w4, w4 = (w3.alloc (.cells #[.int .i64 0, .bool false, .int .i64 0, .int .i64 0, .int .i64 0, .int .i64 0, .int .i64 0, .int .i64 0, .int .i64 0, .int .i64 0, .int .i64 0, .int .i64 0, .int .i64 0, .int .i64 0, .int .i64 0, .int .i64 0, .int .i64 0, .int .i64 0] 151)).setRow w3.heap.size K := ⟨_, rfl⟩
      have hb4 : Below w3.heap.size w3 w4 := by rw [hw4]; exact below_setRow (below_alloc _ _) (Nat.le_refl _) _
      have hk4 : BlkIs w4 w3.heap.size 151 K := by rw [hw4]; exact setRow_heap _ _ _ _ _ _ (BlkIs.fresh _ _ _)
      rw [← hw4]
      clear hw4 s0 s1 s2 hnode
      have hb5 : Below wo.heap.size wo w4 := hb3.trans (hb4.mono hb3.size)
      have hm4 := hm.keepB hb5 hm.lt
      have hgc4 := hgcw.below hb5 hgcw.lt
      have kx4 := kx.below hb5 kx.lt
      have zx4 := zx.below hb5 zx.lt
      have hkb4 : KeepM gm w w4 := hb.belowB hb5 hb.size
      have hro4 := hro.keepM (KeepM.of hb5)
      have hrw4 : w.heap.size + 1 < w4.heap.size := zx4.lt
      have hw34 : w.heap.size + 1 < w3.heap.size := Nat.lt_of_lt_of_le zx.lt hb3.size
      clear hb3 hb4 hb5 hm hgcw kx zx hb hro hpo hz1 hbz
      have hKw : KeyWf (nodeKey t (ts.map (labB rs))) := by
        rw [hnk.out]
        exact keyWf_of hrs.1 t ht hN
      obtain ⟨v, f, hv8, hv1, hvf, hlook⟩ := memo_look_all hm4 _ hKw
      rw [hK.out] at hlook
      have hgc1 : w4.cell? ⟨gc, 1, none⟩ = some (.map (some gm)) := hgc4.cell 1
      have hgml := hm4.lt
      go_cut [9, 10] (fun s9 s10 wx => s9 = .pointer (some ⟨w4.heap.size, 0, none⟩) ∧ s10 = .bool f ∧ Below w4.heap.size w4 wx ∧ BlkIs wx w4.heap.size 114 v)
      case first =>
        refine anyJ_begin 11 (fun W => Below w4.heap.size w4 W) (by kernel_rfl) ((Below.refl _ _).drew) (fun hHeld => ?_)
        refine take (i := 0) (d := some 29) (v := .pointer (some ⟨gc, 0, none⟩)) (by kernel_rfl) rfl rfl rfl (fun _ _ _ h => h) hHeld (fun W hSw => by go_simp) ?_
        simp only [Act.put, List.setIfInBounds_toArray, List.set_cons_zero, List.set_cons_succ]
        refine take (i := 1) (d := some 30) (v := .pointer (some ⟨gc, 0, none⟩)) (by kernel_rfl) rfl rfl rfl (fun _ _ _ h => h) hHeld (fun W hSw => by go_simp) ?_
        simp only [Act.put, List.setIfInBounds_toArray, List.set_cons_zero, List.set_cons_succ]
        refine take (i := 2) (d := some 31) (v := .pointer (some ⟨gc, 1, none⟩)) (by kernel_rfl) rfl rfl rfl (fun _ _ _ h => h) hHeld (fun W hSw => by go_simp) ?_
        simp only [Act.put, List.setIfInBounds_toArray, List.set_cons_zero, List.set_cons_succ]
        refine take (i := 3) (d := some 32) (v := .map (some gm)) (by kernel_rfl) rfl rfl rfl (fun _ _ _ h => h) hHeld (fun W hSw => by have x := cell_later hSw hgc1; go_simp) ?_
        simp only [Act.put, List.setIfInBounds_toArray, List.set_cons_zero, List.set_cons_succ]
        refine take (i := 4) (d := some 33) (v := .agg K) (by kernel_rfl) rfl rfl rfl (fun _ _ _ h => h) hHeld (fun W hSw => by exact exec_load_row rfl rfl (hk4.below hSw hk4.lt) Tryd.underlying151 rfl hik) ?_
        simp only [Act.put, List.setIfInBounds_toArray, List.set_cons_zero, List.set_cons_succ]
        refine take (i := 5) (d := some 34) (v := .tuple #[.agg v, .bool f]) (by kernel_rfl) rfl rfl rfl (fun _ _ _ h => h) hHeld (fun W hSw => by have x := hlook W (hSw.block _ hgml); go_simp) ?_
        simp only [Act.put, List.setIfInBounds_toArray, List.set_cons_zero, List.set_cons_succ]
        refine take (i := 6) (d := some 28) (v := .tuple #[.agg v, .bool f]) (by kernel_rfl) rfl rfl rfl (fun _ _ _ h => h) hHeld (fun W hSw => by go_simp) ?_
        simp only [Act.put, List.setIfInBounds_toArray, List.set_cons_zero, List.set_cons_succ]
        refine take (i := 7) (d := some 35) (v := .agg v) (by kernel_rfl) rfl rfl rfl (fun _ _ _ h => h) hHeld (fun W hSw => by go_simp) ?_
        simp only [Act.put, List.setIfInBounds_toArray, List.set_cons_zero, List.set_cons_succ]
        refine take (i := 8) (d := some 36) (v := .bool f) (by kernel_rfl) rfl rfl rfl (fun _ _ _ h => h) hHeld (fun W hSw => by go_simp) ?_
        simp only [Act.put, List.setIfInBounds_toArray, List.set_cons_zero, List.set_cons_succ]
        refine anyJ_only (i := 9) (d := some 9) (by kernel_rfl) rfl rfl rfl (fun K' hK => ?_)
        refine wp_val (w' := w4.drew.alloc (.cells #[.int .i64 0, .int .i64 0, .int .i64 0, .int .i64 0, .int .i64 0, .int .i64 0, .int .i64 0, .int .i64 0] 114)) (v := .pointer (some ⟨w4.heap.size, 0, none⟩)) (by go_simp) (hK.out _ _ (fun _ => hHeld.alloc hHeld.size _) (fun hHeld => ?_))
        have hHeld := hHeld (by decide)
        simp only [Act.put, List.setIfInBounds_toArray, List.set_cons_zero, List.set_cons_succ]
        have hbz : BlkIs (w4.drew.alloc (.cells #[.int .i64 0, .int .i64 0, .int .i64 0, .int .i64 0, .int .i64 0, .int .i64 0, .int .i64 0, .int .i64 0] 114)) w4.heap.size 114 #[.int .i64 0, .int .i64 0, .int .i64 0, .int .i64 0, .int .i64 0, .int .i64 0, .int .i64 0, .int .i64 0] := BlkIs.fresh _ _ _
        refine anyJ_only (i := 10) (d := none) (by kernel_rfl) rfl rfl rfl (fun K' hK => ?_)
        refine wp_store_row 114 (.tmp 9) (.tmp 35) rfl w4.heap.size v rfl rfl 114 _ hbz (by rw [hv8]; exact best_info) (by rw [hv8]; rfl) hv1 (hK.out _ _ (fun _ => below_setRow hHeld (Nat.le_refl _) _) (fun hHeld => ?_))
        have hHeld := hHeld (by decide)
        simp only [Act.put]
        refine anyJ_only (i := 11) (d := some 10) (by kernel_rfl) rfl rfl rfl (fun K' hK => ?_)
        refine wp_val (v := .bool f) rfl (hK.out _ _ (fun h => absurd rfl h) (fun _ => ?_))
        refine anyJ_done (by kernel_rfl) ?_ _
        simp only [Act.put, List.setIfInBounds_toArray, List.set_cons_zero, List.set_cons_succ]
        go_wp2_with fail
        go_meet
        exact ⟨rfl, rfl, hHeld, setRow_heap _ _ _ _ _ _ hbz⟩
      case rest =>
        obtain ⟨rfl, rfl, hb6, hv6⟩ := hcut
        have hm6 := hm4.keepB hb6 hm4.lt
        have hgc6 := hgc4.below hb6 hgc4.lt
        have zx6 := zx4.below hb6 zx4.lt
        have hk6 := hk4.below hb6 hk4.lt
        have hkb6 : KeepM gm w wc := hkb4.belowB hb6 hkb4.size
        have hro6 := hro4.keepM (KeepM.of hb6)
        have hz6 := hb6.size
        have hB8 : (bestCells (labB rs t)).size = 8 := rfl
        have hlab : Hid (bestOf rs (nodeKey t (ts.map (labB rs))) = labB rs t) := Lib.hid (by rw [hnk.out, ← labB_eq])
        obtain ⟨BT, hBT⟩ : ∃ x, Hid (bestCells (labB rs t) = x) := ⟨_, Lib.hid rfl⟩
        have hBs : BT.size = 8 := by rw [← hBT.out]; rfl
        have hB1 : BT.all (·.oneCell') = true := by rw [← hBT.out]; simp [bestCells, Value.oneCell']
        have hib : (Tryd.prog.info? 114).map (·.size) = some BT.size := by rw [hBs]; exact best_info
        have hZs : Z.size = BT.size := by rw [hBs, ← hZ.out]; rfl
        rcases (by cases f <;> simp : f = true ∨ f = false) with rfl | rfl
        · have hvB : v = BT := by rw [hvf rfl, hlab.out]; exact hBT.out
          subst hvB
          clear hvf
          go_wp2_with (first
            | (refine wpList_load_row rfl 114 (.tmp 9) rfl w4.heap.size rfl 114 v (0, 0) _ hv6 Tryd.underlying114 rfl hib ?_)
            | (refine wpList_store_row rfl 114 (.tmp 4) (.tmp 48) rfl (w.heap.size + 1) v rfl rfl 114 Z zx6 hib hZs hB1 ?_))
          refine bodyPost_ret (v := .agg v) (results_cell_row Tryd.results69 _ _ (w.heap.size + 1) 114 v (0, 0) _ rfl (setRow_heap _ _ _ _ _ _ zx6) Tryd.underlying114 rfl hib) rfl ?_
          exact ⟨by rw [hBT.out], hm6.keep (setRow_other _ _ _ _ (by omega)), hkb6.setRow (by omega) _⟩
        · have hkl : ∀ i m, -1 ≤ (nodeKey t (ts.map (labB rs))).kc i m ∧ (nodeKey t (ts.map (labB rs))).kc i m ≤ 400000000 := by
            intro i m
            rw [hnk.out]
            match i with
            | 0 => exact hkc 0 m
            | i + 1 => exact hkc 1 m
          have hcr : wc.cell? ⟨gc, 0, none⟩ = some (.slice A2 rn c2) := hgc6.cell 0
          have hfind := find_any rs hrs.1 (nodeKey t (ts.map (labB rs))) hkl gc A2 c2 wc hgc6.lt (by rw [hrn.out]; exact hcr) hro6.in_
          rw [hK.out, hlab.out, hBT.out] at hfind
          have hput := fun (W : World) (h : Memo rs W gm) => memo_put h (nodeKey t (ts.map (labB rs))) hKw
          rw [hK.out, hlab.out, hBT.out] at hput
          have HPUT := Lib.hid hput
          clear hvf hput hlook hkl hkc
          go_wp2_with (refine wpList_load_row rfl 151 (.tmp 8) rfl w3.heap.size rfl 151 K (0, 0) _ hk6 Tryd.underlying151 rfl hik ?_)
          refine hfind.mono ?_
          rintro e w7 ⟨rfl, hb7⟩
          have hv7 := hv6.below hb7 hv6.lt
          go_upto_region 11 with (refine wpList_store_row rfl 114 (.tmp 9) (.tmp 41) rfl w4.heap.size BT rfl rfl 114 _ hv7 hib (by rw [hv8, hBs]) hB1 ?_)
          simp only [Act.put]
          obtain ⟨w8, hw8⟩ : ∃ w8, w8 = w7.setRow w4.heap.size BT := ⟨_, rfl⟩
          have hv8' : BlkIs w8 w4.heap.size 114 BT := by rw [hw8]; exact setRow_heap _ _ _ _ _ _ hv7
          have hb8 : Below w4.heap.size wc w8 := by rw [hw8]; exact below_setRow (hb7.mono hz6) (Nat.le_refl _) _
          rw [← hw8]
          clear hw8 hv7 hb7
          have hm8 := hm6.keepB hb8 hgml
          have hgc8 := hgc6.below hb8 hgc4.lt
          have zx8 := zx6.below hb8 zx4.lt
          have hk8 := hk6.below hb8 hk4.lt
          have hkb8 : KeepM gm w w8 := hkb6.belowB hb8 hkb4.size
          have hgc81 : w8.cell? ⟨gc, 1, none⟩ = some (.map (some gm)) := hgc8.cell 1
          have hgmn : w4.heap.size ≠ gm := by omega
          clear hm6 hgc6 zx6 hk6 hkb6 hro6 hz6
          refine anyJ_begin 6 (fun W => Below w8.heap.size w8 W) (by kernel_rfl) ((Below.refl _ _).drew) (fun hHeld => ?_)
          refine take (i := 0) (d := some 42) (v := .pointer (some ⟨gc, 0, none⟩)) (by kernel_rfl) rfl rfl rfl (fun _ _ _ h => h) hHeld (fun W hSw => by go_simp) ?_
          simp only [Act.put, List.setIfInBounds_toArray, List.set_cons_zero, List.set_cons_succ]
          refine take (i := 1) (d := some 43) (v := .pointer (some ⟨gc, 0, none⟩)) (by kernel_rfl) rfl rfl rfl (fun _ _ _ h => h) hHeld (fun W hSw => by go_simp) ?_
          simp only [Act.put, List.setIfInBounds_toArray, List.set_cons_zero, List.set_cons_succ]
          refine take (i := 2) (d := some 44) (v := .pointer (some ⟨gc, 1, none⟩)) (by kernel_rfl) rfl rfl rfl (fun _ _ _ h => h) hHeld (fun W hSw => by go_simp) ?_
          simp only [Act.put, List.setIfInBounds_toArray, List.set_cons_zero, List.set_cons_succ]
          refine take (i := 3) (d := some 45) (v := .map (some gm)) (by kernel_rfl) rfl rfl rfl (fun _ _ _ h => h) hHeld (fun W hSw => by have x := cell_later hSw hgc81; go_simp) ?_
          simp only [Act.put, List.setIfInBounds_toArray, List.set_cons_zero, List.set_cons_succ]
          refine take (i := 4) (d := some 46) (v := .agg K) (by kernel_rfl) rfl rfl rfl (fun _ _ _ h => h) hHeld (fun W hSw => by exact exec_load_row rfl rfl (hk8.below hSw hk8.lt) Tryd.underlying151 rfl hik) ?_
          simp only [Act.put, List.setIfInBounds_toArray, List.set_cons_zero, List.set_cons_succ]
          refine take (i := 5) (d := some 47) (v := .agg BT) (by kernel_rfl) rfl rfl rfl (fun _ _ _ h => h) hHeld (fun W hSw => by exact exec_load_row rfl rfl (hv8'.below hSw hv8'.lt) Tryd.underlying114 rfl hib) ?_
          simp only [Act.put, List.setIfInBounds_toArray, List.set_cons_zero, List.set_cons_succ]
          obtain ⟨w9, hput, hm9, hb9, hk9, hz9⟩ := HPUT.out _ (hm8.keepB hHeld hm8.lt)
          refine anyJ_only (i := 6) (d := none) (by kernel_rfl) rfl rfl rfl (fun K' hK => ?_)
          refine wp_skip (w' := w9) (by go_simp) (hK.out _ _ (fun h => absurd rfl h) (fun _ => ?_))
          refine anyJ_done (by kernel_rfl) ?_ _
          simp only [Act.put]
          have hv9 : BlkIs w9 w4.heap.size 114 BT := (hk9 _ hgmn).trans hv8'
          have zx9 : BlkIs w9 (w.heap.size + 1) 114 Z := (hk9 _ (by omega)).trans zx8
          have hkb9 : KeepM gm w w9 := hkb8.trans ⟨hb9.os, hb9.tape, hb9.output, hb9.size, fun g hg _ => hk9 g hg⟩
          go_wp2_with (first
            | (refine wpList_load_row rfl 114 (.tmp 9) rfl w4.heap.size rfl 114 BT (0, 0) _ hv9 Tryd.underlying114 rfl hib ?_)
            | (refine wpList_store_row rfl 114 (.tmp 4) (.tmp 48) rfl (w.heap.size + 1) BT rfl rfl 114 Z zx9 hib hZs hB1 ?_))
          refine bodyPost_ret (v := .agg BT) (results_cell_row Tryd.results69 _ _ (w.heap.size + 1) 114 BT (0, 0) _ rfl (setRow_heap _ _ _ _ _ _ zx9) Tryd.underlying114 rfl hib) rfl ?_
          exact ⟨by rw [hBT.out], hm9.keep (setRow_other _ _ _ _ (by omega)), hkb9.setRow (by omega) _⟩

theorem label_any (rs : List Rule) (hrs : RulesFit rs) : ∀ t : Pat, treeOk t = true → patN t ≤ 200 → LabelOk rs t
  | .mk op nt kids, h, hN => label_of rs hrs _ h hN fun i hi => label_any rs hrs kids[i]
      (by rw [treeOk_eq, Bool.and_eq_true] at h; exact (treesOk_iff _).1 h.2 i hi)
      (by
        rw [patN_eq] at hN
        have := patsN_take kids i hi
        have := patsN_take_le kids (i + 1)
        simp only [Pat.kids] at hN
        omega)
termination_by t => SizeOf.sizeOf t
decreasing_by
  have := List.sizeOf_lt_of_mem (List.getElem_mem hi)
  simp only [Pat.kids] at this
  simp only [Pat.mk.sizeOf_spec]
  omega

end

end Go.Proofs.YtaippkdlibampaaDoor

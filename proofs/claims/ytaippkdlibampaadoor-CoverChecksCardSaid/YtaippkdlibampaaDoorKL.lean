/- CoverChecks walked. -/
import Derived.Test.YtaippkdlibampaaDoorKJ
namespace Go.Proofs.YtaippkdlibampaaDoor

/- CoverChecks walked. -/
section
open Go.RowKit

theorem wp_build3 {o : Oper} {a : Act} {w : World} {K : Act → World → Prop} {Q : Exit → Act → World → Prop} {x y z : Operand} {a1 b1 a2 b2 a3 b3 : Value} (ho : o.op = .buildSlice 53 3 #[(0, x), (1, y), (2, z)]) (hx : a.eval x = .agg #[a1, b1]) (hy : a.eval y = .agg #[a2, b2]) (hz : a.eval z = .agg #[a3, b3])
    (h : K (a.put o.dst (.slice (some ⟨w.heap.size, 0, none⟩) 3 3)) (w.alloc (.cells #[a1, b1, a2, b2, a3, b3] 60))) : Oper.wp Tryd.prog o a w K Q := by
  obtain ⟨i0, hi0, hz0, hz1, hz2⟩ := info_parts cov_info
  refine wp_buildSlice 53 60 3 #[(0, x), (1, y), (2, z)] ho #[a1, b1, a2, b2, a3, b3] i0 _ Tryd.underlying53 hi0 hz0 (by rw [hz1]; decide) (by rw [hz1]; decide) ?_ h
  rw [hz1]
  simp only [List.map_toArray, List.map_cons, List.map_nil, hx, hy, hz]
  exact Great.fill_whole (s := 2) (by decide) [.agg #[a1, b1], .agg #[a2, b2], .agg #[a3, b3]] _ (by simp; exact ⟨rfl, rfl, rfl⟩) (by simp)

/-- append_all at an operation -/
theorem wp_append_all {P : Program} {o : Oper} {a : Act} {K : Act → World → Prop} {Q : Exit → Act → World → Prop} {w : World} (s x : Operand) (T e : TypeId) (z bytes : Nat) (zero : Value)
    (ho : o.op = .call { callee := .builtin .append, args := #[s, x], argTypes := #[T, T] })
    (hT : P.underlying T = some (.slice e)) (hi : (P.info? e).map (fun i => (i.zero, i.size, i.bytes)) = some (some zero, z, bytes)) (hzs : zero.cells.size = z) (hsz : 0 < z) (hb : bytes ≤ 1000)
    (B : Nat) (ok : Nat → Prop) (v : Value) (ds : List D) (hs : a.eval s = v) (v2 : Value) (hx : a.eval x = v2)
    (hown : Own w B ok e z v ds) (B2 : Nat) (ok2 : Nat → Prop) (es : List D) (hsrc : Own w B2 ok2 e z v2 es) (hok2 : ∀ k, ok2 k → ok k ∧ some k ≠ v.ownBlock)
    (hlen : ds.length + es.length ≤ 1000000000) (hB : B ≤ w.heap.size)
    (h : ∀ v' w', Own w' B ok e z v' (ds ++ es) → Below B w w' → (∀ k, some k ≠ v.ownBlock → k < w.heap.size → w'.heap[k]? = w.heap[k]?) → K (a.put o.dst v') w') :
    Oper.wp P o a w K Q := by
  obtain ⟨i0, hi0, hz0, hz1, hz2⟩ := info_parts hi
  obtain ⟨xs, hrow, hcells⟩ := hown
  obtain ⟨ys, hrow2, hcells2⟩ := hsrc
  rcases hrow2.2 with ⟨hv2, hn2⟩ | ⟨g2, cap2, cur2, hv2, _, hh2, hc2, _, hs2, ht2⟩
  · have hes : es = [] := List.eq_nil_of_length_eq_zero hn2
    subst hes
    have hrun : (Builtin.append_ #[T, T] o.type #[v, .slice none 0 0]).run P w = .ok v w := by
      rcases hrow.2 with ⟨rfl, _⟩ | ⟨g, cap, cur, rfl, _, _, hnc, _⟩
      · simp [Builtin.append_, run_underlying hT, sizeOf, typeInfo, hi0, Builtin.lenOf, Builtin.firstCells]
      · simp [Builtin.append_, run_underlying hT, sizeOf, typeInfo, hi0, Builtin.lenOf, Builtin.firstCells, hnc, storeCells]
    unfold Oper.wp execOp
    simp only [ho, resolve, invoke, builtin, Sem.run_bind, Sem.run_pure, Result.andThen_ok, List.map_toArray, List.map_cons, List.map_nil, hs, hx, hv2, hrun]
    exact (h v w ⟨xs, by simpa using hrow, by simpa using hcells⟩ (Below.refl _ _) (fun _ _ _ => rfl))
  · have hmul : (ds.length + es.length) * bytes ≤ 140737488355328 := by
      have := Nat.mul_le_mul hlen hb
      omega
    have hnews : ∀ j u, ys[j]? = some u → w.cell? ((⟨g2, 0, none⟩ : Addr).add j) = some u := by
      intro j u hu
      have e1 : (⟨g2, 0, none⟩ : Addr).add j = ⟨g2, j, none⟩ := by
        unfold Addr.add
        split
        · rename_i h0; rw [h0]
        · simp
      rw [e1, cell_of_row w g2 j cur2 e (0, 0) hh2]
      have h1 : j < ys.length := (List.getElem?_eq_some_iff.1 hu).1
      rw [← ht2] at hu h1
      rw [List.getElem?_take] at hu
      split at hu
      · simpa using hu
      · cases hu
    obtain ⟨v', w', hrun, h2, h3, _, h5⟩ := run_append_own_at (P := P) w B T o.type e i0 zero z bytes hT hi0 hz0 hz1 hz2 hzs hsz v ds.length xs hrow ⟨g2, 0, none⟩ es.length cap2 ys hrow2.1 hnews (Cells.one hcells2) (by unfold maxLen; omega) hmul hB
    unfold Oper.wp execOp
    simp only [ho, resolve, invoke, builtin, Sem.run_bind, Sem.run_pure, Result.andThen_ok, List.map_toArray, List.map_cons, List.map_nil, hs, hx, hv2, hrun]
    have hkeep : ∀ k, some k ≠ v.ownBlock → k < w.heap.size → w'.heap[k]? = w.heap[k]? := fun k hk hlt => h3.block k hlt hk
    have hok : ∀ k, ok k ∧ some k ≠ v.ownBlock → k < w.heap.size → ok k ∧ some k ≠ v'.ownBlock := by
      intro k hk hlt
      refine ⟨hk.1, ?_⟩
      rcases h5 with h5 | h5
      · rw [h5]; exact hk.2
      · rw [h5]; intro e; injection e with e; omega
    refine (h v' w' ⟨xs ++ ys, by rw [List.length_append]; exact h2, ?_⟩ ((Below.refl _ _).grown h3 hB (own_block_ge hrow)) hkeep)
    exact Cells.append (Cells.keep (fun k hk hlt => hok k (hok2 k hk.1) hlt) (fun k hk => hkeep k (hok2 k hk.1).2) hcells2) (Cells.keep hok (fun k hk => hkeep k hk.2) hcells)

set_option maxRecDepth 100000 in
set_option maxHeartbeats 40000000 in
theorem coverChecks_any (L : List (List Rule)) (S : List (List UInt8)) (T : List Pat) (S2 : List (List UInt8)) (C : List Cov) (A1 A2 A3 A4 A5 : Option Addr) (c1 c2 c3 c4 c5 : Nat) (W : World) (hask : Ask13 W L S T S2 C A1 A2 A3 A4 A5 c1 c2 c3 c4 c5) (htab : Tab W) :
    Calls Tryd.prog 8 #[.agg #[.slice A1 L.length c1, .slice A2 S.length c2, .slice A3 T.length c3, .slice A4 S2.length c4, .slice A5 C.length c5]] W (SomeBoolBelow true W) := by
  have hHv := fun w h1 h2 h3 h4 h5 => heavy13_any L S T S2 C A1 A2 A3 A4 A5 c1 c2 c3 c4 c5 w hask.wf hask.wf2 hask.wf3 h1 h2 h3 h4 h5
  obtain ⟨n, hn⟩ : ∃ n, Hid (L.length = n) := ⟨_, Lib.hid rfl⟩
  obtain ⟨sn, hsn⟩ : ∃ n, Hid (S.length = n) := ⟨_, Lib.hid rfl⟩
  obtain ⟨tn, htn⟩ : ∃ n, Hid (T.length = n) := ⟨_, Lib.hid rfl⟩
  obtain ⟨un, hun⟩ : ∃ n, Hid (S2.length = n) := ⟨_, Lib.hid rfl⟩
  obtain ⟨cn, hcn⟩ : ∃ n, Hid (C.length = n) := ⟨_, Lib.hid rfl⟩
  have HASK := Lib.hid hask
  have H1 := Lib.hid hask.h1
  have H2 := Lib.hid hask.h2
  have H3 := Lib.hid hask.h3
  have H4 := Lib.hid hask.h4
  have H5 := Lib.hid hask.h5
  rw [hn.out, hsn.out, htn.out, hun.out, hcn.out] at hHv ⊢
  rw [hn.out] at H1
  rw [hsn.out] at H2
  rw [htn.out] at H3
  rw [hun.out] at H4
  rw [hcn.out] at H5
  clear hask
  go_enter Tryd.func8, Tryd.ntmps8
  go_wp2_with fail
  refine (hHv _ (Rep.alloc H1.out _) (Rep.alloc H2.out _) (Rep.alloc H3.out _) (Rep.alloc H4.out _) (Rep.alloc H5.out _)).mono ?_
  rintro e w1 ⟨b, rfl, hsm, hb1⟩
  obtain ⟨Q, hQ⟩ : ∃ x : Array Value, Hid (#[.slice A1 n c1, .slice A2 sn c2, .slice A3 tn c3, .slice A4 un c4, .slice A5 cn c5] = x) := ⟨_, Lib.hid rfl⟩
  have hQ0 : Q[0]? = some (.slice A1 n c1) := by rw [← hQ.out]; rfl
  have hQ4 : Q[4]? = some (.slice A5 cn c5) := by rw [← hQ.out]; rfl
  have hQ2 : Q[2]? = some (.slice A3 tn c3) := by rw [← hQ.out]; rfl
  have hb01 : Below W.heap.size W w1 := (below_alloc _ _).trans (hb1.mono (by simp))
  have hbox : BlkIs w1 W.heap.size 55 Q := by rw [← hQ.out]; exact (BlkIs.fresh _ _ _).below hb1 (by simp)
  have HSM := Lib.hid hsm
  clear hHv hsm hb1
  rcases (by cases b <;> simp : b = true ∨ b = false) with rfl | rfl
  · go_wp2_with fail
    go_ret
    exact ⟨rfl, hb01⟩
  · have HSM2 := Lib.hid (HSM.out rfl)
    clear HSM
    have hfin : Hid (∀ W', Below W.heap.size W W' → Calls Tryd.prog 28 #[] W' (SomeBoolBelow true W')) := Lib.hid (fun W' h => wakes13_any W' (tab_alloc htab _ h))
    go_wp2_with fail
    go_loopw [3] (fun i wr => ∃ k : Nat, k ≤ n ∧ k ≤ 4 ∧ i = .int .i64 k ∧ Below W.heap.size W wr ∧ BlkIs wr W.heap.size 55 Q) (fun i _ => 4 - (intOf i).toNat)
    case atStart => exact ⟨0, by omega, by omega, rfl, hb01, hbox⟩
    case round =>
      obtain ⟨k, hk, hk4, rfl, hb, hbk⟩ := hrel
      obtain ⟨wo, rfl⟩ : ∃ wo : World, wo = wr := ⟨_, rfl⟩
      clear hb01 hbox
      have q0 : wo.cell? ⟨W.heap.size, 0, none⟩ = some (.slice A1 n c1) := (hbk.cell 0).trans hQ0
      by_cases hlt : k < n ∧ k < 4
      · obtain ⟨hlt, hlt4⟩ := hlt
        have hk4d : decide ((k : Int) < 4) = true := by simp; omega
        go_wp2_with fail
        go_loopw [4] (fun i wr => ∃ q : Nat, q ≤ tn ∧ q ≤ 4 ∧ i = .int .i64 q ∧ Below W.heap.size W wr ∧ BlkIs wr W.heap.size 55 Q) (fun i _ => 4 - (intOf i).toNat)
        case atStart => exact ⟨0, by omega, by omega, rfl, hb, hbk⟩
        case round =>
          obtain ⟨q, hq, hq4, rfl, hb2, hbk2⟩ := hrel
          obtain ⟨wp, rfl⟩ : ∃ wp : World, wp = wr := ⟨_, rfl⟩
          clear hb hbk q0
          have q2 : wp.cell? ⟨W.heap.size, 2, none⟩ = some (.slice A3 tn c3) := (hbk2.cell 2).trans hQ2
          by_cases hlt2 : q < tn ∧ q < 4
          · obtain ⟨hlt2, hltq4⟩ := hlt2
            have hq4d : decide ((q : Int) < 4) = true := by simp; omega
            have hkl : k < L.length := by rw [hn.out]; exact hlt
            have hql : q < T.length := by rw [htn.out]; exact hlt2
            obtain ⟨g, off, B, d, rfl, hg, a0, hri⟩ := lists_at (H1.out.below hb2) k hkl
            obtain ⟨g', off', B', d', rfl, _, hg', ⟨b0, b1, b2⟩, hpi⟩ := pats_at (H3.out.below hb2) q hql
            have hsr := HSM2.out.1 L[k] (List.getElem_mem hkl)
            have hst := HSM2.out.2.1 T[q] (List.getElem_mem hql)
            have hwr := HASK.out.wf.2.2.1 L[k] (List.getElem_mem hkl)
            obtain ⟨rs, hrs⟩ : ∃ x, Hid (L[k] = x) := ⟨_, Lib.hid rfl⟩
            obtain ⟨t, ht⟩ : ∃ x, Hid (T[q] = x) := ⟨_, Lib.hid rfl⟩
            rw [hrs.out] at a0 hri hsr hwr
            rw [ht.out] at b0 b1 b2 hpi hst
            obtain ⟨m, hm⟩ : ∃ x, Hid (rs.length = x) := ⟨_, Lib.hid rfl⟩
            obtain ⟨tk, htk⟩ : ∃ x, Hid (t.kids.length = x) := ⟨_, Lib.hid rfl⟩
            obtain ⟨op, hop⟩ : ∃ x, Hid (t.op = x) := ⟨_, Lib.hid rfl⟩
            obtain ⟨nt, hnt⟩ : ∃ x, Hid (t.nt = x) := ⟨_, Lib.hid rfl⟩
            have f1 := fun W' h => copyRules_any rs hsr B d W' h
            rw [hm.out] at f1 a0
            rw [hop.out] at b0
            rw [hnt.out] at b1
            rw [htk.out] at b2
            have q0 : wp.cell? ⟨W.heap.size, 0, none⟩ = some (.slice (some ⟨g, off, none⟩) n c1) := (hbk2.cell 0).trans hQ0
            have HRI := Lib.hid hri
            have HPI : Hid (PatIn wp B' d' t) := Lib.hid ⟨_, hpi⟩
            clear hri hpi hsr hst
            go_upto_region 9 with fail
            go_cut [5, 6] (fun s5 s6 wc => ∃ (g6 : Nat), s5 = .slice B m d ∧ s6 = .pointer (some ⟨g6, 0, none⟩) ∧ Below wp.heap.size wp wc ∧ wp.heap.size ≤ g6 ∧ BlkIs wc g6 64 #[.int .i64 op, .int .i64 nt, .slice B' tk d'])
            case first =>
             as_aux_lemma =>
              refine anyJ_begin 14 (fun W' => Below wp.heap.size wp W') (by kernel_rfl) ((Below.refl _ _).drew) (fun hHeld => ?_)
              refine take (i := 0) (d := some 41) (v := .pointer (some ⟨W.heap.size, 0, none⟩)) (by kernel_rfl) rfl rfl rfl (fun _ _ _ h => h) hHeld (fun W' hSw => by go_simp) ?_
              simp only [Act.put, List.setIfInBounds_toArray, List.set_cons_zero, List.set_cons_succ]
              refine take (i := 1) (d := some 42) (v := .pointer (some ⟨W.heap.size, 0, none⟩)) (by kernel_rfl) rfl rfl rfl (fun _ _ _ h => h) hHeld (fun W' hSw => by go_simp) ?_
              simp only [Act.put, List.setIfInBounds_toArray, List.set_cons_zero, List.set_cons_succ]
              refine take (i := 2) (d := some 43) (v := .slice (some ⟨g, off, none⟩) n c1) (by kernel_rfl) rfl rfl rfl (fun _ _ _ h => h) hHeld (fun W' hSw => by have x := cell_later hSw q0; go_simp) ?_
              simp only [Act.put, List.setIfInBounds_toArray, List.set_cons_zero, List.set_cons_succ]
              refine take (i := 3) (d := some 44) (v := .int .i64 k) (by kernel_rfl) rfl rfl rfl (fun _ _ _ h => h) hHeld (fun W' hSw => by go_simp) ?_
              simp only [Act.put, List.setIfInBounds_toArray, List.set_cons_zero, List.set_cons_succ]
              refine take (i := 4) (d := some 45) (v := .pointer (some ⟨g, off + k, none⟩)) (by kernel_rfl) rfl rfl rfl (fun _ _ _ h => h) hHeld (fun W' hSw => by go_simp) ?_
              simp only [Act.put, List.setIfInBounds_toArray, List.set_cons_zero, List.set_cons_succ]
              refine take (i := 5) (d := some 46) (v := .slice B m d) (by kernel_rfl) rfl rfl rfl (fun _ _ _ h => h) hHeld (fun W' hSw => by have x := cell_later hSw a0; go_simp) ?_
              simp only [Act.put, List.setIfInBounds_toArray, List.set_cons_zero, List.set_cons_succ]
              refine take (i := 6) (d := some 47) (v := .pointer (some ⟨W.heap.size, 2, none⟩)) (by kernel_rfl) rfl rfl rfl (fun _ _ _ h => h) hHeld (fun W' hSw => by go_simp) ?_
              simp only [Act.put, List.setIfInBounds_toArray, List.set_cons_zero, List.set_cons_succ]
              refine take (i := 7) (d := some 48) (v := .pointer (some ⟨W.heap.size, 2, none⟩)) (by kernel_rfl) rfl rfl rfl (fun _ _ _ h => h) hHeld (fun W' hSw => by go_simp) ?_
              simp only [Act.put, List.setIfInBounds_toArray, List.set_cons_zero, List.set_cons_succ]
              refine take (i := 8) (d := some 49) (v := .slice (some ⟨g', off', none⟩) tn c3) (by kernel_rfl) rfl rfl rfl (fun _ _ _ h => h) hHeld (fun W' hSw => by have x := cell_later hSw q2; go_simp) ?_
              simp only [Act.put, List.setIfInBounds_toArray, List.set_cons_zero, List.set_cons_succ]
              refine take (i := 9) (d := some 50) (v := .int .i64 q) (by kernel_rfl) rfl rfl rfl (fun _ _ _ h => h) hHeld (fun W' hSw => by go_simp) ?_
              simp only [Act.put, List.setIfInBounds_toArray, List.set_cons_zero, List.set_cons_succ]
              refine take (i := 10) (d := some 51) (v := .pointer (some ⟨g', off' + q * 3, none⟩)) (by kernel_rfl) rfl rfl rfl (fun _ _ _ h => h) hHeld (fun W' hSw => by go_simp) ?_
              simp only [Act.put, List.setIfInBounds_toArray, List.set_cons_zero, List.set_cons_succ]
              refine take (i := 11) (d := some 52) (v := .agg #[.int .i64 op, .int .i64 nt, .slice B' tk d']) (by kernel_rfl) rfl rfl rfl (fun _ _ _ h => h) hHeld (fun W' hSw => by have x0 := cell_later hSw b0; have x1 := cell_later hSw b1; have x2 := cell_later hSw b2; go_simp) ?_
              simp only [Act.put, List.setIfInBounds_toArray, List.set_cons_zero, List.set_cons_succ]
              refine anyJ_only (i := 12) (d := some 6) (by kernel_rfl) rfl rfl rfl (fun K' hK => ?_)
              obtain ⟨g6, hg6⟩ : ∃ g, Hid (wp.drew.heap.size = g) := ⟨_, Lib.hid rfl⟩
              have hg6w : wp.heap.size ≤ g6 := by rw [← hg6.out]; exact hHeld.size
              have hz : BlkIs (wp.drew.alloc (.cells #[.int .i64 0, .int .i64 0, .slice none 0 0] 64)) g6 64 #[.int .i64 0, .int .i64 0, .slice none 0 0] := BlkIs.fresh_at hg6.out.symm
              refine wp_val (w' := wp.drew.alloc (.cells #[.int .i64 0, .int .i64 0, .slice none 0 0] 64)) (v := .pointer (some ⟨g6, 0, none⟩)) (by rw [← hg6.out]; go_simp) (hK.out _ _ (fun _ => hHeld.alloc hHeld.size _) (fun hHeld => ?_))
              have hHeld := hHeld (by decide)
              simp only [Act.put, List.setIfInBounds_toArray, List.set_cons_zero, List.set_cons_succ]
              refine take (i := 13) (d := some 5) (v := .slice B m d) (by kernel_rfl) rfl rfl rfl (fun _ _ _ h => h) hHeld (fun W' hSw => by go_simp) ?_
              simp only [Act.put, List.setIfInBounds_toArray, List.set_cons_zero, List.set_cons_succ]
              refine anyJ_only (i := 14) (d := none) (by kernel_rfl) rfl rfl rfl (fun K' hK => ?_)
              refine wp_store_row 64 (.tmp 6) (.tmp 52) rfl g6 #[.int .i64 op, .int .i64 nt, .slice B' tk d'] rfl rfl 64 _ hz (by kernel_rfl) rfl (by simp [Value.oneCell']) (hK.out _ _ (fun h => absurd rfl h) (fun _ => ?_))
              refine anyJ_done (by kernel_rfl) ?_ _
              simp only [Act.put]
              go_wp2_with fail
              go_meet
              exact ⟨g6, rfl, rfl, below_setRow hHeld hg6w _, hg6w, setRow_heap _ _ _ _ _ _ hz⟩
            case rest =>
              obtain ⟨g6, rfl, rfl, hbc, hg6, hg6b⟩ := hcut
              obtain ⟨wA, rfl⟩ : ∃ wA : World, wA = wc := ⟨_, rfl⟩
              have HRC : Hid (RulesIn wA B d rs) := Lib.hid (HRI.out.below hbc)
              have HPC : Hid (PatIn wA B' d' t) := Lib.hid (HPI.out.below hbc)
              have fm := may13R_any rs hwr t B' B d' d wA HRC.out HPC.out
              obtain ⟨okb, hokb⟩ : ∃ x, Hid ((mayT t && decide (checkE rs = 0)) = x) := ⟨_, Lib.hid rfl⟩
              rw [hokb.out] at fm
              rw [hop.out, hnt.out, htk.out, hm.out] at fm
              have x0 : wA.cell? ⟨g6, 0, none⟩ = some (.int .i64 op) := hg6b.cell 0
              have x1 : wA.cell? ⟨g6, 1, none⟩ = some (.int .i64 nt) := hg6b.cell 1
              have x2 : wA.cell? ⟨g6, 2, none⟩ = some (.slice B' tk d') := hg6b.cell 2
              have hbWA : Below W.heap.size W wA := hb2.trans (hbc.mono hb2.size)
              have hbkA := hbk2.below hbc hbk2.lt
              clear a0 b0 b1 b2 q0 q2 HRI HPI hbk2
              go_wp2_with fail
              refine fm.mono ?_
              rintro e w3 ⟨rfl, hb3⟩
              have hbW3 : Below W.heap.size W w3 := hbWA.trans (hb3.mono hbWA.size)
              have y0 := cell_later hb3 x0
              have y1 := cell_later hb3 x1
              have y2 := cell_later hb3 x2
              have hbk3 := hbkA.below hb3 hbkA.lt
              clear x0 x1 x2 fm hbkA
              cases okb
              · go_wp2_with fail
                go_roundw
                case rel => exact ⟨q + 1, by omega, by omega, by go_num, hbW3, hbk3⟩
                case measure => simp [intOf]; omega
              · have MI := Lib.hid (more_in hwr hokb.out 0)
                have hsp := coverMay_spec MI.out.m1
                obtain ⟨⟨hfit, _⟩, ⟨hto, hN⟩, _⟩ := hsp
                have hci : CostsIn rs := fun r hr => ⟨(hfit.1.2 r hr).1.2.2.1, (hfit.1.2 r hr).1.2.2.2⟩
                have HF := Lib.hid hfit
                have HCI := Lib.hid hci
                have HTO := Lib.hid (And.intro hto hN)
                have HC1 := Lib.hid HSM2.out.2.2
                have hm96 : m ≤ 96 := by rw [← hm.out]; exact hfit.1.1
                have q4 : w3.cell? ⟨W.heap.size, 4, none⟩ = some (.slice A5 cn c5) := (hbk3.cell 4).trans hQ4
                have fc := copyCovs_of C (by have := HC1.out; omega) (fun i hi => copyCov_any _ (by have := covsN_mem C i hi; have := HC1.out; omega)) A5 c5 w3 (by
                  have h := H5.out.below hbW3
                  rw [← hcn.out] at h
                  exact ⟨_, h⟩)
                rw [hcn.out] at fc
                clear hfit hto hN hci
                go_wp2_with fail
                refine fc.mono ?_
                rintro e w4 ⟨v7, rfl, hown7, hb4⟩
                have HO7 := Lib.hid hown7
                have hfar : ∀ g, w4.heap.size ≤ g → some g ≠ v7.ownBlock := fun g hg => hown7.ne_far hg
                have hown := hown7.ge
                have hwA3 : wA.heap.size ≤ w3.heap.size := hb3.size
                have hb34 : Below wA.heap.size wA w4 := hb3.trans (hb4.mono hb3.size)
                have fa := allR_any rs HF.out t HTO.out.1 HTO.out.2 B' B d' d w4 (HRC.out.below hb34) (HPC.out.below hb34)
                rw [hop.out, hnt.out, htk.out, hm.out] at fa
                have y0 := cell_later hb4 y0
                have y1 := cell_later hb4 y1
                have y2 := cell_later hb4 y2
                clear q4 fc hown7
                go_wp2_with fail
                refine fa.mono ?_
                rintro e w5 ⟨rfl, hb5⟩
                have hcx := bestCells_cost (labB rs t) 0 (by omega)
                obtain ⟨x, hx⟩ : ∃ x, Hid ((labB rs t).cost 0 = x) := ⟨_, Lib.hid rfl⟩
                have hxl := MI.out.a1 0
                obtain ⟨CA, hCA⟩ : ∃ x, Hid (bestCells (labB rs t) = x) := ⟨_, Lib.hid rfl⟩
                have hCs : CA.size = 8 := by rw [← hCA.out]; rfl
                have hC1 : CA.all (·.oneCell') = true := by rw [← hCA.out]; simp [bestCells, Value.oneCell']
                have hic : (Tryd.prog.info? 74).map (·.size) = some CA.size := by rw [hCs]; kernel_rfl
                rw [hCA.out] at hcx ⊢
                rw [hx.out] at hcx hxl
                clear fa y0 y1 y2
                go_upto_region 13 with (refine wpList_store_row rfl 74 (.tmp 8) (.tmp 62) rfl w5.heap.size CA rfl rfl 74 _ (BlkIs.fresh _ _ _) hic (by rw [hCs]; rfl) hC1 ?_)
                obtain ⟨w6, hw6⟩ : ∃ w6, w6 = (w5.alloc (.cells #[.int .i64 0, .int .i64 0, .int .i64 0, .int .i64 0, .int .i64 0, .int .i64 0, .int .i64 0, .int .i64 0] 74)).setRow w5.heap.size CA := ⟨_, rfl⟩
                have hb6 : Below w5.heap.size w5 w6 := by rw [hw6]; exact below_setRow (below_alloc _ _) (Nat.le_refl _) _
                obtain ⟨g8, hg8⟩ : ∃ g, Hid (w5.heap.size = g) := ⟨_, Lib.hid rfl⟩
                have k8 : BlkIs w6 g8 74 CA := by rw [hw6, ← hg8.out]; exact setRow_heap _ _ _ _ _ _ (BlkIs.fresh _ _ _)
                rw [← hw6, hg8.out]
                clear hw6
                have hb46 : Below w4.heap.size w4 w6 := hb5.trans (hb6.mono hb5.size)
                have hb36 : Below w3.heap.size w3 w6 := hb4.trans (hb46.mono hb4.size)
                have hb06 : Below wA.heap.size wA w6 := hb3.trans (hb36.mono hb3.size)
                have hbW6 : Below W.heap.size W w6 := hbWA.trans (hb06.mono hbWA.size)
                have hbk6 := hbk3.below hb36 hbk3.lt
                have hbl3 := hbk3.lt
                have HR6 := Lib.hid (HRC.out.below hb06)
                have HP6 := Lib.hid (HPC.out.below hb06)
                have hg8a : w4.heap.size ≤ g8 := by rw [← hg8.out]; exact hb5.size
                have k6 : BlkIs w6 g6 64 #[.int .i64 op, .int .i64 nt, .slice B' tk d'] := hg6b.below hb06 hg6b.lt
                have HO6 := Lib.hid (HO7.out.below hb46)
                have hz46 := hb46.size
                have hz34 := hb4.size
                clear hb5 hb6 hb36 hb46 hbk3 hbW3 hb3 hb4 hb34 hbc HO7
                have x0 : w6.cell? ⟨g6, 0, none⟩ = some (.int .i64 op) := k6.cell 0
                have x1 : w6.cell? ⟨g6, 1, none⟩ = some (.int .i64 nt) := k6.cell 1
                have x2 : w6.cell? ⟨g6, 2, none⟩ = some (.slice B' tk d') := k6.cell 2
                have x8 : w6.cell? ⟨g8, 0, none⟩ = some (.int .i64 x) := (k8.cell 0).trans hcx
                go_upto_if 66 with fail
                go_cut [7] (fun s7 wc => ∃ (CL : List Cov) (A7 : Option Addr) (c7 : Nat), s7 = .slice A7 CL.length c7 ∧ Hid (CovsIn wc A7 c7 CL) ∧ Hid (∀ c ∈ CL, covN c ≤ 20000) ∧ CL.length ≤ 4000 ∧ Below w3.heap.size w6 wc ∧ BlkIs wc g8 74 CA)
                case first =>
                 as_aux_lemma =>
                  by_cases hx0 : 0 ≤ x
                  · obtain ⟨X, hX⟩ := isCov_ex HF.out t HTO.out.1 0 (by omega) (by rw [hx.out]; exact hx0)
                    have hXs : covN X ≤ 804 := by
                      have h := isCov_size HF.out hX HTO.out.1 (by omega) (by rw [hx.out]; exact hx0)
                      have h2 := HTO.out.2
                      rw [patN_eq] at h2
                      have h3 := rankN_le 0
                      omega
                    have fv := coverR_any rs HF.out t HTO.out.1 HTO.out.2 0 (by omega) X hX B' B d' d w6 HR6.out HP6.out
                    rw [hop.out, hnt.out, htk.out, hm.out] at fv
                    have HX := Lib.hid hX
                    clear hX
                    go_wp2_with fail
                    refine fv.mono ?_
                    rintro e w7 ⟨A9, d9, rfl, hrep9, hb7⟩
                    go_upto_region 15 with fail
                    obtain ⟨w8, hw8⟩ : ∃ W, W = w7.alloc (.cells #[.int .i64 X.rule, .slice A9 X.kids.length d9] 60) := ⟨_, rfl⟩
                    obtain ⟨g9, hg9⟩ : ∃ g, Hid (w7.heap.size = g) := ⟨_, Lib.hid rfl⟩
                    have k9 : BlkIs w8 g9 60 #[.int .i64 X.rule, .slice A9 X.kids.length d9] := by rw [hw8]; exact BlkIs.fresh_at hg9.out.symm
                    have hb68 : Below w6.heap.size w6 w8 := by rw [hw8]; exact hb7.alloc hb7.size _
                    have hrep8 : Rep w8 (fun g => w6.heap.size ≤ g) (encC X) [.int .i64 X.rule, .slice A9 X.kids.length d9] := by rw [hw8]; exact hrep9.alloc _
                    rw [hg9.out, ← hw8]
                    have HRP := Lib.hid hrep8.lt
                    have HO8 := Lib.hid (HO6.out.below hb68)
                    have y0 : w8.cell? ⟨g9, 0, none⟩ = some (.int .i64 X.rule) := k9.cell 0
                    have y1 : w8.cell? ⟨g9, 1, none⟩ = some (.slice A9 X.kids.length d9) := k9.cell 1
                    have hv7 : ∀ g, w6.heap.size ≤ g → some g ≠ v7.ownBlock := fun g hg => HO6.out.ne_far hg
                    have hz68 := hb68.size
                    obtain ⟨gm, hgm1, hgm2, hgm3⟩ : ∃ gm : Nat, (∀ k, k ≠ gm → some k ≠ v7.ownBlock) ∧ w3.heap.size ≤ gm ∧ (gm < w4.heap.size ∨ w8.heap.size ≤ gm) := by
                      cases hov : v7.ownBlock with
                      | none => exact ⟨w8.heap.size, fun k _ h => (by cases h), by omega, .inr (Nat.le_refl _)⟩
                      | some g => exact ⟨g, fun k hk h => hk (by injection h), hown g hov, .inl (Nat.lt_of_not_le (fun h => hfar g h hov.symm))⟩
                    have hg9a : w6.heap.size ≤ g9 := by rw [← hg9.out]; exact hb7.size
                    have hg9n : g9 ≠ gm := by have := k9.lt; omega
                    have hd0 : Below w8.heap.size w8 w8.drew := (Below.refl _ _).drew
                    have fo1 := fun W' h => other_any X (by omega) k m A9 d9 W' (by omega) (by omega) h
                    have fo2 := fun W' h => other_any X (by omega) q m A9 d9 W' (by omega) (by omega) h
                    clear hw8 hrep9 hrep8 fv
                    refine anyJ_begin 14 (fun W' => KeepM gm w8 W') (by kernel_rfl) ((KeepM.refl _ _).drew) (fun hHeld => ?_)
                    refine take (i := 0) (d := some 70) (v := v7) (by kernel_rfl) rfl rfl rfl (fun _ _ _ h => h) hHeld (fun W' hSw => by go_simp) ?_
                    simp only [Act.put, List.setIfInBounds_toArray, List.set_cons_zero, List.set_cons_succ]
                    refine take (i := 1) (d := some 71) (v := .agg #[.int .i64 X.rule, .slice A9 X.kids.length d9]) (by kernel_rfl) rfl rfl rfl (fun _ _ _ h => h) hHeld (fun W' hSw => by have x0 := cell_keepM y0 hSw hg9n; have x1 := cell_keepM y1 hSw hg9n; go_simp) ?_
                    simp only [Act.put, List.setIfInBounds_toArray, List.set_cons_zero, List.set_cons_succ]
                    refine take (i := 2) (d := some 72) (v := .agg #[.int .i64 X.rule, .slice A9 X.kids.length d9]) (by kernel_rfl) rfl rfl rfl (fun _ _ _ h => h) hHeld (fun W' hSw => by have x0 := cell_keepM y0 hSw hg9n; have x1 := cell_keepM y1 hSw hg9n; go_simp) ?_
                    simp only [Act.put, List.setIfInBounds_toArray, List.set_cons_zero, List.set_cons_succ]
                    refine take (i := 3) (d := some 73) (v := .slice B m d) (by kernel_rfl) rfl rfl rfl (fun _ _ _ h => h) hHeld (fun W' hSw => by go_simp) ?_
                    simp only [Act.put, List.setIfInBounds_toArray, List.set_cons_zero, List.set_cons_succ]
                    refine take (i := 4) (d := some 74) (v := .int .i64 m) (by kernel_rfl) rfl rfl rfl (fun _ _ _ h => h) hHeld (fun W' hSw => by go_simp) ?_
                    simp only [Act.put, List.setIfInBounds_toArray, List.set_cons_zero, List.set_cons_succ]
                    refine take (i := 5) (d := some 75) (v := .int .i64 k) (by kernel_rfl) rfl rfl rfl (fun _ _ _ h => h) hHeld (fun W' hSw => by go_simp) ?_
                    simp only [Act.put, List.setIfInBounds_toArray, List.set_cons_zero, List.set_cons_succ]
                    refine take (i := 7) (d := some 77) (v := .agg #[.int .i64 X.rule, .slice A9 X.kids.length d9]) (by kernel_rfl) rfl rfl rfl (fun _ _ _ h => h) hHeld (fun W' hSw => by have x0 := cell_keepM y0 hSw hg9n; have x1 := cell_keepM y1 hSw hg9n; go_simp) ?_
                    simp only [Act.put, List.setIfInBounds_toArray, List.set_cons_zero, List.set_cons_succ]
                    refine take (i := 8) (d := some 78) (v := .slice B m d) (by kernel_rfl) rfl rfl rfl (fun _ _ _ h => h) hHeld (fun W' hSw => by go_simp) ?_
                    simp only [Act.put, List.setIfInBounds_toArray, List.set_cons_zero, List.set_cons_succ]
                    refine take (i := 9) (d := some 79) (v := .int .i64 m) (by kernel_rfl) rfl rfl rfl (fun _ _ _ h => h) hHeld (fun W' hSw => by go_simp) ?_
                    simp only [Act.put, List.setIfInBounds_toArray, List.set_cons_zero, List.set_cons_succ]
                    refine take (i := 10) (d := some 80) (v := .int .i64 q) (by kernel_rfl) rfl rfl rfl (fun _ _ _ h => h) hHeld (fun W' hSw => by go_simp) ?_
                    simp only [Act.put, List.setIfInBounds_toArray, List.set_cons_zero, List.set_cons_succ]
                    refine anyJ_only (i := 6) (d := some 76) (by kernel_rfl) rfl rfl rfl (fun K' hK => ?_)
                    refine wp_go_call 39 _ _ rfl #[.agg #[.int .i64 X.rule, .slice A9 X.kids.length d9], .int .i64 m, .int .i64 k] rfl (fun W => by go_simp) (fo1 _ ⟨_, HRP.out.below hd0⟩) (fun e w9 he => ?_)
                    obtain ⟨X1, hX1N, A10, d10, rfl, hrep10, hb9⟩ := he
                    have hb89 : Below w8.heap.size w8 w9 := hd0.trans hb9
                    have hz89 := hb89.size
                    refine ⟨_, rfl, hK.out _ _ (fun _ => KeepM.of hb89) (fun hHeld => ?_)⟩
                    have hHeld := hHeld (by decide)
                    simp only [Act.put, List.setIfInBounds_toArray, List.set_cons_zero, List.set_cons_succ]
                    refine anyJ_only (i := 11) (d := some 81) (by kernel_rfl) rfl rfl rfl (fun K' hK => ?_)
                    refine wp_go_call 39 _ _ rfl #[.agg #[.int .i64 X.rule, .slice A9 X.kids.length d9], .int .i64 m, .int .i64 q] rfl (fun W => by go_simp) (fo2 _ ⟨_, HRP.out.below hb89⟩) (fun e w10 he => ?_)
                    obtain ⟨X2, hX2N, A11, d11, rfl, hrep11, hb10⟩ := he
                    have hb810 : Below w8.heap.size w8 w10 := hb89.trans (hb10.mono hz89)
                    have hz910 := hb10.size
                    refine ⟨_, rfl, hK.out _ _ (fun _ => KeepM.of hb810) (fun hHeld => ?_)⟩
                    have hHeld := hHeld (by decide)
                    simp only [Act.put, List.setIfInBounds_toArray, List.set_cons_zero, List.set_cons_succ]
                    have hcells : Cells w10 (fun g => w6.heap.size ≤ g) 2 [encC X, encC X1, encC X2] [.int .i64 X.rule, .slice A9 X.kids.length d9, .int .i64 X1.rule, .slice A10 X1.kids.length d10, .int .i64 X2.rule, .slice A11 X2.kids.length d11] := by
                      refine ⟨[_, _], _, rfl, rfl, (HRP.out.below hb810).imp (fun g hg _ => hg.1), [_, _], _, rfl, rfl, ?_, [_, _], [], rfl, rfl, ?_, rfl⟩
                      · exact (hrep10.below hb10).imp (fun g hg _ => by have hg : w8.heap.size ≤ g := hg; omega)
                      · exact hrep11.imp (fun g hg _ => by have hg : w9.heap.size ≤ g := hg; omega)
                    have hsrc := Own.fresh (e := 60) (B := w6.heap.size) hcells (by omega) (by simp [maxLen]) (g := w10.heap.size) (n := 3) rfl rfl
                    obtain ⟨w11, hw11⟩ : ∃ W, W = w10.alloc (.cells #[.int .i64 X.rule, .slice A9 X.kids.length d9, .int .i64 X1.rule, .slice A10 X1.kids.length d10, .int .i64 X2.rule, .slice A11 X2.kids.length d11] 60) := ⟨_, rfl⟩
                    have hb811 : Below w8.heap.size w8 w11 := by rw [hw11]; exact hb810.alloc (by omega) _
                    refine anyJ_only (i := 12) (d := some 82) (by kernel_rfl) rfl rfl rfl (fun K' hK => ?_)
                    refine wp_build3 rfl rfl rfl rfl ?_
                    rw [← hw11]
                    refine hK.out _ _ (fun _ => KeepM.of hb811) (fun hHeld => ?_)
                    have hHeld := hHeld (by decide)
                    simp only [Act.put, List.setIfInBounds_toArray, List.set_cons_zero, List.set_cons_succ]
                    have hsrc11 : Own w11 w6.heap.size (fun g => w6.heap.size ≤ g) 60 2 (.slice (some ⟨w10.heap.size, 0, none⟩) 3 3) [encC X, encC X1, encC X2] := by rw [hw11]; exact hsrc
                    have HO11 := HO8.out.below hb811
                    have hz11 := hb811.size
                    refine anyJ_only (i := 13) (d := some 83) (by kernel_rfl) rfl rfl rfl (fun K' hK => ?_)
                    refine wp_append_all (.tmp 70) (.tmp 82) 53 60 2 32 _ rfl Tryd.underlying53 cov_info rfl (by decide) (by decide) w3.heap.size (fun g => w3.heap.size ≤ g) v7 (C.map encC) rfl (.slice (some ⟨w10.heap.size, 0, none⟩) 3 3) rfl HO11 w6.heap.size (fun g => w6.heap.size ≤ g) [encC X, encC X1, encC X2] hsrc11 (fun k hk => ⟨by omega, hv7 k hk⟩) (by have := HC1.out; simp; omega) (by omega) (fun v12 w12 own12 hb12 hk12 => ?_)
                    have hm12 : KeepM gm w8 w12 := (KeepM.of hb811).trans ⟨hb12.os, hb12.tape, hb12.output, hb12.size, fun g hg hl => hk12 g (hgm1 g hg) hl⟩
                    refine hK.out _ _ (fun _ => hm12) (fun hHeld => ?_)
                    have hHeld := hHeld (by decide)
                    simp only [Act.put, List.setIfInBounds_toArray, List.set_cons_zero, List.set_cons_succ]
                    obtain ⟨A12, c12, rfl, _⟩ := own12.rep.len
                    have hcl : C.map encC ++ [encC X, encC X1, encC X2] = (C ++ [X, X1, X2]).map encC := by simp
                    rw [hcl] at own12
                    rw [hcl, List.length_map]
                    rw [List.length_map] at own12
                    have HO12 := Lib.hid own12.rep
                    obtain ⟨L7, hL7⟩ : ∃ x, Hid (C ++ [X, X1, X2] = x) := ⟨_, Lib.hid rfl⟩
                    rw [hL7.out] at HO12 ⊢
                    refine anyJ_only (i := 14) (d := some 7) (by kernel_rfl) rfl rfl rfl (fun K' hK => ?_)
                    refine wp_val (w' := w12) (v := .slice A12 L7.length c12) (by go_simp) (hK.out _ _ (fun h => absurd rfl h) (fun _ => ?_))
                    refine anyJ_done (by kernel_rfl) ?_ _
                    simp only [Act.put]
                    go_wp2_with fail
                    go_meet
                    refine ⟨L7, A12, c12, rfl, Lib.hid ⟨_, HO12.out⟩, Lib.hid (fun c hc => ?_), ?_, ?_, ?_⟩
                    · rw [← hL7.out] at hc
                      rcases List.mem_append.1 hc with h | h
                      · obtain ⟨i, hi, rfl⟩ := List.getElem_of_mem h
                        have := covsN_mem C i hi
                        have := HC1.out
                        omega
                      · simp at h
                        rcases h with rfl | rfl | rfl <;> omega
                    · rw [← hL7.out]
                      have := HC1.out
                      simp; omega
                    · exact (hb68.mono (by omega)).trans ⟨hm12.os, hm12.tape, hm12.output, hm12.size, fun g hg => hm12.block g (by omega) (by omega)⟩
                    · exact (k8.below hb68 k8.lt).keepM hm12 (by have := k8.lt; omega)
                  · go_wp2_with fail
                    obtain ⟨A7, c7, rfl, _⟩ := HO6.out.rep.len
                    go_meet
                    refine ⟨C, A7, c7, by rw [List.length_map], Lib.hid ?_, Lib.hid (fun c hc => ?_), by have := HC1.out; omega, Below.refl _ _, k8⟩
                    · have h := HO6.out.rep
                      rw [List.length_map] at h
                      exact ⟨_, h⟩
                    · obtain ⟨i, hi, rfl⟩ := List.getElem_of_mem hc
                      have := covsN_mem C i hi
                      have := HC1.out
                      omega
                case rest =>
                  obtain ⟨CL, A7, c7, rfl, HCL, hCLN, hCL4, hbc, k8B⟩ := hcut
                  obtain ⟨wB, rfl⟩ : ∃ w : World, w = wc := ⟨_, rfl⟩
                  obtain ⟨ln, hln⟩ : ∃ x, Hid (CL.length = x) := ⟨_, Lib.hid rfl⟩
                  rw [hln.out] at hCL4 ⊢
                  have n0 := fun W' => num13_any 0 W'
                  have n8 := fun W' => num13_any 8 W'
                  have hbAB : Below wA.heap.size wA wB := hb06.trans (hbc.mono hwA3)
                  have HRB := Lib.hid (HRC.out.below hbAB)
                  have HPB := Lib.hid (HPC.out.below hbAB)
                  have hbWB : Below W.heap.size W wB := hbWA.trans (hbAB.mono hbWA.size)
                  have hbkB := hbk6.below hbc hbl3
                  have k6B := hg6b.below hbAB hg6b.lt
                  have HGE : Hid (∀ c n, covCost rs c t 0 = some n → x ≤ n) := Lib.hid (fun c n h => by
                    have := covCost_ge HF.out c t HTO.out.1 0 (by omega) n h
                    rw [hx.out] at this
                    exact this.2)
                  clear x0 x1 x2 x8 hbc hbW6 hbk6 k6 k8 HR6 HP6 HO6 hbAB hb06 HRC HPC hg6b hbWA
                  go_wp2_with fail
                  go_loopw [10] (fun s10 wr => ∃ j : Nat, j ≤ ln ∧ j ≤ 8 ∧ s10 = .int .i64 j ∧ Below wB.heap.size wB wr) (fun s _ => 8 - (intOf s).toNat)
                  case atStart => exact ⟨0, by omega, by omega, rfl, Below.refl _ _⟩
                  case round =>
                    obtain ⟨j, hj, hj8, rfl, hbr⟩ := hrel
                    obtain ⟨wj, rfl⟩ : ∃ w : World, w = wr := ⟨_, rfl⟩
                    by_cases hltj : j < ln ∧ j < 8
                    · obtain ⟨hltj, hltj8⟩ := hltj
                      have hj8d : decide ((j : Int) < 8) = true := by simp; omega
                      have hjl : j < CL.length := by rw [hln.out]; exact hltj
                      obtain ⟨ok, hcs⟩ := HCL.out.below hbr
                      obtain ⟨g3, off3, B3, d3, hX3, _, hg3, ⟨e0, e1⟩, hv⟩ := covs_at hcs j hjl
                      cases hX3
                      have hcN := hCLN.out CL[j] (List.getElem_mem hjl)
                      obtain ⟨c, hc⟩ : ∃ x, Hid (CL[j] = x) := ⟨_, Lib.hid rfl⟩
                      rw [hc.out] at e0 e1 hv hcN
                      have hf1 := fun W' h1 h2 h3 h4 => checkC_any rs hwr t 0 c hcN MI.out.m1 B' B B3 d' d d3 W' h1 h2 h3 h4
                      have hf2 := fun W' h1 h2 h3 => costC_any HF.out HCI.out c hcN t 0 B' B B3 d' d d3 W' HTO.out.1 h1 h2 h3
                      obtain ⟨o, ho⟩ : ∃ x, Hid (covCost rs c t 0 = x) := ⟨_, Lib.hid rfl⟩
                      rw [ho.out, hop.out, hnt.out, htk.out, hm.out] at hf1 hf2
                      have HV : Hid (CovIn wj B3 d3 c) := Lib.hid ⟨_, hv⟩
                      have HRj := Lib.hid (HRB.out.below hbr)
                      have HPj := Lib.hid (HPB.out.below hbr)
                      have hbWj : Below W.heap.size W wj := hbWB.trans (hbr.mono hbWB.size)
                      have k6j := k6B.below hbr k6B.lt
                      have k8j := k8B.below hbr k8B.lt
                      have x0 : wj.cell? ⟨g6, 0, none⟩ = some (.int .i64 op) := k6j.cell 0
                      have x1 : wj.cell? ⟨g6, 1, none⟩ = some (.int .i64 nt) := k6j.cell 1
                      have x2 : wj.cell? ⟨g6, 2, none⟩ = some (.slice B' tk d') := k6j.cell 2
                      have x8 : wj.cell? ⟨g8, 0, none⟩ = some (.int .i64 x) := (k8j.cell 0).trans hcx
                      have hd0 : Below wj.heap.size wj wj.drew := (Below.refl _ _).drew
                      have hbrz := hbr.size
                      clear hcs hv
                      go_wp2_with fail
                      refine anyJ_begin 11 (fun W' => Below wj.heap.size wj W') (by kernel_rfl) ((Below.refl _ _).drew) (fun hHeld => ?_)
                      refine take (i := 0) (d := some 95) (v := .slice B m d) (by kernel_rfl) rfl rfl rfl (fun _ _ _ h => h) hHeld (fun W' hSw => by go_simp) ?_
                      simp only [Act.put, List.setIfInBounds_toArray, List.set_cons_zero, List.set_cons_succ]
                      refine take (i := 1) (d := some 96) (v := .agg #[.int .i64 op, .int .i64 nt, .slice B' tk d']) (by kernel_rfl) rfl rfl rfl (fun _ _ _ h => h) hHeld (fun W' hSw => by have x0 := cell_later hSw x0; have x1 := cell_later hSw x1; have x2 := cell_later hSw x2; go_simp) ?_
                      simp only [Act.put, List.setIfInBounds_toArray, List.set_cons_zero, List.set_cons_succ]
                      refine take (i := 2) (d := some 97) (v := .slice (some ⟨g3, off3, none⟩) ln c7) (by kernel_rfl) rfl rfl rfl (fun _ _ _ h => h) hHeld (fun W' hSw => by go_simp) ?_
                      simp only [Act.put, List.setIfInBounds_toArray, List.set_cons_zero, List.set_cons_succ]
                      refine take (i := 3) (d := some 98) (v := .int .i64 j) (by kernel_rfl) rfl rfl rfl (fun _ _ _ h => h) hHeld (fun W' hSw => by go_simp) ?_
                      simp only [Act.put, List.setIfInBounds_toArray, List.set_cons_zero, List.set_cons_succ]
                      refine take (i := 4) (d := some 99) (v := .pointer (some ⟨g3, off3 + j * 2, none⟩)) (by kernel_rfl) rfl rfl rfl (fun _ _ _ h => h) hHeld (fun W' hSw => by go_simp) ?_
                      simp only [Act.put, List.setIfInBounds_toArray, List.set_cons_zero, List.set_cons_succ]
                      refine take (i := 5) (d := some 100) (v := .agg #[.int .i64 c.rule, .slice B3 c.kids.length d3]) (by kernel_rfl) rfl rfl rfl (fun _ _ _ h => h) hHeld (fun W' hSw => by have x0 := cell_later hSw e0; have x1 := cell_later hSw e1; go_simp) ?_
                      simp only [Act.put, List.setIfInBounds_toArray, List.set_cons_zero, List.set_cons_succ]
                      refine anyJ_only (i := 6) (d := some 101) (by kernel_rfl) rfl rfl rfl (fun K' hK => ?_)
                      refine wp_go_call 40 _ _ rfl #[.slice B m d, .agg #[.int .i64 op, .int .i64 nt, .slice B' tk d'], .int .i64 0, .agg #[.int .i64 c.rule, .slice B3 c.kids.length d3]] rfl (fun W => by go_simp) (hf1 _ (tab_alloc htab _ (hbWj.trans (hHeld.mono hbWj.size))) (HRj.out.below hHeld) (HPj.out.below hHeld) (HV.out.below hHeld)) (fun e w1 he => ?_)
                      obtain ⟨hb1, he⟩ := he
                      have hbj1 : Below wj.heap.size wj w1 := hHeld.trans hb1
                      have hzj1 := hbj1.size
                      clear hf1
                      have x0 := cell_later hbj1 x0
                      have x1 := cell_later hbj1 x1
                      have x2 := cell_later hbj1 x2
                      have x8 := cell_later hbj1 x8
                      have e0 := cell_later hbj1 e0
                      have e1 := cell_later hbj1 e1
                      cases o with
                      | none =>
                        obtain rfl : e = _ := he
                        refine ⟨_, rfl, hK.out _ _ (fun _ => hbj1) (fun hHeld => ?_)⟩
                        have hHeld := hHeld (by decide)
                        simp only [Act.put, List.setIfInBounds_toArray, List.set_cons_zero, List.set_cons_succ]
                        refine take (i := 7) (d := some 94) (v := .tuple #[.int .i64 0, .int .i64 8]) (by kernel_rfl) rfl rfl rfl (fun _ _ _ h => h) hHeld (fun W' hSw => by go_simp) ?_
                        simp only [Act.put, List.setIfInBounds_toArray, List.set_cons_zero, List.set_cons_succ]
                        refine take (i := 8) (d := some 102) (v := .int .i64 0) (by kernel_rfl) rfl rfl rfl (fun _ _ _ h => h) hHeld (fun W' hSw => by go_simp) ?_
                        simp only [Act.put, List.setIfInBounds_toArray, List.set_cons_zero, List.set_cons_succ]
                        refine take (i := 9) (d := some 103) (v := .int .i64 8) (by kernel_rfl) rfl rfl rfl (fun _ _ _ h => h) hHeld (fun W' hSw => by go_simp) ?_
                        simp only [Act.put, List.setIfInBounds_toArray, List.set_cons_zero, List.set_cons_succ]
                        refine take (i := 10) (d := some 11) (v := .int .i64 0) (by kernel_rfl) rfl rfl rfl (fun _ _ _ h => h) hHeld (fun W' hSw => by go_simp) ?_
                        simp only [Act.put, List.setIfInBounds_toArray, List.set_cons_zero, List.set_cons_succ]
                        refine anyJ_only (i := 11) (d := some 12) (by kernel_rfl) rfl rfl rfl (fun K' hK => ?_)
                        refine wp_val (w' := w1) (v := .int .i64 8) (by go_simp) (hK.out _ _ (fun h => absurd rfl h) (fun _ => ?_))
                        simp only [Act.put, List.setIfInBounds_toArray, List.set_cons_zero, List.set_cons_succ]
                        refine anyJ_done (by kernel_rfl) ?_ _
                        go_wp2_with fail
                        have hd1 : Below w1.heap.size w1 w1.drew := (Below.refl _ _).drew
                        refine anyJ_begin 11 (fun W' => Below w1.heap.size w1 W') (by kernel_rfl) ((Below.refl _ _).drew) (fun hHeld => ?_)
                        refine take (i := 0) (d := some 105) (v := .slice B m d) (by kernel_rfl) rfl rfl rfl (fun _ _ _ h => h) hHeld (fun W' hSw => by go_simp) ?_
                        simp only [Act.put, List.setIfInBounds_toArray, List.set_cons_zero, List.set_cons_succ]
                        refine take (i := 1) (d := some 106) (v := .agg #[.int .i64 op, .int .i64 nt, .slice B' tk d']) (by kernel_rfl) rfl rfl rfl (fun _ _ _ h => h) hHeld (fun W' hSw => by have x0 := cell_later hSw x0; have x1 := cell_later hSw x1; have x2 := cell_later hSw x2; go_simp) ?_
                        simp only [Act.put, List.setIfInBounds_toArray, List.set_cons_zero, List.set_cons_succ]
                        refine take (i := 2) (d := some 107) (v := .slice (some ⟨g3, off3, none⟩) ln c7) (by kernel_rfl) rfl rfl rfl (fun _ _ _ h => h) hHeld (fun W' hSw => by go_simp) ?_
                        simp only [Act.put, List.setIfInBounds_toArray, List.set_cons_zero, List.set_cons_succ]
                        refine take (i := 3) (d := some 108) (v := .int .i64 j) (by kernel_rfl) rfl rfl rfl (fun _ _ _ h => h) hHeld (fun W' hSw => by go_simp) ?_
                        simp only [Act.put, List.setIfInBounds_toArray, List.set_cons_zero, List.set_cons_succ]
                        refine take (i := 4) (d := some 109) (v := .pointer (some ⟨g3, off3 + j * 2, none⟩)) (by kernel_rfl) rfl rfl rfl (fun _ _ _ h => h) hHeld (fun W' hSw => by go_simp) ?_
                        simp only [Act.put, List.setIfInBounds_toArray, List.set_cons_zero, List.set_cons_succ]
                        refine take (i := 5) (d := some 110) (v := .agg #[.int .i64 c.rule, .slice B3 c.kids.length d3]) (by kernel_rfl) rfl rfl rfl (fun _ _ _ h => h) hHeld (fun W' hSw => by have x0 := cell_later hSw e0; have x1 := cell_later hSw e1; go_simp) ?_
                        simp only [Act.put, List.setIfInBounds_toArray, List.set_cons_zero, List.set_cons_succ]
                        refine anyJ_only (i := 6) (d := some 111) (by kernel_rfl) rfl rfl rfl (fun K' hK => ?_)
                        refine wp_go_call 41 _ _ rfl #[.slice B m d, .agg #[.int .i64 op, .int .i64 nt, .slice B' tk d'], .int .i64 0, .agg #[.int .i64 c.rule, .slice B3 c.kids.length d3]] rfl (fun W => by go_simp) (hf2 _ ((HRj.out.below hbj1).below hHeld) ((HPj.out.below hbj1).below hHeld) ((HV.out.below hbj1).below hHeld)) (fun e w2 he => ?_)
                        obtain ⟨hb2, y, rfl, hy⟩ := he
                        have hbj2 : Below w1.heap.size w1 w2 := hHeld.trans hb2
                        refine ⟨_, rfl, hK.out _ _ (fun _ => hbj2) (fun hHeld => ?_)⟩
                        have hHeld := hHeld (by decide)
                        simp only [Act.put, List.setIfInBounds_toArray, List.set_cons_zero, List.set_cons_succ]
                        refine take (i := 7) (d := some 104) (v := .tuple #[.int .i64 y, .bool false]) (by kernel_rfl) rfl rfl rfl (fun _ _ _ h => h) hHeld (fun W' hSw => by go_simp) ?_
                        simp only [Act.put, List.setIfInBounds_toArray, List.set_cons_zero, List.set_cons_succ]
                        refine take (i := 8) (d := some 112) (v := .int .i64 y) (by kernel_rfl) rfl rfl rfl (fun _ _ _ h => h) hHeld (fun W' hSw => by go_simp) ?_
                        simp only [Act.put, List.setIfInBounds_toArray, List.set_cons_zero, List.set_cons_succ]
                        refine take (i := 9) (d := some 113) (v := .bool false) (by kernel_rfl) rfl rfl rfl (fun _ _ _ h => h) hHeld (fun W' hSw => by go_simp) ?_
                        simp only [Act.put, List.setIfInBounds_toArray, List.set_cons_zero, List.set_cons_succ]
                        refine take (i := 10) (d := some 13) (v := .int .i64 y) (by kernel_rfl) rfl rfl rfl (fun _ _ _ h => h) hHeld (fun W' hSw => by go_simp) ?_
                        simp only [Act.put, List.setIfInBounds_toArray, List.set_cons_zero, List.set_cons_succ]
                        refine anyJ_only (i := 11) (d := some 14) (by kernel_rfl) rfl rfl rfl (fun K' hK => ?_)
                        refine wp_val (w' := w2) (v := .bool false) (by go_simp) (hK.out _ _ (fun h => absurd rfl h) (fun _ => ?_))
                        simp only [Act.put, List.setIfInBounds_toArray, List.set_cons_zero, List.set_cons_succ]
                        refine anyJ_done (by kernel_rfl) ?_ _
                        have x8 := cell_later hbj2 x8
                        go_wp2_with fail
                        refine (n8 _).mono ?_
                        rintro e w' ⟨rfl, rfl⟩
                        go_wp2_with fail
                        refine (n8 _).mono ?_
                        rintro e w' ⟨rfl, rfl⟩
                        go_wp2_with fail
                        go_roundw
                        case rel => exact ⟨j + 1, by omega, by omega, by go_num, hbr.trans ((hbj1.trans (hbj2.mono hzj1)).mono hbrz)⟩
                        case measure => simp [intOf]; omega
                      | some n1 =>
                        obtain rfl : e = _ := he
                        have hge := HGE.out c n1 ho.out
                        have hge2 : ¬ n1 < x := by omega
                        refine ⟨_, rfl, hK.out _ _ (fun _ => hbj1) (fun hHeld => ?_)⟩
                        have hHeld := hHeld (by decide)
                        simp only [Act.put, List.setIfInBounds_toArray, List.set_cons_zero, List.set_cons_succ]
                        refine take (i := 7) (d := some 94) (v := .tuple #[.int .i64 n1, .int .i64 0]) (by kernel_rfl) rfl rfl rfl (fun _ _ _ h => h) hHeld (fun W' hSw => by go_simp) ?_
                        simp only [Act.put, List.setIfInBounds_toArray, List.set_cons_zero, List.set_cons_succ]
                        refine take (i := 8) (d := some 102) (v := .int .i64 n1) (by kernel_rfl) rfl rfl rfl (fun _ _ _ h => h) hHeld (fun W' hSw => by go_simp) ?_
                        simp only [Act.put, List.setIfInBounds_toArray, List.set_cons_zero, List.set_cons_succ]
                        refine take (i := 9) (d := some 103) (v := .int .i64 0) (by kernel_rfl) rfl rfl rfl (fun _ _ _ h => h) hHeld (fun W' hSw => by go_simp) ?_
                        simp only [Act.put, List.setIfInBounds_toArray, List.set_cons_zero, List.set_cons_succ]
                        refine take (i := 10) (d := some 11) (v := .int .i64 n1) (by kernel_rfl) rfl rfl rfl (fun _ _ _ h => h) hHeld (fun W' hSw => by go_simp) ?_
                        simp only [Act.put, List.setIfInBounds_toArray, List.set_cons_zero, List.set_cons_succ]
                        refine anyJ_only (i := 11) (d := some 12) (by kernel_rfl) rfl rfl rfl (fun K' hK => ?_)
                        refine wp_val (w' := w1) (v := .int .i64 0) (by go_simp) (hK.out _ _ (fun h => absurd rfl h) (fun _ => ?_))
                        simp only [Act.put, List.setIfInBounds_toArray, List.set_cons_zero, List.set_cons_succ]
                        refine anyJ_done (by kernel_rfl) ?_ _
                        go_wp2_with fail
                        have hd1 : Below w1.heap.size w1 w1.drew := (Below.refl _ _).drew
                        refine anyJ_begin 11 (fun W' => Below w1.heap.size w1 W') (by kernel_rfl) ((Below.refl _ _).drew) (fun hHeld => ?_)
                        refine take (i := 0) (d := some 105) (v := .slice B m d) (by kernel_rfl) rfl rfl rfl (fun _ _ _ h => h) hHeld (fun W' hSw => by go_simp) ?_
                        simp only [Act.put, List.setIfInBounds_toArray, List.set_cons_zero, List.set_cons_succ]
                        refine take (i := 1) (d := some 106) (v := .agg #[.int .i64 op, .int .i64 nt, .slice B' tk d']) (by kernel_rfl) rfl rfl rfl (fun _ _ _ h => h) hHeld (fun W' hSw => by have x0 := cell_later hSw x0; have x1 := cell_later hSw x1; have x2 := cell_later hSw x2; go_simp) ?_
                        simp only [Act.put, List.setIfInBounds_toArray, List.set_cons_zero, List.set_cons_succ]
                        refine take (i := 2) (d := some 107) (v := .slice (some ⟨g3, off3, none⟩) ln c7) (by kernel_rfl) rfl rfl rfl (fun _ _ _ h => h) hHeld (fun W' hSw => by go_simp) ?_
                        simp only [Act.put, List.setIfInBounds_toArray, List.set_cons_zero, List.set_cons_succ]
                        refine take (i := 3) (d := some 108) (v := .int .i64 j) (by kernel_rfl) rfl rfl rfl (fun _ _ _ h => h) hHeld (fun W' hSw => by go_simp) ?_
                        simp only [Act.put, List.setIfInBounds_toArray, List.set_cons_zero, List.set_cons_succ]
                        refine take (i := 4) (d := some 109) (v := .pointer (some ⟨g3, off3 + j * 2, none⟩)) (by kernel_rfl) rfl rfl rfl (fun _ _ _ h => h) hHeld (fun W' hSw => by go_simp) ?_
                        simp only [Act.put, List.setIfInBounds_toArray, List.set_cons_zero, List.set_cons_succ]
                        refine take (i := 5) (d := some 110) (v := .agg #[.int .i64 c.rule, .slice B3 c.kids.length d3]) (by kernel_rfl) rfl rfl rfl (fun _ _ _ h => h) hHeld (fun W' hSw => by have x0 := cell_later hSw e0; have x1 := cell_later hSw e1; go_simp) ?_
                        simp only [Act.put, List.setIfInBounds_toArray, List.set_cons_zero, List.set_cons_succ]
                        refine anyJ_only (i := 6) (d := some 111) (by kernel_rfl) rfl rfl rfl (fun K' hK => ?_)
                        refine wp_go_call 41 _ _ rfl #[.slice B m d, .agg #[.int .i64 op, .int .i64 nt, .slice B' tk d'], .int .i64 0, .agg #[.int .i64 c.rule, .slice B3 c.kids.length d3]] rfl (fun W => by go_simp) (hf2 _ ((HRj.out.below hbj1).below hHeld) ((HPj.out.below hbj1).below hHeld) ((HV.out.below hbj1).below hHeld)) (fun e w2 he => ?_)
                        obtain ⟨hb2, y, rfl, hy⟩ := he
                        obtain rfl : y = n1 := hy n1 rfl
                        have hbj2 : Below w1.heap.size w1 w2 := hHeld.trans hb2
                        refine ⟨_, rfl, hK.out _ _ (fun _ => hbj2) (fun hHeld => ?_)⟩
                        have hHeld := hHeld (by decide)
                        simp only [Act.put, List.setIfInBounds_toArray, List.set_cons_zero, List.set_cons_succ]
                        refine take (i := 7) (d := some 104) (v := .tuple #[.int .i64 y, .bool true]) (by kernel_rfl) rfl rfl rfl (fun _ _ _ h => h) hHeld (fun W' hSw => by go_simp) ?_
                        simp only [Act.put, List.setIfInBounds_toArray, List.set_cons_zero, List.set_cons_succ]
                        refine take (i := 8) (d := some 112) (v := .int .i64 y) (by kernel_rfl) rfl rfl rfl (fun _ _ _ h => h) hHeld (fun W' hSw => by go_simp) ?_
                        simp only [Act.put, List.setIfInBounds_toArray, List.set_cons_zero, List.set_cons_succ]
                        refine take (i := 9) (d := some 113) (v := .bool true) (by kernel_rfl) rfl rfl rfl (fun _ _ _ h => h) hHeld (fun W' hSw => by go_simp) ?_
                        simp only [Act.put, List.setIfInBounds_toArray, List.set_cons_zero, List.set_cons_succ]
                        refine take (i := 10) (d := some 13) (v := .int .i64 y) (by kernel_rfl) rfl rfl rfl (fun _ _ _ h => h) hHeld (fun W' hSw => by go_simp) ?_
                        simp only [Act.put, List.setIfInBounds_toArray, List.set_cons_zero, List.set_cons_succ]
                        refine anyJ_only (i := 11) (d := some 14) (by kernel_rfl) rfl rfl rfl (fun K' hK => ?_)
                        refine wp_val (w' := w2) (v := .bool true) (by go_simp) (hK.out _ _ (fun h => absurd rfl h) (fun _ => ?_))
                        simp only [Act.put, List.setIfInBounds_toArray, List.set_cons_zero, List.set_cons_succ]
                        refine anyJ_done (by kernel_rfl) ?_ _
                        have x8 := cell_later hbj2 x8
                        go_wp2_with fail
                        refine (n0 _).mono ?_
                        rintro e w' ⟨rfl, rfl⟩
                        go_wp2_with fail
                        go_roundw
                        case rel => exact ⟨j + 1, by omega, by omega, by go_num, hbr.trans ((hbj1.trans (hbj2.mono hzj1)).mono hbrz)⟩
                        case measure => simp [intOf]; omega
                    · by_cases hjn : j < ln
                      · have h6 : ¬ j < 8 := fun h => hltj ⟨hjn, h⟩
                        clear hltj
                        go_wp2_with fail
                        go_roundw
                        case rel => exact ⟨q + 1, by omega, by omega, by go_num, hbWB.trans (hbr.mono hbWB.size), hbkB.below hbr hbkB.lt⟩
                        case measure => simp [intOf]; omega
                      · clear hltj
                        go_wp2_with fail
                        go_roundw
                        case rel => exact ⟨q + 1, by omega, by omega, by go_num, hbWB.trans (hbr.mono hbWB.size), hbkB.below hbr hbkB.lt⟩
                        case measure => simp [intOf]; omega
          · by_cases hkn : q < tn
            · have h6 : ¬ q < 4 := fun h => hlt2 ⟨hkn, h⟩
              clear hlt2
              go_wp2_with fail
              go_roundw
              case rel => exact ⟨k + 1, by omega, by omega, by go_num, hb2, hbk2⟩
              case measure => simp [intOf]; omega
            · clear hlt2
              go_wp2_with fail
              go_roundw
              case rel => exact ⟨k + 1, by omega, by omega, by go_num, hb2, hbk2⟩
              case measure => simp [intOf]; omega
      · by_cases hkn : k < n
        · have h6 : ¬ k < 4 := fun h => hlt ⟨hkn, h⟩
          clear hlt
          go_wp2_with fail
          refine (hfin.out _ hb).mono ?_
          rintro e w3 ⟨rfl, hb3⟩
          go_wp2_with fail
          go_ret
          exact ⟨ret_bool rfl, hb.trans (hb3.mono hb.size)⟩
        · clear hlt
          go_wp2_with fail
          refine (hfin.out _ hb).mono ?_
          rintro e w3 ⟨rfl, hb3⟩
          go_wp2_with fail
          go_ret
          exact ⟨ret_bool rfl, hb.trans (hb3.mono hb.size)⟩

end

end Go.Proofs.YtaippkdlibampaaDoor

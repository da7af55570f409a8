/- CoverLeast walked: all but the questions as they come in. The questions of gantletlaw13 as they come in. -/
import Derived.Test.YtaippkdlibampaaDoorKC
import Derived.Test.YtaippkdlibampaaDoorK6
import Derived.Laws.StructEq
import Derived.Test.YtaippkdlibampaaDoorK4
namespace Go.Proofs.YtaippkdlibampaaDoor

/- CoverLeast walked: all but the questions as they come in. -/
section
open Go.RowKit

theorem costs_eq (B : Best) (w : World) : (Op.equalIn 10000 70 (.agg (costCells B)) (.agg (costCells B))).run Tryd.prog w = .ok true w := by
  have u3 := Tryd.underlying3
  have z3 := Tryd.sizeOf3
  have a3 := Tryd.isAgg3
  unfold costCells
  rw [show (10000 : Nat) = 9999 + 1 from rfl, Op.equalIn]
  simp only [Sem.run_bind, run_underlying Tryd.underlying70, Result.andThen_ok]
  simp only [Std.Legacy.Range.forIn_eq_forIn_range', Std.Legacy.Range.size, Nat.sub_zero, Nat.add_sub_cancel, Nat.div_one, List.range'_succ, List.range'_zero, List.forIn_cons, List.forIn_nil]
  go_simp

theorem keepM_row (w : World) (g : Nat) (cs : Array Value) : KeepM g w (w.setRow g cs) := ⟨rfl, rfl, rfl, by simp, fun k hk _ => setRow_other w g k cs hk⟩
theorem off_of_own {w : World} {B gm : Nat} {A : Option Addr} {n c : Nat} {T : TypeId} {rs : List Rule} (h : Own w B (fun g => B ≤ g) T 6 (.slice A n c) (rs.map encR)) (hg : gm < B) : RulesOff gm w A c rs := by
  have hr := h.rep
  obtain ⟨A', c', he, _⟩ := hr.len
  injection he with e1 e2 e3
  rw [List.length_map] at e2
  subst e1 e2 e3
  exact ⟨_, fun g hk => by rcases hk with hk | hk <;> omega, hr⟩

theorem and_left_true {a b : Bool} (h : true = (a && b)) : a = true := by
  cases a
  · cases (show true = false from h)
  · rfl

structure Ask13 (W : World) (L : List (List Rule)) (S : List (List UInt8)) (T : List Pat) (S2 : List (List UInt8)) (C : List Cov) (A1 A2 A3 A4 A5 : Option Addr) (c1 c2 c3 c4 c5 : Nat) : Prop where
  wf : AskWf L S
  wf2 : TAskWf T S2
  wf3 : C.length ≤ reachBytes
  h1 : Rep W (fun _ => True) (.lst 1 (L.map encRs)) [.slice A1 L.length c1]
  h2 : Rep W (fun _ => True) (.lst 1 (S.map .str)) [.slice A2 S.length c2]
  h3 : Rep W (fun _ => True) (.lst 3 (T.map encP)) [.slice A3 T.length c3]
  h4 : Rep W (fun _ => True) (.lst 1 (S2.map .str)) [.slice A4 S2.length c4]
  h5 : Rep W (fun _ => True) (.lst 2 (C.map encC)) [.slice A5 C.length c5]

theorem num13_any (n : Int) (W : World) : Calls Tryd.prog 26 #[.int .i64 n] W fun e w' => e = .returned (.int .i64 n) ∧ W = w' := by
  go_enter Tryd.func26, Tryd.ntmps26
  go_wp2_with fail
  go_ret
  exact ⟨rfl, rfl⟩

set_option maxRecDepth 100000 in
set_option maxHeartbeats 40000000 in
theorem coverLeast_any (L : List (List Rule)) (S : List (List UInt8)) (T : List Pat) (S2 : List (List UInt8)) (C : List Cov) (A1 A2 A3 A4 A5 : Option Addr) (c1 c2 c3 c4 c5 : Nat) (W : World) (hask : Ask13 W L S T S2 C A1 A2 A3 A4 A5 c1 c2 c3 c4 c5) (htab : Tab W) :
    Calls Tryd.prog 6 #[.agg #[.slice A1 L.length c1, .slice A2 S.length c2, .slice A3 T.length c3, .slice A4 S2.length c4, .slice A5 C.length c5]] W (SomeBoolBelow true W) := by
  have hHv := fun w h1 h2 h3 h4 h5 => heavy13_any L S T S2 C A1 A2 A3 A4 A5 c1 c2 c3 c4 c5 w hask.wf hask.wf2 hask.wf3 h1 h2 h3 h4 h5
  obtain ⟨n, hn⟩ : ∃ n, Hid (L.length = n) := ⟨_, Lib.hid rfl⟩
  obtain ⟨sn, hsn⟩ : ∃ n, Hid (S.length = n) := ⟨_, Lib.hid rfl⟩
  obtain ⟨tn, htn⟩ : ∃ n, Hid (T.length = n) := ⟨_, Lib.hid rfl⟩
  obtain ⟨un, hun⟩ : ∃ n, Hid (S2.length = n) := ⟨_, Lib.hid rfl⟩
  obtain ⟨cn, hcn⟩ : ∃ n, Hid (C.length = n) := ⟨_, Lib.hid rfl⟩
  have HASK := Lib.hid hask
  have H1 := Lib.hid hask.h1
  have H2 := Lib.hid hask.h2
  have H3 := Lib.hid hask.h3
  have H4 := Lib.hid hask.h4
  have H5 := Lib.hid hask.h5
  rw [hn.out, hsn.out, htn.out, hun.out, hcn.out] at hHv ⊢
  rw [hn.out] at H1
  rw [hsn.out] at H2
  rw [htn.out] at H3
  rw [hun.out] at H4
  rw [hcn.out] at H5
  clear hask
  go_enter Tryd.func6, Tryd.ntmps6
  go_wp2_with fail
  refine (hHv _ (Rep.alloc H1.out _) (Rep.alloc H2.out _) (Rep.alloc H3.out _) (Rep.alloc H4.out _) (Rep.alloc H5.out _)).mono ?_
  rintro e w1 ⟨b, rfl, hsm, hb1⟩
  obtain ⟨Q, hQ⟩ : ∃ x : Array Value, Hid (#[.slice A1 n c1, .slice A2 sn c2, .slice A3 tn c3, .slice A4 un c4, .slice A5 cn c5] = x) := ⟨_, Lib.hid rfl⟩
  have hQ0 : Q[0]? = some (.slice A1 n c1) := by rw [← hQ.out]; rfl
  have hQ2 : Q[2]? = some (.slice A3 tn c3) := by rw [← hQ.out]; rfl
  have hb01 : Below W.heap.size W w1 := (below_alloc _ _).trans (hb1.mono (by simp))
  have hbox : BlkIs w1 W.heap.size 55 Q := by rw [← hQ.out]; exact (BlkIs.fresh _ _ _).below hb1 (by simp)
  have HSM := Lib.hid hsm
  clear hHv hsm hb1
  rcases (by cases b <;> simp : b = true ∨ b = false) with rfl | rfl
  · go_wp2_with fail
    go_ret
    exact ⟨rfl, hb01⟩
  · have HSM2 := Lib.hid (HSM.out rfl)
    clear HSM
    have hfin : Hid (∀ W', Below W.heap.size W W' → Calls Tryd.prog 28 #[] W' (SomeBoolBelow true W')) := Lib.hid (fun W' h => wakes13_any W' (tab_alloc htab _ h))
    go_wp2_with fail
    go_loopw [3] (fun i wr => ∃ k : Nat, k ≤ n ∧ k ≤ 4 ∧ i = .int .i64 k ∧ Below W.heap.size W wr ∧ BlkIs wr W.heap.size 55 Q) (fun i _ => 4 - (intOf i).toNat)
    case atStart => exact ⟨0, by omega, by omega, rfl, hb01, hbox⟩
    case round =>
      obtain ⟨k, hk, hk4, rfl, hb, hbk⟩ := hrel
      obtain ⟨wo, rfl⟩ : ∃ wo : World, wo = wr := ⟨_, rfl⟩
      clear hb01 hbox
      have q0 : wo.cell? ⟨W.heap.size, 0, none⟩ = some (.slice A1 n c1) := (hbk.cell 0).trans hQ0
      by_cases hlt : k < n ∧ k < 4
      · obtain ⟨hlt, hlt4⟩ := hlt
        have hk4d : decide ((k : Int) < 4) = true := by simp; omega
        go_wp2_with fail
        go_loopw [4] (fun i wr => ∃ q : Nat, q ≤ tn ∧ q ≤ 4 ∧ i = .int .i64 q ∧ Below W.heap.size W wr ∧ BlkIs wr W.heap.size 55 Q) (fun i _ => 4 - (intOf i).toNat)
        case atStart => exact ⟨0, by omega, by omega, rfl, hb, hbk⟩
        case round =>
          obtain ⟨q, hq, hq4, rfl, hb2, hbk2⟩ := hrel
          obtain ⟨wp, rfl⟩ : ∃ wp : World, wp = wr := ⟨_, rfl⟩
          clear hb hbk q0
          have q2 : wp.cell? ⟨W.heap.size, 2, none⟩ = some (.slice A3 tn c3) := (hbk2.cell 2).trans hQ2
          by_cases hlt2 : q < tn ∧ q < 4
          · obtain ⟨hlt2, hltq4⟩ := hlt2
            have hq4d : decide ((q : Int) < 4) = true := by simp; omega
            have hkl : k < L.length := by rw [hn.out]; exact hlt
            have hql : q < T.length := by rw [htn.out]; exact hlt2
            obtain ⟨g, off, B, d, rfl, hg, a0, hri⟩ := lists_at (H1.out.below hb2) k hkl
            obtain ⟨g', off', B', d', rfl, _, hg', ⟨b0, b1, b2⟩, hpi⟩ := pats_at (H3.out.below hb2) q hql
            have hsr := HSM2.out.1 L[k] (List.getElem_mem hkl)
            have hst := HSM2.out.2.1 T[q] (List.getElem_mem hql)
            have hwr := HASK.out.wf.2.2.1 L[k] (List.getElem_mem hkl)
            obtain ⟨rs, hrs⟩ : ∃ x, Hid (L[k] = x) := ⟨_, Lib.hid rfl⟩
            obtain ⟨t, ht⟩ : ∃ x, Hid (T[q] = x) := ⟨_, Lib.hid rfl⟩
            rw [hrs.out] at a0 hri hsr hwr
            rw [ht.out] at b0 b1 b2 hpi hst
            obtain ⟨m, hm⟩ : ∃ x, Hid (rs.length = x) := ⟨_, Lib.hid rfl⟩
            obtain ⟨tk, htk⟩ : ∃ x, Hid (t.kids.length = x) := ⟨_, Lib.hid rfl⟩
            obtain ⟨op, hop⟩ : ∃ x, Hid (t.op = x) := ⟨_, Lib.hid rfl⟩
            obtain ⟨nt, hnt⟩ : ∃ x, Hid (t.nt = x) := ⟨_, Lib.hid rfl⟩
            have f1 := fun W' h => copyRules_any rs hsr B d W' h
            have f2 := fun W' h => copyTree_any t hst B' d' W' h
            rw [hm.out] at f1 a0
            rw [htk.out, hop.out, hnt.out] at f2
            rw [hop.out] at b0
            rw [hnt.out] at b1
            rw [htk.out] at b2
            have q0 : wp.cell? ⟨W.heap.size, 0, none⟩ = some (.slice (some ⟨g, off, none⟩) n c1) := (hbk2.cell 0).trans hQ0
            have HRI := Lib.hid hri
            have HPI : Hid (PatIn wp B' d' t) := Lib.hid ⟨_, hpi⟩
            clear hri hpi hsr hst
            go_upto_region 9 with fail
            go_cut [5, 6] (fun s5 s6 wc => ∃ (A6 A7 : Option Addr) (c6 c7 g6 : Nat), s5 = .slice A6 m c6 ∧ s6 = .pointer (some ⟨g6, 0, none⟩) ∧ Below wp.heap.size wp wc ∧ wp.heap.size ≤ g6 ∧ BlkIs wc g6 64 #[.int .i64 op, .int .i64 nt, .slice A7 tk c7] ∧ Hid (RulesIn wc A6 c6 rs) ∧ Hid (PatIn wc A7 c7 t))
            case first =>
             as_aux_lemma =>
              refine anyJ_begin 16 (fun W' => Below wp.heap.size wp W') (by kernel_rfl) ((Below.refl _ _).drew) (fun hHeld => ?_)
              refine take (i := 0) (d := some 45) (v := .pointer (some ⟨W.heap.size, 0, none⟩)) (by kernel_rfl) rfl rfl rfl (fun _ _ _ h => h) hHeld (fun W' hSw => by go_simp) ?_
              simp only [Act.put, List.setIfInBounds_toArray, List.set_cons_zero, List.set_cons_succ]
              refine take (i := 1) (d := some 46) (v := .pointer (some ⟨W.heap.size, 0, none⟩)) (by kernel_rfl) rfl rfl rfl (fun _ _ _ h => h) hHeld (fun W' hSw => by go_simp) ?_
              simp only [Act.put, List.setIfInBounds_toArray, List.set_cons_zero, List.set_cons_succ]
              refine take (i := 2) (d := some 47) (v := .slice (some ⟨g, off, none⟩) n c1) (by kernel_rfl) rfl rfl rfl (fun _ _ _ h => h) hHeld (fun W' hSw => by have x := cell_later hSw q0; go_simp) ?_
              simp only [Act.put, List.setIfInBounds_toArray, List.set_cons_zero, List.set_cons_succ]
              refine take (i := 3) (d := some 48) (v := .int .i64 k) (by kernel_rfl) rfl rfl rfl (fun _ _ _ h => h) hHeld (fun W' hSw => by go_simp) ?_
              simp only [Act.put, List.setIfInBounds_toArray, List.set_cons_zero, List.set_cons_succ]
              refine take (i := 4) (d := some 49) (v := .pointer (some ⟨g, off + k, none⟩)) (by kernel_rfl) rfl rfl rfl (fun _ _ _ h => h) hHeld (fun W' hSw => by go_simp) ?_
              simp only [Act.put, List.setIfInBounds_toArray, List.set_cons_zero, List.set_cons_succ]
              refine take (i := 5) (d := some 50) (v := .slice B m d) (by kernel_rfl) rfl rfl rfl (fun _ _ _ h => h) hHeld (fun W' hSw => by have x := cell_later hSw a0; go_simp) ?_
              simp only [Act.put, List.setIfInBounds_toArray, List.set_cons_zero, List.set_cons_succ]
              refine take (i := 7) (d := some 52) (v := .pointer (some ⟨W.heap.size, 2, none⟩)) (by kernel_rfl) rfl rfl rfl (fun _ _ _ h => h) hHeld (fun W' hSw => by go_simp) ?_
              simp only [Act.put, List.setIfInBounds_toArray, List.set_cons_zero, List.set_cons_succ]
              refine take (i := 8) (d := some 53) (v := .pointer (some ⟨W.heap.size, 2, none⟩)) (by kernel_rfl) rfl rfl rfl (fun _ _ _ h => h) hHeld (fun W' hSw => by go_simp) ?_
              simp only [Act.put, List.setIfInBounds_toArray, List.set_cons_zero, List.set_cons_succ]
              refine take (i := 9) (d := some 54) (v := .slice (some ⟨g', off', none⟩) tn c3) (by kernel_rfl) rfl rfl rfl (fun _ _ _ h => h) hHeld (fun W' hSw => by have x := cell_later hSw q2; go_simp) ?_
              simp only [Act.put, List.setIfInBounds_toArray, List.set_cons_zero, List.set_cons_succ]
              refine take (i := 10) (d := some 55) (v := .int .i64 q) (by kernel_rfl) rfl rfl rfl (fun _ _ _ h => h) hHeld (fun W' hSw => by go_simp) ?_
              simp only [Act.put, List.setIfInBounds_toArray, List.set_cons_zero, List.set_cons_succ]
              refine take (i := 11) (d := some 56) (v := .pointer (some ⟨g', off' + q * 3, none⟩)) (by kernel_rfl) rfl rfl rfl (fun _ _ _ h => h) hHeld (fun W' hSw => by go_simp) ?_
              simp only [Act.put, List.setIfInBounds_toArray, List.set_cons_zero, List.set_cons_succ]
              refine take (i := 12) (d := some 57) (v := .agg #[.int .i64 op, .int .i64 nt, .slice B' tk d']) (by kernel_rfl) rfl rfl rfl (fun _ _ _ h => h) hHeld (fun W' hSw => by have x0 := cell_later hSw b0; have x1 := cell_later hSw b1; have x2 := cell_later hSw b2; go_simp) ?_
              simp only [Act.put, List.setIfInBounds_toArray, List.set_cons_zero, List.set_cons_succ]
              refine anyJ_two (i := 6) (j := 14) (d := some 51) (d2 := some 6) (by kernel_rfl) rfl rfl rfl rfl rfl rfl (fun K' hK => ?_) (fun K' hK => ?_)
              · refine wp_go_call 17 _ _ rfl #[.slice B m d] rfl (fun W' => by go_simp) (f1 _ (HRI.out.below hHeld)) (fun e w3 he => ?_)
                obtain ⟨v3, rfl, ho3, hb3⟩ := he
                obtain ⟨A6, c6, rfl, _⟩ := ho3.rep.len
                obtain ⟨_, hr⟩ := rulesIn_of_own ho3
                rw [List.length_map, hm.out]
                refine ⟨_, rfl, hK.out _ _ (fun _ => hHeld.trans (hb3.mono hHeld.size)) (fun hHeld => ?_)⟩
                have hHeld := hHeld (by decide)
                simp only [Act.put, List.setIfInBounds_toArray, List.set_cons_zero, List.set_cons_succ]
                refine anyJ_two (i := 13) (j := 14) (d := some 58) (d2 := some 6) (by kernel_rfl) rfl rfl rfl rfl rfl rfl (fun K' hK => ?_) (fun K' hK => ?_)
                · refine wp_go_call 30 _ _ rfl #[.agg #[.int .i64 op, .int .i64 nt, .slice B' tk d']] rfl (fun W' => by go_simp) (f2 _ (HPI.out.below hHeld)) (fun e w5 he => ?_)
                  obtain ⟨A7, c7, rfl, hp5, hb5⟩ := he
                  have hp : PatIn w5 A7 c7 t := ⟨_, hp5⟩
                  have hr := hr.below hb5
                  rw [hop.out, hnt.out, htk.out]
                  refine ⟨_, rfl, hK.out _ _ (fun _ => hHeld.trans (hb5.mono hHeld.size)) (fun hHeld => ?_)⟩
                  have hHeld := hHeld (by decide)
                  simp only [Act.put, List.setIfInBounds_toArray, List.set_cons_zero, List.set_cons_succ]
                  refine anyJ_only (i := 14) (d := some 6) (by kernel_rfl) rfl rfl rfl (fun K' hK => ?_)
                  obtain ⟨g6, hg6⟩ : ∃ g, Hid (w5.heap.size = g) := ⟨_, Lib.hid rfl⟩
                  have hg6w : wp.heap.size ≤ g6 := by rw [← hg6.out]; exact hHeld.size
                  have hba := below_alloc w5 (.cells #[.int .i64 0, .int .i64 0, .slice none 0 0] 64)
                  have hz : BlkIs (w5.alloc (.cells #[.int .i64 0, .int .i64 0, .slice none 0 0] 64)) g6 64 #[.int .i64 0, .int .i64 0, .slice none 0 0] := BlkIs.fresh_at hg6.out.symm
                  refine wp_val (w' := w5.alloc (.cells #[.int .i64 0, .int .i64 0, .slice none 0 0] 64)) (v := .pointer (some ⟨g6, 0, none⟩)) (by rw [← hg6.out]; go_simp) (hK.out _ _ (fun _ => hHeld.alloc hHeld.size _) (fun hHeld => ?_))
                  have hHeld := hHeld (by decide)
                  have hr := hr.off (gm := g6) hba (by rw [← hg6.out]; exact Nat.le_refl _)
                  have hp := hp.off (gm := g6) hba (by rw [← hg6.out]; exact Nat.le_refl _)
                  simp only [Act.put, List.setIfInBounds_toArray, List.set_cons_zero, List.set_cons_succ]
                  refine take (i := 15) (d := some 5) (v := .slice A6 m c6) (by kernel_rfl) rfl rfl rfl (fun _ _ _ h => h) hHeld (fun W' hSw => by go_simp) ?_
                  simp only [Act.put, List.setIfInBounds_toArray, List.set_cons_zero, List.set_cons_succ]
                  refine anyJ_only (i := 16) (d := none) (by kernel_rfl) rfl rfl rfl (fun K' hK => ?_)
                  refine wp_store_row 64 (.tmp 6) (.tmp 58) rfl g6 #[.int .i64 op, .int .i64 nt, .slice A7 tk c7] rfl rfl 64 _ hz (by kernel_rfl) rfl (by simp [Value.oneCell']) (hK.out _ _ (fun h => absurd rfl h) (fun _ => ?_))
                  refine anyJ_done (by kernel_rfl) ?_ _
                  simp only [Act.put]
                  go_wp2_with fail
                  go_meet
                  exact ⟨A6, A7, c6, c7, g6, rfl, rfl, below_setRow hHeld hg6w _, hg6w, setRow_heap _ _ _ _ _ _ hz, Lib.hid (hr.keepM (keepM_row _ _ _)).in_, Lib.hid (hp.keepM (keepM_row _ _ _)).in_⟩
                · obtain ⟨g6, hg6⟩ : ∃ g, Hid (w3.heap.size = g) := ⟨_, Lib.hid rfl⟩
                  have hg6w : wp.heap.size ≤ g6 := by rw [← hg6.out]; exact hHeld.size
                  have hba := below_alloc w3 (.cells #[.int .i64 0, .int .i64 0, .slice none 0 0] 64)
                  have hz : BlkIs (w3.alloc (.cells #[.int .i64 0, .int .i64 0, .slice none 0 0] 64)) g6 64 #[.int .i64 0, .int .i64 0, .slice none 0 0] := BlkIs.fresh_at hg6.out.symm
                  refine wp_val (w' := w3.alloc (.cells #[.int .i64 0, .int .i64 0, .slice none 0 0] 64)) (v := .pointer (some ⟨g6, 0, none⟩)) (by rw [← hg6.out]; go_simp) (hK.out _ _ (fun _ => hHeld.alloc hHeld.size _) (fun hHeld => ?_))
                  have hHeld := hHeld (by decide)
                  have hr := hr.off (gm := g6) hba (by rw [← hg6.out]; exact Nat.le_refl _)
                  simp only [Act.put, List.setIfInBounds_toArray, List.set_cons_zero, List.set_cons_succ]
                  refine anyJ_only (i := 13) (d := some 58) (by kernel_rfl) rfl rfl rfl (fun K' hK => ?_)
                  refine wp_go_call 30 _ _ rfl #[.agg #[.int .i64 op, .int .i64 nt, .slice B' tk d']] rfl (fun W' => by go_simp) (f2 _ (HPI.out.below hHeld)) (fun e w5 he => ?_)
                  obtain ⟨A7, c7, rfl, hp5, hb5⟩ := he
                  have hp : PatOff g6 w5 A7 c7 t := ⟨_, fun g hg => by have hg : _ ≤ g := hg; have := hz.lt; omega, hp5⟩
                  have hr := hr.keepM (KeepM.of hb5)
                  have hz := hz.below hb5 hz.lt
                  rw [hop.out, hnt.out, htk.out]
                  refine ⟨_, rfl, hK.out _ _ (fun _ => hHeld.trans (hb5.mono hHeld.size)) (fun hHeld => ?_)⟩
                  have hHeld := hHeld (by decide)
                  simp only [Act.put, List.setIfInBounds_toArray, List.set_cons_zero, List.set_cons_succ]
                  refine take (i := 15) (d := some 5) (v := .slice A6 m c6) (by kernel_rfl) rfl rfl rfl (fun _ _ _ h => h) hHeld (fun W' hSw => by go_simp) ?_
                  simp only [Act.put, List.setIfInBounds_toArray, List.set_cons_zero, List.set_cons_succ]
                  refine anyJ_only (i := 16) (d := none) (by kernel_rfl) rfl rfl rfl (fun K' hK => ?_)
                  refine wp_store_row 64 (.tmp 6) (.tmp 58) rfl g6 #[.int .i64 op, .int .i64 nt, .slice A7 tk c7] rfl rfl 64 _ hz (by kernel_rfl) rfl (by simp [Value.oneCell']) (hK.out _ _ (fun h => absurd rfl h) (fun _ => ?_))
                  refine anyJ_done (by kernel_rfl) ?_ _
                  simp only [Act.put]
                  go_wp2_with fail
                  go_meet
                  exact ⟨A6, A7, c6, c7, g6, rfl, rfl, below_setRow hHeld hg6w _, hg6w, setRow_heap _ _ _ _ _ _ hz, Lib.hid (hr.keepM (keepM_row _ _ _)).in_, Lib.hid (hp.keepM (keepM_row _ _ _)).in_⟩
              · obtain ⟨g6, hg6⟩ : ∃ g, Hid (wp.drew.heap.size = g) := ⟨_, Lib.hid rfl⟩
                have hg6w : wp.heap.size ≤ g6 := by rw [← hg6.out]; exact hHeld.size
                have hba := below_alloc wp.drew (.cells #[.int .i64 0, .int .i64 0, .slice none 0 0] 64)
                have hz : BlkIs (wp.drew.alloc (.cells #[.int .i64 0, .int .i64 0, .slice none 0 0] 64)) g6 64 #[.int .i64 0, .int .i64 0, .slice none 0 0] := BlkIs.fresh_at hg6.out.symm
                refine wp_val (w' := wp.drew.alloc (.cells #[.int .i64 0, .int .i64 0, .slice none 0 0] 64)) (v := .pointer (some ⟨g6, 0, none⟩)) (by rw [← hg6.out]; go_simp) (hK.out _ _ (fun _ => hHeld.alloc hHeld.size _) (fun hHeld => ?_))
                have hHeld := hHeld (by decide)
                simp only [Act.put, List.setIfInBounds_toArray, List.set_cons_zero, List.set_cons_succ]
                refine anyJ_only (i := 6) (d := some 51) (by kernel_rfl) rfl rfl rfl (fun K' hK => ?_)
                refine wp_go_call 17 _ _ rfl #[.slice B m d] rfl (fun W' => by go_simp) (f1 _ (HRI.out.below hHeld)) (fun e w3 he => ?_)
                obtain ⟨v3, rfl, ho3, hb3⟩ := he
                obtain ⟨A6, c6, rfl, _⟩ := ho3.rep.len
                have hr : RulesOff g6 w3 A6 c6 rs := off_of_own ho3 hz.lt
                have hz := hz.below hb3 hz.lt
                rw [List.length_map, hm.out]
                refine ⟨_, rfl, hK.out _ _ (fun _ => hHeld.trans (hb3.mono hHeld.size)) (fun hHeld => ?_)⟩
                have hHeld := hHeld (by decide)
                simp only [Act.put, List.setIfInBounds_toArray, List.set_cons_zero, List.set_cons_succ]
                refine anyJ_only (i := 13) (d := some 58) (by kernel_rfl) rfl rfl rfl (fun K' hK => ?_)
                refine wp_go_call 30 _ _ rfl #[.agg #[.int .i64 op, .int .i64 nt, .slice B' tk d']] rfl (fun W' => by go_simp) (f2 _ (HPI.out.below hHeld)) (fun e w5 he => ?_)
                obtain ⟨A7, c7, rfl, hp5, hb5⟩ := he
                have hp : PatOff g6 w5 A7 c7 t := ⟨_, fun g hg => by have hg : _ ≤ g := hg; have := hz.lt; omega, hp5⟩
                have hr := hr.keepM (KeepM.of hb5)
                have hz := hz.below hb5 hz.lt
                rw [hop.out, hnt.out, htk.out]
                refine ⟨_, rfl, hK.out _ _ (fun _ => hHeld.trans (hb5.mono hHeld.size)) (fun hHeld => ?_)⟩
                have hHeld := hHeld (by decide)
                simp only [Act.put, List.setIfInBounds_toArray, List.set_cons_zero, List.set_cons_succ]
                refine take (i := 15) (d := some 5) (v := .slice A6 m c6) (by kernel_rfl) rfl rfl rfl (fun _ _ _ h => h) hHeld (fun W' hSw => by go_simp) ?_
                simp only [Act.put, List.setIfInBounds_toArray, List.set_cons_zero, List.set_cons_succ]
                refine anyJ_only (i := 16) (d := none) (by kernel_rfl) rfl rfl rfl (fun K' hK => ?_)
                refine wp_store_row 64 (.tmp 6) (.tmp 58) rfl g6 #[.int .i64 op, .int .i64 nt, .slice A7 tk c7] rfl rfl 64 _ hz (by kernel_rfl) rfl (by simp [Value.oneCell']) (hK.out _ _ (fun h => absurd rfl h) (fun _ => ?_))
                refine anyJ_done (by kernel_rfl) ?_ _
                simp only [Act.put]
                go_wp2_with fail
                go_meet
                exact ⟨A6, A7, c6, c7, g6, rfl, rfl, below_setRow hHeld hg6w _, hg6w, setRow_heap _ _ _ _ _ _ hz, Lib.hid (hr.keepM (keepM_row _ _ _)).in_, Lib.hid (hp.keepM (keepM_row _ _ _)).in_⟩
            case rest =>
              obtain ⟨A6, A7, c6, c7, g6, rfl, rfl, hbc, hg6, hg6b, HRC, HPC⟩ := hcut
              obtain ⟨wA, rfl⟩ : ∃ wA : World, wA = wc := ⟨_, rfl⟩
              have fm := may13R_any rs hwr t A7 A6 c7 c6 wA HRC.out HPC.out
              have fl := fun W' h1 h2 h3 => labelP_any rs hwr t A7 A6 c7 c6 W' h1 h2 h3
              have hcm : ∀ x : Int, coverMay rs t x = ((mayT t && decide (checkE rs = 0)) && (decide (0 ≤ x) && decide (x ≤ 3))) := fun x => by unfold coverMay; cases mayT t <;> cases decide (checkE rs = 0) <;> rfl
              obtain ⟨okb, hokb⟩ : ∃ x, Hid ((mayT t && decide (checkE rs = 0)) = x) := ⟨_, Lib.hid rfl⟩
              rw [hokb.out] at fm
              have HCM : Hid (∀ x : Int, coverMay rs t x = (okb && (decide (0 ≤ x) && decide (x ≤ 3)))) := Lib.hid (fun x => by rw [hcm x, hokb.out])
              rw [hop.out, hnt.out, htk.out, hm.out] at fm fl
              have x0 : wA.cell? ⟨g6, 0, none⟩ = some (.int .i64 op) := hg6b.cell 0
              have x1 : wA.cell? ⟨g6, 1, none⟩ = some (.int .i64 nt) := hg6b.cell 1
              have x2 : wA.cell? ⟨g6, 2, none⟩ = some (.slice A7 tk c7) := hg6b.cell 2
              have hbWc : Below W.heap.size W wA := hb2.trans (hbc.mono hb2.size)
              clear hcm f1 f2 a0 b0 b1 b2 q0 q2
              go_wp2_with fail
              refine fm.mono ?_
              rintro e w3 ⟨rfl, hb3⟩
              have y0 := cell_later hb3 x0
              have y1 := cell_later hb3 x1
              have y2 := cell_later hb3 x2
              have hbW3 : Below W.heap.size W w3 := hbWc.trans (hb3.mono hbWc.size)
              have fl3 := fl w3 (tab_alloc htab _ hbW3) (HRC.out.below hb3) (HPC.out.below hb3)
              clear x0 x1 x2 fm fl
              go_wp2_with fail
              refine fl3.mono ?_
              rintro e w4 ⟨B8, E, rfl, hb4, hlab⟩
              obtain ⟨CC, hCC⟩ : ∃ x, Hid (costCells B8 = x) := ⟨_, Lib.hid rfl⟩
              have hCs : CC.size = 4 := by rw [← hCC.out]; rfl
              have hC1 : CC.all (·.oneCell') = true := by rw [← hCC.out]; simp [costCells, Value.oneCell']
              have hic : (Tryd.prog.info? 70).map (·.size) = some CC.size := by rw [hCs]; kernel_rfl
              have hc4 : Below wA.heap.size wA w4 := hb3.trans (hb4.mono hb3.size)
              have HLAB := Lib.hid hlab
              rw [hCC.out]
              clear hlab fl3 y0 y1 y2
              go_upto_if 68 with (refine wpList_store_row rfl 70 (.tmp 8) (.tmp 66) rfl w4.heap.size CC rfl rfl 70 _ (BlkIs.fresh _ _ _) hic (by rw [hCs]; rfl) hC1 ?_)
              obtain ⟨w5, hw5⟩ : ∃ w5, w5 = ((w4.alloc (.cells #[.int .i64 0, .int .i64 0, .int .i64 0, .int .i64 0] 70)).setRow w4.heap.size CC).alloc (.cells #[.int .i64 0, .int .i64 0, .int .i64 0, .int .i64 0, .int .i64 0, .int .i64 0, .int .i64 0, .int .i64 0] 74) := ⟨_, rfl⟩
              have hb5 : Below w4.heap.size w4 w5 := by rw [hw5]; exact (below_setRow (below_alloc _ _) (Nat.le_refl _) _).alloc (by simp) _
              have k8 : BlkIs w5 w4.heap.size 70 CC := by rw [hw5]; exact BlkIs.alloc (setRow_heap _ _ _ _ _ _ (BlkIs.fresh _ _ _)) _
              have k11 : BlkIs w5 (w4.heap.size + 1) 74 (bestCells zeroB) := by rw [hw5]; exact BlkIs.fresh2 (by simp)
              rw [← hw5]
              clear hw5
              have hc5 : Below wA.heap.size wA w5 := hc4.trans (hb5.mono hc4.size)
              have k6 : BlkIs w5 g6 64 #[.int .i64 op, .int .i64 nt, .slice A7 tk c7] := hg6b.below hc5 hg6b.lt
              have x0 : w5.cell? ⟨g6, 0, none⟩ = some (.int .i64 op) := k6.cell 0
              have x1 : w5.cell? ⟨g6, 1, none⟩ = some (.int .i64 nt) := k6.cell 1
              have x2 : w5.cell? ⟨g6, 2, none⟩ = some (.slice A7 tk c7) := k6.cell 2
              have hz4 := hc4.size
              have hz5 := hc5.size
              go_cut [10] (fun s10 wd => s10 = .int .i64 E ∧ Below wA.heap.size wA wd ∧ BlkIs wd w4.heap.size 70 CC ∧ BlkIs wd (w4.heap.size + 1) 74 (bestCells B8))
              case first =>
               as_aux_lemma =>
                have h0 := HCM.out 0
                cases okb
                · have hE : E = 1 ∧ B8 = zeroB := by
                    rcases HLAB.out with ⟨_, h1, h2⟩ | ⟨h1, _, _⟩
                    · exact ⟨h1, h2⟩
                    · rw [h0] at h1; cases h1
                  obtain ⟨rfl, rfl⟩ := hE
                  go_wp2_with fail
                  go_meet
                  exact ⟨rfl, hc5, k8, k11⟩
                · have hE : E = 0 ∧ B8 = labB rs t := by
                    rcases HLAB.out with ⟨h1, _, _⟩ | ⟨_, h1, h2⟩
                    · rw [h0] at h1; cases h1
                    · exact ⟨h1, h2⟩
                  obtain ⟨rfl, rfl⟩ := hE
                  obtain ⟨⟨hfit, _⟩, ⟨hto, hN⟩, _⟩ := coverMay_spec (rs := rs) (t := t) (nt := 0) (by rw [h0]; rfl)
                  have hall := allR_any rs hfit t hto hN A7 A6 c7 c6 w5 (HRC.out.below hc5) (HPC.out.below hc5)
                  rw [hop.out, hnt.out, htk.out, hm.out] at hall
                  obtain ⟨BT, hBT⟩ : ∃ x, Hid (bestCells (labB rs t) = x) := ⟨_, Lib.hid rfl⟩
                  have hBs : BT.size = 8 := by rw [← hBT.out]; rfl
                  have hB1 : BT.all (·.oneCell') = true := by rw [← hBT.out]; simp [bestCells, Value.oneCell']
                  have hib : (Tryd.prog.info? 74).map (·.size) = some BT.size := by rw [hBs]; exact least_info
                  rw [hBT.out] at hall
                  go_wp2_with fail
                  refine hall.mono ?_
                  rintro e w6 ⟨rfl, hb6⟩
                  have k8' := k8.below hb6 k8.lt
                  have k11' := k11.below hb6 k11.lt
                  go_wp2_with (refine wpList_store_row rfl 74 (.tmp 11) (.tmp 71) rfl (w4.heap.size + 1) BT rfl rfl 74 _ k11' hib (by rw [hBs]; rfl) hB1 ?_)
                  go_meet
                  exact ⟨rfl, below_setRow (hc5.trans (hb6.mono hz5)) (by omega) _, (setRow_other _ _ _ _ (by omega)).trans k8', by rw [hBT.out]; exact setRow_heap _ _ _ _ _ _ k11'⟩
              case rest =>
                obtain ⟨rfl, hcd, d8, d11⟩ := hcut
                obtain ⟨wd, rfl⟩ : ∃ wd : World, wd = wc := ⟨_, rfl⟩
                have hbWd : Below W.heap.size W wd := hbWc.trans (hcd.mono hbWc.size)
                clear hc5 k6 x0 x1 x2 k8 k11 hb5 hb4 hb3
                have hceq : ∀ W' : World, (Op.equalIn 10000 70 (.agg #[.int .i64 B8.c0, .int .i64 B8.c1, .int .i64 B8.c2, .int .i64 B8.c3]) (.agg #[.int .i64 B8.c0, .int .i64 B8.c1, .int .i64 B8.c2, .int .i64 B8.c3])).run Tryd.prog W' = .ok true W' := fun W' => costs_eq B8 W'
                rw [← hCC.out] at d8
                have e0 : wd.cell? ⟨w4.heap.size, 0, none⟩ = some (.int .i64 B8.c0) := d8.cell 0
                have e1 : wd.cell? ⟨w4.heap.size, 1, none⟩ = some (.int .i64 B8.c1) := d8.cell 1
                have e2 : wd.cell? ⟨w4.heap.size, 2, none⟩ = some (.int .i64 B8.c2) := d8.cell 2
                have e3 : wd.cell? ⟨w4.heap.size, 3, none⟩ = some (.int .i64 B8.c3) := d8.cell 3
                have f0 : wd.cell? ⟨w4.heap.size + 1, 0, none⟩ = some (.int .i64 B8.c0) := d11.cell 0
                have f1 : wd.cell? ⟨w4.heap.size + 1, 1, none⟩ = some (.int .i64 B8.c1) := d11.cell 1
                have f2 : wd.cell? ⟨w4.heap.size + 1, 2, none⟩ = some (.int .i64 B8.c2) := d11.cell 2
                have f3 : wd.cell? ⟨w4.heap.size + 1, 3, none⟩ = some (.int .i64 B8.c3) := d11.cell 3
                have hnum := fun W' => num13_any E W'
                clear hC1 hic hCs
                go_wp2_with fail
                refine (hnum _).mono ?_
                rintro e w' ⟨rfl, rfl⟩
                clear hnum
                go_wp2_with fail
                have k6 : BlkIs wd g6 64 #[.int .i64 op, .int .i64 nt, .slice A7 tk c7] := hg6b.below hcd hg6b.lt
                have HRD := Lib.hid (HRC.out.below hcd)
                have HPD := Lib.hid (HPC.out.below hcd)
                have HBOX := Lib.hid (hbk2.below (hbc.trans (hcd.mono hbc.size)) hbk2.lt)
                have hzd : wp.heap.size ≤ wd.heap.size := Nat.le_trans hbc.size hcd.size
                have hWp := hb2.size
                clear e0 e1 e2 e3 f0 f1 f2 f3 hceq d8 hcd hg6b hbk2 hz4 hz5 hc4 hbWc
                go_loopw [12] (fun i wr => ∃ z : Int, -1 ≤ z ∧ z ≤ 5 ∧ i = .int .i64 z ∧ Below wd.heap.size wd wr) (fun i _ => (6 - intOf i).toNat)
                case atStart => exact ⟨-1, by omega, by omega, rfl, Below.refl _ _⟩
                case round =>
                  obtain ⟨z, hz1, hz5, rfl, hbe⟩ := hrel
                  obtain ⟨we, rfl⟩ : ∃ we : World, we = wr := ⟨_, rfl⟩
                  have hbWe : Below W.heap.size W we := hbWd.trans (hbe.mono hbWd.size)
                  have k6e := k6.below hbe k6.lt
                  have d11e := d11.below hbe d11.lt
                  have x0 : we.cell? ⟨g6, 0, none⟩ = some (.int .i64 op) := k6e.cell 0
                  have x1 : we.cell? ⟨g6, 1, none⟩ = some (.int .i64 nt) := k6e.cell 1
                  have x2 : we.cell? ⟨g6, 2, none⟩ = some (.slice A7 tk c7) := k6e.cell 2
                  by_cases hz4 : z ≤ 4
                  · have hle := least_any rs hwr t z A7 A6 c7 c6 we (tab_alloc htab _ hbWe) (HRD.out.below hbe) (HPD.out.below hbe)
                    rw [hop.out, hnt.out, htk.out, hm.out] at hle
                    have hzd4 : decide (z ≤ 4) = true := by simpa using hz4
                    go_wp2_with fail
                    refine hle.mono ?_
                    rintro e w6 ⟨nL, E2, X, A8, e8, rfl, hrepX, hb6, his⟩
                    have hbe6 : Below wd.heap.size wd w6 := hbe.trans (hb6.mono hbe.size)
                    obtain ⟨XR, hXR⟩ : ∃ x, Hid (X.rule = x) := ⟨_, Lib.hid rfl⟩
                    obtain ⟨XK, hXK⟩ : ∃ x, Hid (X.kids.length = x) := ⟨_, Lib.hid rfl⟩
                    have HX : Hid (CovIn w6 A8 e8 X) := Lib.hid ⟨_, hrepX⟩
                    have HIS := Lib.hid his
                    rw [hXR.out, hXK.out]
                    clear hle x0 x1 x2 hrepX his
                    go_upto_region 23 with fail
                    obtain ⟨w9, hw9⟩ : ∃ w9, w9 = (w6.alloc (.cells #[.int .i64 XR, .slice A8 XK e8] 60)).alloc (.cells #[.int .i64 0, .slice none 0 0] 60) := ⟨_, rfl⟩
                    have hb9 : Below w6.heap.size w6 w9 := by rw [hw9]; exact below_box2 _ _ _
                    have k14 : BlkIs w9 w6.heap.size 60 #[.int .i64 XR, .slice A8 XK e8] := by rw [hw9]; exact (BlkIs.fresh _ _ _).alloc _
                    have k17 : BlkIs w9 (w6.heap.size + 1) 60 #[.int .i64 0, .slice none 0 0] := by rw [hw9]; exact BlkIs.fresh1 _ _ _ _
                    rw [← hw9]
                    clear hw9
                    obtain ⟨cm, hcm⟩ : ∃ x, Hid (coverMay rs t z = x) := ⟨_, Lib.hid rfl⟩
                    have hcz : Hid (cm = (okb && within z 0 3)) := Lib.hid (by rw [← hcm.out, HCM.out z]; rfl)
                    go_cut [99] (fun s99 wc => s99 = .bool cm ∧ wc = w9)
                    case first =>
                     as_aux_lemma =>
                      have hbt := between_any z 0 3 w9
                      cases okb
                      · obtain rfl : cm = false := by rw [hcz.out]; rfl
                        go_wp2_with fail
                        go_meet
                        exact ⟨rfl, rfl⟩
                      · obtain ⟨wz, hwz⟩ : ∃ x, Hid (within z 0 3 = x) := ⟨_, Lib.hid rfl⟩
                        obtain rfl : cm = wz := by rw [hcz.out, hwz.out]; rfl
                        rw [hwz.out] at hbt
                        go_wp2_with fail
                        refine hbt.mono ?_
                        rintro e w' ⟨rfl, rfl⟩
                        go_wp2_with fail
                        go_meet
                        exact ⟨rfl, rfl⟩
                    case rest =>
                      obtain ⟨rfl, rfl⟩ := hcut
                      have hbe9 : Below wd.heap.size wd wc := hbe6.trans (hb9.mono hbe6.size)
                      obtain ⟨w9, rfl⟩ : ∃ w9 : World, w9 = wc := ⟨_, rfl⟩
                      have d11f := d11.below hbe9 d11.lt
                      have k6f := k6.below hbe9 k6.lt
                      have hz6 : wd.heap.size ≤ w6.heap.size := hbe6.size
                      have hz9 : w6.heap.size + 1 < w9.heap.size := k17.lt
                      have HX9 : Hid (CovIn w9 A8 e8 X) := Lib.hid (HX.out.below hb9)
                      have hg6d := k6.lt
                      have h11d := d11.lt
                      have hcmz := hcm.out
                      go_upto_if 99 with fail
                      go_cut [16, 18] (fun s16 s18 wc => ∃ (A9 : Option Addr) (e9 : Nat), s16 = .int .i64 E2 ∧ s18 = .int .i64 nL ∧ Below (w6.heap.size + 1) w9 wc ∧ w9.heap.size ≤ wc.heap.size ∧ BlkIs wc (w6.heap.size + 1) 60 #[.int .i64 XR, .slice A9 XK e9] ∧ Hid (CovIn wc A9 e9 X))
                      case first =>
                       as_aux_lemma =>
                        cases cm
                        · have hX0 : nL = 0 ∧ E2 = 1 ∧ X = .mk 0 [] := by
                            rcases HIS.out with ⟨_, h1, h2, h3⟩ | ⟨h1, _⟩ | ⟨h1, _⟩
                            · exact ⟨h1, h2, h3⟩
                            · rw [hcmz] at h1; cases h1
                            · rw [hcmz] at h1; cases h1
                          obtain ⟨rfl, rfl, rfl⟩ := hX0
                          obtain rfl : XR = 0 := hXR.out.symm
                          obtain rfl : XK = 0 := hXK.out.symm
                          go_wp2_with fail
                          go_meet
                          exact ⟨none, 0, rfl, rfl, Below.refl _ _, Nat.le_refl _, k17, Lib.hid ⟨fun _ => True, rep_cov0⟩⟩
                        · have hok : okb = true := and_left_true hcz.out
                          subst hok
                          obtain ⟨⟨hfit, _⟩, ⟨hto, hN⟩, hz0, hz3⟩ := coverMay_spec hcmz
                          obtain ⟨mz, rfl⟩ : ∃ mz : Nat, z = mz := ⟨z.toNat, by omega⟩
                          have hm4 : mz < 4 := by omega
                          have hmi : ((mz : Nat) : Int) < 4 := by omega
                          have hB8 : Hid (B8 = labB rs t) := by
                            refine Lib.hid ?_
                            rcases HLAB.out with ⟨h1, _, _⟩ | ⟨_, _, h2⟩
                            · rw [HCM.out 0] at h1; cases h1
                            · exact h2
                          have hcell : w9.cell? ⟨w4.heap.size + 1, mz, none⟩ = some (.int .i64 ((labB rs t).cost mz)) := by rw [← hB8.out]; exact (d11f.cell mz).trans (bestCells_cost B8 mz hm4)
                          have hlow := labB_low hfit.1 t hto mz
                          have hcov := fun (h : 0 ≤ (labB rs t).cost mz) (hX : IsCov rs t mz X) W' h1 h2 => coverR_any rs hfit t hto hN mz hm4 X hX A7 A6 c7 c6 W' h1 h2
                          rw [hop.out, hnt.out, htk.out, hm.out] at hcov
                          have his := HIS.out
                          unfold LeastIs at his
                          rw [hcmz, show ((mz : Nat) : Int).toNat = mz from rfl] at his
                          obtain ⟨cz, hczv⟩ : ∃ x, Hid ((labB rs t).cost mz = x) := ⟨_, Lib.hid rfl⟩
                          rw [hczv.out] at hcell hlow hcov his
                          rcases his with ⟨h1, _⟩ | ⟨_, hcm1, h1, h2, h3⟩ | ⟨_, hc0, h1, h2, h3⟩
                          · cases h1
                          · subst hcm1 h1 h2 h3
                            obtain rfl : XR = 0 := hXR.out.symm
                            obtain rfl : XK = 0 := hXK.out.symm
                            clear hcov
                            go_wp2_with fail
                            go_meet
                            exact ⟨none, 0, rfl, rfl, Below.refl _ _, Nat.le_refl _, k17, Lib.hid ⟨fun _ => True, rep_cov0⟩⟩
                          · subst h1 h2
                            have hcov2 := hcov hc0 h3
                            have hdc : decide (nL ≥ 0) = true := by simpa using hc0
                            have x0 : w9.cell? ⟨g6, 0, none⟩ = some (.int .i64 op) := k6f.cell 0
                            have x1 : w9.cell? ⟨g6, 1, none⟩ = some (.int .i64 nt) := k6f.cell 1
                            have x2 : w9.cell? ⟨g6, 2, none⟩ = some (.slice A7 tk c7) := k6f.cell 2
                            have HR9 := Lib.hid (HRD.out.below hbe9)
                            have HP9 := Lib.hid (HPD.out.below hbe9)
                            clear hcov h3
                            go_upto_region 26 with fail
                            have hd0 : Below w9.heap.size w9 w9.drew := (Below.refl _ _).drew
                            refine anyJ_begin 10 (fun W' => Below (w6.heap.size + 1) w9 W') (by kernel_rfl) ((Below.refl _ _).drew) (fun hHeld => ?_)
                            refine take (i := 0) (d := some 105) (v := .slice A6 m c6) (by kernel_rfl) rfl rfl rfl (fun _ _ _ h => h) hHeld (fun W' hSw => by go_simp) ?_
                            simp only [Act.put, List.setIfInBounds_toArray, List.set_cons_zero, List.set_cons_succ]
                            refine take (i := 1) (d := some 106) (v := .agg #[.int .i64 op, .int .i64 nt, .slice A7 tk c7]) (by kernel_rfl) rfl rfl rfl (fun _ _ _ h => h) hHeld (fun W' hSw => by have y0 := (hSw.cell (p := ⟨g6, 0, none⟩) (by show g6 < _; omega)).trans x0; have y1 := (hSw.cell (p := ⟨g6, 1, none⟩) (by show g6 < _; omega)).trans x1; have y2 := (hSw.cell (p := ⟨g6, 2, none⟩) (by show g6 < _; omega)).trans x2; go_simp) ?_
                            simp only [Act.put, List.setIfInBounds_toArray, List.set_cons_zero, List.set_cons_succ]
                            refine take (i := 2) (d := some 107) (v := .int .i64 mz) (by kernel_rfl) rfl rfl rfl (fun _ _ _ h => h) hHeld (fun W' hSw => by go_simp) ?_
                            simp only [Act.put, List.setIfInBounds_toArray, List.set_cons_zero, List.set_cons_succ]
                            refine take (i := 4) (d := some 109) (v := .int .i64 mz) (by kernel_rfl) rfl rfl rfl (fun _ _ _ h => h) hHeld (fun W' hSw => by go_simp) ?_
                            simp only [Act.put, List.setIfInBounds_toArray, List.set_cons_zero, List.set_cons_succ]
                            refine take (i := 5) (d := some 110) (v := .pointer (some ⟨w4.heap.size + 1, 0, none⟩)) (by kernel_rfl) rfl rfl rfl (fun _ _ _ h => h) hHeld (fun W' hSw => by go_simp) ?_
                            simp only [Act.put, List.setIfInBounds_toArray, List.set_cons_zero, List.set_cons_succ]
                            refine take (i := 6) (d := some 111) (v := .pointer (some ⟨w4.heap.size + 1, mz, none⟩)) (by kernel_rfl) rfl rfl rfl (fun _ _ _ h => h) hHeld (fun W' hSw => by go_simp) ?_
                            simp only [Act.put, List.setIfInBounds_toArray, List.set_cons_zero, List.set_cons_succ]
                            refine take (i := 7) (d := some 112) (v := .int .i64 nL) (by kernel_rfl) rfl rfl rfl (fun _ _ _ h => h) hHeld (fun W' hSw => by have y := (hSw.cell (p := ⟨w4.heap.size + 1, mz, none⟩) (by show w4.heap.size + 1 < _; omega)).trans hcell; go_simp) ?_
                            simp only [Act.put, List.setIfInBounds_toArray, List.set_cons_zero, List.set_cons_succ]
                            refine anyJ_only (i := 3) (d := some 108) (by kernel_rfl) rfl rfl rfl (fun K' hK => ?_)
                            refine wp_go_call 35 _ _ rfl #[.slice A6 m c6, .agg #[.int .i64 op, .int .i64 nt, .slice A7 tk c7], .int .i64 mz] rfl (fun W' => by go_simp) (hcov2 _ (HR9.out.below hd0) (HP9.out.below hd0)) (fun e wg he => ?_)
                            obtain ⟨A9, e9, rfl, hrep9, hbg⟩ := he
                            rw [hXR.out, hXK.out]
                            have hzg : w9.heap.size ≤ wg.heap.size := hbg.size
                            have k17g := k17.below (hd0.trans (hbg.mono (Nat.le_refl _))) k17.lt
                            refine ⟨_, rfl, hK.out _ _ (fun _ => hHeld.trans (hbg.mono (by show _ ≤ w9.heap.size; omega))) (fun hHeld => ?_)⟩
                            have hHeld := hHeld (by decide)
                            simp only [Act.put, List.setIfInBounds_toArray, List.set_cons_zero, List.set_cons_succ]
                            refine take (i := 8) (d := some 16) (v := .int .i64 0) (by kernel_rfl) rfl rfl rfl (fun _ _ _ h => h) hHeld (fun W' hSw => by go_simp) ?_
                            simp only [Act.put, List.setIfInBounds_toArray, List.set_cons_zero, List.set_cons_succ]
                            refine anyJ_only (i := 9) (d := none) (by kernel_rfl) rfl rfl rfl (fun K' hK => ?_)
                            refine wp_store_row 60 (.tmp 17) (.tmp 108) rfl (w6.heap.size + 1) #[.int .i64 XR, .slice A9 XK e9] rfl rfl 60 _ k17g (by kernel_rfl) rfl (by simp [Value.oneCell']) (hK.out _ _ (fun _ => below_setRow hHeld (Nat.le_refl _) _) (fun hHeld => ?_))
                            have hHeld := hHeld (by decide)
                            simp only [Act.put]
                            refine anyJ_only (i := 10) (d := some 18) (by kernel_rfl) rfl rfl rfl (fun K' hK => ?_)
                            refine wp_val (v := .int .i64 nL) rfl (hK.out _ _ (fun h => absurd rfl h) (fun _ => ?_))
                            refine anyJ_done (by kernel_rfl) ?_ _
                            simp only [Act.put, List.setIfInBounds_toArray, List.set_cons_zero, List.set_cons_succ]
                            go_wp2_with fail
                            go_meet
                            exact ⟨A9, e9, rfl, rfl, hHeld, by simp [World.setRow]; omega, setRow_heap _ _ _ _ _ _ k17g, Lib.hid ⟨_, Rep.keep (ok' := fun g => w9.heap.size ≤ g) (fun g hg _ => hg) (fun g hg _ => setRow_other _ _ _ _ (by have hg : w9.heap.size ≤ g := hg; omega)) _ _ hrep9⟩⟩
                      case rest =>
                        obtain ⟨A9, e9, rfl, rfl, hbf, hzf, k17f, HXf⟩ := hcut
                        obtain ⟨wf, rfl⟩ : ∃ wf : World, wf = wc := ⟨_, rfl⟩
                        have hbdf : Below wd.heap.size wd wf := hbe9.trans (hbf.mono (by omega))
                        have hbWf : Below W.heap.size W wf := hbWd.trans (hbdf.mono hbWd.size)
                        have k14f := k14.below hbf (by omega)
                        have k6g := k6.below hbdf k6.lt
                        have hboxf := HBOX.out.below hbdf HBOX.out.lt
                        obtain ⟨gL, offL, B2, d2, heL, hgL, a0, hri2⟩ := lists_at (H1.out.below hbWf) k hkl
                        obtain ⟨gT, offT, B3, d3, heT, _, hgT, ⟨b0, b1, b2⟩, hpi2⟩ := pats_at (H3.out.below hbWf) q hql
                        injection heL with heL
                        injection heL with hg1 hg2 _
                        injection heT with heT
                        injection heT with hg3 hg4 _
                        subst hg1 hg2 hg3 hg4
                        rw [hrs.out] at a0 hri2
                        rw [hm.out] at a0
                        rw [ht.out, hop.out] at b0
                        rw [ht.out, hnt.out] at b1
                        rw [ht.out, htk.out] at b2
                        rw [ht.out] at hpi2
                        have r0 : wf.cell? ⟨W.heap.size, 0, none⟩ = some (.slice (some ⟨g, off, none⟩) n c1) := (hboxf.cell 0).trans hQ0
                        have r2 : wf.cell? ⟨W.heap.size, 2, none⟩ = some (.slice (some ⟨g', off', none⟩) tn c3) := (hboxf.cell 2).trans hQ2
                        have x0 : wf.cell? ⟨g6, 0, none⟩ = some (.int .i64 op) := k6g.cell 0
                        have x1 : wf.cell? ⟨g6, 1, none⟩ = some (.int .i64 nt) := k6g.cell 1
                        have x2 : wf.cell? ⟨g6, 2, none⟩ = some (.slice A7 tk c7) := k6g.cell 2
                        have hRf := HRD.out.below hbdf
                        have hPf := HPD.out.below hbdf
                        have HRI2 := Lib.hid hri2
                        have HPI2 : Hid (PatIn wf B3 d3 t) := Lib.hid ⟨_, hpi2⟩
                        have g1 := num13_any E2
                        have g2 := fun W' h1 h2 => eqCov_any X X A8 A9 e8 e9 W' h1 h2
                        have g3 := fun W' h1 h2 => eqRules_self rs A6 B2 c6 d2 W' h1 h2
                        have g4 := fun W' h1 h2 => eqTree_any t t A7 B3 c7 d3 W' h1 h2
                        rw [(same_iff X X).2 rfl, hXR.out, hXK.out] at g2
                        rw [hm.out] at g3
                        rw [(same_iff t t).2 rfl, hop.out, hnt.out, htk.out] at g4
                        have hX8 : CovIn wf A8 e8 X := by
                          obtain ⟨okX, hx⟩ := HX.out
                          refine ⟨fun g => okX g ∧ g < w6.heap.size, Rep.keep (fun _ h _ => h) (fun g hg _ => (hbf.block g (by omega)).trans (hb9.block g hg.2)) _ _ hx.lt⟩
                        clear hri2 hpi2 hboxf
                        go_upto_region 27 with fail
                        refine beginH (fun W' => Below wf.heap.size wf W') (by kernel_rfl) ((Below.refl _ _).drew) (fun hHeld => ?_)
                        refine takeH (i := 0) (d := some 113) (v := .int .i64 E2) (by kernel_rfl) rfl rfl rfl (fun _ _ _ h => h) hHeld (fun W' hSw => by go_simp) ?_
                        simp only [Act.put, List.setIfInBounds_toArray, List.set_cons_zero, List.set_cons_succ]
                        refine takeH (i := 2) (d := some 115) (v := .int .i64 E2) (by kernel_rfl) rfl rfl rfl (fun _ _ _ h => h) hHeld (fun W' hSw => by go_simp) ?_
                        simp only [Act.put, List.setIfInBounds_toArray, List.set_cons_zero, List.set_cons_succ]
                        refine onlyH (i := 1) (d := some 114) (by kernel_rfl) rfl rfl rfl (fun K' hK => ?_)
                        refine wp_go_call 26 _ _ rfl #[.int .i64 E2] rfl (fun W' => by go_simp) (g1 _) (fun e wg he => ?_)
                        obtain ⟨rfl, rfl⟩ := he
                        refine ⟨_, rfl, hK.out _ _ hHeld (fun _ => ?_)⟩
                        simp only [Act.put, List.setIfInBounds_toArray, List.set_cons_zero, List.set_cons_succ]
                        refine takeH (i := 3) (d := some 116) (v := .bool false) (by kernel_rfl) rfl rfl rfl (fun _ _ _ h => h) hHeld (fun W' hSw => by go_simp) ?_
                        simp only [Act.put, List.setIfInBounds_toArray, List.set_cons_zero, List.set_cons_succ]
                        refine takeH (i := 4) (d := some 117) (v := .bool false) (by kernel_rfl) rfl rfl rfl (fun _ _ _ h => h) hHeld (fun W' hSw => by go_simp) ?_
                        simp only [Act.put, List.setIfInBounds_toArray, List.set_cons_zero, List.set_cons_succ]
                        refine takeH (i := 5) (d := some 118) (v := .agg #[.int .i64 XR, .slice A8 XK e8]) (by kernel_rfl) rfl rfl rfl (fun _ _ _ h => h) hHeld (fun W' hSw => by exact exec_load_row rfl rfl (k14f.below hSw k14f.lt) Tryd.underlying60 rfl (by kernel_rfl)) ?_
                        simp only [Act.put, List.setIfInBounds_toArray, List.set_cons_zero, List.set_cons_succ]
                        refine takeH (i := 6) (d := some 119) (v := .agg #[.int .i64 XR, .slice A9 XK e9]) (by kernel_rfl) rfl rfl rfl (fun _ _ _ h => h) hHeld (fun W' hSw => by exact exec_load_row rfl rfl (k17f.below hSw k17f.lt) Tryd.underlying60 rfl (by kernel_rfl)) ?_
                        simp only [Act.put, List.setIfInBounds_toArray, List.set_cons_zero, List.set_cons_succ]
                        refine onlyH (i := 7) (d := some 120) (by kernel_rfl) rfl rfl rfl (fun K' hK => ?_)
                        refine wp_go_call 36 _ _ rfl #[.agg #[.int .i64 XR, .slice A8 XK e8], .agg #[.int .i64 XR, .slice A9 XK e9]] rfl (fun W' => by go_simp) (g2 _ (hX8.below hHeld) (HXf.out.below hHeld)) (fun e wg he => ?_)
                        obtain ⟨rfl, hbg⟩ := he
                        refine ⟨_, rfl, hK.out _ _ (hHeld.trans (hbg.mono hHeld.size)) (fun hHeld => ?_)⟩
                        simp only [Act.put, List.setIfInBounds_toArray, List.set_cons_zero, List.set_cons_succ]
                        refine takeH (i := 8) (d := some 121) (v := .bool false) (by kernel_rfl) rfl rfl rfl (fun _ _ _ h => h) hHeld (fun W' hSw => by go_simp) ?_
                        simp only [Act.put, List.setIfInBounds_toArray, List.set_cons_zero, List.set_cons_succ]
                        refine takeH (i := 9) (d := some 122) (v := .bool false) (by kernel_rfl) rfl rfl rfl (fun _ _ _ h => h) hHeld (fun W' hSw => by go_simp) ?_
                        simp only [Act.put, List.setIfInBounds_toArray, List.set_cons_zero, List.set_cons_succ]
                        refine takeH (i := 10) (d := some 123) (v := .bool false) (by kernel_rfl) rfl rfl rfl (fun _ _ _ h => h) hHeld (fun W' hSw => by go_simp) ?_
                        simp only [Act.put, List.setIfInBounds_toArray, List.set_cons_zero, List.set_cons_succ]
                        refine takeH (i := 11) (d := some 124) (v := .int .i64 nL) (by kernel_rfl) rfl rfl rfl (fun _ _ _ h => h) hHeld (fun W' hSw => by go_simp) ?_
                        simp only [Act.put, List.setIfInBounds_toArray, List.set_cons_zero, List.set_cons_succ]
                        refine takeH (i := 12) (d := some 125) (v := .int .i64 nL) (by kernel_rfl) rfl rfl rfl (fun _ _ _ h => h) hHeld (fun W' hSw => by go_simp) ?_
                        simp only [Act.put, List.setIfInBounds_toArray, List.set_cons_zero, List.set_cons_succ]
                        refine takeH (i := 13) (d := some 126) (v := .bool false) (by kernel_rfl) rfl rfl rfl (fun _ _ _ h => h) hHeld (fun W' hSw => by go_simp) ?_
                        simp only [Act.put, List.setIfInBounds_toArray, List.set_cons_zero, List.set_cons_succ]
                        refine takeH (i := 14) (d := some 127) (v := .bool false) (by kernel_rfl) rfl rfl rfl (fun _ _ _ h => h) hHeld (fun W' hSw => by go_simp) ?_
                        simp only [Act.put, List.setIfInBounds_toArray, List.set_cons_zero, List.set_cons_succ]
                        refine takeH (i := 15) (d := some 128) (v := .bool false) (by kernel_rfl) rfl rfl rfl (fun _ _ _ h => h) hHeld (fun W' hSw => by go_simp) ?_
                        simp only [Act.put, List.setIfInBounds_toArray, List.set_cons_zero, List.set_cons_succ]
                        refine takeH (i := 16) (d := some 129) (v := .slice A6 m c6) (by kernel_rfl) rfl rfl rfl (fun _ _ _ h => h) hHeld (fun W' hSw => by go_simp) ?_
                        simp only [Act.put, List.setIfInBounds_toArray, List.set_cons_zero, List.set_cons_succ]
                        refine takeH (i := 17) (d := some 130) (v := .pointer (some ⟨W.heap.size, 0, none⟩)) (by kernel_rfl) rfl rfl rfl (fun _ _ _ h => h) hHeld (fun W' hSw => by go_simp) ?_
                        simp only [Act.put, List.setIfInBounds_toArray, List.set_cons_zero, List.set_cons_succ]
                        refine takeH (i := 18) (d := some 131) (v := .pointer (some ⟨W.heap.size, 0, none⟩)) (by kernel_rfl) rfl rfl rfl (fun _ _ _ h => h) hHeld (fun W' hSw => by go_simp) ?_
                        simp only [Act.put, List.setIfInBounds_toArray, List.set_cons_zero, List.set_cons_succ]
                        refine takeH (i := 19) (d := some 132) (v := .slice (some ⟨g, off, none⟩) n c1) (by kernel_rfl) rfl rfl rfl (fun _ _ _ h => h) hHeld (fun W' hSw => by have x := cell_later hSw r0; go_simp) ?_
                        simp only [Act.put, List.setIfInBounds_toArray, List.set_cons_zero, List.set_cons_succ]
                        refine takeH (i := 20) (d := some 133) (v := .int .i64 k) (by kernel_rfl) rfl rfl rfl (fun _ _ _ h => h) hHeld (fun W' hSw => by go_simp) ?_
                        simp only [Act.put, List.setIfInBounds_toArray, List.set_cons_zero, List.set_cons_succ]
                        refine takeH (i := 21) (d := some 134) (v := .pointer (some ⟨g, off + k, none⟩)) (by kernel_rfl) rfl rfl rfl (fun _ _ _ h => h) hHeld (fun W' hSw => by go_simp) ?_
                        simp only [Act.put, List.setIfInBounds_toArray, List.set_cons_zero, List.set_cons_succ]
                        refine takeH (i := 22) (d := some 135) (v := .slice B2 m d2) (by kernel_rfl) rfl rfl rfl (fun _ _ _ h => h) hHeld (fun W' hSw => by have x := cell_later hSw a0; go_simp) ?_
                        simp only [Act.put, List.setIfInBounds_toArray, List.set_cons_zero, List.set_cons_succ]
                        refine onlyH (i := 23) (d := some 136) (by kernel_rfl) rfl rfl rfl (fun K' hK => ?_)
                        refine wp_go_call 22 _ _ rfl #[.slice A6 m c6, .slice B2 m d2] rfl (fun W' => by go_simp) (g3 _ (hRf.below hHeld) (HRI2.out.below hHeld)) (fun e wh he => ?_)
                        obtain ⟨rfl, hbh⟩ := he
                        refine ⟨_, rfl, hK.out _ _ (hHeld.trans (hbh.mono hHeld.size)) (fun hHeld => ?_)⟩
                        simp only [Act.put, List.setIfInBounds_toArray, List.set_cons_zero, List.set_cons_succ]
                        refine takeH (i := 24) (d := some 137) (v := .bool false) (by kernel_rfl) rfl rfl rfl (fun _ _ _ h => h) hHeld (fun W' hSw => by go_simp) ?_
                        simp only [Act.put, List.setIfInBounds_toArray, List.set_cons_zero, List.set_cons_succ]
                        refine takeH (i := 25) (d := some 138) (v := .bool false) (by kernel_rfl) rfl rfl rfl (fun _ _ _ h => h) hHeld (fun W' hSw => by go_simp) ?_
                        simp only [Act.put, List.setIfInBounds_toArray, List.set_cons_zero, List.set_cons_succ]
                        refine takeH (i := 26) (d := some 139) (v := .bool false) (by kernel_rfl) rfl rfl rfl (fun _ _ _ h => h) hHeld (fun W' hSw => by go_simp) ?_
                        simp only [Act.put, List.setIfInBounds_toArray, List.set_cons_zero, List.set_cons_succ]
                        refine takeH (i := 27) (d := some 140) (v := .agg #[.int .i64 op, .int .i64 nt, .slice A7 tk c7]) (by kernel_rfl) rfl rfl rfl (fun _ _ _ h => h) hHeld (fun W' hSw => by exact exec_load_row rfl rfl (k6g.below hSw k6g.lt) Tryd.underlying64 rfl (by kernel_rfl)) ?_
                        simp only [Act.put, List.setIfInBounds_toArray, List.set_cons_zero, List.set_cons_succ]
                        refine takeH (i := 28) (d := some 141) (v := .pointer (some ⟨W.heap.size, 2, none⟩)) (by kernel_rfl) rfl rfl rfl (fun _ _ _ h => h) hHeld (fun W' hSw => by go_simp) ?_
                        simp only [Act.put, List.setIfInBounds_toArray, List.set_cons_zero, List.set_cons_succ]
                        refine takeH (i := 29) (d := some 142) (v := .pointer (some ⟨W.heap.size, 2, none⟩)) (by kernel_rfl) rfl rfl rfl (fun _ _ _ h => h) hHeld (fun W' hSw => by go_simp) ?_
                        simp only [Act.put, List.setIfInBounds_toArray, List.set_cons_zero, List.set_cons_succ]
                        refine takeH (i := 30) (d := some 143) (v := .slice (some ⟨g', off', none⟩) tn c3) (by kernel_rfl) rfl rfl rfl (fun _ _ _ h => h) hHeld (fun W' hSw => by have x := cell_later hSw r2; go_simp) ?_
                        simp only [Act.put, List.setIfInBounds_toArray, List.set_cons_zero, List.set_cons_succ]
                        refine takeH (i := 31) (d := some 144) (v := .int .i64 q) (by kernel_rfl) rfl rfl rfl (fun _ _ _ h => h) hHeld (fun W' hSw => by go_simp) ?_
                        simp only [Act.put, List.setIfInBounds_toArray, List.set_cons_zero, List.set_cons_succ]
                        refine takeH (i := 32) (d := some 145) (v := .pointer (some ⟨g', off' + q * 3, none⟩)) (by kernel_rfl) rfl rfl rfl (fun _ _ _ h => h) hHeld (fun W' hSw => by go_simp) ?_
                        simp only [Act.put, List.setIfInBounds_toArray, List.set_cons_zero, List.set_cons_succ]
                        refine takeH (i := 33) (d := some 146) (v := .agg #[.int .i64 op, .int .i64 nt, .slice B3 tk d3]) (by kernel_rfl) rfl rfl rfl (fun _ _ _ h => h) hHeld (fun W' hSw => by have z0 := cell_later hSw b0; have z1 := cell_later hSw b1; have z2 := cell_later hSw b2; go_simp) ?_
                        simp only [Act.put, List.setIfInBounds_toArray, List.set_cons_zero, List.set_cons_succ]
                        refine onlyH (i := 34) (d := some 147) (by kernel_rfl) rfl rfl rfl (fun K' hK => ?_)
                        refine wp_go_call 37 _ _ rfl #[.agg #[.int .i64 op, .int .i64 nt, .slice A7 tk c7], .agg #[.int .i64 op, .int .i64 nt, .slice B3 tk d3]] rfl (fun W' => by go_simp) (g4 _ (hPf.below hHeld) (HPI2.out.below hHeld)) (fun e wi he => ?_)
                        obtain ⟨rfl, hbi⟩ := he
                        refine ⟨_, rfl, hK.out _ _ (hHeld.trans (hbi.mono hHeld.size)) (fun hHeld => ?_)⟩
                        simp only [Act.put, List.setIfInBounds_toArray, List.set_cons_zero, List.set_cons_succ]
                        refine takeH (i := 35) (d := some 148) (v := .bool false) (by kernel_rfl) rfl rfl rfl (fun _ _ _ h => h) hHeld (fun W' hSw => by go_simp) ?_
                        simp only [Act.put, List.setIfInBounds_toArray, List.set_cons_zero, List.set_cons_succ]
                        refine onlyH (i := 36) (d := some 149) (by kernel_rfl) rfl rfl rfl (fun K' hK => ?_)
                        refine wp_val (w' := wi) (v := .bool false) (by go_simp) (hK.out _ _ hHeld (fun _ => ?_))
                        refine wpAnyH_done (by kernel_rfl) ?_ _
                        simp only [Act.put, List.setIfInBounds_toArray, List.set_cons_zero, List.set_cons_succ]
                        go_wp2_with fail
                        go_roundw
                        case rel => exact ⟨z + 1, by omega, by omega, by go_num, hbdf.trans (hHeld.mono hbdf.size)⟩
                        case measure => simp [intOf]; omega
                  · go_wp2_with fail
                    go_roundw
                    case rel => exact ⟨q + 1, by omega, by omega, by go_num, hbWe, HBOX.out.below hbe HBOX.out.lt⟩
                    case measure => simp [intOf]; omega
          · by_cases hkn : q < tn
            · have h6 : ¬ q < 4 := fun h => hlt2 ⟨hkn, h⟩
              clear hlt2
              go_wp2_with fail
              go_roundw
              case rel => exact ⟨k + 1, by omega, by omega, by go_num, hb2, hbk2⟩
              case measure => simp [intOf]; omega
            · clear hlt2
              go_wp2_with fail
              go_roundw
              case rel => exact ⟨k + 1, by omega, by omega, by go_num, hb2, hbk2⟩
              case measure => simp [intOf]; omega
      · by_cases hkn : k < n
        · have h6 : ¬ k < 4 := fun h => hlt ⟨hkn, h⟩
          clear hlt
          go_wp2_with fail
          refine (hfin.out _ hb).mono ?_
          rintro e w3 ⟨rfl, hb3⟩
          go_wp2_with fail
          go_ret
          exact ⟨ret_bool rfl, hb.trans (hb3.mono hb.size)⟩
        · clear hlt
          go_wp2_with fail
          refine (hfin.out _ hb).mono ?_
          rintro e w3 ⟨rfl, hb3⟩
          go_wp2_with fail
          go_ret
          exact ⟨ret_bool rfl, hb.trans (hb3.mono hb.size)⟩

end

/- The questions of gantletlaw13 as they come in. -/
section
open Go.ChangeShapes Go.WideShapes Go.ChangeAt Go.RowKit

theorem cellsCover : Tryd.prog.cellsOf 60 = 2 := by kernel_rfl
theorem bytesCover : Tryd.prog.bytesOf 60 = 32 := by kernel_rfl

mutual
def CovWf : Cov → Prop
  | .mk r ks => I64 r ∧ CovsWf ks
def CovsWf : List Cov → Prop
  | [] => True
  | c :: cs => CovWf c ∧ CovsWf cs
end
theorem covsWf_of : ∀ cs : List Cov, (∀ c ∈ cs, CovWf c) → CovsWf cs
  | [], _ => by unfold CovsWf; trivial
  | c :: cs, h => by unfold CovsWf; exact ⟨h c (by simp), covsWf_of cs fun q hq => h q (by simp [hq])⟩

theorem encC_eq (r : Int) (ks : List Cov) : encC (.mk r ks) = .st [.int .i64 r, .lst 2 (ks.map encC)] := by
  unfold encC; rw [encCs_map]

theorem cov_of : ∀ (d : D), HasTy Tryd.prog d 60 → ∃ p, d = encC p ∧ CovWf p
  | d, h => by
    obtain ⟨ds, hd0, h1⟩ := hasTy_st Tryd.underlying60 h
    obtain ⟨d1, r1, rfl, g1, h2⟩ := hasTys_cons h1
    obtain ⟨d2, r2, rfl, g2, h3⟩ := hasTys_cons h2
    obtain rfl := hasTys_nil h3
    obtain ⟨r, rfl, w1⟩ := hasTy_int Tryd.underlying3 g1
    obtain ⟨ks, rfl, hl, ha⟩ := hasTy_lst Tryd.underlying53 cellsCover bytesCover g2
    obtain ⟨ps, rfl, hp⟩ := allTy_map (enc := encC) (Q := CovWf) ks ha fun d' hm hd => cov_of d' hd
    refine ⟨.mk r ps, ?_, ?_⟩
    · rw [encC_eq]; exact hd0
    · unfold CovWf; exact ⟨w1, covsWf_of ps hp⟩
termination_by d => SizeOf.sizeOf d
decreasing_by
  have := List.sizeOf_lt_of_mem hm
  rw [hd0]
  simp
  omega

def encAsk13 (L : List (List Rule)) (S : List (List UInt8)) (T : List Pat) (S2 : List (List UInt8)) (C : List Cov) : D := .st [encAsk L S, .st [.lst 3 (T.map encP), .lst 1 (S2.map .str)], .lst 2 (C.map encC)]

theorem ask13_of (d : D) (h : HasTy Tryd.prog d 55) : ∃ L S T S2 C, d = encAsk13 L S T S2 C ∧ AskWf L S ∧ TAskWf T S2 ∧ C.length ≤ reachBytes ∧ (∀ c ∈ C, CovWf c) ∧ ∀ t ∈ T, PatWf t := by
  obtain ⟨ds, rfl, h1⟩ := hasTy_st Tryd.underlying55 h
  obtain ⟨d1, r1, rfl, g1, h2⟩ := hasTys_cons h1
  obtain ⟨d2, r2, rfl, g2, h3⟩ := hasTys_cons h2
  obtain ⟨d3, r3, rfl, g3, h4⟩ := hasTys_cons h3
  obtain rfl := hasTys_nil h4
  obtain ⟨L, S, rfl, hLS⟩ := ask_of d1 g1
  obtain ⟨es, rfl, k1⟩ := hasTy_st Tryd.underlying52 g2
  obtain ⟨e1, s1, rfl, m1, k2⟩ := hasTys_cons k1
  obtain ⟨e2, s2, rfl, m2, k3⟩ := hasTys_cons k2
  obtain rfl := hasTys_nil k3
  obtain ⟨ts, rfl, hl1, ha1⟩ := hasTy_lst Tryd.underlying50 cellsTree bytesTree m1
  obtain ⟨T, rfl, hT⟩ := allTy_map (enc := encP) (Q := PatWf) ts ha1 fun d' _ hd => tree_of d' hd
  obtain ⟨ss, rfl, hl2, ha2⟩ := hasTy_lst Tryd.underlying23 cellsStr bytesStr m2
  obtain ⟨S2, rfl, hs⟩ := strs_of ha2
  obtain ⟨cs, rfl, hl3, ha3⟩ := hasTy_lst Tryd.underlying53 cellsCover bytesCover g3
  obtain ⟨C, rfl, hC⟩ := allTy_map (enc := encC) (Q := CovWf) cs ha3 fun d' _ hd => cov_of d' hd
  rw [List.length_map] at hl1 hl2 hl3
  exact ⟨L, S, T, S2, C, rfl, hLS, ⟨by omega, by omega, hs⟩, by omega, hC, hT⟩

def ask13Types : List TypeId := [55, 25, 52, 22, 23, 26, 9, 33, 3, 2, 31, 29, 64, 50, 60, 53]
theorem ask13Types_ok : ask13Types.all (plainTy Tryd.prog ask13Types) = true := by kernel_rfl

theorem ask13_in {H : Type} {enc : TypeId × Value → H} {W : World} {base fuel : Nat} {spare : Nat → Bool} {held : Bool} {cs : Array Value} {x : DataW H × List MemPlace} (hw : Light Tryd.prog 55 x.1) (h : DataW.trod enc Tryd.prog W base spare held fuel 55 (Value.agg cs).cells.toList = some x) :
    ∃ (L : List (List Rule)) (S : List (List UInt8)) (T : List Pat) (S2 : List (List UInt8)) (C : List Cov) (A1 A2 A3 A4 A5 : Option Addr) (c1 c2 c3 c4 c5 : Nat), Ask13 W L S T S2 C A1 A2 A3 A4 A5 c1 c2 c3 c4 c5 ∧ (∀ c ∈ C, CovWf c) ∧ (∀ t ∈ T, PatWf t) ∧
      cs = #[.slice A1 L.length c1, .slice A2 S.length c2, .slice A3 T.length c3, .slice A4 S2.length c4, .slice A5 C.length c5] := by
  obtain ⟨d, h1, h2, h3⟩ := rep_of_trod ask13Types_ok fuel 55 _ x (by kernel_rfl) hw h
  obtain ⟨L, S, T, S2, C, rfl, w1, w2, w3, w4, w5⟩ := ask13_of d h2
  unfold encAsk13 encAsk at h1
  obtain ⟨a, r, e1, g1, g2⟩ := repAll_inv (rep_st_inv h1)
  obtain ⟨b, r2, e2, g3, g4⟩ := repAll_inv g2
  obtain ⟨c, r3, e3, g5, g6⟩ := repAll_inv g4
  have e4 := repAll_nil g6
  obtain ⟨a1, ra, f1, k1, k2⟩ := repAll_inv (rep_st_inv g1)
  obtain ⟨a2, rb, f2, k3, k4⟩ := repAll_inv k2
  have f3 := repAll_nil k4
  obtain ⟨b1, rc, f4, k5, k6⟩ := repAll_inv (rep_st_inv g3)
  obtain ⟨b2, rd, f5, k7, k8⟩ := repAll_inv k6
  have f6 := repAll_nil k8
  obtain ⟨A1, c1, j1, _, _, i1⟩ := rep_lst_inv k1
  obtain ⟨A2, c2, j2, _, _, i2⟩ := rep_lst_inv k3
  obtain ⟨A3, c3, j3, _, _, i3⟩ := rep_lst_inv k5
  obtain ⟨A4, c4, j4, _, _, i4⟩ := rep_lst_inv k7
  obtain ⟨A5, c5, j5, _, _, i5⟩ := rep_lst_inv g5
  rw [List.length_map] at j1 j2 j3 j4 j5 i1 i2 i3 i4 i5
  refine ⟨L, S, T, S2, C, A1, A2, A3, A4, A5, c1, c2, c3, c4, c5, ⟨w1, w2, w3, i1, i2, i3, i4, i5⟩, w4, w5, ?_⟩
  rw [f1, f2, f3, j1, j2, e2, f4, f5, f6, j3, j4, e3, e4, j5] at e1
  have : cs.toList = [.slice A1 L.length c1, .slice A2 S.length c2, .slice A3 T.length c3, .slice A4 S2.length c4, .slice A5 C.length c5] := e1
  rw [← Array.toList_inj, this]

end

end Go.Proofs.YtaippkdlibampaaDoor

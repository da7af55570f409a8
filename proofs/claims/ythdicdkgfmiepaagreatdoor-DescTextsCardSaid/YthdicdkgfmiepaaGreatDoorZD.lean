/- desc.line walked. (Printed by gen/gen_dtl.py.) desc.Parse walked. (Printed by gen/gen_dtg.py.) -/
import Derived.Test.YthdicdkgfmiepaaGreatDoorZC
namespace Go.Proofs.YthdicdkgfmiepaaGreatDoor

/- desc.line walked. (Printed by gen/gen_dtl.py.) -/
section
open Go.RowKit

set_option maxRecDepth 100000 in
set_option maxHeartbeats 8000000 in
theorem line_any (s : List UInt8) (hs : s.length ≤ 1000000) (w : World) (henv : DEnv w) : Calls Tryz.prog 32 #[.string ⟨s.toArray⟩] w (LineRet (lineD s) w) := by
  have HE : Hid (∀ W, Below w.heap.size w W → DEnv W) := Lib.hid (fun W h => henv.below h)
  clear henv
  have z0 : BlkIs (w.alloc (.cells #[.int .i64 0, .int .i64 0, .int .i64 0, .slice none 0 0, .int .i64 0, .string ⟨#[]⟩] 47)) w.heap.size 47 #[.int .i64 0, .int .i64 0, .int .i64 0, .slice none 0 0, .int .i64 0, .string ⟨#[]⟩] := BlkIs.fresh _ _ _
  have b0 := below_alloc w (.cells #[.int .i64 0, .int .i64 0, .int .i64 0, .slice none 0 0, .int .i64 0, .string ⟨#[]⟩] 47)
  obtain ⟨gz, hgz⟩ : ∃ x, Hid (w.heap.size = x) := ⟨_, Lib.hid rfl⟩
  have hgzw : w.heap.size ≤ gz := Nat.le_of_eq hgz.out
  obtain ⟨R, hR⟩ : ∃ R, Hid (lineD s = R) := ⟨_, Lib.hid rfl⟩
  rw [hR.out]
  have hR2 := hR.out
  unfold lineD at hR2
  have hc1 := fun W h => dcut_any s arrowT hs W h
  unfold cutP at hc1
  go_enter Tryz.func32, Tryz.ntmps32
  go_upto_region 1 with fail
  obtain ⟨w0, hw0⟩ : ∃ W, w.alloc (.cells #[.int .i64 0, .int .i64 0, .int .i64 0, .slice none 0 0, .int .i64 0, .string ⟨#[]⟩] 47) = W := ⟨_, rfl⟩
  rw [hw0] at z0 b0 ⊢
  rw [hgz.out] at z0 ⊢
  clear hw0
  have y0 : w0.cell? ⟨gz, 0, none⟩ = some (.int .i64 0) := z0.cell 0
  have g0 : w0.frozen? ⟨gz, 0, none⟩ = false := z0.frozen 0
  have y1 : w0.cell? ⟨gz, 1, none⟩ = some (.int .i64 0) := z0.cell 1
  have g1 : w0.frozen? ⟨gz, 1, none⟩ = false := z0.frozen 1
  have y2 : w0.cell? ⟨gz, 2, none⟩ = some (.int .i64 0) := z0.cell 2
  have g2 : w0.frozen? ⟨gz, 2, none⟩ = false := z0.frozen 2
  have y3 : w0.cell? ⟨gz, 3, none⟩ = some (.slice none 0 0) := z0.cell 3
  have g3 : w0.frozen? ⟨gz, 3, none⟩ = false := z0.frozen 3
  have y4 : w0.cell? ⟨gz, 4, none⟩ = some (.int .i64 0) := z0.cell 4
  have g4 : w0.frozen? ⟨gz, 4, none⟩ = false := z0.frozen 4
  have y5 : w0.cell? ⟨gz, 5, none⟩ = some (.string ⟨#[]⟩) := z0.cell 5
  have g5 : w0.frozen? ⟨gz, 5, none⟩ = false := z0.frozen 5
  have hlz : gz < w0.heap.size := z0.lt
  cases hx1 : cutT s arrowT with
  | none =>
    rw [hx1] at hc1 hR2
    simp only at hc1 hR2
    subst hR2
    clear hx1
    go_wp2_with fail
    refine (hc1 _ (HE.out _ b0).max).mono ?_
    rintro e w1 ⟨rfl, q1, rfl⟩
    go_wp2_with fail
    have zz := put6 (z0.drewN q1)
    refine bodyPost_ret (v := .tuple #[.agg #[.int .i64 0, .int .i64 0, .int .i64 0, .slice none 0 0, .int .i64 0, .string ⟨#[]⟩], .bool false]) (by simp [results, Tryz.results32, go_sem, zz.cell]) rfl ?_
    exact LineRet.bad (below6 (below_drewsN b0 q1) hgzw)
  | some r =>
    obtain ⟨left, right⟩ := r
    have hl1 := cutT_len hx1
    rw [hx1] at hc1 hR2
    simp only at hc1 hR2
    clear hx1
    go_wp2_with fail
    refine (hc1 _ (HE.out _ b0).max).mono ?_
    rintro e w1 ⟨rfl, q1, rfl⟩
    obtain ⟨w1, hw1⟩ : ∃ W, w0.drewN q1 = W := ⟨_, rfl⟩
    have z1 : BlkIs w1 gz 47 #[.int .i64 0, .int .i64 0, .int .i64 0, .slice none 0 0, .int .i64 0, .string ⟨#[]⟩] := by rw [← hw1]; exact z0.drewN q1
    have b1 : Below w.heap.size w w1 := by rw [← hw1]; exact below_drewsN b0 q1
    rw [hw1]
    clear hw1 z0 b0 hc1
    clear y0 y1 y2 y3 y4 y5 g0 g1 g2 g3 g4 g5 hlz
    have y0 : w1.cell? ⟨gz, 0, none⟩ = some (.int .i64 0) := z1.cell 0
    have g0 : w1.frozen? ⟨gz, 0, none⟩ = false := z1.frozen 0
    have y1 : w1.cell? ⟨gz, 1, none⟩ = some (.int .i64 0) := z1.cell 1
    have g1 : w1.frozen? ⟨gz, 1, none⟩ = false := z1.frozen 1
    have y2 : w1.cell? ⟨gz, 2, none⟩ = some (.int .i64 0) := z1.cell 2
    have g2 : w1.frozen? ⟨gz, 2, none⟩ = false := z1.frozen 2
    have y3 : w1.cell? ⟨gz, 3, none⟩ = some (.slice none 0 0) := z1.cell 3
    have g3 : w1.frozen? ⟨gz, 3, none⟩ = false := z1.frozen 3
    have y4 : w1.cell? ⟨gz, 4, none⟩ = some (.int .i64 0) := z1.cell 4
    have g4 : w1.frozen? ⟨gz, 4, none⟩ = false := z1.frozen 4
    have y5 : w1.cell? ⟨gz, 5, none⟩ = some (.string ⟨#[]⟩) := z1.cell 5
    have g5 : w1.frozen? ⟨gz, 5, none⟩ = false := z1.frozen 5
    have hlz : gz < w1.heap.size := z1.lt
    have hnm := fun W => named_any left W
    obtain ⟨nt, hnt⟩ : ∃ x, Hid (namedN left = x) := ⟨_, Lib.hid rfl⟩
    rw [hnt.out] at hnm
    go_wp2_with fail
    refine (hnm _).mono ?_
    rintro e w2 ⟨rfl, hb2⟩
    have z2 := z1.below hb2 z1.lt
    have b2 := b1.trans (hb2.mono b1.size)
    clear z1 b1 hb2 hnm
    clear y0 y1 y2 y3 y4 y5 g0 g1 g2 g3 g4 g5 hlz
    have y0 : w2.cell? ⟨gz, 0, none⟩ = some (.int .i64 0) := z2.cell 0
    have g0 : w2.frozen? ⟨gz, 0, none⟩ = false := z2.frozen 0
    have y1 : w2.cell? ⟨gz, 1, none⟩ = some (.int .i64 0) := z2.cell 1
    have g1 : w2.frozen? ⟨gz, 1, none⟩ = false := z2.frozen 1
    have y2 : w2.cell? ⟨gz, 2, none⟩ = some (.int .i64 0) := z2.cell 2
    have g2 : w2.frozen? ⟨gz, 2, none⟩ = false := z2.frozen 2
    have y3 : w2.cell? ⟨gz, 3, none⟩ = some (.slice none 0 0) := z2.cell 3
    have g3 : w2.frozen? ⟨gz, 3, none⟩ = false := z2.frozen 3
    have y4 : w2.cell? ⟨gz, 4, none⟩ = some (.int .i64 0) := z2.cell 4
    have g4 : w2.frozen? ⟨gz, 4, none⟩ = false := z2.frozen 4
    have y5 : w2.cell? ⟨gz, 5, none⟩ = some (.string ⟨#[]⟩) := z2.cell 5
    have g5 : w2.frozen? ⟨gz, 5, none⟩ = false := z2.frozen 5
    have hlz : gz < w2.heap.size := z2.lt
    go_upto_region 5 with fail
    obtain ⟨w3, hw3⟩ : ∃ W, w2.setCell ⟨gz, 0, none⟩ (.int .i64 nt) = W := ⟨_, rfl⟩
    have z3 : BlkIs w3 gz 47 #[.int .i64 nt, .int .i64 0, .int .i64 0, .slice none 0 0, .int .i64 0, .string ⟨#[]⟩] := by rw [← hw3]; exact z2.put 0 _
    have b3 : Below w.heap.size w w3 := by rw [← hw3]; exact pbelow1 b2 hgzw
    rw [hw3]
    clear hw3 z2 b2
    clear y0 y1 y2 y3 y4 y5 g0 g1 g2 g3 g4 g5 hlz
    have y0 : w3.cell? ⟨gz, 0, none⟩ = some (.int .i64 nt) := z3.cell 0
    have g0 : w3.frozen? ⟨gz, 0, none⟩ = false := z3.frozen 0
    have y1 : w3.cell? ⟨gz, 1, none⟩ = some (.int .i64 0) := z3.cell 1
    have g1 : w3.frozen? ⟨gz, 1, none⟩ = false := z3.frozen 1
    have y2 : w3.cell? ⟨gz, 2, none⟩ = some (.int .i64 0) := z3.cell 2
    have g2 : w3.frozen? ⟨gz, 2, none⟩ = false := z3.frozen 2
    have y3 : w3.cell? ⟨gz, 3, none⟩ = some (.slice none 0 0) := z3.cell 3
    have g3 : w3.frozen? ⟨gz, 3, none⟩ = false := z3.frozen 3
    have y4 : w3.cell? ⟨gz, 4, none⟩ = some (.int .i64 0) := z3.cell 4
    have g4 : w3.frozen? ⟨gz, 4, none⟩ = false := z3.frozen 4
    have y5 : w3.cell? ⟨gz, 5, none⟩ = some (.string ⟨#[]⟩) := z3.cell 5
    have g5 : w3.frozen? ⟨gz, 5, none⟩ = false := z3.frozen 5
    have hlz : gz < w3.heap.size := z3.lt
    cases hnb : namedB left
    case false =>
      rw [hnb, if_neg (by decide)] at hR2
      subst hR2
      clear hnb
      go_wp2_with fail
      have zz := put6 z3
      refine bodyPost_ret (v := .tuple #[.agg #[.int .i64 nt, .int .i64 0, .int .i64 0, .slice none 0 0, .int .i64 0, .string ⟨#[]⟩], .bool false]) (by simp [results, Tryz.results32, go_sem, zz.cell]) rfl ?_
      exact LineRet.bad (below6 b3 hgzw)
    case true =>
      rw [hnb, if_pos rfl] at hR2
      clear hnb
      have hc2 := fun W h => dcut_any right colonT (by omega) W h
      unfold cutP at hc2
      cases hx2 : cutT right colonT with
      | none =>
        rw [hx2] at hc2 hR2
        simp only at hc2 hR2
        subst hR2
        clear hx2
        go_wp2_with fail
        refine (hc2 _ (HE.out _ b3).max).mono ?_
        rintro e w4 ⟨rfl, q2, rfl⟩
        go_wp2_with fail
        have zz := put6 (z3.drewN q2)
        refine bodyPost_ret (v := .tuple #[.agg #[.int .i64 nt, .int .i64 0, .int .i64 0, .slice none 0 0, .int .i64 0, .string ⟨#[]⟩], .bool false]) (by simp [results, Tryz.results32, go_sem, zz.cell]) rfl ?_
        exact LineRet.bad (below6 (below_drewsN b3 q2) hgzw)
      | some r =>
        obtain ⟨pat, en⟩ := r
        have hl2 := cutT_len hx2
        rw [hx2] at hc2 hR2
        simp only at hc2 hR2
        clear hx2
        go_wp2_with fail
        refine (hc2 _ (HE.out _ b3).max).mono ?_
        rintro e w4 ⟨rfl, q2, rfl⟩
        obtain ⟨w4, hw4⟩ : ∃ W, w3.drewN q2 = W := ⟨_, rfl⟩
        have z4 : BlkIs w4 gz 47 #[.int .i64 nt, .int .i64 0, .int .i64 0, .slice none 0 0, .int .i64 0, .string ⟨#[]⟩] := by rw [← hw4]; exact z3.drewN q2
        have b4 : Below w.heap.size w w4 := by rw [← hw4]; exact below_drewsN b3 q2
        rw [hw4]
        clear hw4 z3 b3 hc2
        clear y0 y1 y2 y3 y4 y5 g0 g1 g2 g3 g4 g5 hlz
        have y0 : w4.cell? ⟨gz, 0, none⟩ = some (.int .i64 nt) := z4.cell 0
        have g0 : w4.frozen? ⟨gz, 0, none⟩ = false := z4.frozen 0
        have y1 : w4.cell? ⟨gz, 1, none⟩ = some (.int .i64 0) := z4.cell 1
        have g1 : w4.frozen? ⟨gz, 1, none⟩ = false := z4.frozen 1
        have y2 : w4.cell? ⟨gz, 2, none⟩ = some (.int .i64 0) := z4.cell 2
        have g2 : w4.frozen? ⟨gz, 2, none⟩ = false := z4.frozen 2
        have y3 : w4.cell? ⟨gz, 3, none⟩ = some (.slice none 0 0) := z4.cell 3
        have g3 : w4.frozen? ⟨gz, 3, none⟩ = false := z4.frozen 3
        have y4 : w4.cell? ⟨gz, 4, none⟩ = some (.int .i64 0) := z4.cell 4
        have g4 : w4.frozen? ⟨gz, 4, none⟩ = false := z4.frozen 4
        have y5 : w4.cell? ⟨gz, 5, none⟩ = some (.string ⟨#[]⟩) := z4.cell 5
        have g5 : w4.frozen? ⟨gz, 5, none⟩ = false := z4.frozen 5
        have hlz : gz < w4.heap.size := z4.lt
        have hrd := rdD_any 8 (by omega) pat w4 (by omega) (HE.out _ b4).tab
        unfold patD at hR2
        unfold RdPostD at hrd
        cases hx3 : rdD 8 pat with
        | none =>
          rw [hx3] at hrd hR2
          simp only at hrd hR2
          subst hR2
          clear hx3
          go_wp2_with fail
          refine hrd.mono ?_
          rintro e w5 ⟨hb5, a, b, A5, n5, d5, x5, rfl⟩
          have z5 := z4.below hb5 z4.lt
          have b5 := b4.trans (hb5.mono b4.size)
          clear y0 y1 y2 y3 y4 y5 g0 g1 g2 g3 g4 g5 hlz
          have y0 : w5.cell? ⟨gz, 0, none⟩ = some (.int .i64 nt) := z5.cell 0
          have g0 : w5.frozen? ⟨gz, 0, none⟩ = false := z5.frozen 0
          have y1 : w5.cell? ⟨gz, 1, none⟩ = some (.int .i64 0) := z5.cell 1
          have g1 : w5.frozen? ⟨gz, 1, none⟩ = false := z5.frozen 1
          have y2 : w5.cell? ⟨gz, 2, none⟩ = some (.int .i64 0) := z5.cell 2
          have g2 : w5.frozen? ⟨gz, 2, none⟩ = false := z5.frozen 2
          have y3 : w5.cell? ⟨gz, 3, none⟩ = some (.slice none 0 0) := z5.cell 3
          have g3 : w5.frozen? ⟨gz, 3, none⟩ = false := z5.frozen 3
          have y4 : w5.cell? ⟨gz, 4, none⟩ = some (.int .i64 0) := z5.cell 4
          have g4 : w5.frozen? ⟨gz, 4, none⟩ = false := z5.frozen 4
          have y5 : w5.cell? ⟨gz, 5, none⟩ = some (.string ⟨#[]⟩) := z5.cell 5
          have g5 : w5.frozen? ⟨gz, 5, none⟩ = false := z5.frozen 5
          have hlz : gz < w5.heap.size := z5.lt
          go_wp2_with fail
          have zz := (put6 z5).alloc (.cells #[.int .i64 a, .int .i64 b, .slice A5 n5 d5] 45)
          refine bodyPost_ret (v := .tuple #[.agg #[.int .i64 nt, .int .i64 0, .int .i64 0, .slice none 0 0, .int .i64 0, .string ⟨#[]⟩], .bool false]) (by simp [results, Tryz.results32, go_sem, zz.cell]) rfl ?_
          exact LineRet.bad ((below6 b5 hgzw).alloc (by have := (below6 (a := .int .i64 nt) (b := .int .i64 0) (c := .int .i64 0) (d := .slice none 0 0) (e := .int .i64 0) (f := .string ⟨#[]⟩) b5 hgzw).size; omega) _)
        | some r =>
          obtain ⟨p, rest⟩ := r
          rw [hx3] at hrd hR2
          simp only at hrd hR2
          clear hx3
          go_wp2_with fail
          refine hrd.mono ?_
          rintro e w5 ⟨hb5, A5, d5, rfl, hrep5⟩
          have z5 := z4.below hb5 z4.lt
          have b5 := b4.trans (hb5.mono b4.size)
          have hrep5' : Rep w5 (fun k => gz < k) (encP p) [.int .i64 p.op, .int .i64 p.nt, .slice A5 p.kids.length d5] := hrep5.imp (fun k hk _ => by have := z4.lt; omega)
          have HRP := Lib.hid hrep5'
          clear hrep5 hrep5' hrd
          clear y0 y1 y2 y3 y4 y5 g0 g1 g2 g3 g4 g5 hlz
          have y0 : w5.cell? ⟨gz, 0, none⟩ = some (.int .i64 nt) := z5.cell 0
          have g0 : w5.frozen? ⟨gz, 0, none⟩ = false := z5.frozen 0
          have y1 : w5.cell? ⟨gz, 1, none⟩ = some (.int .i64 0) := z5.cell 1
          have g1 : w5.frozen? ⟨gz, 1, none⟩ = false := z5.frozen 1
          have y2 : w5.cell? ⟨gz, 2, none⟩ = some (.int .i64 0) := z5.cell 2
          have g2 : w5.frozen? ⟨gz, 2, none⟩ = false := z5.frozen 2
          have y3 : w5.cell? ⟨gz, 3, none⟩ = some (.slice none 0 0) := z5.cell 3
          have g3 : w5.frozen? ⟨gz, 3, none⟩ = false := z5.frozen 3
          have y4 : w5.cell? ⟨gz, 4, none⟩ = some (.int .i64 0) := z5.cell 4
          have g4 : w5.frozen? ⟨gz, 4, none⟩ = false := z5.frozen 4
          have y5 : w5.cell? ⟨gz, 5, none⟩ = some (.string ⟨#[]⟩) := z5.cell 5
          have g5 : w5.frozen? ⟨gz, 5, none⟩ = false := z5.frozen 5
          have hlz : gz < w5.heap.size := z5.lt
          by_cases hrest : rest = []
          · subst hrest
            rw [if_pos rfl] at hR2
            unfold costD at hR2
            have hxb : BlkIs (w5.alloc (.cells #[.int .i64 p.op, .int .i64 p.nt, .slice A5 p.kids.length d5] 45)) w5.heap.size 45 #[.int .i64 p.op, .int .i64 p.nt, .slice A5 p.kids.length d5] := BlkIs.fresh _ _ _
            have z6 := z5.alloc (.cells #[.int .i64 p.op, .int .i64 p.nt, .slice A5 p.kids.length d5] 45)
            have b6 := b5.alloc b5.size (.cells #[.int .i64 p.op, .int .i64 p.nt, .slice A5 p.kids.length d5] 45)
            have hgx : gz < w5.heap.size := z5.lt
            have HRP6 := Lib.hid (HRP.out.alloc (.cells #[.int .i64 p.op, .int .i64 p.nt, .slice A5 p.kids.length d5] 45))
            go_upto_region 13 with fail
            obtain ⟨w6, hw6⟩ : ∃ W, w5.alloc (.cells #[.int .i64 p.op, .int .i64 p.nt, .slice A5 p.kids.length d5] 45) = W := ⟨_, rfl⟩
            obtain ⟨gx, hgx2⟩ : ∃ x, Hid (w5.heap.size = x) := ⟨_, Lib.hid rfl⟩
            rw [hw6] at hxb z6 b6 HRP6 ⊢
            rw [hgx2.out] at hxb hgx ⊢
            have hc3 := fun W h => dcut_any en [32] (by omega) W h
            clear hw6 z5 b5 HRP
            clear y0 y1 y2 y3 y4 y5 g0 g1 g2 g3 g4 g5 hlz
            cases hx3 : cutT en [32] with
            | none =>
              rw [cutP, hx3] at hc3
              rw [hx3] at hR2
              simp only at hc3 hR2
              subst hR2
              obtain ⟨cost, hcost⟩ : ∃ c, Hid (en = c) := ⟨_, Lib.hid rfl⟩
              have hl3 : cost.length ≤ right.length := by rw [← hcost.out]; omega
              rw [hcost.out] at hc3 ⊢
              clear hx3
              go_wp2_with fail
              refine (hc3 _ (HE.out _ b6).max).mono ?_
              rintro e w7 ⟨rfl, q3, rfl⟩
              have z7 := z6.drewN q3
              have b7 := below_drewsN b6 q3
              have x7 := hxb.drewN q3
              have HRP7 := Lib.hid (HRP6.out.drewN q3)
              obtain ⟨w7, hw7⟩ : ∃ W, w6.drewN q3 = W := ⟨_, rfl⟩
              rw [hw7] at z7 b7 x7 HRP7 ⊢
              clear hw7 z6 b6 hxb HRP6 hc3
              have hpr := atoi_parse cost
              have hcl : (ByteArray.mk cost.toArray).size ≤ 1000000 := by simp [ByteArray.size]; omega
              rcases hpr with ⟨v, hv1, hv2, hv3, hvr⟩ | ⟨hv1, hv2⟩
              · have hp := fun W => Tryz.strconv_Atoi_ok ⟨cost.toArray⟩ (by omega) v hv2 W
                clear hv1 hv2 hv3
                go_wp2_with fail
                refine (hp _).mono ?_
                rintro e w8 ⟨rfl, hw8⟩
                have hb8 : Below w7.heap.size w7 w8 := by
                  rcases hw8 with rfl | ⟨t, rfl⟩
                  · exact Below.refl _ _
                  · exact Lib.bytesWorld_below _ _ _
                clear hw8
                have z8 := z7.below hb8 z7.lt
                have b8 := b7.trans (hb8.mono b7.size)
                have x8 := x7.below hb8 x7.lt
                have HRP8 := Lib.hid (HRP7.out.below hb8)
                have y0 : w8.cell? ⟨gz, 0, none⟩ = some (.int .i64 nt) := z8.cell 0
                have g0 : w8.frozen? ⟨gz, 0, none⟩ = false := z8.frozen 0
                have y1 : w8.cell? ⟨gz, 1, none⟩ = some (.int .i64 0) := z8.cell 1
                have g1 : w8.frozen? ⟨gz, 1, none⟩ = false := z8.frozen 1
                have y2 : w8.cell? ⟨gz, 2, none⟩ = some (.int .i64 0) := z8.cell 2
                have g2 : w8.frozen? ⟨gz, 2, none⟩ = false := z8.frozen 2
                have y3 : w8.cell? ⟨gz, 3, none⟩ = some (.slice none 0 0) := z8.cell 3
                have g3 : w8.frozen? ⟨gz, 3, none⟩ = false := z8.frozen 3
                have y4 : w8.cell? ⟨gz, 4, none⟩ = some (.int .i64 0) := z8.cell 4
                have g4 : w8.frozen? ⟨gz, 4, none⟩ = false := z8.frozen 4
                have y5 : w8.cell? ⟨gz, 5, none⟩ = some (.string ⟨#[]⟩) := z8.cell 5
                have g5 : w8.frozen? ⟨gz, 5, none⟩ = false := z8.frozen 5
                have hlz : gz < w8.heap.size := z8.lt
                go_wp2_with fail
                have zz := put6 z8
                refine bodyPost_ret (v := .tuple #[.agg #[.int .i64 nt, .int .i64 0, .int .i64 0, .slice none 0 0, .int .i64 0, .string ⟨#[]⟩], .bool false]) (by simp [results, Tryz.results32, go_sem, zz.cell]) rfl ?_
                exact LineRet.bad (below6 b8 hgzw)
              · rcases hpe : Lib.atoiAll cost with v | _ | _
                · obtain ⟨hne, hvr⟩ := hv2 v hpe
                  have hv2 := hpe
                  have hp := fun W => Tryz.strconv_Atoi_ok ⟨cost.toArray⟩ (by omega) v hv2 W
                  clear hv1 hpe hne hv2
                  go_wp2_with fail
                  refine (hp _).mono ?_
                  rintro e w8 ⟨rfl, hw8⟩
                  have hb8 : Below w7.heap.size w7 w8 := by
                    rcases hw8 with rfl | ⟨t, rfl⟩
                    · exact Below.refl _ _
                    · exact Lib.bytesWorld_below _ _ _
                  clear hw8
                  have z8 := z7.below hb8 z7.lt
                  have b8 := b7.trans (hb8.mono b7.size)
                  have x8 := x7.below hb8 x7.lt
                  have HRP8 := Lib.hid (HRP7.out.below hb8)
                  have y0 : w8.cell? ⟨gz, 0, none⟩ = some (.int .i64 nt) := z8.cell 0
                  have g0 : w8.frozen? ⟨gz, 0, none⟩ = false := z8.frozen 0
                  have y1 : w8.cell? ⟨gz, 1, none⟩ = some (.int .i64 0) := z8.cell 1
                  have g1 : w8.frozen? ⟨gz, 1, none⟩ = false := z8.frozen 1
                  have y2 : w8.cell? ⟨gz, 2, none⟩ = some (.int .i64 0) := z8.cell 2
                  have g2 : w8.frozen? ⟨gz, 2, none⟩ = false := z8.frozen 2
                  have y3 : w8.cell? ⟨gz, 3, none⟩ = some (.slice none 0 0) := z8.cell 3
                  have g3 : w8.frozen? ⟨gz, 3, none⟩ = false := z8.frozen 3
                  have y4 : w8.cell? ⟨gz, 4, none⟩ = some (.int .i64 0) := z8.cell 4
                  have g4 : w8.frozen? ⟨gz, 4, none⟩ = false := z8.frozen 4
                  have y5 : w8.cell? ⟨gz, 5, none⟩ = some (.string ⟨#[]⟩) := z8.cell 5
                  have g5 : w8.frozen? ⟨gz, 5, none⟩ = false := z8.frozen 5
                  have hlz : gz < w8.heap.size := z8.lt
                  go_wp2_with fail
                  have zz := put6 z8
                  refine bodyPost_ret (v := .tuple #[.agg #[.int .i64 nt, .int .i64 0, .int .i64 0, .slice none 0 0, .int .i64 0, .string ⟨#[]⟩], .bool false]) (by simp [results, Tryz.results32, go_sem, zz.cell]) rfl ?_
                  exact LineRet.bad (below6 b8 hgzw)
                · obtain ⟨tp, pp, hvar⟩ := (HE.out _ b7).e1
                  have hp := Any.strconv_Atoi_syntax_var Tryz.laysC172 ⟨cost.toArray⟩ (by omega) hpe tp pp w7 hvar
                  rw [show Tryz.laysC172_ren.t 168 = 116 by kernel_rfl] at hp
                  clear hv1 hv2 hpe hvar
                  go_wp2_with fail
                  refine hp.mono ?_
                  rintro e w8 ⟨N8, rfl, _, _, hb8⟩
                  have z8 := z7.below hb8 z7.lt
                  have b8 := b7.trans (hb8.mono b7.size)
                  have y0 : w8.cell? ⟨gz, 0, none⟩ = some (.int .i64 nt) := z8.cell 0
                  have g0 : w8.frozen? ⟨gz, 0, none⟩ = false := z8.frozen 0
                  have y1 : w8.cell? ⟨gz, 1, none⟩ = some (.int .i64 0) := z8.cell 1
                  have g1 : w8.frozen? ⟨gz, 1, none⟩ = false := z8.frozen 1
                  have y2 : w8.cell? ⟨gz, 2, none⟩ = some (.int .i64 0) := z8.cell 2
                  have g2 : w8.frozen? ⟨gz, 2, none⟩ = false := z8.frozen 2
                  have y3 : w8.cell? ⟨gz, 3, none⟩ = some (.slice none 0 0) := z8.cell 3
                  have g3 : w8.frozen? ⟨gz, 3, none⟩ = false := z8.frozen 3
                  have y4 : w8.cell? ⟨gz, 4, none⟩ = some (.int .i64 0) := z8.cell 4
                  have g4 : w8.frozen? ⟨gz, 4, none⟩ = false := z8.frozen 4
                  have y5 : w8.cell? ⟨gz, 5, none⟩ = some (.string ⟨#[]⟩) := z8.cell 5
                  have g5 : w8.frozen? ⟨gz, 5, none⟩ = false := z8.frozen 5
                  have hlz : gz < w8.heap.size := z8.lt
                  go_wp2_with fail
                  have zz := put6 z8
                  refine bodyPost_ret (v := .tuple #[.agg #[.int .i64 nt, .int .i64 0, .int .i64 0, .slice none 0 0, .int .i64 0, .string ⟨#[]⟩], .bool false]) (by simp [results, Tryz.results32, go_sem, zz.cell]) rfl ?_
                  exact LineRet.bad (below6 b8 hgzw)
                · obtain ⟨tp, pp, hvar⟩ := (HE.out _ b7).e2
                  have hp := Any.strconv_Atoi_range_var Tryz.laysC172 ⟨cost.toArray⟩ (by omega) hpe tp pp w7 hvar
                  rw [show Tryz.laysC172_ren.t 168 = 116 by kernel_rfl] at hp
                  clear hv1 hv2 hpe hvar
                  go_wp2_with fail
                  refine hp.mono ?_
                  rintro e w8 ⟨N8, rfl, _, _, hb8⟩
                  have z8 := z7.below hb8 z7.lt
                  have b8 := b7.trans (hb8.mono b7.size)
                  have y0 : w8.cell? ⟨gz, 0, none⟩ = some (.int .i64 nt) := z8.cell 0
                  have g0 : w8.frozen? ⟨gz, 0, none⟩ = false := z8.frozen 0
                  have y1 : w8.cell? ⟨gz, 1, none⟩ = some (.int .i64 0) := z8.cell 1
                  have g1 : w8.frozen? ⟨gz, 1, none⟩ = false := z8.frozen 1
                  have y2 : w8.cell? ⟨gz, 2, none⟩ = some (.int .i64 0) := z8.cell 2
                  have g2 : w8.frozen? ⟨gz, 2, none⟩ = false := z8.frozen 2
                  have y3 : w8.cell? ⟨gz, 3, none⟩ = some (.slice none 0 0) := z8.cell 3
                  have g3 : w8.frozen? ⟨gz, 3, none⟩ = false := z8.frozen 3
                  have y4 : w8.cell? ⟨gz, 4, none⟩ = some (.int .i64 0) := z8.cell 4
                  have g4 : w8.frozen? ⟨gz, 4, none⟩ = false := z8.frozen 4
                  have y5 : w8.cell? ⟨gz, 5, none⟩ = some (.string ⟨#[]⟩) := z8.cell 5
                  have g5 : w8.frozen? ⟨gz, 5, none⟩ = false := z8.frozen 5
                  have hlz : gz < w8.heap.size := z8.lt
                  go_wp2_with fail
                  have zz := put6 z8
                  refine bodyPost_ret (v := .tuple #[.agg #[.int .i64 nt, .int .i64 0, .int .i64 0, .slice none 0 0, .int .i64 0, .string ⟨#[]⟩], .bool false]) (by simp [results, Tryz.results32, go_sem, zz.cell]) rfl ?_
                  exact LineRet.bad (below6 b8 hgzw)
            | some r =>
              obtain ⟨cost, form⟩ := r
              have hl3 := cutT_len hx3
              rw [cutP, hx3] at hc3
              rw [hx3] at hR2
              simp only at hc3 hR2
              clear hx3
              go_wp2_with fail
              refine (hc3 _ (HE.out _ b6).max).mono ?_
              rintro e w7 ⟨rfl, q3, rfl⟩
              have z7 := z6.drewN q3
              have b7 := below_drewsN b6 q3
              have x7 := hxb.drewN q3
              have HRP7 := Lib.hid (HRP6.out.drewN q3)
              obtain ⟨w7, hw7⟩ : ∃ W, w6.drewN q3 = W := ⟨_, rfl⟩
              rw [hw7] at z7 b7 x7 HRP7 ⊢
              clear hw7 z6 b6 hxb HRP6 hc3
              have hpr := atoi_parse cost
              have hcl : (ByteArray.mk cost.toArray).size ≤ 1000000 := by simp [ByteArray.size]; omega
              rcases hpr with ⟨v, hv1, hv2, hv3, hvr⟩ | ⟨hv1, hv2⟩
              · rw [hv1] at hR2
                simp only at hR2
                have hE : (decT v == cost) = true := by rw [hv3]; simp
                have hE2 : (decT v != cost) = false := by rw [hv3]; simp
                have hp := fun W => Tryz.strconv_Atoi_ok ⟨cost.toArray⟩ (by omega) v hv2 W
                clear hv1 hv2 hv3
                go_wp2_with fail
                refine (hp _).mono ?_
                rintro e w8 ⟨rfl, hw8⟩
                have hb8 : Below w7.heap.size w7 w8 := by
                  rcases hw8 with rfl | ⟨t, rfl⟩
                  · exact Below.refl _ _
                  · exact Lib.bytesWorld_below _ _ _
                clear hw8
                have z8 := z7.below hb8 z7.lt
                have b8 := b7.trans (hb8.mono b7.size)
                have x8 := x7.below hb8 x7.lt
                have HRP8 := Lib.hid (HRP7.out.below hb8)
                have y0 : w8.cell? ⟨gz, 0, none⟩ = some (.int .i64 nt) := z8.cell 0
                have g0 : w8.frozen? ⟨gz, 0, none⟩ = false := z8.frozen 0
                have y1 : w8.cell? ⟨gz, 1, none⟩ = some (.int .i64 0) := z8.cell 1
                have g1 : w8.frozen? ⟨gz, 1, none⟩ = false := z8.frozen 1
                have y2 : w8.cell? ⟨gz, 2, none⟩ = some (.int .i64 0) := z8.cell 2
                have g2 : w8.frozen? ⟨gz, 2, none⟩ = false := z8.frozen 2
                have y3 : w8.cell? ⟨gz, 3, none⟩ = some (.slice none 0 0) := z8.cell 3
                have g3 : w8.frozen? ⟨gz, 3, none⟩ = false := z8.frozen 3
                have y4 : w8.cell? ⟨gz, 4, none⟩ = some (.int .i64 0) := z8.cell 4
                have g4 : w8.frozen? ⟨gz, 4, none⟩ = false := z8.frozen 4
                have y5 : w8.cell? ⟨gz, 5, none⟩ = some (.string ⟨#[]⟩) := z8.cell 5
                have g5 : w8.frozen? ⟨gz, 5, none⟩ = false := z8.frozen 5
                have hlz : gz < w8.heap.size := z8.lt
                have x0 : w8.cell? ⟨gx, 0, none⟩ = some (.int .i64 p.op) := x8.cell 0
                have x1 : w8.cell? ⟨gx, 1, none⟩ = some (.int .i64 p.nt) := x8.cell 1
                have x2 : w8.cell? ⟨gx, 2, none⟩ = some (.slice A5 p.kids.length d5) := x8.cell 2
                have hlx : gx < w8.heap.size := x8.lt
                have hio := Tryz.strconv_Itoa v hvr.1 hvr.2 w8 (HE.out _ b8).pow
                rw [itoa_dec] at hio
                go_wp2_with fail
                refine hio.mono ?_
                rintro e w9 ⟨rfl, q9, os, hw9⟩
                have hb9 : Below w8.heap.size w8 w9 := by rw [hw9]; exact Lib.below_grow _ _ (Nat.le_refl _) q9 os
                clear hw9
                have z9 := z8.below hb9 z8.lt
                have b9 := b8.trans (hb9.mono b8.size)
                have x9 := x8.below hb9 x8.lt
                have HRP9 := Lib.hid (HRP8.out.below hb9)
                clear y0 y1 y2 y3 y4 y5 g0 g1 g2 g3 g4 g5 hlz
                clear x0 x1 x2 hlx
                have y0 : w9.cell? ⟨gz, 0, none⟩ = some (.int .i64 nt) := z9.cell 0
                have g0 : w9.frozen? ⟨gz, 0, none⟩ = false := z9.frozen 0
                have y1 : w9.cell? ⟨gz, 1, none⟩ = some (.int .i64 0) := z9.cell 1
                have g1 : w9.frozen? ⟨gz, 1, none⟩ = false := z9.frozen 1
                have y2 : w9.cell? ⟨gz, 2, none⟩ = some (.int .i64 0) := z9.cell 2
                have g2 : w9.frozen? ⟨gz, 2, none⟩ = false := z9.frozen 2
                have y3 : w9.cell? ⟨gz, 3, none⟩ = some (.slice none 0 0) := z9.cell 3
                have g3 : w9.frozen? ⟨gz, 3, none⟩ = false := z9.frozen 3
                have y4 : w9.cell? ⟨gz, 4, none⟩ = some (.int .i64 0) := z9.cell 4
                have g4 : w9.frozen? ⟨gz, 4, none⟩ = false := z9.frozen 4
                have y5 : w9.cell? ⟨gz, 5, none⟩ = some (.string ⟨#[]⟩) := z9.cell 5
                have g5 : w9.frozen? ⟨gz, 5, none⟩ = false := z9.frozen 5
                have hlz : gz < w9.heap.size := z9.lt
                have x0 : w9.cell? ⟨gx, 0, none⟩ = some (.int .i64 p.op) := x9.cell 0
                have x1 : w9.cell? ⟨gx, 1, none⟩ = some (.int .i64 p.nt) := x9.cell 1
                have x2 : w9.cell? ⟨gx, 2, none⟩ = some (.slice A5 p.kids.length d5) := x9.cell 2
                have hlx : gx < w9.heap.size := x9.lt
                go_upto_region 18 with fail
                obtain ⟨wa, hwa⟩ : ∃ W, ((((w9.setCell ⟨gz, 1, none⟩ (.int .i64 p.op)).setCell ⟨gz, 2, none⟩ (.int .i64 p.nt)).setCell ⟨gz, 3, none⟩ (.slice A5 p.kids.length d5)).setCell ⟨gz, 4, none⟩ (.int .i64 v)).setCell ⟨gz, 5, none⟩ (.string ⟨form.toArray⟩) = W := ⟨_, rfl⟩
                have za : BlkIs wa gz 47 #[.int .i64 nt, .int .i64 p.op, .int .i64 p.nt, .slice A5 p.kids.length d5, .int .i64 v, .string ⟨form.toArray⟩] := by rw [← hwa]; exact ((((z9.put 1 _).put 2 _).put 3 _).put 4 _).put 5 _
                have ba : Below w.heap.size w wa := by rw [← hwa]; exact pbelow1 (pbelow1 (pbelow1 (pbelow1 (pbelow1 b9 hgzw) hgzw) hgzw) hgzw) hgzw
                have HRPa : Hid (Rep wa (fun k => gz < k) (encP p) [.int .i64 p.op, .int .i64 p.nt, .slice A5 p.kids.length d5]) := Lib.hid (by rw [← hwa]; exact rep_set1 (rep_set1 (rep_set1 (rep_set1 (rep_set1 HRP9.out)))))
                rw [hwa]
                clear hwa
                clear y0 y1 y2 y3 y4 y5 g0 g1 g2 g3 g4 g5 hlz
                clear x0 x1 x2 hlx
                have y0 : wa.cell? ⟨gz, 0, none⟩ = some (.int .i64 nt) := za.cell 0
                have g0 : wa.frozen? ⟨gz, 0, none⟩ = false := za.frozen 0
                have y1 : wa.cell? ⟨gz, 1, none⟩ = some (.int .i64 p.op) := za.cell 1
                have g1 : wa.frozen? ⟨gz, 1, none⟩ = false := za.frozen 1
                have y2 : wa.cell? ⟨gz, 2, none⟩ = some (.int .i64 p.nt) := za.cell 2
                have g2 : wa.frozen? ⟨gz, 2, none⟩ = false := za.frozen 2
                have y3 : wa.cell? ⟨gz, 3, none⟩ = some (.slice A5 p.kids.length d5) := za.cell 3
                have g3 : wa.frozen? ⟨gz, 3, none⟩ = false := za.frozen 3
                have y4 : wa.cell? ⟨gz, 4, none⟩ = some (.int .i64 v) := za.cell 4
                have g4 : wa.frozen? ⟨gz, 4, none⟩ = false := za.frozen 4
                have y5 : wa.cell? ⟨gz, 5, none⟩ = some (.string ⟨form.toArray⟩) := za.cell 5
                have g5 : wa.frozen? ⟨gz, 5, none⟩ = false := za.frozen 5
                have hlz : gz < wa.heap.size := za.lt
                go_wp2_with fail
                have zz := put6 za
                refine bodyPost_ret (v := .tuple #[.agg #[.int .i64 nt, .int .i64 p.op, .int .i64 p.nt, .slice A5 p.kids.length d5, .int .i64 v, .string ⟨form.toArray⟩], .bool true]) (by simp [results, Tryz.results32, go_sem, zz.cell]) rfl ?_
                rw [← hR2]
                refine ⟨below6 ba hgzw, A5, d5, by rw [← hnt.out], ?_⟩
                exact (rep_set1 (rep_set1 (rep_set1 (rep_set1 (rep_set1 (rep_set1 HRPa.out)))))).imp (fun k hk _ => by omega)
              · rw [hv1] at hR2
                simp only at hR2
                subst hR2
                rcases hpe : Lib.atoiAll cost with v | _ | _
                · obtain ⟨hne, hvr⟩ := hv2 v hpe
                  have hv2 := hpe
                  have hp := fun W => Tryz.strconv_Atoi_ok ⟨cost.toArray⟩ (by omega) v hv2 W
                  have hE : (decT v == cost) = false := by simpa using hne
                  have hE2 : (decT v != cost) = true := by simpa using hne
                  clear hv1 hpe hne hv2
                  go_wp2_with fail
                  refine (hp _).mono ?_
                  rintro e w8 ⟨rfl, hw8⟩
                  have hb8 : Below w7.heap.size w7 w8 := by
                    rcases hw8 with rfl | ⟨t, rfl⟩
                    · exact Below.refl _ _
                    · exact Lib.bytesWorld_below _ _ _
                  clear hw8
                  have z8 := z7.below hb8 z7.lt
                  have b8 := b7.trans (hb8.mono b7.size)
                  have x8 := x7.below hb8 x7.lt
                  have HRP8 := Lib.hid (HRP7.out.below hb8)
                  have y0 : w8.cell? ⟨gz, 0, none⟩ = some (.int .i64 nt) := z8.cell 0
                  have g0 : w8.frozen? ⟨gz, 0, none⟩ = false := z8.frozen 0
                  have y1 : w8.cell? ⟨gz, 1, none⟩ = some (.int .i64 0) := z8.cell 1
                  have g1 : w8.frozen? ⟨gz, 1, none⟩ = false := z8.frozen 1
                  have y2 : w8.cell? ⟨gz, 2, none⟩ = some (.int .i64 0) := z8.cell 2
                  have g2 : w8.frozen? ⟨gz, 2, none⟩ = false := z8.frozen 2
                  have y3 : w8.cell? ⟨gz, 3, none⟩ = some (.slice none 0 0) := z8.cell 3
                  have g3 : w8.frozen? ⟨gz, 3, none⟩ = false := z8.frozen 3
                  have y4 : w8.cell? ⟨gz, 4, none⟩ = some (.int .i64 0) := z8.cell 4
                  have g4 : w8.frozen? ⟨gz, 4, none⟩ = false := z8.frozen 4
                  have y5 : w8.cell? ⟨gz, 5, none⟩ = some (.string ⟨#[]⟩) := z8.cell 5
                  have g5 : w8.frozen? ⟨gz, 5, none⟩ = false := z8.frozen 5
                  have hlz : gz < w8.heap.size := z8.lt
                  have hio := Tryz.strconv_Itoa v hvr.1 hvr.2 w8 (HE.out _ b8).pow
                  rw [itoa_dec] at hio
                  go_wp2_with fail
                  refine hio.mono ?_
                  rintro e w9 ⟨rfl, q9, os, hw9⟩
                  have hb9 : Below w8.heap.size w8 w9 := by rw [hw9]; exact Lib.below_grow _ _ (Nat.le_refl _) q9 os
                  clear hw9
                  have z9 := z8.below hb9 z8.lt
                  have b9 := b8.trans (hb9.mono b8.size)
                  clear y0 y1 y2 y3 y4 y5 g0 g1 g2 g3 g4 g5 hlz
                  have y0 : w9.cell? ⟨gz, 0, none⟩ = some (.int .i64 nt) := z9.cell 0
                  have g0 : w9.frozen? ⟨gz, 0, none⟩ = false := z9.frozen 0
                  have y1 : w9.cell? ⟨gz, 1, none⟩ = some (.int .i64 0) := z9.cell 1
                  have g1 : w9.frozen? ⟨gz, 1, none⟩ = false := z9.frozen 1
                  have y2 : w9.cell? ⟨gz, 2, none⟩ = some (.int .i64 0) := z9.cell 2
                  have g2 : w9.frozen? ⟨gz, 2, none⟩ = false := z9.frozen 2
                  have y3 : w9.cell? ⟨gz, 3, none⟩ = some (.slice none 0 0) := z9.cell 3
                  have g3 : w9.frozen? ⟨gz, 3, none⟩ = false := z9.frozen 3
                  have y4 : w9.cell? ⟨gz, 4, none⟩ = some (.int .i64 0) := z9.cell 4
                  have g4 : w9.frozen? ⟨gz, 4, none⟩ = false := z9.frozen 4
                  have y5 : w9.cell? ⟨gz, 5, none⟩ = some (.string ⟨#[]⟩) := z9.cell 5
                  have g5 : w9.frozen? ⟨gz, 5, none⟩ = false := z9.frozen 5
                  have hlz : gz < w9.heap.size := z9.lt
                  go_wp2_with fail
                  have zz := put6 z9
                  refine bodyPost_ret (v := .tuple #[.agg #[.int .i64 nt, .int .i64 0, .int .i64 0, .slice none 0 0, .int .i64 0, .string ⟨#[]⟩], .bool false]) (by simp [results, Tryz.results32, go_sem, zz.cell]) rfl ?_
                  exact LineRet.bad (below6 b9 hgzw)
                · obtain ⟨tp, pp, hvar⟩ := (HE.out _ b7).e1
                  have hp := Any.strconv_Atoi_syntax_var Tryz.laysC172 ⟨cost.toArray⟩ (by omega) hpe tp pp w7 hvar
                  rw [show Tryz.laysC172_ren.t 168 = 116 by kernel_rfl] at hp
                  clear hv1 hv2 hpe hvar
                  go_wp2_with fail
                  refine hp.mono ?_
                  rintro e w8 ⟨N8, rfl, _, _, hb8⟩
                  have z8 := z7.below hb8 z7.lt
                  have b8 := b7.trans (hb8.mono b7.size)
                  have y0 : w8.cell? ⟨gz, 0, none⟩ = some (.int .i64 nt) := z8.cell 0
                  have g0 : w8.frozen? ⟨gz, 0, none⟩ = false := z8.frozen 0
                  have y1 : w8.cell? ⟨gz, 1, none⟩ = some (.int .i64 0) := z8.cell 1
                  have g1 : w8.frozen? ⟨gz, 1, none⟩ = false := z8.frozen 1
                  have y2 : w8.cell? ⟨gz, 2, none⟩ = some (.int .i64 0) := z8.cell 2
                  have g2 : w8.frozen? ⟨gz, 2, none⟩ = false := z8.frozen 2
                  have y3 : w8.cell? ⟨gz, 3, none⟩ = some (.slice none 0 0) := z8.cell 3
                  have g3 : w8.frozen? ⟨gz, 3, none⟩ = false := z8.frozen 3
                  have y4 : w8.cell? ⟨gz, 4, none⟩ = some (.int .i64 0) := z8.cell 4
                  have g4 : w8.frozen? ⟨gz, 4, none⟩ = false := z8.frozen 4
                  have y5 : w8.cell? ⟨gz, 5, none⟩ = some (.string ⟨#[]⟩) := z8.cell 5
                  have g5 : w8.frozen? ⟨gz, 5, none⟩ = false := z8.frozen 5
                  have hlz : gz < w8.heap.size := z8.lt
                  go_wp2_with fail
                  have zz := put6 z8
                  refine bodyPost_ret (v := .tuple #[.agg #[.int .i64 nt, .int .i64 0, .int .i64 0, .slice none 0 0, .int .i64 0, .string ⟨#[]⟩], .bool false]) (by simp [results, Tryz.results32, go_sem, zz.cell]) rfl ?_
                  exact LineRet.bad (below6 b8 hgzw)
                · obtain ⟨tp, pp, hvar⟩ := (HE.out _ b7).e2
                  have hp := Any.strconv_Atoi_range_var Tryz.laysC172 ⟨cost.toArray⟩ (by omega) hpe tp pp w7 hvar
                  rw [show Tryz.laysC172_ren.t 168 = 116 by kernel_rfl] at hp
                  clear hv1 hv2 hpe hvar
                  go_wp2_with fail
                  refine hp.mono ?_
                  rintro e w8 ⟨N8, rfl, _, _, hb8⟩
                  have z8 := z7.below hb8 z7.lt
                  have b8 := b7.trans (hb8.mono b7.size)
                  have y0 : w8.cell? ⟨gz, 0, none⟩ = some (.int .i64 nt) := z8.cell 0
                  have g0 : w8.frozen? ⟨gz, 0, none⟩ = false := z8.frozen 0
                  have y1 : w8.cell? ⟨gz, 1, none⟩ = some (.int .i64 0) := z8.cell 1
                  have g1 : w8.frozen? ⟨gz, 1, none⟩ = false := z8.frozen 1
                  have y2 : w8.cell? ⟨gz, 2, none⟩ = some (.int .i64 0) := z8.cell 2
                  have g2 : w8.frozen? ⟨gz, 2, none⟩ = false := z8.frozen 2
                  have y3 : w8.cell? ⟨gz, 3, none⟩ = some (.slice none 0 0) := z8.cell 3
                  have g3 : w8.frozen? ⟨gz, 3, none⟩ = false := z8.frozen 3
                  have y4 : w8.cell? ⟨gz, 4, none⟩ = some (.int .i64 0) := z8.cell 4
                  have g4 : w8.frozen? ⟨gz, 4, none⟩ = false := z8.frozen 4
                  have y5 : w8.cell? ⟨gz, 5, none⟩ = some (.string ⟨#[]⟩) := z8.cell 5
                  have g5 : w8.frozen? ⟨gz, 5, none⟩ = false := z8.frozen 5
                  have hlz : gz < w8.heap.size := z8.lt
                  go_wp2_with fail
                  have zz := put6 z8
                  refine bodyPost_ret (v := .tuple #[.agg #[.int .i64 nt, .int .i64 0, .int .i64 0, .slice none 0 0, .int .i64 0, .string ⟨#[]⟩], .bool false]) (by simp [results, Tryz.results32, go_sem, zz.cell]) rfl ?_
                  exact LineRet.bad (below6 b8 hgzw)
          · rw [if_neg hrest] at hR2
            subst hR2
            have hE : (rest == []) = false := by simpa using hrest
            have hE2 : (rest != []) = true := by simpa using hrest
            clear hrest
            go_wp2_with fail
            have zz := (put6 z5).alloc (.cells #[.int .i64 p.op, .int .i64 p.nt, .slice A5 p.kids.length d5] 45)
            refine bodyPost_ret (v := .tuple #[.agg #[.int .i64 nt, .int .i64 0, .int .i64 0, .slice none 0 0, .int .i64 0, .string ⟨#[]⟩], .bool false]) (by simp [results, Tryz.results32, go_sem, zz.cell]) rfl ?_
            exact LineRet.bad ((below6 b5 hgzw).alloc (by have := (below6 (a := .int .i64 nt) (b := .int .i64 0) (c := .int .i64 0) (d := .slice none 0 0) (e := .int .i64 0) (f := .string ⟨#[]⟩) b5 hgzw).size; omega) _)

end

/- desc.Parse walked. (Printed by gen/gen_dtg.py.) -/
section
open Go.RowKit

def ParseRetD (o : Option (List Rule)) (w : World) (e : Ending) (w' : World) : Prop := Below w.heap.size w w' ∧ match o with
  | none => e = .returned (.tuple #[.slice none 0 0, .int .i64 1])
  | some l => ∃ (A : Option Addr) (d : Nat), e = .returned (.tuple #[.slice A l.length d, .int .i64 0]) ∧ Rep w' (fun k => w.heap.size ≤ k) (.lst 6 (l.map encR)) [.slice A l.length d]

set_option maxRecDepth 100000 in
set_option maxHeartbeats 8000000 in
theorem parseD_any (s : List UInt8) (hs : s.length ≤ 140737488355327) (w : World) (henv : DEnv w) : Calls Tryz.prog 12 #[.string ⟨s.toArray⟩] w (ParseRetD (parseD s) w) := by
  have HE : Hid (∀ W, Below w.heap.size w W → DEnv W) := Lib.hid (fun W h => henv.below h)
  clear henv
  have hsz : (⟨s.toArray⟩ : ByteArray).size = s.length := by simp [ByteArray.size]
  obtain ⟨R, hR⟩ : ∃ R, Hid (parseD s = R) := ⟨_, Lib.hid rfl⟩
  rw [hR.out]
  have hR2 := hR.out
  unfold parseD at hR2
  go_enter Tryz.func12, Tryz.ntmps12
  by_cases hbig : 16000 < s.length
  · rw [if_pos hbig] at hR2
    obtain rfl : R = none := hR2.symm
    go_wp2_with fail
    refine bodyPost_ret (v := .tuple #[.slice none 0 0, .int .i64 1]) (by simp [results, Tryz.results12, go_sem]) rfl ?_
    exact ⟨Below.refl _ _, rfl⟩
  · rw [if_neg hbig] at hR2
    obtain ⟨X, hXX⟩ : ∃ X, Hid (linesD s.length s = X) := ⟨_, Lib.hid rfl⟩
    rw [hXX.out] at hR2
    go_wp2_with fail
    go_loopw [0, 4] (fun u0 v wr => ∃ (sk : List UInt8) (done : List Rule) (f : Nat), u0 = .string ⟨sk.toArray⟩ ∧ sk.length ≤ f ∧ done.length + sk.length ≤ s.length ∧ Hid (X = (linesD f sk).map (fun l => done ++ l)) ∧ Hid (Own wr w.heap.size (fun g => w.heap.size ≤ g) 47 6 v (done.map encR)) ∧ Below w.heap.size w wr) (fun u0 _ _ => match u0 with | .string b => b.size | _ => 0)
    case atStart => exact ⟨s, [], s.length, rfl, Nat.le_refl _, by simp, Lib.hid (by rw [hXX.out]; cases X <;> simp), Lib.hid (Own.nil _ _ _ _ _), Below.refl _ _⟩
    case round =>
      obtain ⟨sk, done, fu, rfl, hfu, hdl, hX, hown, hb⟩ := hrel
      obtain ⟨wo, rfl⟩ : ∃ wo : World, wo = wr := ⟨_, rfl⟩
      replace hX := hX.out
      obtain ⟨Av, dv, rfl, _⟩ := hown.out.rep.len
      rw [List.length_map] at hown ⊢
      obtain ⟨dn, hdn⟩ : ∃ x, Hid (done.length = x) := ⟨_, Lib.hid rfl⟩
      rw [hdn.out] at hown hdl ⊢
      by_cases hne : sk = []
      · subst hne
        rw [linesD_nil, Option.map_some, List.append_nil] at hX
        rw [hX] at hR2
        simp only at hR2
        have HRI : Hid (RulesIn wo Av dv done) := Lib.hid (by
          have h := hown.out.rep
          rw [← hdn.out] at h
          exact ⟨_, h⟩)
        have hwf : RulesWf done := ⟨by rw [hdn.out]; unfold reachBytes; omega, linesD_wf s.length s done (by rw [hXX.out, hX]) (by omega)⟩
        have f1 := may_any done hwf Av dv wo HRI.out
        rw [hdn.out] at f1
        clear hwf
        cases hm : mayRs done
        · rw [hm, if_neg (by decide)] at hR2
          rw [hm] at f1
          obtain rfl : R = none := hR2.symm
          go_wp2_with fail
          refine f1.mono ?_
          rintro e w2 ⟨rfl, hb2⟩
          go_wp2_with fail
          refine bodyPost_ret (v := .tuple #[.slice none 0 0, .int .i64 1]) (by simp [results, Tryz.results12, go_sem]) rfl ?_
          exact ⟨hb.trans (hb2.mono hb.size), rfl⟩
        · rw [hm, if_pos rfl] at hR2
          rw [hm] at f1
          obtain rfl : R = some done := hR2.symm
          go_wp2_with fail
          refine f1.mono ?_
          rintro e w2 ⟨rfl, hb2⟩
          go_wp2_with fail
          refine bodyPost_ret (v := .tuple #[.slice Av dn dv, .int .i64 0]) (by simp [results, Tryz.results12, go_sem]) rfl ?_
          refine ⟨hb.trans (hb2.mono hb.size), Av, dv, by rw [hdn.out], ?_⟩
          have h := (hown.out.below hb2).rep
          rw [hdn.out]
          exact h.imp (fun _ hq _ => by rcases hq with h | h <;> exact h)
      · have hE : (sk == []) = false := by simpa using hne
        have hE2 : (sk != []) = true := by simpa using hne
        have hlt : 0 < sk.length := by
          cases sk with
          | nil => exact absurd rfl hne
          | cons _ _ => simp
        obtain ⟨fg, rfl, hcons⟩ := linesD_cons hne hfu
        rw [hcons] at hX
        clear hcons hne
        have hc := fun W h => dcut_any sk [10] (by omega) W h
        unfold cutP at hc
        cases hx : cutT sk [10] with
        | none =>
          rw [hx] at hX hc
          simp only at hX hc
          rw [Option.map_none] at hX
          rw [hX] at hR2
          simp only at hR2
          obtain rfl : R = none := hR2.symm
          clear hx
          go_wp2_with fail
          refine (hc _ (HE.out _ hb).max).mono ?_
          rintro e w1 ⟨rfl, q1, rfl⟩
          have hb1 := below_drewsN hb q1
          have hln := line_any sk (by omega) (wo.drewN q1) (HE.out _ hb1)
          unfold LineRet at hln
          cases hx2 : lineD sk with
          | none =>
            rw [hx2] at hln
            simp only at hln
            go_wp2_with fail
            refine hln.mono ?_
            rintro e w2 ⟨hb12, a, b, c, A2, n, d2, f2, x2, rfl⟩
            have hb2 := hb1.trans (hb12.mono hb1.size)
            go_wp2_with fail
            refine bodyPost_ret (v := .tuple #[.slice none 0 0, .int .i64 1]) (by simp [results, Tryz.results12, go_sem]) rfl ?_
            exact ⟨hb2.alloc hb2.size _, rfl⟩
          | some r =>
            rw [hx2] at hln
            simp only at hln
            go_wp2_with fail
            refine hln.mono ?_
            rintro e w2 ⟨hb12, A2, d2, rfl, hrep⟩
            have hb2 := hb1.trans (hb12.mono hb1.size)
            go_wp2_with fail
            refine bodyPost_ret (v := .tuple #[.slice none 0 0, .int .i64 1]) (by simp [results, Tryz.results12, go_sem]) rfl ?_
            exact ⟨hb2.alloc hb2.size _, rfl⟩
        | some q =>
          obtain ⟨first, rest⟩ := q
          have hl1 := cutT_len hx
          have hl2 := cutT_less hx hlt (by simp)
          rw [hx] at hX hc
          simp only at hX hc
          clear hx
          go_wp2_with fail
          refine (hc _ (HE.out _ hb).max).mono ?_
          rintro e w1 ⟨rfl, q1, rfl⟩
          have hb1 := below_drewsN hb q1
          have hln := line_any first (by omega) (wo.drewN q1) (HE.out _ hb1)
          unfold LineRet at hln
          cases hx2 : lineD first with
          | none =>
            rw [hx2] at hln hX
            simp only [Option.map_none] at hln hX
            rw [hX] at hR2
            simp only at hR2
            obtain rfl : R = none := hR2.symm
            go_wp2_with fail
            refine hln.mono ?_
            rintro e w2 ⟨hb12, a, b, c, A2, n, d2, f2, x2, rfl⟩
            have hb2 := hb1.trans (hb12.mono hb1.size)
            go_wp2_with fail
            refine bodyPost_ret (v := .tuple #[.slice none 0 0, .int .i64 1]) (by simp [results, Tryz.results12, go_sem]) rfl ?_
            exact ⟨hb2.alloc hb2.size _, rfl⟩
          | some r =>
            rw [hx2] at hln hX
            simp only at hln hX
            go_wp2_with fail
            refine hln.mono ?_
            rintro e w2 ⟨hb12, A2, d2, rfl, hrep⟩
            have hb2 := hb1.trans (hb12.mono hb1.size)
            obtain ⟨v, hv⟩ : ∃ x, Hid (Value.slice Av dn dv = x) := ⟨_, Lib.hid rfl⟩
            rw [hv.out] at hown ⊢
            have HR : Hid (Rep w2 (fun k => (wo.drewN q1).heap.size ≤ k) (encR r) [.int .i64 r.nt, .int .i64 r.pat.op, .int .i64 r.pat.nt, .slice A2 r.pat.kids.length d2, .int .i64 r.cost, .string ⟨r.form.toArray⟩]) := Lib.hid (rep_rule_of hrep)
            have hdr : (wo.drewN q1).heap.size = wo.heap.size := rfl
            rw [hdr] at HR
            have HO2 := Lib.hid ((hown.out.drewN q1).below hb12)
            have hne2 : Hid (∀ g, wo.heap.size ≤ g → some g ≠ v.ownBlock) := Lib.hid (fun g hg => hown.out.ne_far hg)
            have hwz := hb.size
            have hwz2 := hb2.size
            have hdl2 : (done.map encR).length ≤ 1000000000 := by rw [List.length_map, hdn.out]; omega
            clear hrep hln hown hdr
            have HR' := Lib.hid (HR.out.imp (ok' := fun g => w.heap.size ≤ g ∧ some g ≠ v.ownBlock) (fun g hg _ => ⟨by omega, hne2.out g hg⟩))
            clear HR hne2
            go_wp2_with (at_builtin; go_must (refine append_one rfl (.tmp 32) (.tmp 34) 28 47 6 72 _ rfl Tryz.underlying28 rule_info rfl (by decide) (by decide) w.heap.size (fun g => w.heap.size ≤ g) v (done.map encR) rfl (w2.heap.size + 1) rfl ((HO2.out.alloc _).alloc _) [.int .i64 r.nt, .int .i64 r.pat.op, .int .i64 r.pat.nt, .slice A2 r.pat.kids.length d2, .int .i64 r.cost, .string ⟨r.form.toArray⟩] (encR r) (BlkIs.fresh1 _ _ _ _) rfl (by simp [Value.oneCell']) ((HR'.out.alloc _).alloc _) hdl2 (by simp; omega) ?_); intro v2 w3 hown3 hb3 hk3)
            go_roundw
            case rel => exact ⟨rest, done ++ [r], fg, rfl, by omega, by simp [hdn.out]; omega, Lib.hid (by rw [hX]; cases linesD fg rest <;> simp), Lib.hid (by rw [List.map_append]; exact hown3), ((hb2.alloc hb2.size _).alloc (by have := hb2.size; simp; omega) _).trans hb3⟩
            case measure => simp [ByteArray.size]; omega

end

end Go.Proofs.YthdicdkgfmiepaaGreatDoor

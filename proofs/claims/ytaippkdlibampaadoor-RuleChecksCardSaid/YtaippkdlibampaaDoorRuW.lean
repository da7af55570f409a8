/- The reference's Check walked. -/
import Derived.Test.YtaippkdlibampaaDoorRuV
namespace Go.Proofs.YtaippkdlibampaaDoor
open Go.RowKit

theorem formOf_form {s : List UInt8} {x : Rule} (h : formOf s = some x) : x.form = s := by
  unfold formOf at h
  have := List.find?_some h
  simpa using this

theorem rightR_same {r x : Rule} (h : formOf r.form = some x) : rightR r = same (⟨x.nt, x.pat, r.cost, x.form⟩ : Rule) r := by
  unfold rightR
  rw [h, Bool.eq_iff_iff, same_iff, Rule.ext_iff']
  simp [same_iff, formOf_form h]

set_option maxRecDepth 100000 in
set_option maxHeartbeats 4000000 in
theorem checkR_any (rs : List Rule) (hwf : RulesWf rs) (A : Option Addr) (c : Nat) (w : World) (hr : RulesIn w A c rs) :
    Calls Tryd.prog 19 #[.slice A rs.length c] w (IntRet (checkE rs) w) := by
  have hmay := fun W hW => mayR_any rs hwf A c W hW
  obtain ⟨hl, _⟩ := hwf
  unfold reachBytes at hl
  obtain ⟨n, hn⟩ : ∃ n, Hid (rs.length = n) := ⟨_, Lib.hid rfl⟩
  obtain ⟨f, hf⟩ : ∃ x, Hid (checkE rs = x) := ⟨_, Lib.hid rfl⟩
  have HR := Lib.hid hr
  rw [hn.out] at hl hmay
  rw [hn.out, hf.out]
  clear hr
  obtain ⟨m, hm⟩ : ∃ x, Hid (mayRs rs = x) := ⟨_, Lib.hid rfl⟩
  rw [hm.out] at hmay
  cases m
  · obtain rfl : f = 1 := by rw [← hf.out]; unfold checkE; rw [hm.out]; simp
    go_enter Tryd.func19, Tryd.ntmps19
    go_wp2_with fail
    refine (hmay _ HR.out).mono ?_
    rintro e w1 ⟨rfl, hb1⟩
    go_wp2_with fail
    go_ret
    exact ⟨rfl, hb1⟩
  · have hbad := Lib.hid (checkE_bad rs hm.out)
    go_enter Tryd.func19, Tryd.ntmps19
    go_wp2_with fail
    refine (hmay _ HR.out).mono ?_
    rintro e w1 ⟨rfl, hb1⟩
    clear hmay
    go_wp2_with fail
    go_loopw [3] (fun i wr => ∃ k : Nat, k ≤ n ∧ i = .int .i64 k ∧ Below w.heap.size w wr ∧ Hid (∀ j (h : j < rs.length), j < k → rightR rs[j] = true)) (fun i _ => n - (intOf i).toNat)
    case atStart => exact ⟨0, by omega, rfl, hb1, Lib.hid (fun j _ h => absurd h (by omega))⟩
    case round =>
      obtain ⟨k, hk, rfl, hb, hall⟩ := hrel
      obtain ⟨wo, rfl⟩ : ∃ wo : World, wo = wr := ⟨_, rfl⟩
      clear hb1
      by_cases hlt : k < n
      · have hkl : k < rs.length := by rw [hn.out]; exact hlt
        obtain ⟨ok, hrs⟩ := HR.out.below hb
        obtain ⟨g, off, B, d, rfl, _, hg, ⟨a0, a1, a2, a3, a4, a5⟩, _, hpi⟩ := rules_at hrs k hkl
        obtain ⟨r, hre⟩ : ∃ r, Hid (rs[k] = r) := ⟨_, Lib.hid rfl⟩
        rw [hre.out] at a0 a1 a2 a3 a4 a5 hpi
        have HP : Hid (PatIn wo B d r.pat) := Lib.hid ⟨_, hpi⟩
        have hbz := hb.size
        have hbd : Hid (rightR r = false → f = 9) := Lib.hid (fun h => by rw [← hf.out]; exact hbad.out k hkl (by rw [hre.out]; exact h))
        have hF := fun W => refForm_any r.form W
        clear hrs hpi
        cases hfo : formOf r.form with
        | none =>
          rw [hfo] at hF
          simp only [Option.getD_none, Option.isSome_none] at hF
          obtain rfl : f = 9 := hbd.out (by unfold rightR; rw [hfo])
          go_wp2_with fail
          refine (hF _).mono ?_
          rintro e w3 ⟨A3, c3, rfl, _, hb3⟩
          obtain ⟨x0, x1, x2, x3, x4, x5⟩ := later6 hb3 ⟨a0, a1, a2, a3, a4, a5⟩
          have hb6 := hb.trans (hb3.mono hb.size)
          have hb6z := hb6.size
          have hg3 : g < w3.heap.size := by have := hb3.size; omega
          clear hF a0 a1 a2 a3 a4 a5
          go_wp2_with fail
          go_quiet (fail)
          go_wp2_with fail
          go_ret
          exact ⟨rfl, below_drewsN (hb6.alloc hb6z _) _⟩
        | some x =>
          rw [hfo] at hF
          simp only [Option.getD_some, Option.isSome_some] at hF
          have hri : Hid (rightR r = same (⟨x.nt, x.pat, r.cost, x.form⟩ : Rule) r) := Lib.hid (rightR_same hfo)
          clear hfo
          go_wp2_with fail
          refine (hF _).mono ?_
          rintro e w3 ⟨A3, c3, rfl, hp3, hb3⟩
          have HP3 : Hid (PatIn w3 A3 c3 x.pat) := Lib.hid (patIn_of_ret hp3)
          have HP13 : Hid (PatIn w3 B d r.pat) := Lib.hid (HP.out.below hb3)
          obtain ⟨x0, x1, x2, x3, x4, x5⟩ := later6 hb3 ⟨a0, a1, a2, a3, a4, a5⟩
          have hb6 := hb.trans (hb3.mono hb.size)
          have hb6z := hb6.size
          have hg3 : g < w3.heap.size := by have := hb3.size; omega
          have hQ := fun W => eqRule_any (⟨x.nt, x.pat, r.cost, x.form⟩ : Rule) r A3 B c3 d W
          obtain ⟨s, hs⟩ : ∃ s, Hid (same (⟨x.nt, x.pat, r.cost, x.form⟩ : Rule) r = s) := ⟨_, Lib.hid rfl⟩
          rw [hs.out] at hQ
          clear hF hp3 HP a0 a1 a2 a3 a4 a5
          go_wp2_with fail
          obtain ⟨w4, hw4⟩ : ∃ w4, w4 = w3.alloc (.cells #[.int .i64 x.nt, .int .i64 x.pat.op, .int .i64 x.pat.nt, .slice A3 x.pat.kids.length c3, .int .i64 r.cost, .string ⟨x.form.toArray⟩] 33) := ⟨_, rfl⟩
          have hb4 : Below w3.heap.size w3 w4 := by rw [hw4]; exact below_alloc _ _
          obtain ⟨q0, q1, q2, q3, q4, q5⟩ := later6 hb4 ⟨x0, x1, x2, x3, x4, x5⟩
          have r0 : w4.cell? ⟨w3.heap.size, 0, none⟩ = some (.int .i64 x.nt) := by rw [hw4]; simp
          have r1 : w4.cell? ⟨w3.heap.size, 1, none⟩ = some (.int .i64 x.pat.op) := by rw [hw4]; simp
          have r2 : w4.cell? ⟨w3.heap.size, 2, none⟩ = some (.int .i64 x.pat.nt) := by rw [hw4]; simp
          have r3 : w4.cell? ⟨w3.heap.size, 3, none⟩ = some (.slice A3 x.pat.kids.length c3) := by rw [hw4]; simp
          have r4 : w4.cell? ⟨w3.heap.size, 4, none⟩ = some (.int .i64 r.cost) := by rw [hw4]; simp
          have r5 : w4.cell? ⟨w3.heap.size, 5, none⟩ = some (.string ⟨x.form.toArray⟩) := by rw [hw4]; simp
          have H4 : Hid (PatIn w4 A3 c3 x.pat) := Lib.hid (HP3.out.below hb4)
          have H4' : Hid (PatIn w4 B d r.pat) := Lib.hid (HP13.out.below hb4)
          have hlt4 : w3.heap.size < w4.heap.size := by rw [hw4]; simp
          have hb8 : Below w.heap.size w w4 := hb6.trans (hb4.mono hb6z)
          have hb8z := hb8.size
          rw [← hw4]
          clear hw4 x0 x1 x2 x3 x4 x5
          cases s
          all_goals
            go_region_held3 (fun W => W.cell? ⟨g, off + k * 6, none⟩ = some (.int .i64 r.nt) ∧ W.cell? ⟨g, off + k * 6 + 1, none⟩ = some (.int .i64 r.pat.op) ∧ W.cell? ⟨g, off + k * 6 + 2, none⟩ = some (.int .i64 r.pat.nt) ∧ W.cell? ⟨g, off + k * 6 + 3, none⟩ = some (.slice B r.pat.kids.length d) ∧ W.cell? ⟨g, off + k * 6 + 4, none⟩ = some (.int .i64 r.cost) ∧ W.cell? ⟨g, off + k * 6 + 5, none⟩ = some (.string ⟨r.form.toArray⟩) ∧ W.cell? ⟨w3.heap.size, 0, none⟩ = some (.int .i64 x.nt) ∧ W.cell? ⟨w3.heap.size, 1, none⟩ = some (.int .i64 x.pat.op) ∧ W.cell? ⟨w3.heap.size, 2, none⟩ = some (.int .i64 x.pat.nt) ∧ W.cell? ⟨w3.heap.size, 3, none⟩ = some (.slice A3 x.pat.kids.length c3) ∧ W.cell? ⟨w3.heap.size, 4, none⟩ = some (.int .i64 r.cost) ∧ W.cell? ⟨w3.heap.size, 5, none⟩ = some (.string ⟨x.form.toArray⟩)) ((refine ⟨?_, ?_, ?_, ?_, ?_, ?_, ?_, ?_, ?_, ?_, ?_, ?_⟩ <;> (with_reducible (repeat (first | assumption | refine cell_drewN ?_ _ | refine cell_drew ?_)))))
              ((go_at_call 13; refine (hQ _ (show PatIn _ _ _ _ from by with_reducible (repeat (first | exact H4.out | refine PatIn.drewN ?_ _ | refine PatIn.drew ?_))) (show PatIn _ _ _ _ from by with_reducible (repeat (first | exact H4'.out | refine PatIn.drewN ?_ _ | refine PatIn.drew ?_)))).mono ?_; rintro e w5 ⟨rfl, hb7⟩; obtain ⟨y0, y1, y2, y3, y4, y5⟩ := later6 hb7 ⟨q0, q1, q2, q3, q4, q5⟩; obtain ⟨z0, z1, z2, z3, z4, z5⟩ := later6 hb7 ⟨r0, r1, r2, r3, r4, r5⟩))
            go_wp2_with fail
            have hb9 : Below w.heap.size w w5 := hb8.trans (((Below.refl _ _).drew).trans (hb7.mono hb8z))
          · obtain rfl : f = 9 := hbd.out (by rw [hri.out, hs.out])
            go_ret
            exact ⟨rfl, hb9⟩
          · go_roundw
            case rel =>
              refine ⟨k + 1, by omega, by go_num, hb9, Lib.hid (fun j hj hjk => ?_)⟩
              by_cases e : j = k
              · subst e; rw [hre.out, hri.out, hs.out]
              · exact hall.out j hj (by omega)
            case measure => simp [intOf]; omega
      · obtain rfl : k = n := by omega
        go_wp2_with fail
        go_ret
        refine ⟨?_, hb⟩
        rw [← hf.out, checkE_good rs hm.out (fun j hj => hall.out j hj (by rw [← hn.out]; exact hj))]
        rfl

end Go.Proofs.YtaippkdlibampaaDoor

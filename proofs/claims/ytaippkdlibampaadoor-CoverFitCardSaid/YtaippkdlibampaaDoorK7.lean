/- The reference's cost of a rule walked. The reference's Of walked: five turns. Two owned slices side by side (of different element types), and a tree's labels as data. -/
import Derived.Test.YtaippkdlibampaaDoorK6
namespace Go.Proofs.YtaippkdlibampaaDoor

/- The reference's cost of a rule walked. -/
section
open Go.RowKit

def encB (b : Best) : D := .st [.int .i64 b.c0, .int .i64 b.c1, .int .i64 b.c2, .int .i64 b.c3, .int .i64 b.r0, .int .i64 b.r1, .int .i64 b.r2, .int .i64 b.r3]

theorem rep_best_inv {w : World} {ok : Nat → Prop} {b : Best} {cs : List Value} (h : Rep w ok (encB b) cs) : cs = (bestCells b).toList := by
  unfold encB at h
  obtain ⟨a1, r1, rfl, h1, g1⟩ := repAll_inv (rep_st_inv h)
  obtain ⟨a2, r2, rfl, h2, g2⟩ := repAll_inv g1
  obtain ⟨a3, r3, rfl, h3, g3⟩ := repAll_inv g2
  obtain ⟨a4, r4, rfl, h4, g4⟩ := repAll_inv g3
  obtain ⟨a5, r5, rfl, h5, g5⟩ := repAll_inv g4
  obtain ⟨a6, r6, rfl, h6, g6⟩ := repAll_inv g5
  obtain ⟨a7, r7, rfl, h7, g7⟩ := repAll_inv g6
  obtain ⟨a8, r8, rfl, h8, g8⟩ := repAll_inv g7
  rw [rep_int_inv h1, rep_int_inv h2, rep_int_inv h3, rep_int_inv h4, rep_int_inv h5, rep_int_inv h6, rep_int_inv h7, rep_int_inv h8, repAll_nil g8]
  rfl
theorem rep_best {w : World} {ok : Nat → Prop} (b : Best) : Rep w ok (encB b) (bestCells b).toList := by
  unfold encB Rep bestCells
  simp only [RepAll, Rep]
  exact ⟨[_], _, rfl, rfl, [_], _, rfl, rfl, [_], _, rfl, rfl, [_], _, rfl, rfl, [_], _, rfl, rfl, [_], _, rfl, rfl, [_], _, rfl, rfl, [_], [], rfl, rfl, rfl⟩

/-- best k of a slice of bests -/
theorem bests_at {w : World} {ok : Nat → Prop} {bs : List Best} {A : Option Addr} {n c : Nat} (h : Rep w ok (.lst 8 (bs.map encB)) [.slice A n c]) (k : Nat) (hk : k < bs.length) :
    ∃ (g off : Nat), A = some ⟨g, off, none⟩ ∧ g < w.heap.size ∧ ∀ j, j < 8 → w.cell? ⟨g, off + k * 8 + j, none⟩ = (bestCells bs[k])[j]? := by
  obtain ⟨g, off, a, hA, _, hlt, hl, hr, hc⟩ := h.at_ k (by simpa using hk)
  rw [List.getElem_map] at hr
  have := rep_best_inv hr
  subst this
  refine ⟨g, off, hA, hlt, fun j hj => ?_⟩
  have := hc j hj
  rw [show off + (k * 8 + j) = off + k * 8 + j by omega] at this
  rw [this]; simp

/-- the form of small numbers is a rule's of small numbers, and no other's -/
def FitR (r : Rule) : Prop := (r.form = [102, 105, 116] ↔ r.nt = 2) ∧ (r.nt = 2 → r.pat.op = 1)

theorem kidsSum_neg (ps : List Pat) (i : Nat) (kc : Nat → Nat → Int) : kidsSum ps i kc = none ∨ ∃ c, kidsSum ps i kc = some c := by
  cases h : kidsSum ps i kc
  · exact Or.inl rfl
  · exact Or.inr ⟨_, rfl⟩

def kcOf (bs : List Best) (i n : Nat) : Int := (bs.getD i zeroB).cost n

set_option maxRecDepth 100000 in
set_option maxHeartbeats 8000000 in
theorem costR_any (r : Rule) (hr : RuleFlat r) (hfit : FitR r) (t : Pat) (bs : List Best) (hkn : r.pat.op = t.op → r.pat.kids.length ≤ bs.length) (b : Best)
    (hkl : ∀ i n, -1 ≤ kcOf bs i n ∧ kcOf bs i n ≤ 1000000000) (hbl : ∀ n, n < 4 → -1 ≤ b.cost n ∧ b.cost n ≤ 1000000000) (A A2 B : Option Addr) (c c2 d : Nat) (w : World)
    (hp : PatIn w A c r.pat) (ok : Nat → Prop) (hbs : Rep w ok (.lst 8 (bs.map encB)) [.slice B bs.length d]) :
    Calls Tryd.prog 125 #[.agg #[.int .i64 r.nt, .int .i64 r.pat.op, .int .i64 r.pat.nt, .slice A r.pat.kids.length c, .int .i64 r.cost, .string ⟨r.form.toArray⟩], .agg #[.int .i64 t.op, .int .i64 t.nt, .slice A2 t.kids.length c2], .slice B bs.length d, .agg (bestCells b)] w
      (IntRet ((ruleCost r t.op (smallT t.op t.nt) (kcOf bs) b.cost).getD (-1)) w) := by
  obtain ⟨h1, h2, h3, h4⟩ := hr
  obtain ⟨hfit1, hfit2⟩ := hfit
  obtain ⟨o, ho⟩ : ∃ o, Hid ((ruleCost r t.op (smallT t.op t.nt) (kcOf bs) b.cost).getD (-1) = o) := ⟨_, Lib.hid rfl⟩
  obtain ⟨tn, htn⟩ : ∃ n, Hid (t.kids.length = n) := ⟨_, Lib.hid rfl⟩
  rw [ho.out, htn.out]
  have HP := Lib.hid hp
  have HBS := Lib.hid hbs
  clear hp hbs
  by_cases h0 : r.pat.op = 0
  · obtain ⟨g1, g2⟩ := h1 h0
    obtain ⟨nt, hnt⟩ : ∃ nt : Nat, r.pat.nt = nt := ⟨r.pat.nt.toNat, by omega⟩
    have hnt4 : nt < 4 := by omega
    have hoe : Hid (o = if b.cost nt = -1 then -1 else b.cost nt + r.cost) := Lib.hid (by
      rw [← ho.out]; unfold ruleCost; rw [if_pos h0, hnt]
      show (if b.cost nt = -1 then none else some (b.cost nt + r.cost)).getD (-1) = _
      split <;> rfl)
    have hlt := hbl nt hnt4
    obtain ⟨BC, hBC⟩ : ∃ K, Hid (bestCells b = K) := ⟨_, Lib.hid rfl⟩
    have hat := bestCells_cost b nt hnt4
    rw [hBC.out] at hat ⊢
    obtain ⟨v, hv⟩ : ∃ v, Hid (b.cost nt = v) := ⟨_, Lib.hid rfl⟩
    rw [hv.out] at hat hlt hoe
    rw [h0, hnt]
    obtain ⟨bn, hbn⟩ : ∃ n, Hid (bs.length = n) := ⟨_, Lib.hid rfl⟩
    rw [hbn.out]
    have hcell : (((w.alloc (.cells #[.int .i64 r.nt, .int .i64 0, .int .i64 nt, .slice A r.pat.kids.length c, .int .i64 r.cost, .string ⟨r.form.toArray⟩] 33)).alloc (.cells #[.int .i64 t.op, .int .i64 t.nt, .slice A2 tn c2] 64)).alloc (.cells BC 74)).cell? ⟨w.heap.size + 1 + 1, nt, none⟩ = some (.int .i64 v) := by
      refine Eq.trans ((BlkIs.fresh2 (by simp)).cell nt) hat
    clear hnt g1 g2 h1 h2 h0 hbl hkl hat hfit1 hfit2 hkn
    by_cases hv1 : v < 0
    · obtain rfl : o = -1 := by rw [hoe.out, if_pos (by omega)]
      go_enter Tryd.func125, Tryd.ntmps125
      go_wp2_with fail
      go_ret
      exact ⟨rfl, below_box3 _ _ _ _⟩
    · obtain rfl : o = v + r.cost := by rw [hoe.out, if_neg (by omega)]
      have hsum : IntKind.i64.wrap (r.cost + v) = v + r.cost := by rw [IntWalk.i64_in _ (by omega)]; omega
      have hvd : decide (v < 0) = false := by simpa using hv1
      go_enter Tryd.func125, Tryd.ntmps125
      go_wp2_with fail
      go_quiet (fail)
      go_wp2_with fail
      go_ret
      exact ⟨by first | rfl | (rw [hsum]) | (congr 2; omega), below_drewsN (below_box3 _ _ _ _) _⟩
  · have h0e : (r.pat.op == 0) = false := by simpa using h0
    obtain ⟨n, hn⟩ : ∃ n, Hid (r.pat.kids.length = n) := ⟨_, Lib.hid rfl⟩
    obtain ⟨bn, hbn⟩ : ∃ n, Hid (bs.length = n) := ⟨_, Lib.hid rfl⟩
    obtain ⟨BC, hBC⟩ : ∃ K, Hid (bestCells b = K) := ⟨_, Lib.hid rfl⟩
    have hn2 := h2.1
    have HK : Hid (PatsIn w A c r.pat.kids) := Lib.hid HP.out.kids
    have hqbn2 : ∀ {q : Nat}, q < bs.length → q < bn := fun h => by rw [← hbn.out]; exact h
    rw [hBC.out]
    by_cases hop : r.pat.op = t.op
    · have hkn2 := hkn hop
      have hopn : (r.pat.op != t.op) = false := by simp [hop]
      have hope : (r.pat.op == t.op) = true := by simp [hop]
      by_cases hnt2 : r.nt = 2
      · have hform : r.form = [102, 105, 116] := hfit1.2 hnt2
        have hp1 := hfit2 hnt2
        by_cases hrange : t.nt < -2048 ∨ 2047 < t.nt
        · obtain rfl : o = -1 := by
            rw [← ho.out]; unfold ruleCost
            rw [if_neg h0, if_pos]
            · rfl
            · right
              refine ⟨hnt2, ?_⟩
              unfold smallT
              rw [Bool.and_eq_false_iff]; right
              simp; omega
          rw [hn.out] at hn2 hkn2
          rw [hn.out, hbn.out, hform]
          clear hfit1 hfit2 hkl hbl hop hkn hp1 hnt2 hform
          rcases hrange with hr1 | hr1
          · have hd1 : decide (t.nt < -2048) = true := by simpa using hr1
            go_enter Tryd.func125, Tryd.ntmps125
            go_wp2_with fail
            go_ret
            exact ⟨rfl, below_box3 _ _ _ _⟩
          · have hd1 : decide (t.nt < -2048) = false := by simp; omega
            have hd2 : decide (2047 < t.nt) = true := by simpa using hr1
            go_enter Tryd.func125, Tryd.ntmps125
            go_wp2_with fail
            go_ret
            exact ⟨rfl, below_box3 _ _ _ _⟩
        · have hoe : Hid (o = ((kidsSum r.pat.kids 0 (kcOf bs)).map (· + r.cost)).getD (-1)) := Lib.hid (by
            rw [← ho.out]; unfold ruleCost
            rw [if_neg h0, if_neg]
            rintro (h | ⟨_, h⟩)
            · exact h hop
            · unfold smallT at h
              rw [← hop, hp1] at h
              simp at h; omega)
          have hd1 : decide (t.nt < -2048) = false := by simp; omega
          have hd2 : decide (2047 < t.nt) = false := by simp; omega
          have hr1 : ¬ t.nt < -2048 := by omega
          have hr2 : ¬ 2047 < t.nt := by omega
          rw [hn.out] at hn2 hkn2
          rw [hn.out, hbn.out, hform]
          clear hfit1 hfit2 hbl hop hkn hnt2 hrange hp1 hform
          go_enter Tryd.func125, Tryd.ntmps125
          go_wp2_with fail
          obtain ⟨w1, hw1⟩ : ∃ w1, w1 = ((w.alloc (.cells #[.int .i64 r.nt, .int .i64 r.pat.op, .int .i64 r.pat.nt, .slice A n c, .int .i64 r.cost, .string ⟨[102, 105, 116].toArray⟩] 33)).alloc (.cells #[.int .i64 t.op, .int .i64 t.nt, .slice A2 tn c2] 64)).alloc (.cells BC 74) := ⟨_, rfl⟩
          have hb1 : Below w.heap.size w w1 := by rw [hw1]; exact below_box3 _ _ _ _
          have r3 : w1.cell? ⟨w.heap.size, 3, none⟩ = some (.slice A n c) := by rw [hw1]; exact (((BlkIs.fresh w _ _).alloc _).alloc _).cell 3
          have hz1 : w.heap.size < w1.heap.size := by rw [hw1]; (try simp); (try omega)
          rw [← hw1]
          clear hw1
          go_loopw [9, 10] (fun s i wr => ∃ (q : Nat) (m : Int) (dn : Nat), q ≤ n ∧ i = .int .i64 q ∧ s = .int .i64 (r.cost + m) ∧ 0 ≤ m ∧ m ≤ 1000000000 * q ∧ wr = w1.drewN dn ∧ Hid (kidsSum (r.pat.kids.take q) 0 (kcOf bs) = some m)) (fun _ i _ => n - (intOf i).toNat)
          case atStart => exact ⟨0, 0, 0, by omega, rfl, by first | rfl | (rw [Int.add_zero]) | (congr 1; omega), by omega, by omega, rfl, Lib.hid (by simp [kidsSum])⟩
          case round =>
            obtain ⟨q, m, dn, hq, rfl, rfl, hm0, hm1, rfl, hsum⟩ := hrel
            by_cases hlt : q < n
            · have hql : q < r.pat.kids.length := by rw [hn.out]; exact hlt
              obtain ⟨ok1, hps⟩ := HK.out.below hb1
              obtain ⟨g, off, B1, d1, rfl, _, hg, ⟨a0, a1, a2⟩, hxx⟩ := pats_at hps q hql
              clear hxx
              have hqb : q < bs.length := by have := hkn2; omega
              obtain ⟨g', off', rfl, hg', hcs⟩ := bests_at (HBS.out.below hb1) q hqb
              have hnt := h2.2 r.pat.kids[q] (List.getElem_mem hql)
              have htk := Lib.hid (kidsSum_take r.pat.kids 0 (kcOf bs) q hql m hsum.out)
              have hno := Lib.hid (kidsSum_none r.pat.kids 0 (kcOf bs) (q + 1))
              obtain ⟨x, hx⟩ : ∃ x, Hid (r.pat.kids[q] = x) := ⟨_, Lib.hid rfl⟩
              rw [hx.out] at a0 a1 a2 hnt htk
              obtain ⟨nt, hnt2⟩ : ∃ nt : Nat, x.nt = nt := ⟨x.nt.toNat, by omega⟩
              have hnt4 : nt < 4 := by omega
              rw [hnt2] at a1 htk
              rw [show ((nt : Nat) : Int).toNat = nt from rfl, Nat.zero_add] at htk
              have hkq : kcOf bs q nt = bs[q].cost nt := by unfold kcOf; rw [List.getD_eq_getElem?_getD, List.getElem?_eq_getElem hqb]; rfl
              have hcell : w1.cell? ⟨g', off' + q * 8 + nt, none⟩ = some (.int .i64 (kcOf bs q nt)) := by rw [hcs nt (by omega), bestCells_cost _ nt hnt4, hkq]
              obtain ⟨v, hv⟩ : ∃ v, Hid (kcOf bs q nt = v) := ⟨_, Lib.hid rfl⟩
              have hvl := hkl q nt
              rw [hv.out] at hvl hcell htk
              have hqn : q < bn := hqbn2 hqb
              clear hps hnt2 hkq hcs hkl
              go_wp2_with fail
              go_quiet (fail)
              by_cases hv1 : v < 0
              · have hvd : decide (v < 0) = true := by simpa using hv1
                obtain rfl : o = -1 := by rw [hoe.out, hno.out (by rw [htk.out, if_pos (by omega)])]; rfl
                go_wp2_with fail
                go_ret
                exact ⟨rfl, below_drewsN hb1 _⟩
              · have hvd : decide (v < 0) = false := by simpa using hv1
                go_wp2_with fail
                go_roundw
                case rel => exact ⟨q + 1, m + v, _, by omega, by go_num, by congr 1; omega, by omega, by omega, rfl, Lib.hid (by rw [htk.out, if_neg (by omega)])⟩
                case measure => simp [intOf]; omega
            · obtain rfl : q = n := by omega
              have h1 : r.pat.kids.take q = r.pat.kids := List.take_of_length_le (by rw [hn.out]; omega)
              have hs2 := hsum.out
              rw [h1] at hs2
              obtain rfl : o = m + r.cost := by rw [hoe.out, hs2]; rfl
              clear hs2 h1 hkl
              go_wp2_with fail
              go_ret
              exact ⟨ret_int (by omega), below_drewsN hb1 _⟩
      · have hform : (r.form == [102, 105, 116]) = false := by
          simp only [beq_eq_false_iff_ne]; exact fun h => hnt2 (hfit1.1 h)
        have hoe : Hid (o = ((kidsSum r.pat.kids 0 (kcOf bs)).map (· + r.cost)).getD (-1)) := Lib.hid (by
          rw [← ho.out]; unfold ruleCost
          rw [if_neg h0, if_neg]
          rintro (h | ⟨h, _⟩)
          · exact h hop
          · exact hnt2 h)
        rw [hn.out] at hn2 hkn2
        rw [hn.out, hbn.out]
        clear hfit1 hfit2 hbl hop hkn hnt2
        go_enter Tryd.func125, Tryd.ntmps125
        go_wp2_with fail
        obtain ⟨w1, hw1⟩ : ∃ w1, w1 = ((w.alloc (.cells #[.int .i64 r.nt, .int .i64 r.pat.op, .int .i64 r.pat.nt, .slice A n c, .int .i64 r.cost, .string ⟨r.form.toArray⟩] 33)).alloc (.cells #[.int .i64 t.op, .int .i64 t.nt, .slice A2 tn c2] 64)).alloc (.cells BC 74) := ⟨_, rfl⟩
        have hb1 : Below w.heap.size w w1 := by rw [hw1]; exact below_box3 _ _ _ _
        have r3 : w1.cell? ⟨w.heap.size, 3, none⟩ = some (.slice A n c) := by rw [hw1]; exact (((BlkIs.fresh w _ _).alloc _).alloc _).cell 3
        have hz1 : w.heap.size < w1.heap.size := by rw [hw1]; (try simp); (try omega)
        rw [← hw1]
        clear hw1
        go_loopw [9, 10] (fun s i wr => ∃ (q : Nat) (m : Int) (dn : Nat), q ≤ n ∧ i = .int .i64 q ∧ s = .int .i64 (r.cost + m) ∧ 0 ≤ m ∧ m ≤ 1000000000 * q ∧ wr = w1.drewN dn ∧ Hid (kidsSum (r.pat.kids.take q) 0 (kcOf bs) = some m)) (fun _ i _ => n - (intOf i).toNat)
        case atStart => exact ⟨0, 0, 0, by omega, rfl, by first | rfl | (rw [Int.add_zero]) | (congr 1; omega), by omega, by omega, rfl, Lib.hid (by simp [kidsSum])⟩
        case round =>
          obtain ⟨q, m, dn, hq, rfl, rfl, hm0, hm1, rfl, hsum⟩ := hrel
          by_cases hlt : q < n
          · have hql : q < r.pat.kids.length := by rw [hn.out]; exact hlt
            obtain ⟨ok1, hps⟩ := HK.out.below hb1
            obtain ⟨g, off, B1, d1, rfl, _, hg, ⟨a0, a1, a2⟩, hxx⟩ := pats_at hps q hql
            clear hxx
            have hqb : q < bs.length := by have := hkn2; omega
            obtain ⟨g', off', rfl, hg', hcs⟩ := bests_at (HBS.out.below hb1) q hqb
            have hnt := h2.2 r.pat.kids[q] (List.getElem_mem hql)
            have htk := Lib.hid (kidsSum_take r.pat.kids 0 (kcOf bs) q hql m hsum.out)
            have hno := Lib.hid (kidsSum_none r.pat.kids 0 (kcOf bs) (q + 1))
            obtain ⟨x, hx⟩ : ∃ x, Hid (r.pat.kids[q] = x) := ⟨_, Lib.hid rfl⟩
            rw [hx.out] at a0 a1 a2 hnt htk
            obtain ⟨nt, hnt2⟩ : ∃ nt : Nat, x.nt = nt := ⟨x.nt.toNat, by omega⟩
            have hnt4 : nt < 4 := by omega
            rw [hnt2] at a1 htk
            rw [show ((nt : Nat) : Int).toNat = nt from rfl, Nat.zero_add] at htk
            have hkq : kcOf bs q nt = bs[q].cost nt := by unfold kcOf; rw [List.getD_eq_getElem?_getD, List.getElem?_eq_getElem hqb]; rfl
            have hcell : w1.cell? ⟨g', off' + q * 8 + nt, none⟩ = some (.int .i64 (kcOf bs q nt)) := by rw [hcs nt (by omega), bestCells_cost _ nt hnt4, hkq]
            obtain ⟨v, hv⟩ : ∃ v, Hid (kcOf bs q nt = v) := ⟨_, Lib.hid rfl⟩
            have hvl := hkl q nt
            rw [hv.out] at hvl hcell htk
            have hqn : q < bn := hqbn2 hqb
            clear hps hnt2 hkq hcs hkl
            go_wp2_with fail
            go_quiet (fail)
            by_cases hv1 : v < 0
            · have hvd : decide (v < 0) = true := by simpa using hv1
              obtain rfl : o = -1 := by rw [hoe.out, hno.out (by rw [htk.out, if_pos (by omega)])]; rfl
              go_wp2_with fail
              go_ret
              exact ⟨rfl, below_drewsN hb1 _⟩
            · have hvd : decide (v < 0) = false := by simpa using hv1
              go_wp2_with fail
              go_roundw
              case rel => exact ⟨q + 1, m + v, _, by omega, by go_num, by congr 1; omega, by omega, by omega, rfl, Lib.hid (by rw [htk.out, if_neg (by omega)])⟩
              case measure => simp [intOf]; omega
          · obtain rfl : q = n := by omega
            have h1 : r.pat.kids.take q = r.pat.kids := List.take_of_length_le (by rw [hn.out]; omega)
            have hs2 := hsum.out
            rw [h1] at hs2
            obtain rfl : o = m + r.cost := by rw [hoe.out, hs2]; rfl
            clear hs2 h1 hkl
            go_wp2_with fail
            go_ret
            exact ⟨ret_int (by omega), below_drewsN hb1 _⟩
    · obtain rfl : o = -1 := by
        rw [← ho.out]; unfold ruleCost
        rw [if_neg h0, if_pos (Or.inl hop)]; rfl
      have hopn : (r.pat.op != t.op) = true := by simp [hop]
      have hope : (r.pat.op == t.op) = false := by simp [hop]
      rw [hn.out, hbn.out]
      clear hfit1 hfit2 hkl hbl hop hkn
      go_enter Tryd.func125, Tryd.ntmps125
      go_wp2_with fail
      go_ret
      exact ⟨rfl, below_box3 _ _ _ _⟩

end

/- The reference's Of walked: five turns. -/
section
open Go.RowKit

/-- rules by which covers are found, by the reference too -/
def RulesFit (rs : List Rule) : Prop := RulesFlat rs ∧ ∀ r ∈ rs, FitR r ∧ (r.pat.op ≠ 0 → (r.pat.kids.length : Int) = arityOf r.pat.op)

theorem least_info : (Tryd.prog.info? 74).map (·.size) = some 8 := by kernel_rfl

theorem later8 {w w' : World} {g : Nat} {cs : Array Value} (hb : Below w.heap.size w w') {t : TypeId} (h : BlkIs w g t cs) : BlkIs w' g t cs := h.below hb h.lt

theorem best8 {w : World} {g : Nat} {t : TypeId} {b : Best} (h : BlkIs w g t (bestCells b)) : w.cell? ⟨g, 0, none⟩ = some (.int .i64 b.c0) ∧ w.cell? ⟨g, 1, none⟩ = some (.int .i64 b.c1) ∧ w.cell? ⟨g, 2, none⟩ = some (.int .i64 b.c2) ∧ w.cell? ⟨g, 3, none⟩ = some (.int .i64 b.c3) ∧ w.cell? ⟨g, 4, none⟩ = some (.int .i64 b.r0) ∧ w.cell? ⟨g, 5, none⟩ = some (.int .i64 b.r1) ∧ w.cell? ⟨g, 6, none⟩ = some (.int .i64 b.r2) ∧ w.cell? ⟨g, 7, none⟩ = some (.int .i64 b.r3) :=
  ⟨h.cell 0, h.cell 1, h.cell 2, h.cell 3, h.cell 4, h.cell 5, h.cell 6, h.cell 7⟩

set_option maxRecDepth 100000 in
set_option maxHeartbeats 16000000 in
theorem of_any (rs : List Rule) (hrs : RulesFit rs) (t : Pat) (bs : List Best) (hkn : ∀ r ∈ rs, r.pat.op = t.op → r.pat.kids.length ≤ bs.length) (hkl : ∀ i n, -1 ≤ kcOf bs i n ∧ kcOf bs i n ≤ 400000000) (A A2 B : Option Addr) (c c2 d : Nat) (w : World)
    (hr : RulesIn w A2 c2 rs) (ok : Nat → Prop) (hbs : Rep w ok (.lst 8 (bs.map encB)) [.slice B bs.length d]) :
    Calls Tryd.prog 112 #[.slice A2 rs.length c2, .agg #[.int .i64 t.op, .int .i64 t.nt, .slice A t.kids.length c], .slice B bs.length d] w
      fun e w' => e = .returned (.agg (bestCells (turns rs t.op (smallT t.op t.nt) (kcOf bs) 5))) ∧ Below w.heap.size w w' := by
  obtain ⟨⟨hl, hall⟩, hfit⟩ := hrs
  obtain ⟨n, hn⟩ : ∃ n, Hid (rs.length = n) := ⟨_, Lib.hid rfl⟩
  obtain ⟨tn, htn⟩ : ∃ n, Hid (t.kids.length = n) := ⟨_, Lib.hid rfl⟩
  obtain ⟨bn, hbn⟩ : ∃ n, Hid (bs.length = n) := ⟨_, Lib.hid rfl⟩
  have hlowT := turns_low (rs := rs) (op := t.op) (sm := smallT t.op t.nt) (kc := kcOf bs) (fun r hr => (hall r hr).2.2) (fun r hr => (hall r hr).1.2.2.1) (fun i n => (hkl i n).1)
  have hlimT := lim_turns (rs := rs) (op := t.op) (sm := smallT t.op t.nt) (kc := kcOf bs) (X := 800000000) (by omega) ⟨hl, hall⟩ (fun i n => (hkl i n).1) (fun r hrm => kidsSum_le _ _ 400000000 (by omega) (hall r hrm).1.2.1 (fun i n => (hkl i n).2))
  have HB : Hid (∀ k n, n < 4 → -1 ≤ (turns rs t.op (smallT t.op t.nt) (kcOf bs) k).cost n ∧ (turns rs t.op (smallT t.op t.nt) (kcOf bs) k).cost n ≤ 1000000000) := Lib.hid (fun k n hn => ⟨hlowT k n, by
    have := hlimT k n hn
    rcases nt4 hn with rfl | rfl | rfl | rfl <;> simp only [lvl] at this <;> omega⟩)
  have HCOST : Hid (∀ (k q : Nat) (hq : q < rs.length) (cc : Int), ruleCost rs[q] t.op (smallT t.op t.nt) (kcOf bs) (turns rs t.op (smallT t.op t.nt) (kcOf bs) k).cost = some cc → 0 ≤ cc) :=
    Lib.hid (fun k q hq cc h => costsOk_of (fun r hr => (hall r hr).1.2.2.1) (fun i n => (hkl i n).1) (hlowT k) q hq cc h)
  have HNT : Hid (∀ r ∈ rs, NtOk r) := Lib.hid (fun r hr => (hall r hr).2.2)
  have HCALL : Hid (∀ (q : Nat) (hq : q < rs.length) (b : Best) (hbl : ∀ n, n < 4 → -1 ≤ b.cost n ∧ b.cost n ≤ 1000000000) (A3 : Option Addr) (c3 : Nat) (W : World) (_ : PatIn W A3 c3 rs[q].pat) (_ : Rep W ok (.lst 8 (bs.map encB)) [.slice B bs.length d]), _) :=
    Lib.hid (fun q hq b hbl A3 c3 W hp hb => costR_any rs[q] (hall _ (List.getElem_mem hq)).1 (hfit _ (List.getElem_mem hq)).1 t bs (hkn _ (List.getElem_mem hq)) b (fun i n => ⟨(hkl i n).1, by have := (hkl i n).2; omega⟩) hbl A3 A B c3 c d W hp ok hb)
  have HR := Lib.hid hr
  have HBS := Lib.hid hbs
  obtain ⟨R, hR⟩ : ∃ R, Hid (turns rs t.op (smallT t.op t.nt) (kcOf bs) 5 = R) := ⟨_, Lib.hid rfl⟩
  rw [hn.out] at hl
  rw [hn.out, htn.out, hR.out]
  clear hr hbs hall hfit hkn hkl hlowT hlimT
  rw [hbn.out]
  go_enter Tryd.func112, Tryd.ntmps112
  go_wp2_with fail
  obtain ⟨Z, hZ⟩ : ∃ Z : Array Value, Hid (#[.int .i64 0, .int .i64 0, .int .i64 0, .int .i64 0, .int .i64 0, .int .i64 0, .int .i64 0, .int .i64 0] = Z) := ⟨_, Lib.hid rfl⟩
  rw [hZ.out]
  obtain ⟨w0, hw0⟩ : ∃ w0, w0 = ((w.alloc (.cells #[.int .i64 t.op, .int .i64 t.nt, .slice A tn c] 64)).alloc (.cells Z 74)).alloc (.cells (bestCells .none) 74) := ⟨_, rfl⟩
  have hb0 : Below w.heap.size w w0 := by rw [hw0]; exact below_box3 _ _ _ _
  have k0 : BlkIs w0 w.heap.size 64 #[.int .i64 t.op, .int .i64 t.nt, .slice A tn c] := by rw [hw0]; exact ((BlkIs.fresh _ _ _).alloc _).alloc _
  have z0 : BlkIs w0 (w.heap.size + 1) 74 Z := by rw [hw0]; exact (BlkIs.fresh1 _ _ _ _).alloc _
  have b0 : BlkIs w0 (w.heap.size + 1 + 1) 74 (bestCells .none) := by rw [hw0]; exact BlkIs.fresh2 (by simp)
  rw [show ((w.alloc (.cells #[.int .i64 t.op, .int .i64 t.nt, .slice A tn c] 64)).alloc (.cells Z 74)).alloc (.cells #[.int .i64 (-1), .int .i64 (-1), .int .i64 (-1), .int .i64 (-1), .int .i64 0, .int .i64 0, .int .i64 0, .int .i64 0] 74) = w0 from hw0.symm]
  clear hw0
  go_loopw [8] (fun s wr => ∃ k : Nat, k ≤ 5 ∧ s = .int .i64 k ∧ Below w.heap.size w wr ∧ BlkIs wr w.heap.size 64 #[.int .i64 t.op, .int .i64 t.nt, .slice A tn c] ∧ BlkIs wr (w.heap.size + 1) 74 Z ∧ BlkIs wr (w.heap.size + 1 + 1) 74 (bestCells (turns rs t.op (smallT t.op t.nt) (kcOf bs) k))) (fun s _ => 5 - (intOf s).toNat)
  case atStart => exact ⟨0, by omega, rfl, hb0, k0, z0, b0⟩
  case round =>
    obtain ⟨k, hk, rfl, hb, kx, zx, bx⟩ := hrel
    obtain ⟨wo, rfl⟩ : ∃ wo : World, wo = wr := ⟨_, rfl⟩
    clear hb0 k0 z0 b0
    obtain ⟨b, hbt⟩ : ∃ b, Hid (turns rs t.op (smallT t.op t.nt) (kcOf bs) k = b) := ⟨_, Lib.hid rfl⟩
    have hbl := HB.out k
    have hcst := HCOST.out k
    rw [hbt.out] at bx hbl hcst
    have HCS := Lib.hid hcst
    clear hcst
    by_cases hlt : k < 5
    · have hbz := hb.size
      go_wp2_with fail
      obtain ⟨w1, hw1⟩ : ∃ w1, w1 = wo.alloc (.cells (bestCells .none) 74) := ⟨_, rfl⟩
      have hb1 : Below w.heap.size w w1 := by rw [hw1]; exact hb.alloc hbz _
      have k1 : BlkIs w1 w.heap.size 64 #[.int .i64 t.op, .int .i64 t.nt, .slice A tn c] := by rw [hw1]; exact kx.alloc _
      have z1 : BlkIs w1 (w.heap.size + 1) 74 Z := by rw [hw1]; exact zx.alloc _
      have b1 : BlkIs w1 (w.heap.size + 1 + 1) 74 (bestCells b) := by rw [hw1]; exact bx.alloc _
      have y1 : BlkIs w1 wo.heap.size 74 (bestCells .none) := by rw [hw1]; exact BlkIs.fresh _ _ _
      have hlt9 : w.heap.size + 1 + 1 < wo.heap.size := bx.lt
      rw [show wo.alloc (.cells #[.int .i64 (-1), .int .i64 (-1), .int .i64 (-1), .int .i64 (-1), .int .i64 0, .int .i64 0, .int .i64 0, .int .i64 0] 74) = w1 from hw1.symm]
      clear hw1
      go_loopw [10] (fun s wr => ∃ (q : Nat) (y : Best), q ≤ n ∧ s = .int .i64 q ∧ Below w.heap.size w wr ∧ BlkIs wr w.heap.size 64 #[.int .i64 t.op, .int .i64 t.nt, .slice A tn c] ∧ BlkIs wr (w.heap.size + 1) 74 Z ∧ BlkIs wr (w.heap.size + 1 + 1) 74 (bestCells b) ∧ BlkIs wr wo.heap.size 74 (bestCells y) ∧ Hid (turnFrom t.op (smallT t.op t.nt) (kcOf bs) b.cost (rs.drop q) q y = turn rs t.op (smallT t.op t.nt) (kcOf bs) b.cost)) (fun s _ => n - (intOf s).toNat)
      case atStart => exact ⟨0, .none, by omega, rfl, hb1, k1, z1, b1, y1, Lib.hid (by rw [List.drop_zero]; rfl)⟩
      case round =>
        obtain ⟨q, y, hq, rfl, hb2, k2, z2, b2, y2, hturn⟩ := hrel
        obtain ⟨wp, rfl⟩ : ∃ wp : World, wp = wr := ⟨_, rfl⟩
        clear hb1 k1 z1 b1 y1
        have hb2z := hb2.size
        by_cases hltq : q < n
        · have hql : q < rs.length := by rw [hn.out]; exact hltq
          obtain ⟨ok2, hrs⟩ := HR.out.below hb2
          obtain ⟨g, off, B1, d1, rfl, _, hg, ⟨a0, a1, a2, a3, a4, a5⟩, _, hpi⟩ := rules_at hrs q hql
          have hstep : Hid (turnFrom t.op (smallT t.op t.nt) (kcOf bs) b.cost (rs.drop (q + 1)) (q + 1) (match ruleCost rs[q] t.op (smallT t.op t.nt) (kcOf bs) b.cost with
              | none => y
              | some c => if c ≥ 0 ∧ (y.cost rs[q].nt.toNat < 0 ∨ c < y.cost rs[q].nt.toNat) then y.set rs[q].nt.toNat c q else y) = turn rs t.op (smallT t.op t.nt) (kcOf bs) b.cost) := Lib.hid (by
            rw [← hturn.out, List.drop_eq_getElem_cons hql]; rfl)
          have hcall := fun W => HCALL.out q hql b hbl B1 d1 W
          have hnt := HNT.out rs[q] (List.getElem_mem hql)
          have hcq := HCS.out q hql
          rw [hbn.out, htn.out] at hcall
          obtain ⟨r, hre⟩ : ∃ r, Hid (rs[q] = r) := ⟨_, Lib.hid rfl⟩
          rw [hre.out] at a0 a1 a2 a3 a4 a5 hpi hcall hnt hcq hstep
          obtain ⟨hnt0, hnt3⟩ := hnt
          obtain ⟨nt, hnte⟩ : ∃ nt : Nat, r.nt = nt := ⟨r.nt.toNat, by omega⟩
          have hnt4 : nt < 4 := by omega
          have HNTE := Lib.hid hnte
          have HP : Hid (PatIn wp B1 d1 r.pat) := Lib.hid ⟨_, hpi⟩
          have HBP := Lib.hid (HBS.out.below hb2)
          rw [hbn.out] at HBP
          have s0 := k2.cell 0
          have s1 := k2.cell 1
          have s2 := k2.cell 2
          obtain ⟨e0, e1, e2, e3, e4, e5, e6, e7⟩ := best8 b2
          have s0 : wp.cell? ⟨w.heap.size, 0, none⟩ = some (.int .i64 t.op) := s0
          have s1 : wp.cell? ⟨w.heap.size, 1, none⟩ = some (.int .i64 t.nt) := s1
          have s2 : wp.cell? ⟨w.heap.size, 2, none⟩ = some (.slice A tn c) := s2
          obtain ⟨o, ho⟩ : ∃ o, Hid ((ruleCost r t.op (smallT t.op t.nt) (kcOf bs) b.cost).getD (-1) = o) := ⟨_, Lib.hid rfl⟩
          rw [ho.out, hnte] at hcall
          rw [hnte] at a0
          have HCQ := Lib.hid hcq
          have hly : w.heap.size + 1 + 1 < wo.heap.size := hlt9
          have hyl : wo.heap.size < wp.heap.size := y2.lt
          clear hrs hpi hnt0 hnt3 hnte hcq
          go_wp2_with fail
          go_upto_region 9 with fail
          go_region_held3 (fun W => W.cell? ⟨g, off + q * 6, none⟩ = some (.int .i64 nt) ∧ W.cell? ⟨g, off + q * 6 + 1, none⟩ = some (.int .i64 r.pat.op) ∧ W.cell? ⟨g, off + q * 6 + 2, none⟩ = some (.int .i64 r.pat.nt) ∧ W.cell? ⟨g, off + q * 6 + 3, none⟩ = some (.slice B1 r.pat.kids.length d1) ∧ W.cell? ⟨g, off + q * 6 + 4, none⟩ = some (.int .i64 r.cost) ∧ W.cell? ⟨g, off + q * 6 + 5, none⟩ = some (.string ⟨r.form.toArray⟩) ∧ W.cell? ⟨w.heap.size, 0, none⟩ = some (.int .i64 t.op) ∧ W.cell? ⟨w.heap.size, 1, none⟩ = some (.int .i64 t.nt) ∧ W.cell? ⟨w.heap.size, 2, none⟩ = some (.slice A tn c) ∧ W.cell? ⟨w.heap.size + 1 + 1, 0, none⟩ = some (.int .i64 b.c0) ∧ W.cell? ⟨w.heap.size + 1 + 1, 1, none⟩ = some (.int .i64 b.c1) ∧ W.cell? ⟨w.heap.size + 1 + 1, 2, none⟩ = some (.int .i64 b.c2) ∧ W.cell? ⟨w.heap.size + 1 + 1, 3, none⟩ = some (.int .i64 b.c3) ∧ W.cell? ⟨w.heap.size + 1 + 1, 4, none⟩ = some (.int .i64 b.r0) ∧ W.cell? ⟨w.heap.size + 1 + 1, 5, none⟩ = some (.int .i64 b.r1) ∧ W.cell? ⟨w.heap.size + 1 + 1, 6, none⟩ = some (.int .i64 b.r2) ∧ W.cell? ⟨w.heap.size + 1 + 1, 7, none⟩ = some (.int .i64 b.r3)) (((refine ⟨?_, ?_, ?_, ?_, ?_, ?_, ?_, ?_, ?_, ?_, ?_, ?_, ?_, ?_, ?_, ?_, ?_⟩ <;> (with_reducible (repeat (first | assumption | refine cell_drewN ?_ _ | refine cell_drew ?_))))))
            ((go_at_call 125; refine (hcall _ (show PatIn _ _ _ _ from by with_reducible (repeat (first | exact HP.out | refine PatIn.drewN ?_ _ | refine PatIn.drew ?_))) (show Rep _ _ _ _ from by with_reducible (repeat (first | exact HBP.out | refine Rep.drewN ?_ _ | refine Rep.drew ?_)))).mono ?_; rintro e w3 ⟨rfl, hb3⟩; have HK : Hid (∀ p v, wp.cell? p = some v → w3.cell? p = some v) := Lib.hid (fun p v h => cell_later hb3 (by with_reducible (repeat (first | exact h | refine cell_drewN ?_ _ | refine cell_drew ?_)))); have za0 := HK.out _ _ a0; have za1 := HK.out _ _ a1; have za2 := HK.out _ _ a2; have za3 := HK.out _ _ a3; have za4 := HK.out _ _ a4; have za5 := HK.out _ _ a5; have zs0 := HK.out _ _ s0; have zs1 := HK.out _ _ s1; have zs2 := HK.out _ _ s2; have ze0 := HK.out _ _ e0; have ze1 := HK.out _ _ e1; have ze2 := HK.out _ _ e2; have ze3 := HK.out _ _ e3; have ze4 := HK.out _ _ e4; have ze5 := HK.out _ _ e5; have ze6 := HK.out _ _ e6; have ze7 := HK.out _ _ e7))
          have hb3A : Below wp.heap.size wp w3 := Below.trans (by with_reducible (repeat (first | exact Below.refl _ _ | refine below_drewsN ?_ _ | refine Below.drew ?_))) (hb3.mono (by simp))
          have k3 := k2.below hb3A k2.lt
          have z3 := z2.below hb3A z2.lt
          have b3 := b2.below hb3A b2.lt
          have y3 := y2.below hb3A y2.lt
          have hb4 : Below w.heap.size w w3 := hb2.trans (hb3A.mono hb2z)
          have hqN : Hid (rs[q].nt.toNat = nt) := Lib.hid (by rw [hre.out, HNTE.out]; rfl)
          have yc := (y3.cell nt).trans (bestCells_cost y nt hnt4)
          obtain ⟨yv, hyv⟩ : ∃ v, Hid (y.cost nt = v) := ⟨_, Lib.hid rfl⟩
          rw [hyv.out] at yc
          have yr := (y3.cell (4 + nt)).trans (bestCells_rule y nt hnt4)
          obtain ⟨yq, hyq⟩ : ∃ v, Hid (y.rule nt = v) := ⟨_, Lib.hid rfl⟩
          rw [hyq.out] at yr
          have y3lt : wo.heap.size < w3.heap.size := y3.lt
          obtain ⟨YC, hYC⟩ : ∃ v, Hid (bestCells y = v) := ⟨_, Lib.hid rfl⟩
          rw [hYC.out] at y3
          have yf0 := y3.frozen nt
          have yf1 := y3.frozen (4 + nt)
          have hne : (4 + nt) ≠ nt := by omega
          have hstep2 : Hid (turnFrom t.op (smallT t.op t.nt) (kcOf bs) b.cost (rs.drop (q + 1)) (q + 1) (if 0 ≤ o ∧ (yv < 0 ∨ o < yv) then y.set nt o q else y) = turn rs t.op (smallT t.op t.nt) (kcOf bs) b.cost) := Lib.hid (by
            have h1 := hstep.out
            have h2 := HCQ.out
            rw [show r.nt.toNat = nt by rw [HNTE.out]; rfl, hyv.out] at h1
            rw [← ho.out]
            cases hc : ruleCost r t.op (smallT t.op t.nt) (kcOf bs) b.cost with
            | none => rw [hc] at h1; simpa using h1
            | some cc => rw [hc] at h1; simpa using h1)
          clear hstep hcall HCQ a0 a1 a2 a3 a4 a5 s0 s1 s2 e0 e1 e2 e3 e4 e5 e6 e7 za1 za2 za3 za4 za5 zs0 zs1 zs2 ze0 ze1 ze2 ze3 ze4 ze5 ze6 ze7 HK k2 z2 b2 y2
          by_cases ho0 : o < 0
          · have hst : Hid (turnFrom t.op (smallT t.op t.nt) (kcOf bs) b.cost (rs.drop (q + 1)) (q + 1) y = turn rs t.op (smallT t.op t.nt) (kcOf bs) b.cost) := Lib.hid (by
              rw [← hstep2.out, if_neg (by omega)])
            rw [← hYC.out] at y3
            go_wp2_with fail
            go_roundw
            case rel => exact ⟨q + 1, by omega, by go_num, y, y3, hst⟩
            case measure => simp [intOf]; omega
          · have hbst : ∀ (a1 a2 : Nat) (v1 v2 : Int), Below wo.heap.size w3 ((w3.setCell ⟨wo.heap.size, a1, none⟩ (.int .i64 v1)).setCell ⟨wo.heap.size, a2, none⟩ (.int .i64 v2)) := fun a1 a2 v1 v2 => Below.setCell (Below.setCell (Below.refl _ _) (by simp) _) (by simp) _
            have hd0 : decide (0 ≤ o) = true := by simp; omega
            by_cases hy0 : yv < 0
            · have hd1 : decide (yv < 0) = true := by simpa using hy0
              have hst : Hid (turnFrom t.op (smallT t.op t.nt) (kcOf bs) b.cost (rs.drop (q + 1)) (q + 1) (y.set nt o q) = turn rs t.op (smallT t.op t.nt) (kcOf bs) b.cost) := Lib.hid (by
                rw [← hstep2.out, if_pos (by omega)])
              go_wp2_with fail
              go_roundw
              case rel =>
                have hb5 := hbst nt (4 + nt) o q
                exact ⟨q + 1, by omega, by go_num, hb4.trans (hb5.mono (by omega)), k3.below hb5 (by omega), z3.below hb5 (by omega), b3.below hb5 (by omega), y.set nt o q, by rw [← hYC.out] at y3; rw [← bestCells_set y nt hnt4]; exact (y3.put nt _).put (4 + nt) _, hst⟩
              case measure => simp [intOf]; omega
            · have hd1 : decide (yv < 0) = false := by simpa using hy0
              by_cases hy1 : o < yv
              · have hd2 : decide (o < yv) = true := by simpa using hy1
                have hst : Hid (turnFrom t.op (smallT t.op t.nt) (kcOf bs) b.cost (rs.drop (q + 1)) (q + 1) (y.set nt o q) = turn rs t.op (smallT t.op t.nt) (kcOf bs) b.cost) := Lib.hid (by
                  rw [← hstep2.out, if_pos (by omega)])
                go_wp2_with fail
                go_roundw
                case rel =>
                  have hb5 := hbst nt (4 + nt) o q
                  exact ⟨q + 1, by omega, by go_num, hb4.trans (hb5.mono (by omega)), k3.below hb5 (by omega), z3.below hb5 (by omega), b3.below hb5 (by omega), y.set nt o q, by rw [← hYC.out] at y3; rw [← bestCells_set y nt hnt4]; exact (y3.put nt _).put (4 + nt) _, hst⟩
                case measure => simp [intOf]; omega
              · have hd2 : decide (o < yv) = false := by simpa using hy1
                have hst : Hid (turnFrom t.op (smallT t.op t.nt) (kcOf bs) b.cost (rs.drop (q + 1)) (q + 1) y = turn rs t.op (smallT t.op t.nt) (kcOf bs) b.cost) := Lib.hid (by
                  rw [← hstep2.out, if_neg (by omega)])
                rw [← hYC.out] at y3
                go_wp2_with fail
                go_roundw
                case rel => exact ⟨q + 1, by omega, by go_num, y, y3, hst⟩
                case measure => simp [intOf]; omega
        · obtain rfl : q = n := by omega
          have hye : Hid (y = turn rs t.op (smallT t.op t.nt) (kcOf bs) b.cost) := Lib.hid (by
            rw [← hturn.out, List.drop_eq_nil_of_le (by rw [hn.out]; omega)]; rfl)
          obtain ⟨YC, hYC⟩ : ∃ v, Hid (bestCells y = v) := ⟨_, Lib.hid rfl⟩
          obtain ⟨BC, hBC⟩ : ∃ v, Hid (bestCells b = v) := ⟨_, Lib.hid rfl⟩
          rw [hYC.out] at y2
          rw [hBC.out] at b2
          have hYs : YC.size = 8 := by rw [← hYC.out]; rfl
          have hBs : BC.size = YC.size := by rw [hYs, ← hBC.out]; rfl
          have hY1 : YC.all (·.oneCell') = true := by rw [← hYC.out]; simp [bestCells, Value.oneCell']
          have hiy : (Tryd.prog.info? 74).map (·.size) = some YC.size := by rw [hYs]; exact least_info
          go_wp2_with (first | (refine wpList_load_row rfl 74 (.tmp 9) rfl wo.heap.size rfl 74 YC (0, 0) _ y2 Tryd.underlying74 rfl hiy ?_) | (refine wpList_store_row rfl 74 (.tmp 7) (.tmp 65) rfl (w.heap.size + 1 + 1) YC rfl rfl 74 BC b2 hiy hBs hY1 ?_))
          have hbp : w.heap.size + 1 + 1 < wo.heap.size := hlt9
          have hnext : Hid (turns rs t.op (smallT t.op t.nt) (kcOf bs) (k + 1) = y) := Lib.hid (by
            rw [hye.out, ← hbt.out]; rfl)
          go_roundw
          case rel =>
            exact ⟨k + 1, by omega, by go_num, below_setRow hb2 (by omega) _, (setRow_other _ _ _ _ (by omega)).trans k2, (setRow_other _ _ _ _ (by omega)).trans z2, by rw [hnext.out, hYC.out]; exact setRow_heap _ _ _ _ _ _ b2⟩
          case measure => simp [intOf]; omega
    · obtain rfl : k = 5 := by omega
      obtain ⟨BC, hBC⟩ : ∃ K, Hid (bestCells b = K) := ⟨_, Lib.hid rfl⟩
      have hBs : BC.size = 8 := by rw [← hBC.out]; rfl
      have hB1 : BC.all (·.oneCell') = true := by rw [← hBC.out]; simp [bestCells, Value.oneCell']
      have hZs : Z.size = BC.size := by rw [hBs, ← hZ.out]; rfl
      have hRB : Hid (bestCells R = BC) := Lib.hid (by rw [← hR.out, hbt.out]; exact hBC.out)
      have hib : (Tryd.prog.info? 74).map (·.size) = some BC.size := by rw [hBs]; exact least_info
      rw [hBC.out] at bx
      go_wp2_with (first | (refine wpList_load_row rfl 74 (.tmp 7) rfl (w.heap.size + 1 + 1) rfl 74 BC (0, 0) _ bx Tryd.underlying74 rfl hib ?_) | (refine wpList_store_row rfl 74 (.tmp 6) (.tmp 66) rfl (w.heap.size + 1) BC rfl rfl 74 Z zx hib hZs hB1 ?_))
      refine bodyPost_ret (v := .agg BC) (results_cell_row Tryd.results112 _ _ (w.heap.size + 1) 74 BC (0, 0) _ rfl (setRow_heap _ _ _ _ _ _ zx) Tryd.underlying74 rfl hib) rfl ?_
      exact ⟨by rw [hRB.out], below_setRow hb (by omega) _⟩

end

/- Two owned slices side by side (of different element types), and a tree's labels as data. -/
section
open Go.RowKit

theorem Own.apart {w : World} {B1 B2 : Nat} {ok1 ok2 : Nat → Prop} {e1 e2 : TypeId} {z1 z2 : Nat} {v1 v2 : Value} {ds1 ds2 : List D} (h1 : Own w B1 ok1 e1 z1 v1 ds1) (h2 : Own w B2 ok2 e2 z2 v2 ds2) (hne : e2 ≠ e1) :
    ∀ g, v1.ownBlock = some g → some g ≠ v2.ownBlock := by
  intro g hg
  obtain ⟨xs, hr, _⟩ := h1
  rcases hr.2 with ⟨hv, _⟩ | ⟨g', cap, cur, hv, _, hh, _⟩
  · rw [hv] at hg; cases hg
  · have : g' = g := by rw [hv] at hg; simpa [Value.ownBlock] using hg
    subst this
    exact h2.ne_blk (show BlkIs w g' e1 cur from hh) hne

/-- an owned slice stays while another's block is written or given up -/
theorem Own.other {w w' : World} {B : Nat} {ok : Nat → Prop} {e : TypeId} {z : Nat} {v : Value} {ds : List D} {b b' : Option Nat} (h : Own w B (fun g => ok g ∧ some g ≠ b) e z v ds)
    (hv : ∀ g, v.ownBlock = some g → some g ≠ b) (hk : ∀ g, some g ≠ b → g < w.heap.size → w'.heap[g]? = w.heap[g]?) (hb : b' = b ∨ ∃ g, b' = some g ∧ w.heap.size ≤ g) : Own w' B (fun g => ok g ∧ some g ≠ b') e z v ds := by
  obtain ⟨xs, h1, h2⟩ := h
  refine ⟨xs, ⟨h1.1, ?_⟩, Cells.keep (fun g hg hl => ⟨⟨hg.1.1, ?_⟩, hg.2⟩) (fun g hg hl => hk g hg.1.2 hl) h2⟩
  · rcases h1.2 with h3 | ⟨g, cap, cur, hvv, hbb, hh, hr⟩
    · exact .inl h3
    · exact .inr ⟨g, cap, cur, hvv, hbb, (hk g (hv g (by rw [hvv]; rfl)) (lt_of_block hh)).trans hh, hr⟩
  · rcases hb with rfl | ⟨g', rfl, hg'⟩
    · exact hg.1.2
    · intro h; injection h with h; omega

/-- append_one that tells where the new row lies -/
theorem append_two {P : Program} {ops : Array Oper} {rest : List Oper} {o : Oper} {a : Act} {Q : Exit → Act → World → Prop} {w : World} (hgd : o.guard = none) (s x : Operand) (T e : TypeId) (z bytes : Nat) (zero : Value)
    (ho : o.op = .call { callee := .builtin .append, args := #[s, x], argTypes := #[T, T] })
    (hT : P.underlying T = some (.slice e)) (hi : (P.info? e).map (fun i => (i.zero, i.size, i.bytes)) = some (some zero, z, bytes)) (hzs : zero.cells.size = z) (hsz : 0 < z) (hb : bytes ≤ 1000)
    (B : Nat) (ok : Nat → Prop) (v : Value) (ds : List D) (hs : a.eval s = v) (g : Nat) (hx : a.eval x = .slice (some ⟨g, 0, none⟩) 1 1)
    (hown : Own w B ok e z v ds) (cs : List Value) (d : D) (hnew : BlkIs w g e cs.toArray) (hl : cs.length = z) (h1 : ∀ u ∈ cs, u.oneCell' = true)
    (hd : Rep w (fun k => ok k ∧ some k ≠ v.ownBlock) d cs) (hlen : ds.length ≤ 1000000000) (hB : B ≤ w.heap.size)
    (h : ∀ v' w', Own w' B ok e z v' (ds ++ [d]) → Below B w w' → (∀ k, some k ≠ v.ownBlock → k < w.heap.size → w'.heap[k]? = w.heap[k]?) → (v'.ownBlock = v.ownBlock ∨ ∃ g, v'.ownBlock = some g ∧ w.heap.size ≤ g) → wpList P ops Q rest (a.put o.dst v') w') :
    wpList P ops Q (o :: rest) a w := by
  obtain ⟨i0, hi0, hz0, hz1, hz2⟩ := info_parts hi
  obtain ⟨xs, hrow, hcells⟩ := hown
  have hmul : (ds.length + 1) * bytes ≤ 140737488355328 := by
    have := Nat.mul_le_mul (show ds.length + 1 ≤ 1000000001 by omega) hb
    omega
  obtain ⟨v', w', hrun, h2, h3, _, h5⟩ := run_append_own_at (P := P) w B T o.type e i0 zero z bytes hT hi0 hz0 hz1 hz2 hzs hsz v ds.length xs hrow ⟨g, 0, none⟩ 1 1 cs (by rw [hl]; omega) (hnew.cells (by simp)) h1 (by unfold maxLen; omega) hmul hB
  refine wpList_plain hgd fun _ hK => ?_
  unfold Oper.wp execOp
  simp only [ho, resolve, invoke, builtin, Sem.run_bind, Sem.run_pure, Result.andThen_ok, List.map_toArray, List.map_cons, List.map_nil, hs, hx, hrun]
  have hkeep : ∀ k, some k ≠ v.ownBlock → k < w.heap.size → w'.heap[k]? = w.heap[k]? := fun k hk hlt => h3.block k hlt hk
  have hok : ∀ k, ok k ∧ some k ≠ v.ownBlock → k < w.heap.size → ok k ∧ some k ≠ v'.ownBlock := by
    intro k hk hlt
    refine ⟨hk.1, ?_⟩
    rcases h5 with h5 | h5
    · rw [h5]; exact hk.2
    · rw [h5]; intro e; injection e with e; omega
  refine hK _ _ (h v' w' ⟨xs ++ cs, by rw [List.length_append]; exact h2, ?_⟩ ((Below.refl _ _).grown h3 hB (own_block_ge hrow)) (fun k hk hlt => h3.block k hlt hk) ?_)
  · exact Cells.snoc hl (Rep.keep hok (fun k hk => hkeep k hk.2) d cs hd) (Cells.keep hok (fun k hk => hkeep k hk.2) hcells)
  · rcases h5 with h5 | h5
    · exact .inl h5
    · exact .inr ⟨_, h5, by omega⟩

/-- a tree's labels, as the reference keeps them -/
def encL (rs : List Rule) : Pat → D
  | .mk op nt ks => .st [.int .i64 (labB rs (.mk op nt ks)).c0, .int .i64 (labB rs (.mk op nt ks)).c1, .int .i64 (labB rs (.mk op nt ks)).c2, .int .i64 (labB rs (.mk op nt ks)).c3, .int .i64 (labB rs (.mk op nt ks)).r0, .int .i64 (labB rs (.mk op nt ks)).r1, .int .i64 (labB rs (.mk op nt ks)).r2, .int .i64 (labB rs (.mk op nt ks)).r3, .lst 9 (encLs rs ks)]
where encLs (rs : List Rule) : List Pat → List D
  | [] => []
  | t :: ts => encL rs t :: encLs rs ts

theorem encLs_map (rs : List Rule) : ∀ ts : List Pat, encL.encLs rs ts = ts.map (encL rs)
  | [] => rfl
  | t :: ts => by unfold encL.encLs; rw [encLs_map rs ts]; rfl

def labCells (b : Best) (v : Value) : Array Value := #[.int .i64 b.c0, .int .i64 b.c1, .int .i64 b.c2, .int .i64 b.c3, .int .i64 b.r0, .int .i64 b.r1, .int .i64 b.r2, .int .i64 b.r3, v]

theorem rep_lab_mk {w : World} {ok : Nat → Prop} {rs : List Rule} {t : Pat} {v : Value} (h : Rep w ok (.lst 9 (t.kids.map (encL rs))) [v]) : Rep w ok (encL rs t) (labCells (labB rs t) v).toList := by
  cases t with
  | mk op nt ks =>
    unfold encL
    rw [encLs_map]
    unfold Rep labCells
    simp only [RepAll, Rep]
    unfold Rep at h
    exact ⟨[_], _, rfl, rfl, [_], _, rfl, rfl, [_], _, rfl, rfl, [_], _, rfl, rfl, [_], _, rfl, rfl, [_], _, rfl, rfl, [_], _, rfl, rfl, [_], _, rfl, rfl, [_], [], rfl, h, rfl⟩

theorem lab_info : (Tryd.prog.info? 118).map (fun i => (i.zero, i.size, i.bytes)) = some (some (.agg (labCells zeroB (.slice none 0 0))), 9, 88) := by kernel_rfl
theorem least_info3 : (Tryd.prog.info? 74).map (fun i => (i.zero, i.size, i.bytes)) = some (some (.agg (bestCells zeroB)), 8, 64) := by kernel_rfl

end

end Go.Proofs.YtaippkdlibampaaDoor

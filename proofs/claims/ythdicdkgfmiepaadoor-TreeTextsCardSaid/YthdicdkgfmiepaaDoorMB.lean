/- A tree's text, by the reference: gantletref6.Text walked. Plain: what a tree's reader makes of a text. Plain: what is read is what was written, and the other way about. The program's reader of a tree walked. -/
import Derived.Test.YthdicdkgfmiepaaDoorTtB
import Derived.Test.YthdicdkgfmiepaaDoorMA
namespace Go.Proofs.YthdicdkgfmiepaaDoor

/- A tree's text, by the reference: gantletref6.Text walked. -/
section
open Go.RowKit

def TextROk (p : Pat) : Prop := ∀ (A : Option Addr) (c : Nat) (w : World), PatIn w A c p → PatWf p → treeOk p = true → patN p ≤ 1000 →
  Calls Tryd.prog 35 #[.agg #[.int .i64 p.op, .int .i64 p.nt, .slice A p.kids.length c]] w fun e w' => e = .returned (.string ⟨(textT p).toArray⟩) ∧ Below w.heap.size w w'

set_option maxRecDepth 100000 in
set_option maxHeartbeats 4000000 in
theorem textR_of (p : Pat) (ih : ∀ i (h : i < p.kids.length), TextROk p.kids[i]) : TextROk p := by
  intro A c w hp hwf hok hlen
  have hkp := hp.kids
  have hle := hkp.le
  unfold maxLen at hle
  have hte := Lib.hid (textT_eq p)
  have hwk : Hid (∀ k ∈ p.kids, PatWf k) := Lib.hid hwf.kid
  have hnr := hwf.nt
  have hkok := Lib.hid (treeOk_kid hok)
  have htop : topOk p.op p.nt p.kids.length = true := by rw [treeOk_eq, Bool.and_eq_true] at hok; exact hok.1
  rw [patN_eq] at hlen
  obtain ⟨n, hn⟩ : ∃ n, Hid (p.kids.length = n) := ⟨_, Lib.hid rfl⟩
  obtain ⟨nt, hnt⟩ : ∃ x, Hid (p.nt = x) := ⟨_, Lib.hid rfl⟩
  obtain ⟨tot, ht⟩ : ∃ x, Hid (patsN p.kids = x) := ⟨_, Lib.hid rfl⟩
  rw [ht.out] at hlen
  rw [hnt.out] at hnr
  have hop : ∃ m : Nat, 1 ≤ m ∧ m ≤ 36 ∧ p.op = (m : Int) := by
    unfold topOk isOp at htop
    simp at htop
    exact ⟨p.op.toNat, by omega, by omega, by omega⟩
  obtain ⟨m, hm1, hm2, hop⟩ := hop
  have hop := Lib.hid hop
  have hwl : (wordT (m : Int)).length ≤ 7 := wordT_len _
  have hdl := decT_len hnr
  have HK := Lib.hid hkp
  have HI := Lib.hid ih
  have c0 := fun W => refWord_any m hm1 hm2 W
  have c5 := fun W => dec_any nt hnr W
  rw [hop.out, hnt.out] at hte
  rw [hop.out, hnt.out, hn.out]
  rw [hn.out] at hle
  have hwe : opWords.getD (m - 1) [] = wordT (m : Int) := by
    unfold wordT
    rw [show ((m : Int) - 1).toNat = m - 1 by omega]
  rw [hwe] at c0
  have hlfe : isLeaf (m : Int) = decide (m ≤ 4) := by
    unfold isLeaf
    rw [show decide (1 ≤ (m : Int)) = true by simp; omega, Bool.true_and]
    by_cases h : m ≤ 4
    · simp [h]; omega
    · simp [h]; omega
  have h0 : m ≤ 4 → n = 0 := by
    intro h
    unfold topOk arityOf at htop
    rw [hop.out, hlfe, hn.out] at htop
    simp [h] at htop
    omega
  obtain ⟨wd, hwd⟩ : ∃ x, Hid (wordT (m : Int) = x) := ⟨_, Lib.hid rfl⟩
  obtain ⟨dt, hdt⟩ : ∃ x, Hid (decT nt = x) := ⟨_, Lib.hid rfl⟩
  rw [hwd.out] at hwl c0
  rw [hdt.out] at hdl c5
  have hte2 := hte.out
  rw [hwd.out, hdt.out, hlfe] at hte2
  have hte := Lib.hid hte2
  obtain ⟨s1, hs1⟩ : ∃ x, Hid (wd ++ [40] = x) := ⟨_, Lib.hid rfl⟩
  have hs1l : s1.length ≤ 8 := by rw [← hs1.out]; simp; omega
  have p1 := fun W => add_str wd [40] s1 hs1.out (by simp; omega) W
  have hb0 := below_alloc w (.cells #[.int .i64 (m : Int), .int .i64 nt, .slice A n c] 55)
  have hbx : BlkIs (w.alloc (.cells #[.int .i64 (m : Int), .int .i64 nt, .slice A n c] 55)) w.heap.size 55 #[.int .i64 (m : Int), .int .i64 nt, .slice A n c] := BlkIs.fresh _ _ _
  clear htop hte2 hok hwf hp hkp ih hwe
  go_enter Tryd.func35, Tryd.ntmps35
  go_upto_region 1 with fail
  obtain ⟨w1, hw1⟩ : ∃ w1, w1 = w.alloc (.cells #[.int .i64 (m : Int), .int .i64 nt, .slice A n c] 55) := ⟨_, rfl⟩
  rw [← hw1] at hb0 hbx
  rw [← hw1]
  clear hw1
  have x0 : w1.cell? ⟨w.heap.size, 0, none⟩ = some (.int .i64 (m : Int)) := hbx.cell 0
  have hlt1 := hbx.lt
  go_wp2_with fail
  refine (c0 _).mono ?_
  rintro e w2 ⟨rfl, hw2⟩
  have hb2 : Below w.heap.size w w2 := by rw [← hw2]; exact hb0.trans ((below_alloc _ _).mono hb0.size)
  have hbx2 : BlkIs w2 w.heap.size 55 #[.int .i64 (m : Int), .int .i64 nt, .slice A n c] := by rw [← hw2]; exact hbx.alloc _
  clear hw2 x0 c0
  have y0 : w2.cell? ⟨w.heap.size, 0, none⟩ = some (.int .i64 (m : Int)) := hbx2.cell 0
  have y1 : w2.cell? ⟨w.heap.size, 1, none⟩ = some (.int .i64 nt) := hbx2.cell 1
  have y2 : w2.cell? ⟨w.heap.size, 2, none⟩ = some (.slice A n c) := hbx2.cell 2
  have hlt2 := hbx2.lt
  by_cases hm4 : m ≤ 4
  · have hn0 := h0 hm4
    obtain ⟨s2, hs2⟩ : ∃ x, Hid (s1 ++ dt = x) := ⟨_, Lib.hid rfl⟩
    have hs2l : s2.length ≤ 28 := by rw [← hs2.out]; simp; omega
    obtain ⟨s3, hs3⟩ : ∃ x, Hid (s2 ++ [41] = x) := ⟨_, Lib.hid rfl⟩
    have p2 := fun W => add_str s1 dt s2 hs2.out (by omega) W
    have p3 := fun W => add_str s2 [41] s3 hs3.out (by simp; omega) W
    have hfin : textT p = s3 := by
      have hk : p.kids = [] := List.length_eq_zero_iff.1 (by rw [hn.out]; exact hn0)
      rw [hte.out, hk, ← hs3.out, ← hs2.out, ← hs1.out]
      simp [kidsT, hm4]
    have HF := Lib.hid hfin
    clear hfin
    go_wp2_with (go_at_call 65; refine (c5 _).mono ?_; rintro e w3 ⟨rfl, hb3⟩)
    go_ret
    exact ⟨by rw [HF.out]; rfl, hb2.trans (hb3.mono hb2.size)⟩
  · go_wp2_with fail
    go_loopw [3, 4] (fun x i wr => ∃ k : Nat, ∃ sk : List UInt8, k ≤ n ∧ i = .int .i64 k ∧ x = .string ⟨sk.toArray⟩ ∧ Hid (sk = s1 ++ kidsT 0 (p.kids.take k)) ∧ Below w.heap.size w wr ∧ BlkIs wr w.heap.size 55 #[.int .i64 (m : Int), .int .i64 nt, .slice A n c]) (fun _ i _ => n - (intOf i).toNat)
    case atStart => exact ⟨0, s1, by omega, rfl, rfl, Lib.hid (by simp [kidsT]), hb2, hbx2⟩
    case round =>
      obtain ⟨k, sk, hk, rfl, rfl, hsk, hb, hbk⟩ := hrel
      obtain ⟨wo, rfl⟩ : ∃ wo : World, wo = wr := ⟨_, rfl⟩
      clear y0 y1 y2 hbx2 hb2
      have y2 : wo.cell? ⟨w.heap.size, 2, none⟩ = some (.slice A n c) := hbk.cell 2
      have hltw := hbk.lt
      have hskl : sk.length ≤ 8 + 31 * patsN (p.kids.take k) := by
        have := kids_len (p.kids.take k) 0 (fun q hq => hwk.out q (List.mem_of_mem_take hq))
        rw [hsk.out, List.length_append]
        omega
      have htl := patsN_take_le p.kids k
      rw [ht.out] at htl
      have hskl2 : sk.length ≤ 40000 := by omega
      by_cases hlt : k < n
      · have hkl : k < p.kids.length := by rw [hn.out]; exact hlt
        obtain ⟨ok, hps⟩ := HK.out.below hb
        obtain ⟨g, off, B, c', rfl, _, hg, ⟨a0, a1, a2⟩, hpi⟩ := pats_at hps k hkl
        have htk := Lib.hid (kidsT_take p.kids k hkl)
        have hN1 := patsN_take p.kids k hkl
        have hN2 := patsN_take_le p.kids (k + 1)
        rw [ht.out] at hN2
        have hcall := HI.out k hkl
        have hqw := Lib.hid (hwk.out _ (List.getElem_mem hkl))
        have hqo := Lib.hid (hkok.out k hkl)
        obtain ⟨q, hq⟩ : ∃ q, Hid (p.kids[k] = q) := ⟨_, Lib.hid rfl⟩
        rw [hq.out] at a0 a1 a2 hpi hcall htk hN1 hqw hqo
        have HQ : Hid (PatIn wo B c' q) := Lib.hid ⟨_, hpi⟩
        have HC := Lib.hid hcall
        have hql := text_len q hqw.out
        have hqn : patN q ≤ 1000 := by omega
        obtain ⟨tq, htq⟩ : ∃ x, Hid (textT q = x) := ⟨_, Lib.hid rfl⟩
        rw [htq.out] at hql htk
        have hbz := hb.size
        clear hps hpi hcall hN1 hN2 htl hskl
        rcases Nat.eq_zero_or_pos k with rfl | hkp
        · simp only [Nat.zero_mul, Nat.add_zero] at a0 a1 a2
          obtain ⟨s4, hs4⟩ : ∃ x, Hid (sk ++ tq = x) := ⟨_, Lib.hid rfl⟩
          have p4 := fun W => add_str sk tq s4 hs4.out (by omega) W
          go_wp2_with fail
          refine (HC.out B c' _ HQ.out hqw.out hqo.out hqn).mono ?_
          rintro e w4 ⟨rfl, hb4⟩
          rw [htq.out]
          go_wp2_with fail
          go_roundw
          case rel => exact ⟨1, s4, by omega, by go_num, rfl, Lib.hid (by rw [← hs4.out, hsk.out, htk.out]; simp [sepT, kidsT]), hb.trans (hb4.mono hbz), hbk.below hb4 hltw⟩
          case measure => simp [intOf]; omega
        · have hkd : decide ((0 : Int) < (k : Int)) = true := by simp; omega
          obtain ⟨s5, hs5⟩ : ∃ x, Hid (sk ++ [44, 32] = x) := ⟨_, Lib.hid rfl⟩
          have hs5l : s5.length ≤ 40002 := by rw [← hs5.out]; simp; omega
          have p5 := fun W => add_str sk [44, 32] s5 hs5.out (by simp; omega) W
          obtain ⟨s4, hs4⟩ : ∃ x, Hid (s5 ++ tq = x) := ⟨_, Lib.hid rfl⟩
          have p4 := fun W => add_str s5 tq s4 hs4.out (by omega) W
          go_wp2_with fail
          refine (HC.out B c' _ HQ.out hqw.out hqo.out hqn).mono ?_
          rintro e w4 ⟨rfl, hb4⟩
          rw [htq.out]
          go_wp2_with fail
          go_roundw
          case rel => exact ⟨k + 1, s4, by omega, by go_num, rfl, Lib.hid (by rw [← hs4.out, ← hs5.out, hsk.out, htk.out]; simp [sepT, show ¬ k = 0 by omega]), hb.trans (hb4.mono hbz), hbk.below hb4 hltw⟩
          case measure => simp [intOf]; omega
      · obtain rfl : k = n := by omega
        have hke : p.kids.take k = p.kids := List.take_of_length_le (by rw [hn.out]; omega)
        obtain ⟨s4, hs4⟩ : ∃ x, Hid (sk ++ [41] = x) := ⟨_, Lib.hid rfl⟩
        have p4 := fun W => add_str sk [41] s4 hs4.out (by simp; omega) W
        have HF : Hid (textT p = s4) := Lib.hid (by rw [hte.out, ← hs4.out, hsk.out, hke, ← hs1.out]; simp [hm4])
        clear hke
        go_wp2_with fail
        go_ret
        exact ⟨by rw [HF.out]; rfl, hb⟩

theorem textR_any' : ∀ p : Pat, TextROk p
  | .mk op nt kids => textR_of _ fun i h => textR_any' kids[i]
termination_by p => SizeOf.sizeOf p
decreasing_by
  have := List.sizeOf_lt_of_mem (List.getElem_mem h)
  simp only [Pat.kids] at this
  simp only [Pat.mk.sizeOf_spec]
  omega

end

/- Plain: what a tree's reader makes of a text. -/
section
open Go.RowKit

/-- kids one behind the other -/
def rdKs (rd : List UInt8 → Nat → Option (Pat × List UInt8 × Nat)) : Nat → Nat → List UInt8 → Nat → Option (List Pat × List UInt8 × Nat)
  | 0, _, s, m => some ([], s, m)
  | n + 1, i, s, m =>
    if i = 0 ∨ aheadB [44, 32] s = true then
      match rd (if i = 0 then s else s.drop 2) m with
      | none => none
      | some (p, s2, m2) =>
        match rdKs rd n (i + 1) s2 m2 with
        | none => none
        | some (ps, s3, m3) => some (p :: ps, s3, m3)
    else none

/-- what a tree's reader makes of a text: the tree, what is left, how many nodes may still come -/
def rdT : Nat → List UInt8 → Nat → Option (Pat × List UInt8 × Nat)
  | 0, _, _ => none
  | f + 1, s, m =>
    if m = 0 then none else
    match idxB 40 s with
    | none => none
    | some k =>
      if opT (s.take k) = 0 then none
      else if isLeaf (opT (s.take k)) = true then
        match numR (s.drop (k + 1)) with
        | none => none
        | some (v, j) => some (.mk (opT (s.take k)) v [], s.drop (k + 1 + (j + 1)), m - 1)
      else
        match rdKs (rdT f) (arityOf (opT (s.take k))).toNat 0 (s.drop (k + 1)) (m - 1) with
        | none => none
        | some (ps, s2, m2) => if aheadB [41] s2 = true then some (.mk (opT (s.take k)) 0 ps, s2.drop 1, m2) else none

/-- a reader that takes from its text, and of its nodes -/
def RdDown (rd : List UInt8 → Nat → Option (Pat × List UInt8 × Nat)) : Prop := ∀ s m p s2 m2, rd s m = some (p, s2, m2) → s2.length ≤ s.length ∧ m2 ≤ m

theorem rdKs_down {rd : List UInt8 → Nat → Option (Pat × List UInt8 × Nat)} (h : RdDown rd) : ∀ (n i : Nat) (s : List UInt8) (m : Nat) (ps : List Pat) (s3 : List UInt8) (m3 : Nat), rdKs rd n i s m = some (ps, s3, m3) → ps.length = n ∧ s3.length ≤ s.length ∧ m3 ≤ m
  | 0, i, s, m, ps, s3, m3, e => by
    unfold rdKs at e
    injection e with e
    injection e with e1 e
    injection e with e2 e3
    subst e1 e2 e3
    exact ⟨rfl, Nat.le_refl _, Nat.le_refl _⟩
  | n + 1, i, s, m, ps, s3, m3, e => by
    unfold rdKs at e
    split at e
    · cases hr : rd (if i = 0 then s else s.drop 2) m with
      | none => rw [hr] at e; cases e
      | some r =>
        obtain ⟨p, sa, ma⟩ := r
        rw [hr] at e
        simp only at e
        have h1 := h _ _ _ _ _ hr
        have h0 : (if i = 0 then s else s.drop 2).length ≤ s.length := by split <;> simp
        cases hk : rdKs rd n (i + 1) sa ma with
        | none => rw [hk] at e; cases e
        | some r =>
          obtain ⟨ps', sb, mb⟩ := r
          rw [hk] at e
          simp only at e
          injection e with e
          injection e with e1 e
          injection e with e2 e3
          subst e1 e2 e3
          obtain ⟨h2, h3, h4⟩ := rdKs_down h n (i + 1) sa ma _ _ _ hk
          exact ⟨by simp [h2], by omega, by omega⟩
    · cases e

theorem rdT_down : ∀ f, RdDown (rdT f)
  | 0 => by intro s m p s2 m2 e; unfold rdT at e; cases e
  | f + 1 => by
    intro s m p s2 m2 e
    unfold rdT at e
    split at e
    · cases e
    · cases hi : idxB 40 s with
      | none => rw [hi] at e; cases e
      | some k =>
        rw [hi] at e
        simp only at e
        split at e
        · cases e
        · split at e
          · cases hn : numR (s.drop (k + 1)) with
            | none => rw [hn] at e; cases e
            | some r =>
              obtain ⟨v, j⟩ := r
              rw [hn] at e
              simp only at e
              injection e with e
              injection e with _ e
              injection e with e2 e3
              subst e2 e3
              exact ⟨by rw [List.length_drop]; omega, by omega⟩
          · cases hk : rdKs (rdT f) (arityOf (opT (s.take k))).toNat 0 (s.drop (k + 1)) (m - 1) with
            | none => rw [hk] at e; cases e
            | some r =>
              obtain ⟨ps, sa, ma⟩ := r
              rw [hk] at e
              simp only at e
              split at e
              · injection e with e
                injection e with _ e
                injection e with e2 e3
                subst e2 e3
                obtain ⟨_, h3, h4⟩ := rdKs_down (rdT_down f) _ _ _ _ _ _ _ hk
                rw [List.length_drop] at h3 ⊢
                exact ⟨by omega, by omega⟩
              · cases e

/-- one kid more -/
theorem rdKs_step {rd : List UInt8 → Nat → Option (Pat × List UInt8 × Nat)} {n i : Nat} {s : List UInt8} {m : Nat} {p : Pat} {sa : List UInt8} {ma : Nat} (h0 : i = 0 ∨ aheadB [44, 32] s = true) (h : rd (if i = 0 then s else s.drop 2) m = some (p, sa, ma)) :
    rdKs rd (n + 1) i s m = (rdKs rd n (i + 1) sa ma).map fun r => (p :: r.1, r.2) := by
  rw [rdKs, if_pos h0, h]
  simp only
  cases rdKs rd n (i + 1) sa ma with
  | none => rfl
  | some r => rfl
theorem rdKs_bad {rd : List UInt8 → Nat → Option (Pat × List UInt8 × Nat)} {n i : Nat} {s : List UInt8} {m : Nat} (h0 : ¬ (i = 0 ∨ aheadB [44, 32] s = true)) : rdKs rd (n + 1) i s m = none := by rw [rdKs, if_neg h0]
theorem rdKs_none {rd : List UInt8 → Nat → Option (Pat × List UInt8 × Nat)} {n i : Nat} {s : List UInt8} {m : Nat} (h0 : i = 0 ∨ aheadB [44, 32] s = true) (h : rd (if i = 0 then s else s.drop 2) m = none) : rdKs rd (n + 1) i s m = none := by
  rw [rdKs, if_pos h0, h]

theorem numR_ahead {s : List UInt8} {v : Int} {j : Nat} (h : numR s = some (v, j)) : aheadB [41] (s.drop j) = true := by
  unfold numR at h
  cases hi : idxB 41 s with
  | none => rw [hi] at h; cases h
  | some k =>
    rw [hi] at h
    simp only at h
    cases hn : numT (s.take k) with
    | none => rw [hn] at h; cases h
    | some x =>
      rw [hn] at h
      simp only at h
      injection h with h
      injection h with _ h2
      subst h2
      have h3 := idxB_at hi
      have h4 := idxB_lt hi
      unfold aheadB
      rw [List.drop_eq_getElem_cons h4, h3]
      simp

/-- how the whole of the kids follows from the rest -/
def KidsFrom (rd : List UInt8 → Nat → Option (Pat × List UInt8 × Nat)) (K : Option (List Pat × List UInt8 × Nat)) (done : List Pat) (n k : Nat) (s : List UInt8) (m : Nat) : Prop := K = (rdKs rd (n - k) k s m).map fun r => (done ++ r.1, r.2)
theorem KidsFrom.start (rd : List UInt8 → Nat → Option (Pat × List UInt8 × Nat)) (n : Nat) (s : List UInt8) (m : Nat) : KidsFrom rd (rdKs rd n 0 s m) [] n 0 s m := by
  unfold KidsFrom
  rw [Nat.sub_zero]
  cases rdKs rd n 0 s m with
  | none => rfl
  | some r => rfl
section
variable {rd : List UInt8 → Nat → Option (Pat × List UInt8 × Nat)} {K : Option (List Pat × List UInt8 × Nat)} {done : List Pat} {n k : Nat} {s : List UInt8} {m : Nat}
theorem KidsFrom.step (h : KidsFrom rd K done n k s m) (hk : k < n) {p : Pat} {sa : List UInt8} {ma : Nat} (h0 : k = 0 ∨ aheadB [44, 32] s = true) (hr : rd (if k = 0 then s else s.drop 2) m = some (p, sa, ma)) : KidsFrom rd K (done ++ [p]) n (k + 1) sa ma := by
  unfold KidsFrom at *
  rw [h, show n - k = (n - (k + 1)) + 1 by omega, rdKs_step h0 hr]
  cases rdKs rd (n - (k + 1)) (k + 1) sa ma with
  | none => rfl
  | some r => simp
theorem KidsFrom.bad (h : KidsFrom rd K done n k s m) (hk : k < n) (h0 : ¬ (k = 0 ∨ aheadB [44, 32] s = true)) : K = none := by
  unfold KidsFrom at *
  rw [h, show n - k = (n - (k + 1)) + 1 by omega, rdKs_bad h0]; rfl
theorem KidsFrom.none (h : KidsFrom rd K done n k s m) (hk : k < n) (h0 : k = 0 ∨ aheadB [44, 32] s = true) (hr : rd (if k = 0 then s else s.drop 2) m = none) : K = none := by
  unfold KidsFrom at *
  rw [h, show n - k = (n - (k + 1)) + 1 by omega, rdKs_none h0 hr]; rfl
theorem KidsFrom.last (h : KidsFrom rd K done n n s m) : K = some (done, s, m) := by
  unfold KidsFrom at *
  rw [h, Nat.sub_self, rdKs]; simp
end

end

/- Plain: what is read is what was written, and the other way about. -/
section
open Go.RowKit

theorem opT_word {s : List UInt8} (h : opT s ≠ 0) : s = wordT (opT s) ∧ 1 ≤ opT s ∧ opT s ≤ 36 := by
  have h2 := opT_in s
  refine ⟨?_, by omega, h2.2⟩
  unfold opT at *
  cases hi : idxT opWords s with
  | none => rw [hi] at h; simp at h
  | some k =>
    unfold idxT at hi
    obtain ⟨h3, h4, _⟩ := List.findIdx?_eq_some_iff_getElem.1 hi
    unfold wordT
    simp only
    rw [show (((k + 1 : Nat) : Int) - 1).toNat = k by omega, List.getD_eq_getElem?_getD, List.getElem?_eq_getElem h3]
    simpa using (by simpa using h4 : opWords[k] = s).symm

theorem split_at {c : UInt8} {s : List UInt8} {k : Nat} (h : idxB c s = some k) : s = s.take k ++ [c] ++ s.drop (k + 1) := by
  have h1 := idxB_lt h
  have h2 := idxB_at h
  rw [List.append_assoc, List.singleton_append, ← h2, List.getElem_cons_drop, List.take_append_drop]

theorem ahead_split {b s : List UInt8} (h : aheadB b s = true) : s = b ++ s.drop b.length := by
  unfold aheadB at h
  rw [beq_iff_eq] at h
  conv => lhs; rw [← List.take_append_drop b.length s, h]

theorem textT_leaf {op n : Int} (h : isLeaf op = true) : textT (.mk op n []) = wordT op ++ [40] ++ decT n ++ [41] := by
  rw [textT_eq]
  show wordT op ++ [40] ++ (if isLeaf op = true then decT n else []) ++ kidsT 0 [] ++ [41] = _
  rw [if_pos h]
  simp [kidsT]
theorem textT_node {op n : Int} {ks : List Pat} (h : ¬ isLeaf op = true) : textT (.mk op n ks) = wordT op ++ [40] ++ kidsT 0 ks ++ [41] := by
  rw [textT_eq]
  show wordT op ++ [40] ++ (if isLeaf op = true then decT n else []) ++ kidsT 0 ks ++ [41] = _
  rw [if_neg h]
  simp

theorem i64_mk {n : Int} (h : I64r n) : I64 n := by
  unfold I64r at h
  unfold I64 Lit.wf
  simp [IntKind.min, IntKind.max, IntKind.signed, IntKind.bits]
  omega

def Sound (rd : List UInt8 → Nat → Option (Pat × List UInt8 × Nat)) : Prop := ∀ s m p s2 m2, rd s m = some (p, s2, m2) → s = textT p ++ s2 ∧ PatWf p

theorem rdKs_sound {rd : List UInt8 → Nat → Option (Pat × List UInt8 × Nat)} (h : Sound rd) : ∀ (n i : Nat) (s : List UInt8) (m : Nat) (ps : List Pat) (s3 : List UInt8) (m3 : Nat), rdKs rd n i s m = some (ps, s3, m3) → s = kidsT i ps ++ s3 ∧ ∀ p ∈ ps, PatWf p
  | 0, i, s, m, ps, s3, m3, e => by
    unfold rdKs at e
    injection e with e
    injection e with e1 e
    injection e with e2 e3
    subst e1 e2
    simp [kidsT]
  | n + 1, i, s, m, ps, s3, m3, e => by
    unfold rdKs at e
    split at e
    · rename_i hsep
      cases hr : rd (if i = 0 then s else s.drop 2) m with
      | none => rw [hr] at e; cases e
      | some r =>
        obtain ⟨p, sa, ma⟩ := r
        rw [hr] at e
        simp only at e
        obtain ⟨h1, h2⟩ := h _ _ _ _ _ hr
        cases hk : rdKs rd n (i + 1) sa ma with
        | none => rw [hk] at e; cases e
        | some r =>
          obtain ⟨ps', sb, mb⟩ := r
          rw [hk] at e
          simp only at e
          injection e with e
          injection e with e1 e
          injection e with e2 e3
          subst e1 e2
          obtain ⟨h3, h4⟩ := rdKs_sound h n (i + 1) sa ma _ _ _ hk
          refine ⟨?_, by
            intro q hq
            rcases List.mem_cons.1 hq with rfl | hq
            · exact h2
            · exact h4 q hq⟩
          unfold kidsT sepT
          by_cases hi : i = 0
          · rw [if_pos hi] at h1 ⊢
            rw [h1, h3]
            simp
          · rw [if_neg hi] at h1 ⊢
            have hs := ahead_split (hsep.resolve_left hi)
            rw [hs, show ([44, 32] : List UInt8).length = 2 from rfl, h1, h3]
            simp
    · cases e

theorem rdT_sound : ∀ f, Sound (rdT f)
  | 0 => by intro s m p s2 m2 e; unfold rdT at e; cases e
  | f + 1 => by
    intro s m p s2 m2 e
    unfold rdT at e
    split at e
    · cases e
    · cases hi : idxB 40 s with
      | none => rw [hi] at e; cases e
      | some k =>
        have hsp := split_at hi
        rw [hi] at e
        simp only at e
        split at e
        · cases e
        · rename_i hop0
          obtain ⟨hw, ho1, ho2⟩ := opT_word hop0
          have hI : I64 (opT (s.take k)) := i64_mk ⟨by omega, by omega⟩
          split at e
          · rename_i hlf
            cases hn : numR (s.drop (k + 1)) with
            | none => rw [hn] at e; cases e
            | some r =>
              obtain ⟨v, j⟩ := r
              rw [hn] at e
              simp only at e
              injection e with e
              injection e with e1 e
              injection e with e2 e3
              subst e1 e2
              unfold numR at hn
              cases hj : idxB 41 (s.drop (k + 1)) with
              | none => rw [hj] at hn; cases hn
              | some j2 =>
                have hsp2 := split_at hj
                rw [hj] at hn
                simp only at hn
                cases ht : numT ((s.drop (k + 1)).take j2) with
                | none => rw [ht] at hn; cases hn
                | some v2 =>
                  rw [ht] at hn
                  simp only at hn
                  injection hn with hn
                  injection hn with n1 n2
                  subst n1 n2
                  obtain ⟨t1, t2⟩ := num_text ht
                  refine ⟨?_, ?_⟩
                  · rw [textT_leaf hlf, ← hw, ← t1]
                    have hd : s.drop (k + 1 + (j2 + 1)) = (s.drop (k + 1)).drop (j2 + 1) := by rw [List.drop_drop]
                    rw [hd]
                    conv => lhs; rw [hsp, hsp2]
                    simp
                  · unfold PatWf
                    exact ⟨hI, i64_mk t2, trivial⟩
          · rename_i hlf
            cases hk : rdKs (rdT f) (arityOf (opT (s.take k))).toNat 0 (s.drop (k + 1)) (m - 1) with
            | none => rw [hk] at e; cases e
            | some r =>
              obtain ⟨ps, sa, ma⟩ := r
              rw [hk] at e
              simp only at e
              split at e
              · rename_i hah
                injection e with e
                injection e with e1 e
                injection e with e2 e3
                subst e1 e2
                obtain ⟨h3, h4⟩ := rdKs_sound (rdT_sound f) _ _ _ _ _ _ _ hk
                have h5 := ahead_split hah
                refine ⟨?_, ?_⟩
                · rw [textT_node hlf, ← hw]
                  have h6 : s.drop (k + 1) = kidsT 0 ps ++ ([41] ++ sa.drop 1) := by rw [h3]; congr 1
                  conv => lhs; rw [hsp, h6]
                  simp
                · unfold PatWf
                  exact ⟨hI, i64_mk ⟨by omega, by omega⟩, patsWf_of ps h4⟩
              · cases e

end

/- The program's reader of a tree walked. -/
section
open Go.RowKit

abbrev RdRes := Option (Pat × List UInt8 × Nat)
def RdPostP (o : RdRes) (g : Nat) (w : World) (e : Ending) (w' : World) : Prop := KeepM g w w' ∧ match o with
  | none => ∃ (a b : Int) (A : Option Addr) (n c : Nat), e = .returned (.tuple #[.agg #[.int .i64 a, .int .i64 b, .slice A n c], .bool false])
  | some (p, s2, m2) => ∃ (A : Option Addr) (d : Nat), e = .returned (.tuple #[.agg #[.int .i64 p.op, .int .i64 p.nt, .slice A p.kids.length d], .bool true]) ∧ Rep w' (fun k => w.heap.size ≤ k) (encP p) [.int .i64 p.op, .int .i64 p.nt, .slice A p.kids.length d] ∧ RdP w' g s2 m2

def RdOkP (f : Nat) : Prop := ∀ (s : List UInt8) (m g : Nat) (w : World), m < f → m ≤ 1000 → s.length ≤ 140737488355328 → RdP w g s m → Tabs2 w → Far g →
  Calls Tryd.prog 66 #[.pointer (some ⟨g, 0, none⟩)] w (RdPostP (rdT f s m) g w)

theorem RdPostP.bad {g : Nat} {w w' : World} {a b : Int} {A : Option Addr} {n c : Nat} (h : KeepM g w w') : RdPostP none g w (.returned (.tuple #[.agg #[.int .i64 a, .int .i64 b, .slice A n c], .bool false])) w' := ⟨h, a, b, A, n, c, rfl⟩
theorem self3 {w : World} {gz : Nat} {t : TypeId} {a b v : Value} (z : BlkIs w gz t #[a, b, v]) : BlkIs (((w.setCell ⟨gz, 0, none⟩ a).setCell ⟨gz, 1, none⟩ b).setCell ⟨gz, 2, none⟩ v) gz t #[a, b, v] := ((z.put 0 a).put 1 b).put 2 v
theorem keep3 {w w1 : World} {g gz : Nat} {a b v : Value} (h : KeepM g w w1) (hz : w.heap.size ≤ gz) : KeepM g w (((w1.setCell ⟨gz, 0, none⟩ a).setCell ⟨gz, 1, none⟩ b).setCell ⟨gz, 2, none⟩ v) := ((h.setCell hz _).setCell hz _).setCell hz _
theorem rd3 {w : World} {g gz : Nat} {a b v : Value} {s : List UInt8} {m : Int} (h : RdP w g s m) (hz : g ≠ gz) : RdP (((w.setCell ⟨gz, 0, none⟩ a).setCell ⟨gz, 1, none⟩ b).setCell ⟨gz, 2, none⟩ v) g s m := BlkIs.far (BlkIs.far (BlkIs.far h hz _) hz _) hz _

set_option maxRecDepth 100000 in
set_option maxHeartbeats 8000000 in
theorem rdP_step (f : Nat) (ih : RdOkP f) : RdOkP (f + 1) := by
  intro s m g w hmf hm hs hr ht hfar
  have HT := Lib.hid ht
  have HF := Lib.hid hfar
  have hl : g < w.heap.size := BlkIs.lt hr
  have z0 : BlkIs (w.alloc (.cells #[.int .i64 0, .int .i64 0, .slice none 0 0] 55)) w.heap.size 55 #[.int .i64 0, .int .i64 0, .slice none 0 0] := BlkIs.fresh _ _ _
  have hr0 : RdP (w.alloc (.cells #[.int .i64 0, .int .i64 0, .slice none 0 0] 55)) g s m := BlkIs.alloc hr _
  have k0 : KeepM g w (w.alloc (.cells #[.int .i64 0, .int .i64 0, .slice none 0 0] 55)) := (KeepM.refl g w).alloc _
  obtain ⟨gz, hgz⟩ : ∃ x, Hid (w.heap.size = x) := ⟨_, Lib.hid rfl⟩
  have hzw := hgz.out
  have hi := fun W => (Tryd.strings_IndexByte ⟨s.toArray⟩ 40 W).mono (fun _ _ h => And.intro h.1 h.2.symm)
  have hie : Lib.indexByte s ((40 : Int).toNat.toUInt8) = Lib.indexByte s 40 := rfl
  simp only at hi
  rw [hie, index_idxB] at hi
  clear hr ht hie
  obtain ⟨R, hR⟩ : ∃ R, Hid (rdT (f + 1) s m = R) := ⟨_, Lib.hid rfl⟩
  rw [hR.out]
  obtain ⟨n, hn⟩ : ∃ n, Hid (s.length = n) := ⟨_, Lib.hid rfl⟩
  have hsz : (⟨s.toArray⟩ : ByteArray).size = n := by rw [← hn.out]; simp [ByteArray.size]
  have hn2 : n ≤ 140737488355328 := by rw [← hn.out]; exact hs
  go_enter Tryd.func66, Tryd.ntmps66
  go_upto_region 1 with fail
  obtain ⟨w0, hw0⟩ : ∃ W, w.alloc (.cells #[.int .i64 0, .int .i64 0, .slice none 0 0] 55) = W := ⟨_, rfl⟩
  rw [hw0] at z0 hr0 k0 ⊢
  rw [hzw] at z0
  clear hw0
  have hgn : g ≠ gz := by omega
  have hl0 : g < w0.heap.size := BlkIs.lt hr0
  have c0 : w0.cell? ⟨g, 0, none⟩ = some (.string ⟨s.toArray⟩) := BlkIs.cell hr0 0
  have c1 : w0.cell? ⟨g, 1, none⟩ = some (.int .i64 m) := BlkIs.cell hr0 1
  have f1 : w0.frozen? ⟨g, 1, none⟩ = false := BlkIs.frozen hr0 1
  go_upto_region 3 with (go_at_call 102; refine (hi _).mono ?_; rintro e w9 ⟨rfl, rfl⟩)
  obtain ⟨w1, hw1⟩ : ∃ W, w0.setCell ⟨g, 1, none⟩ (.int .i64 ((m : Int) - 1)) = W := ⟨_, rfl⟩
  have hr1 : RdP w1 g s ((m : Int) - 1) := by rw [← hw1]; exact hr0.putM
  have z1 : BlkIs w1 gz 55 #[.int .i64 0, .int .i64 0, .slice none 0 0] := by rw [← hw1]; exact z0.far (by simpa using hgn.symm) _
  have k1 : KeepM g w w1 := by rw [← hw1]; exact k0.own 1 _
  rw [hw1]
  clear hw1 hr0 z0 k0 c0 c1 f1 hl0
  have hl1 : g < w1.heap.size := BlkIs.lt hr1
  have hlz : gz < w1.heap.size := z1.lt
  have c0 : w1.cell? ⟨g, 0, none⟩ = some (.string ⟨s.toArray⟩) := BlkIs.cell hr1 0
  have c1 : w1.cell? ⟨g, 1, none⟩ = some (.int .i64 ((m : Int) - 1)) := BlkIs.cell hr1 1
  have f0 : w1.frozen? ⟨g, 0, none⟩ = false := BlkIs.frozen hr1 0
  have y0 : w1.cell? ⟨gz, 0, none⟩ = some (.int .i64 0) := z1.cell 0
  have y1 : w1.cell? ⟨gz, 1, none⟩ = some (.int .i64 0) := z1.cell 1
  have y2 : w1.cell? ⟨gz, 2, none⟩ = some (.slice none 0 0) := z1.cell 2
  have g0 : w1.frozen? ⟨gz, 0, none⟩ = false := z1.frozen 0
  have g1 : w1.frozen? ⟨gz, 1, none⟩ = false := z1.frozen 1
  have g2 : w1.frozen? ⟨gz, 2, none⟩ = false := z1.frozen 2
  cases hix : idxB 40 s with
  | none =>
    obtain rfl : R = none := by rw [← hR.out, rdT, hix]; simp
    clear hix
    go_wp2_with fail
    refine bodyPost_ret (v := .tuple #[.agg #[.int .i64 0, .int .i64 0, .slice none 0 0], .bool false]) (by simp [results, Tryd.results66, go_sem, (self3 z1).cell]) rfl ?_
    exact RdPostP.bad (keep3 k1 (Nat.le_of_eq hzw))
  | some k =>
    have hkn : k < n := by rw [← hn.out]; exact idxB_lt hix
    by_cases hm0 : m = 0
    · obtain rfl : R = none := by rw [← hR.out, rdT, if_pos hm0]
      clear hix
      go_wp2_with fail
      refine bodyPost_ret (v := .tuple #[.agg #[.int .i64 0, .int .i64 0, .slice none 0 0], .bool false]) (by simp [results, Tryd.results66, go_sem, (self3 z1).cell]) rfl ?_
      exact RdPostP.bad (keep3 k1 (Nat.le_of_eq hzw))
    · have hR2 := hR.out
      rw [rdT, if_neg hm0, hix] at hR2
      simp only at hR2
      have hmd : decide ((m : Int) - 1 < 0) = false := by simp; omega
      have e1 := ext_head s k
      have e2 := ext_tail s (k + 1) n hn.out
      have ho := fun W => topW_any (s.take k) W
      have hoi := opT_in (s.take k)
      obtain ⟨x, hx⟩ : ∃ x, Hid (s.take k = x) := ⟨_, Lib.hid rfl⟩
      obtain ⟨y, hy⟩ : ∃ x, Hid (s.drop (k + 1) = x) := ⟨_, Lib.hid rfl⟩
      rw [hx.out] at e1 ho hoi hR2
      rw [hy.out] at e2 hR2
      obtain ⟨op, hop⟩ : ∃ o, Hid (opT x = o) := ⟨_, Lib.hid rfl⟩
      rw [hop.out] at ho hoi hR2
      have HR2 := Lib.hid hR2
      clear hR2 hix
      go_wp2_with fail
      refine (ho _ (HT.out.keepM k1 HF.out).1.1).mono ?_
      rintro e w2 ⟨rfl, hb2⟩
      have z2 := z1.below hb2 z1.lt
      have hr2 : RdP w2 g s ((m : Int) - 1) := BlkIs.below hr1 hb2 (BlkIs.lt hr1)
      have k2 := k1.trans (KeepM.of hb2)
      clear c0 c1 f0 hl1 y0 y1 y2 g0 g1 g2 hlz z1 hr1 k1 hb2
      have y0 : w2.cell? ⟨gz, 0, none⟩ = some (.int .i64 0) := z2.cell 0
      have y1 : w2.cell? ⟨gz, 1, none⟩ = some (.int .i64 0) := z2.cell 1
      have y2 : w2.cell? ⟨gz, 2, none⟩ = some (.slice none 0 0) := z2.cell 2
      have g0 : w2.frozen? ⟨gz, 0, none⟩ = false := z2.frozen 0
      have g1 : w2.frozen? ⟨gz, 1, none⟩ = false := z2.frozen 1
      have g2 : w2.frozen? ⟨gz, 2, none⟩ = false := z2.frozen 2
      have hlz : gz < w2.heap.size := z2.lt
      have c0 : w2.cell? ⟨g, 0, none⟩ = some (.string ⟨s.toArray⟩) := BlkIs.cell hr2 0
      have c1 : w2.cell? ⟨g, 1, none⟩ = some (.int .i64 ((m : Int) - 1)) := BlkIs.cell hr2 1
      have f0 : w2.frozen? ⟨g, 0, none⟩ = false := BlkIs.frozen hr2 0
      have hl1 : g < w2.heap.size := BlkIs.lt hr2
      go_upto_region 6 with fail
      obtain ⟨w3, hw3⟩ : ∃ W, w2.setCell ⟨gz, 0, none⟩ (.int .i64 op) = W := ⟨_, rfl⟩
      have z3 : BlkIs w3 gz 55 #[.int .i64 op, .int .i64 0, .slice none 0 0] := by rw [← hw3]; exact z2.put 0 _
      have hr3 : RdP w3 g s ((m : Int) - 1) := by rw [← hw3]; exact BlkIs.far hr2 (by simpa using hgn) _
      have k3 : KeepM g w w3 := by rw [← hw3]; exact k2.setCell (by simp; omega) _
      rw [hw3]
      clear hw3 c0 c1 f0 hl1 y0 y1 y2 g0 g1 g2 hlz z2 hr2 k2
      have y0 : w3.cell? ⟨gz, 0, none⟩ = some (.int .i64 op) := z3.cell 0
      have y1 : w3.cell? ⟨gz, 1, none⟩ = some (.int .i64 0) := z3.cell 1
      have y2 : w3.cell? ⟨gz, 2, none⟩ = some (.slice none 0 0) := z3.cell 2
      have g0 : w3.frozen? ⟨gz, 0, none⟩ = false := z3.frozen 0
      have g1 : w3.frozen? ⟨gz, 1, none⟩ = false := z3.frozen 1
      have g2 : w3.frozen? ⟨gz, 2, none⟩ = false := z3.frozen 2
      have hlz : gz < w3.heap.size := z3.lt
      have c0 : w3.cell? ⟨g, 0, none⟩ = some (.string ⟨s.toArray⟩) := BlkIs.cell hr3 0
      have c1 : w3.cell? ⟨g, 1, none⟩ = some (.int .i64 ((m : Int) - 1)) := BlkIs.cell hr3 1
      have f0 : w3.frozen? ⟨g, 0, none⟩ = false := BlkIs.frozen hr3 0
      have hl1 : g < w3.heap.size := BlkIs.lt hr3
      by_cases hop0 : op = 0
      · have hope : (op == 0) = true := by simpa using hop0
        obtain rfl : R = none := by rw [← HR2.out, if_pos hop0]
        clear hop0
        go_wp2_with fail
        refine bodyPost_ret (v := .tuple #[.agg #[.int .i64 op, .int .i64 0, .slice none 0 0], .bool false]) (by simp [results, Tryd.results66, go_sem, (self3 z3).cell]) rfl ?_
        exact RdPostP.bad (keep3 k3 (Nat.le_of_eq hzw))
      · have hope : (op == 0) = false := by simpa using hop0
        have HR3 := HR2.out
        rw [if_neg hop0] at HR3
        have HR3 := Lib.hid HR3
        clear hop0 HR2
        go_upto_region 9 with fail
        obtain ⟨w4, hw4⟩ : ∃ W, w3.setCell ⟨g, 0, none⟩ (.string ⟨y.toArray⟩) = W := ⟨_, rfl⟩
        have z4 : BlkIs w4 gz 55 #[.int .i64 op, .int .i64 0, .slice none 0 0] := by rw [← hw4]; exact z3.far (by simpa using hgn.symm) _
        have hr4 : RdP w4 g y ((m : Int) - 1) := by rw [← hw4]; exact hr3.putS
        have k4 : KeepM g w w4 := by rw [← hw4]; exact k3.own 0 _
        rw [hw4]
        clear hw4 c0 c1 f0 hl1 y0 y1 y2 g0 g1 g2 hlz z3 hr3 k3
        have y0 : w4.cell? ⟨gz, 0, none⟩ = some (.int .i64 op) := z4.cell 0
        have y1 : w4.cell? ⟨gz, 1, none⟩ = some (.int .i64 0) := z4.cell 1
        have y2 : w4.cell? ⟨gz, 2, none⟩ = some (.slice none 0 0) := z4.cell 2
        have g0 : w4.frozen? ⟨gz, 0, none⟩ = false := z4.frozen 0
        have g1 : w4.frozen? ⟨gz, 1, none⟩ = false := z4.frozen 1
        have g2 : w4.frozen? ⟨gz, 2, none⟩ = false := z4.frozen 2
        have hlz : gz < w4.heap.size := z4.lt
        have c0 : w4.cell? ⟨g, 0, none⟩ = some (.string ⟨y.toArray⟩) := BlkIs.cell hr4 0
        have c1 : w4.cell? ⟨g, 1, none⟩ = some (.int .i64 ((m : Int) - 1)) := BlkIs.cell hr4 1
        have f0 : w4.frozen? ⟨g, 0, none⟩ = false := BlkIs.frozen hr4 0
        have hl1 : g < w4.heap.size := BlkIs.lt hr4
        have hyl : y.length ≤ 140737488355328 := by rw [← hy.out, List.length_drop]; omega
        have c3 := fun W => isLeaf_any op W
        have ca := fun W => arity_any op W
        cases hlf : isLeaf op
        · have HR4 := HR3.out
          rw [hlf] at c3 HR4
          rw [if_neg (by decide)] at HR4
          have har : 0 ≤ arityOf op ∧ arityOf op ≤ 2 := by unfold arityOf; split <;> (try split) <;> omega
          obtain ⟨N, hN⟩ : ∃ N : Nat, Hid ((arityOf op).toNat = N) := ⟨_, Lib.hid rfl⟩
          have hNa : arityOf op = N := by rw [← hN.out]; omega
          have hN2 : N ≤ 2 := by omega
          rw [hN.out] at HR4
          rw [hNa] at ca
          obtain ⟨K, hK0⟩ : ∃ K, Hid (rdKs (rdT f) N 0 y (m - 1) = K) := ⟨_, Lib.hid rfl⟩
          have hstart := KidsFrom.start (rdT f) N y (m - 1)
          rw [hK0.out] at HR4 hstart
          have HST := Lib.hid hstart
          have HRK := Lib.hid HR4
          clear HR4 hstart HR3 hlf har hNa
          have hm1 : (m : Int) - 1 = ((m - 1 : Nat) : Int) := by omega
          have hm1f : m - 1 < f := by omega
          obtain ⟨m1, hm1e⟩ : ∃ x, Hid (m - 1 = x) := ⟨_, Lib.hid rfl⟩
          rw [hm1e.out] at hm1 hm1f HST
          rw [hm1] at hr4
          have hm1k : m1 ≤ 1000 := by rw [← hm1e.out]; omega
          go_wp2_with (first | (go_at_call 94; refine (c3 _).mono ?_; rintro e w9 ⟨rfl, rfl⟩) | (go_at_call 105; refine (ca _).mono ?_; rintro e w9 ⟨rfl, rfl⟩))
          clear c0 c1 f0 hl1 y0 y1 y2 g0 g1 g2 hlz
          go_loopw [67] (fun i wr => ∃ (k : Nat) (done : List Pat) (sk : List UInt8) (mk : Nat) (v : Value), k ≤ N ∧ i = .int .i64 k ∧ Hid (KidsFrom (rdT f) K done N k sk mk) ∧ done.length = k ∧ sk.length ≤ 140737488355328 ∧ mk ≤ m1 ∧ RdP wr g sk mk ∧ BlkIs wr gz 55 #[.int .i64 op, .int .i64 0, v] ∧ Hid (Own wr (gz + 1) (fun q => gz + 1 ≤ q) 55 3 v (done.map encP)) ∧ KeepM g w wr) (fun i _ => N - (intOf i).toNat)
          case atStart => exact ⟨0, [], y, m1, .slice none 0 0, by omega, rfl, HST, rfl, hyl, by omega, hr4, z4, Lib.hid (Own.nil _ _ _ _ _), k4⟩
          case round =>
            obtain ⟨k, done, sk, mk, v, hk, rfl, hkf, hdl, hskl, hmk, hRd, hZ, hown, hkm⟩ := hrel
            obtain ⟨wo, rfl⟩ : ∃ wo : World, wo = wr := ⟨_, rfl⟩
            clear z4 hr4 k4
            obtain ⟨A0, d0, rfl, _⟩ := hown.out.rep.len
            rw [List.length_map] at hZ hown
            have hdlen : (done.map encP).length ≤ 1000000000 := by rw [List.length_map]; omega
            obtain ⟨dl, hdle⟩ : ∃ x, Hid (done.length = x) := ⟨_, Lib.hid rfl⟩
            rw [hdle.out] at hZ hown
            have y0 : wo.cell? ⟨gz, 0, none⟩ = some (.int .i64 op) := hZ.cell 0
            have y1 : wo.cell? ⟨gz, 1, none⟩ = some (.int .i64 0) := hZ.cell 1
            have y2 : wo.cell? ⟨gz, 2, none⟩ = some (.slice A0 dl d0) := hZ.cell 2
            have g0 : wo.frozen? ⟨gz, 0, none⟩ = false := hZ.frozen 0
            have g1 : wo.frozen? ⟨gz, 1, none⟩ = false := hZ.frozen 1
            have g2 : wo.frozen? ⟨gz, 2, none⟩ = false := hZ.frozen 2
            have hlz : gz < wo.heap.size := hZ.lt
            have c0 : wo.cell? ⟨g, 0, none⟩ = some (.string ⟨sk.toArray⟩) := BlkIs.cell hRd 0
            have c1 : wo.cell? ⟨g, 1, none⟩ = some (.int .i64 (mk)) := BlkIs.cell hRd 1
            have f0 : wo.frozen? ⟨g, 0, none⟩ = false := BlkIs.frozen hRd 0
            have hl1 : g < wo.heap.size := BlkIs.lt hRd
            have hgzw : w.heap.size ≤ gz := Nat.le_of_eq hzw
            by_cases hlt : k < N
            · by_cases hk0 : k = 0
              · subst hk0
                have Rk := hRd
                have Zk := hZ
                have Ok := hown
                have Kk := hkm
                have hcall := ih sk mk g wo (by omega) (by omega) (by first | exact hskl | (rw [List.length_drop]; omega)) Rk (HT.out.keepM Kk HF.out) HF.out
                cases hrd : rdT f (sk) mk with
                | none =>
                  obtain rfl : R = none := by
                    have h1 := hkf.out.none hlt (.inl rfl) (by rw [if_pos rfl]; exact hrd)
                    have h2 := HRK.out
                    rw [h1] at h2
                    exact h2.symm
                  rw [hrd] at hcall
                  go_wp2_with fail
                  refine hcall.mono ?_
                  rintro e w7 ⟨hk7, a, b, A7, n7, d7, rfl⟩
                  have z7 := Zk.keepM hk7 hgn.symm
                  have k7 := Kk.trans hk7
                  have zz := (self3 z7).alloc (.cells #[.int .i64 a, .int .i64 b, .slice A7 n7 d7] 55)
                  clear c0 c1 f0 hl1 y0 y1 y2 g0 g1 g2 hlz
                  have y0 : w7.cell? ⟨gz, 0, none⟩ = some (.int .i64 op) := z7.cell 0
                  have y1 : w7.cell? ⟨gz, 1, none⟩ = some (.int .i64 0) := z7.cell 1
                  have y2 : w7.cell? ⟨gz, 2, none⟩ = some (.slice A0 dl d0) := z7.cell 2
                  have g0 : w7.frozen? ⟨gz, 0, none⟩ = false := z7.frozen 0
                  have g1 : w7.frozen? ⟨gz, 1, none⟩ = false := z7.frozen 1
                  have g2 : w7.frozen? ⟨gz, 2, none⟩ = false := z7.frozen 2
                  have hlz : gz < w7.heap.size := z7.lt
                  go_wp2_with fail
                  refine bodyPost_ret (v := .tuple #[.agg #[.int .i64 op, .int .i64 0, .slice A0 dl d0], .bool false]) (by simp [results, Tryd.results66, go_sem, zz.cell]) rfl ?_
                  exact RdPostP.bad ((keep3 k7 (Nat.le_of_eq hzw)).alloc _)
                | some r =>
                  obtain ⟨p, sa, ma⟩ := r
                  have hdown := rdT_down f _ _ _ _ _ hrd
                  have hnext := hkf.out.step hlt (.inl rfl) (by rw [if_pos rfl]; exact hrd)
                  have HNX := Lib.hid hnext
                  have hsal : sa.length ≤ 140737488355328 := by have := hdown.1; omega
                  have hma := hdown.2
                  rw [hrd] at hcall
                  clear hrd hnext hdown
                  go_wp2_with fail
                  refine hcall.mono ?_
                  rintro e w7 ⟨hk7, A5, d5, rfl, hrep5, R7⟩
                  have Z7 := Zk.keepM hk7 hgn.symm
                  have O7 := Ok.out.keepM hk7 (by omega) (fun q h => h)
                  have K7 := Kk.trans hk7
                  have hz67 := hk7.size
                  have hvf : ∀ q, wo.heap.size ≤ q → some q ≠ (Value.slice A0 dl d0).ownBlock := fun q hq => Ok.out.ne_far hq
                  have hzl := Zk.lt
                  have HR5 : Hid (Rep w7 (fun q => gz + 1 ≤ q ∧ some q ≠ (Value.slice A0 dl d0).ownBlock) (encP p) [.int .i64 p.op, .int .i64 p.nt, .slice A5 p.kids.length d5]) := Lib.hid (hrep5.imp (fun q hq _ => ⟨by omega, hvf q hq⟩))
                  have HO7 := Lib.hid O7
                  clear c0 c1 f0 hl1 y0 y1 y2 g0 g1 g2 hlz hcall hrep5 O7
                  have y0 : w7.cell? ⟨gz, 0, none⟩ = some (.int .i64 op) := Z7.cell 0
                  have y1 : w7.cell? ⟨gz, 1, none⟩ = some (.int .i64 0) := Z7.cell 1
                  have y2 : w7.cell? ⟨gz, 2, none⟩ = some (.slice A0 dl d0) := Z7.cell 2
                  have g0 : w7.frozen? ⟨gz, 0, none⟩ = false := Z7.frozen 0
                  have g1 : w7.frozen? ⟨gz, 1, none⟩ = false := Z7.frozen 1
                  have g2 : w7.frozen? ⟨gz, 2, none⟩ = false := Z7.frozen 2
                  have hlz : gz < w7.heap.size := Z7.lt
                  go_wp2_with (at_builtin; go_must (refine append_one rfl (.tmp 87) (.tmp 89) 50 55 3 40 _ rfl Tryd.underlying50 tree_info rfl (by decide) (by decide) (gz + 1) (fun q => gz + 1 ≤ q) (.slice A0 dl d0) (done.map encP) rfl (w7.heap.size + 1) rfl ((HO7.out.alloc _).alloc _) [.int .i64 p.op, .int .i64 p.nt, .slice A5 p.kids.length d5] (encP p) (BlkIs.fresh1 _ _ _ _) rfl (by simp [Value.oneCell']) ((HR5.out.alloc _).alloc _) hdlen (by simp; omega) ?_); intro v2 w8 hown2 hb2 hk2; obtain ⟨A8, d8, rfl, _⟩ := hown2.rep.len; obtain ⟨L8, hL8⟩ : ∃ x, Hid ((done.map encP ++ [encP p]).length = x) := ⟨_, Lib.hid rfl⟩; rw [hL8.out] at hown2 ⊢; have P8 := ((Z7.alloc _).alloc _).below hb2 (by omega); have q2 := P8.cell 2; have q3 := P8.frozen 2; have q4 := P8.lt)
                  go_roundw
                  case rel =>
                    refine ⟨0 + 1, done ++ [p], sa, ma, .slice A8 L8 d8, by omega, by go_num, HNX, by simp [hdl], hsal, by omega, ?_, ?_, ?_, ?_⟩
                    · exact BlkIs.far (BlkIs.below ((BlkIs.alloc (BlkIs.alloc R7 _) _)) hb2 (by omega)) (by simp; omega) _
                    · exact P8.put 2 _
                    · exact Lib.hid (by
                        rw [List.map_append]
                        exact Own.far hown2 (fun q h => h) (fun q hq _ => heap_setCell_other _ _ _ _ (by simp; omega)))
                    · have hsz := hb2.size
                      simp at hsz
                      refine KeepM.setCell ⟨hb2.os.trans K7.os, hb2.tape.trans K7.tape, hb2.output.trans K7.output, by have := K7.size; omega, fun q hq hl => (hb2.block q (by omega)).trans (((K7.alloc _).alloc _).block q hq hl)⟩ (by simp; omega) _
                  case measure => simp [intOf]; omega
              · have hkd : decide ((0 : Int) < (k : Int)) = true := by simp; omega
                have he := fun W h => eat_any g sk [44, 32] mk W h
                cases hah : aheadB [44, 32] sk
                · obtain rfl : R = none := by
                    have h1 := hkf.out.bad hlt (by rw [hah]; simp; exact hk0)
                    have h2 := HRK.out
                    rw [h1] at h2
                    exact h2.symm
                  rw [hah] at he
                  go_wp2_with fail
                  rotate_left
                  · exfalso; omega
                  refine (he _ hRd).mono ?_
                  rintro e w6 ⟨rfl, hk6, _⟩
                  have z6 := hZ.keepM hk6 hgn.symm
                  have k6 := hkm.trans hk6
                  clear c0 c1 f0 hl1 y0 y1 y2 g0 g1 g2 hlz
                  have y0 : w6.cell? ⟨gz, 0, none⟩ = some (.int .i64 op) := z6.cell 0
                  have y1 : w6.cell? ⟨gz, 1, none⟩ = some (.int .i64 0) := z6.cell 1
                  have y2 : w6.cell? ⟨gz, 2, none⟩ = some (.slice A0 dl d0) := z6.cell 2
                  have g0 : w6.frozen? ⟨gz, 0, none⟩ = false := z6.frozen 0
                  have g1 : w6.frozen? ⟨gz, 1, none⟩ = false := z6.frozen 1
                  have g2 : w6.frozen? ⟨gz, 2, none⟩ = false := z6.frozen 2
                  have hlz : gz < w6.heap.size := z6.lt
                  go_wp2_with fail
                  refine bodyPost_ret (v := .tuple #[.agg #[.int .i64 op, .int .i64 0, .slice A0 dl d0], .bool false]) (by simp [results, Tryd.results66, go_sem, (self3 z6).cell]) rfl ?_
                  exact RdPostP.bad (keep3 k6 (Nat.le_of_eq hzw))
                · have her : eatRest [44, 32] sk = sk.drop 2 := by unfold eatRest; rw [if_pos hah]; rfl
                  rw [hah, her] at he
                  go_wp2_with fail
                  rotate_left
                  · exfalso; omega
                  refine (he _ hRd).mono ?_
                  rintro e w6 ⟨rfl, hk6, Rk⟩
                  have Zk := hZ.keepM hk6 hgn.symm
                  have Ok : Hid (Own w6 (gz + 1) (fun q => gz + 1 ≤ q) 55 3 (.slice A0 dl d0) (done.map encP)) := Lib.hid (hown.out.keepM hk6 (by omega) (fun q h => h))
                  have Kk := hkm.trans hk6
                  clear c0 c1 f0 hl1 y0 y1 y2 g0 g1 g2 hlz
                  have y0 : w6.cell? ⟨gz, 0, none⟩ = some (.int .i64 op) := Zk.cell 0
                  have y1 : w6.cell? ⟨gz, 1, none⟩ = some (.int .i64 0) := Zk.cell 1
                  have y2 : w6.cell? ⟨gz, 2, none⟩ = some (.slice A0 dl d0) := Zk.cell 2
                  have g0 : w6.frozen? ⟨gz, 0, none⟩ = false := Zk.frozen 0
                  have g1 : w6.frozen? ⟨gz, 1, none⟩ = false := Zk.frozen 1
                  have g2 : w6.frozen? ⟨gz, 2, none⟩ = false := Zk.frozen 2
                  have hlz : gz < w6.heap.size := Zk.lt
                  have c0 : w6.cell? ⟨g, 0, none⟩ = some (.string ⟨(sk.drop 2).toArray⟩) := BlkIs.cell Rk 0
                  have c1 : w6.cell? ⟨g, 1, none⟩ = some (.int .i64 (mk)) := BlkIs.cell Rk 1
                  have f0 : w6.frozen? ⟨g, 0, none⟩ = false := BlkIs.frozen Rk 0
                  have hl1 : g < w6.heap.size := BlkIs.lt Rk
                  have hcall := ih (sk.drop 2) mk g w6 (by omega) (by omega) (by first | exact hskl | (rw [List.length_drop]; omega)) Rk (HT.out.keepM Kk HF.out) HF.out
                  cases hrd : rdT f ((sk.drop 2)) mk with
                  | none =>
                    obtain rfl : R = none := by
                      have h1 := hkf.out.none hlt (.inr hah) (by rw [if_neg (by omega)]; exact hrd)
                      have h2 := HRK.out
                      rw [h1] at h2
                      exact h2.symm
                    rw [hrd] at hcall
                    go_wp2_with fail
                    refine hcall.mono ?_
                    rintro e w7 ⟨hk7, a, b, A7, n7, d7, rfl⟩
                    have z7 := Zk.keepM hk7 hgn.symm
                    have k7 := Kk.trans hk7
                    have zz := (self3 z7).alloc (.cells #[.int .i64 a, .int .i64 b, .slice A7 n7 d7] 55)
                    clear c0 c1 f0 hl1 y0 y1 y2 g0 g1 g2 hlz
                    have y0 : w7.cell? ⟨gz, 0, none⟩ = some (.int .i64 op) := z7.cell 0
                    have y1 : w7.cell? ⟨gz, 1, none⟩ = some (.int .i64 0) := z7.cell 1
                    have y2 : w7.cell? ⟨gz, 2, none⟩ = some (.slice A0 dl d0) := z7.cell 2
                    have g0 : w7.frozen? ⟨gz, 0, none⟩ = false := z7.frozen 0
                    have g1 : w7.frozen? ⟨gz, 1, none⟩ = false := z7.frozen 1
                    have g2 : w7.frozen? ⟨gz, 2, none⟩ = false := z7.frozen 2
                    have hlz : gz < w7.heap.size := z7.lt
                    go_wp2_with fail
                    refine bodyPost_ret (v := .tuple #[.agg #[.int .i64 op, .int .i64 0, .slice A0 dl d0], .bool false]) (by simp [results, Tryd.results66, go_sem, zz.cell]) rfl ?_
                    exact RdPostP.bad ((keep3 k7 (Nat.le_of_eq hzw)).alloc _)
                  | some r =>
                    obtain ⟨p, sa, ma⟩ := r
                    have hdown := rdT_down f _ _ _ _ _ hrd
                    have hnext := hkf.out.step hlt (.inr hah) (by rw [if_neg (by omega)]; exact hrd)
                    have HNX := Lib.hid hnext
                    have hsal : sa.length ≤ 140737488355328 := by have := hdown.1; rw [List.length_drop] at this; omega
                    have hma := hdown.2
                    rw [hrd] at hcall
                    clear hrd hnext hdown
                    go_wp2_with fail
                    refine hcall.mono ?_
                    rintro e w7 ⟨hk7, A5, d5, rfl, hrep5, R7⟩
                    have Z7 := Zk.keepM hk7 hgn.symm
                    have O7 := Ok.out.keepM hk7 (by omega) (fun q h => h)
                    have K7 := Kk.trans hk7
                    have hz67 := hk7.size
                    have hvf : ∀ q, w6.heap.size ≤ q → some q ≠ (Value.slice A0 dl d0).ownBlock := fun q hq => Ok.out.ne_far hq
                    have hzl := Zk.lt
                    have HR5 : Hid (Rep w7 (fun q => gz + 1 ≤ q ∧ some q ≠ (Value.slice A0 dl d0).ownBlock) (encP p) [.int .i64 p.op, .int .i64 p.nt, .slice A5 p.kids.length d5]) := Lib.hid (hrep5.imp (fun q hq _ => ⟨by omega, hvf q hq⟩))
                    have HO7 := Lib.hid O7
                    clear c0 c1 f0 hl1 y0 y1 y2 g0 g1 g2 hlz hcall hrep5 O7
                    have y0 : w7.cell? ⟨gz, 0, none⟩ = some (.int .i64 op) := Z7.cell 0
                    have y1 : w7.cell? ⟨gz, 1, none⟩ = some (.int .i64 0) := Z7.cell 1
                    have y2 : w7.cell? ⟨gz, 2, none⟩ = some (.slice A0 dl d0) := Z7.cell 2
                    have g0 : w7.frozen? ⟨gz, 0, none⟩ = false := Z7.frozen 0
                    have g1 : w7.frozen? ⟨gz, 1, none⟩ = false := Z7.frozen 1
                    have g2 : w7.frozen? ⟨gz, 2, none⟩ = false := Z7.frozen 2
                    have hlz : gz < w7.heap.size := Z7.lt
                    go_wp2_with (at_builtin; go_must (refine append_one rfl (.tmp 87) (.tmp 89) 50 55 3 40 _ rfl Tryd.underlying50 tree_info rfl (by decide) (by decide) (gz + 1) (fun q => gz + 1 ≤ q) (.slice A0 dl d0) (done.map encP) rfl (w7.heap.size + 1) rfl ((HO7.out.alloc _).alloc _) [.int .i64 p.op, .int .i64 p.nt, .slice A5 p.kids.length d5] (encP p) (BlkIs.fresh1 _ _ _ _) rfl (by simp [Value.oneCell']) ((HR5.out.alloc _).alloc _) hdlen (by simp; omega) ?_); intro v2 w8 hown2 hb2 hk2; obtain ⟨A8, d8, rfl, _⟩ := hown2.rep.len; obtain ⟨L8, hL8⟩ : ∃ x, Hid ((done.map encP ++ [encP p]).length = x) := ⟨_, Lib.hid rfl⟩; rw [hL8.out] at hown2 ⊢; have P8 := ((Z7.alloc _).alloc _).below hb2 (by omega); have q2 := P8.cell 2; have q3 := P8.frozen 2; have q4 := P8.lt)
                    go_roundw
                    case rel =>
                      refine ⟨k + 1, done ++ [p], sa, ma, .slice A8 L8 d8, by omega, by go_num, HNX, by simp [hdl], hsal, by omega, ?_, ?_, ?_, ?_⟩
                      · exact BlkIs.far (BlkIs.below ((BlkIs.alloc (BlkIs.alloc R7 _) _)) hb2 (by omega)) (by simp; omega) _
                      · exact P8.put 2 _
                      · exact Lib.hid (by
                          rw [List.map_append]
                          exact Own.far hown2 (fun q h => h) (fun q hq _ => heap_setCell_other _ _ _ _ (by simp; omega)))
                      · have hsz := hb2.size
                        simp at hsz
                        refine KeepM.setCell ⟨hb2.os.trans K7.os, hb2.tape.trans K7.tape, hb2.output.trans K7.output, by have := K7.size; omega, fun q hq hl => (hb2.block q (by omega)).trans (((K7.alloc _).alloc _).block q hq hl)⟩ (by simp; omega) _
                    case measure => simp [intOf]; omega
            · obtain rfl : k = N := by omega
              have hlast := hkf.out.last
              have HR5 := HRK.out
              rw [hlast] at HR5
              simp only at HR5
              have hdd : Hid (dl = done.length) := Lib.hid hdle.out.symm
              obtain ⟨sr, hsr⟩ : ∃ x, Hid (sk.drop 1 = x) := ⟨_, Lib.hid rfl⟩
              rw [hsr.out] at HR5
              cases hah : aheadB [41] sk
              · obtain rfl : R = none := by rw [← HR5, hah]; simp
                go_upto_region 23 with fail
                refine beginH (fun W => BlkIs W gz 55 #[.int .i64 op, .int .i64 0, .slice A0 dl d0]) (by kernel_rfl) (hZ.drew) (fun hHeld => ?_)
                refine takeH (i := 0) (d := some 93) (v := .agg #[.int .i64 op, .int .i64 0, .slice A0 dl d0]) (by kernel_rfl) rfl rfl rfl (fun _ _ _ h => h) hHeld (fun W hSw => by exact exec_load_row rfl rfl hSw Tryd.underlying55 rfl (by kernel_rfl)) ?_
                simp only [Act.put, List.setIfInBounds_toArray, List.set_cons_zero, List.set_cons_succ]
                refine takeH (i := 1) (d := some 94) (v := .pointer (some ⟨g, 0, none⟩)) (by kernel_rfl) rfl rfl rfl (fun _ _ _ h => h) hHeld (fun W hSw => by go_simp) ?_
                simp only [Act.put, List.setIfInBounds_toArray, List.set_cons_zero, List.set_cons_succ]
                refine onlyH (i := 2) (d := some 95) (by kernel_rfl) rfl rfl rfl (fun K' hK => ?_)
                refine wp_go_call 106 _ _ rfl #[.pointer (some ⟨g, 0, none⟩), .string ⟨#[41]⟩] rfl (fun W' => by go_simp) (eat_any g sk [41] mk _ (BlkIs.drew hRd)) (fun e wg he => ?_)
                obtain ⟨rfl, hkg, hrg⟩ := he
                rw [hah] at *
                have zg : BlkIs wg gz 55 #[.int .i64 op, .int .i64 0, .slice A0 dl d0] := hHeld.keepM hkg hgn.symm
                refine ⟨_, rfl, hK.out _ _ zg (fun hHeld => ?_)⟩
                simp only [Act.put, List.setIfInBounds_toArray, List.set_cons_zero, List.set_cons_succ]
                refine onlyH (i := 3) (d := none) (by kernel_rfl) rfl rfl rfl (fun K' hK => ?_)
                refine wp_store_row 55 (.tmp 2) (.tmp 93) rfl gz #[.int .i64 op, .int .i64 0, .slice A0 dl d0] rfl rfl 55 _ zg (by kernel_rfl) rfl (by simp [Value.oneCell']) (hK.out _ _ (setRow_heap _ _ _ _ _ _ zg) (fun hHeld => ?_))
                refine takeH (i := 4) (d := some 3) (v := .bool false) (by kernel_rfl) rfl rfl rfl (fun _ _ _ h => h) hHeld (fun W hSw => by go_simp) ?_
                simp only [Act.put, List.setIfInBounds_toArray, List.set_cons_zero, List.set_cons_succ]
                refine wpAnyH_done (by kernel_rfl) ?_ _
                have zf : BlkIs (wg.setRow gz #[.int .i64 op, .int .i64 0, .slice A0 dl d0]) gz 55 #[.int .i64 op, .int .i64 0, .slice A0 dl d0] := hHeld
                have zc0 := zf.cell 0
                have zc1 := zf.cell 1
                have zc2 := zf.cell 2
                go_wp2_with fail
                refine bodyPost_ret (v := .tuple #[.agg #[.int .i64 op, .int .i64 0, .slice A0 dl d0], .bool false]) (by simp [results, Tryd.results66, go_sem, zc0, zc1, zc2]) rfl ?_
                exact RdPostP.bad (((hkm.drew).trans hkg).setRow hgzw _)
              · obtain rfl : R = some (.mk op 0 done, sr, mk) := by rw [← HR5, hah]; simp
                have her : eatRest [41] sk = sr := by unfold eatRest; rw [if_pos hah]; exact hsr.out
                go_upto_region 23 with fail
                refine beginH (fun W => BlkIs W gz 55 #[.int .i64 op, .int .i64 0, .slice A0 dl d0]) (by kernel_rfl) (hZ.drew) (fun hHeld => ?_)
                refine takeH (i := 0) (d := some 93) (v := .agg #[.int .i64 op, .int .i64 0, .slice A0 dl d0]) (by kernel_rfl) rfl rfl rfl (fun _ _ _ h => h) hHeld (fun W hSw => by exact exec_load_row rfl rfl hSw Tryd.underlying55 rfl (by kernel_rfl)) ?_
                simp only [Act.put, List.setIfInBounds_toArray, List.set_cons_zero, List.set_cons_succ]
                refine takeH (i := 1) (d := some 94) (v := .pointer (some ⟨g, 0, none⟩)) (by kernel_rfl) rfl rfl rfl (fun _ _ _ h => h) hHeld (fun W hSw => by go_simp) ?_
                simp only [Act.put, List.setIfInBounds_toArray, List.set_cons_zero, List.set_cons_succ]
                refine onlyH (i := 2) (d := some 95) (by kernel_rfl) rfl rfl rfl (fun K' hK => ?_)
                refine wp_go_call 106 _ _ rfl #[.pointer (some ⟨g, 0, none⟩), .string ⟨#[41]⟩] rfl (fun W' => by go_simp) (eat_any g sk [41] mk _ (BlkIs.drew hRd)) (fun e wg he => ?_)
                obtain ⟨rfl, hkg, hrg⟩ := he
                rw [hah] at *
                have zg : BlkIs wg gz 55 #[.int .i64 op, .int .i64 0, .slice A0 dl d0] := hHeld.keepM hkg hgn.symm
                refine ⟨_, rfl, hK.out _ _ zg (fun hHeld => ?_)⟩
                simp only [Act.put, List.setIfInBounds_toArray, List.set_cons_zero, List.set_cons_succ]
                refine onlyH (i := 3) (d := none) (by kernel_rfl) rfl rfl rfl (fun K' hK => ?_)
                refine wp_store_row 55 (.tmp 2) (.tmp 93) rfl gz #[.int .i64 op, .int .i64 0, .slice A0 dl d0] rfl rfl 55 _ zg (by kernel_rfl) rfl (by simp [Value.oneCell']) (hK.out _ _ (setRow_heap _ _ _ _ _ _ zg) (fun hHeld => ?_))
                refine takeH (i := 4) (d := some 3) (v := .bool true) (by kernel_rfl) rfl rfl rfl (fun _ _ _ h => h) hHeld (fun W hSw => by go_simp) ?_
                simp only [Act.put, List.setIfInBounds_toArray, List.set_cons_zero, List.set_cons_succ]
                refine wpAnyH_done (by kernel_rfl) ?_ _
                have zf : BlkIs (wg.setRow gz #[.int .i64 op, .int .i64 0, .slice A0 dl d0]) gz 55 #[.int .i64 op, .int .i64 0, .slice A0 dl d0] := hHeld
                have zc0 := zf.cell 0
                have zc1 := zf.cell 1
                have zc2 := zf.cell 2
                go_wp2_with fail
                refine bodyPost_ret (v := .tuple #[.agg #[.int .i64 op, .int .i64 0, .slice A0 dl d0], .bool true]) (by simp [results, Tryd.results66, go_sem, zc0, zc1, zc2]) rfl ?_
                have hgo : BlkIs wg g 96 #[.string ⟨sr.toArray⟩, .int .i64 mk] := by rw [← her]; exact hrg
                refine ⟨((hkm.drew).trans hkg).setRow hgzw _, A0, d0, by rw [hdd.out]; rfl, ?_, (setRow_other wg gz g _ hgn).trans hgo⟩
                have hrepd : Rep (wg.setRow gz #[.int .i64 op, .int .i64 0, .slice A0 dl d0]) (fun q => gz + 1 ≤ q) (.lst 3 (done.map encP)) [.slice A0 dl d0] := by
                  have h1 := hown.out.rep
                  have h2 := (h1.drew).keepM hkg (fun q hq => by omega)
                  refine Rep.keep (fun q hq _ => by omega) (fun q hq _ => setRow_other wg gz q _ (by omega)) _ _ h2
                have hrepe : Rep (wg.setRow gz #[.int .i64 op, .int .i64 0, .slice A0 dl d0]) (fun q => gz + 1 ≤ q) (.lst 3 (done.map encP)) [.slice A0 done.length d0] := by rw [← hdd.out]; exact hrepd
                exact rep_pat_mk (p := .mk op 0 done) (hrepe.imp (fun q hq _ => by omega))
        · have HR4 := HR3.out
          rw [hlf] at c3 HR4
          rw [if_pos rfl] at HR4
          have hnum := number_any g y ((m : Int) - 1) hyl w4 hr4 (HT.out.keepM k4 HF.out)
          unfold NumPRet at hnum
          have hgzw : w.heap.size ≤ gz := Nat.le_of_eq hzw
          have har : arityOf op = 0 := by unfold arityOf; rw [hlf]; rfl
          rw [har] at ca
          clear hlf har
          cases hnr : numR y with
          | none =>
            rw [hnr] at hnum HR4
            obtain rfl : R = none := HR4.symm
            clear hnr HR4
            go_wp2_with (go_at_call 94; refine (c3 _).mono ?_; rintro e w9 ⟨rfl, rfl⟩)
            refine hnum.mono ?_
            rintro e w5 ⟨hk5, x5, rfl⟩
            have z5 := z4.keepM hk5 hgn.symm
            have k5 := k4.trans hk5
            clear c0 c1 f0 hl1 y0 y1 y2 g0 g1 g2 hlz
            have y0 : w5.cell? ⟨gz, 0, none⟩ = some (.int .i64 op) := z5.cell 0
            have y1 : w5.cell? ⟨gz, 1, none⟩ = some (.int .i64 0) := z5.cell 1
            have y2 : w5.cell? ⟨gz, 2, none⟩ = some (.slice none 0 0) := z5.cell 2
            have g0 : w5.frozen? ⟨gz, 0, none⟩ = false := z5.frozen 0
            have g1 : w5.frozen? ⟨gz, 1, none⟩ = false := z5.frozen 1
            have g2 : w5.frozen? ⟨gz, 2, none⟩ = false := z5.frozen 2
            have hlz : gz < w5.heap.size := z5.lt
            go_upto_region 12 with fail
            have z6 : BlkIs (w5.setCell ⟨gz, 1, none⟩ (.int .i64 x5)) gz 55 #[.int .i64 op, .int .i64 x5, .slice none 0 0] := z5.put 1 _
            have k6 : KeepM g w (w5.setCell ⟨gz, 1, none⟩ (.int .i64 x5)) := k5.setCell hgzw _
            obtain ⟨w6, hw6⟩ : ∃ W, w5.setCell ⟨gz, 1, none⟩ (.int .i64 x5) = W := ⟨_, rfl⟩
            rw [hw6] at z6 k6 ⊢
            clear hw6 y0 y1 y2 g0 g1 g2 hlz
            have y0 : w6.cell? ⟨gz, 0, none⟩ = some (.int .i64 op) := z6.cell 0
            have y1 : w6.cell? ⟨gz, 1, none⟩ = some (.int .i64 x5) := z6.cell 1
            have y2 : w6.cell? ⟨gz, 2, none⟩ = some (.slice none 0 0) := z6.cell 2
            have g0 : w6.frozen? ⟨gz, 0, none⟩ = false := z6.frozen 0
            have g1 : w6.frozen? ⟨gz, 1, none⟩ = false := z6.frozen 1
            have g2 : w6.frozen? ⟨gz, 2, none⟩ = false := z6.frozen 2
            have hlz : gz < w6.heap.size := z6.lt
            go_wp2_with fail
            refine bodyPost_ret (v := .tuple #[.agg #[.int .i64 op, .int .i64 x5, .slice none 0 0], .bool false]) (by simp [results, Tryd.results66, go_sem, (self3 z6).cell]) rfl ?_
            exact RdPostP.bad (keep3 k6 (Nat.le_of_eq hzw))
          | some r =>
            obtain ⟨v, j⟩ := r
            rw [hnr] at hnum HR4
            obtain rfl : R = some (.mk op v [], s.drop (k + 1 + (j + 1)), m - 1) := HR4.symm
            have hah : aheadB [41] (y.drop j) = true := numR_ahead hnr
            have her : eatRest [41] (y.drop j) = s.drop (k + 1 + (j + 1)) := by unfold eatRest; rw [if_pos hah, ← hy.out]; simp only [List.drop_drop, List.length_singleton]; congr 1
            have hm1 : (m : Int) - 1 = ((m - 1 : Nat) : Int) := by omega
            clear hnr HR4
            go_wp2_with (go_at_call 94; refine (c3 _).mono ?_; rintro e w9 ⟨rfl, rfl⟩)
            refine hnum.mono ?_
            rintro e w5 ⟨hk5, rfl, r5⟩
            have z5 := z4.keepM hk5 hgn.symm
            have k5 := k4.trans hk5
            clear c0 c1 f0 hl1 y0 y1 y2 g0 g1 g2 hlz
            have y0 : w5.cell? ⟨gz, 0, none⟩ = some (.int .i64 op) := z5.cell 0
            have y1 : w5.cell? ⟨gz, 1, none⟩ = some (.int .i64 0) := z5.cell 1
            have y2 : w5.cell? ⟨gz, 2, none⟩ = some (.slice none 0 0) := z5.cell 2
            have g0 : w5.frozen? ⟨gz, 0, none⟩ = false := z5.frozen 0
            have g1 : w5.frozen? ⟨gz, 1, none⟩ = false := z5.frozen 1
            have g2 : w5.frozen? ⟨gz, 2, none⟩ = false := z5.frozen 2
            have hlz : gz < w5.heap.size := z5.lt
            go_upto_region 11 with fail
            have z6 : BlkIs (w5.setCell ⟨gz, 1, none⟩ (.int .i64 v)) gz 55 #[.int .i64 op, .int .i64 v, .slice none 0 0] := z5.put 1 _
            have k6 : KeepM g w (w5.setCell ⟨gz, 1, none⟩ (.int .i64 v)) := k5.setCell hgzw _
            have r6 : RdP (w5.setCell ⟨gz, 1, none⟩ (.int .i64 v)) g (y.drop j) ((m : Int) - 1) := BlkIs.far r5 (by simpa using hgn) _
            obtain ⟨w6, hw6⟩ : ∃ W, w5.setCell ⟨gz, 1, none⟩ (.int .i64 v) = W := ⟨_, rfl⟩
            rw [hw6] at z6 k6 r6 ⊢
            clear hw6 y0 y1 y2 g0 g1 g2 hlz
            have y0 : w6.cell? ⟨gz, 0, none⟩ = some (.int .i64 op) := z6.cell 0
            have y1 : w6.cell? ⟨gz, 1, none⟩ = some (.int .i64 v) := z6.cell 1
            have y2 : w6.cell? ⟨gz, 2, none⟩ = some (.slice none 0 0) := z6.cell 2
            have g0 : w6.frozen? ⟨gz, 0, none⟩ = false := z6.frozen 0
            have g1 : w6.frozen? ⟨gz, 1, none⟩ = false := z6.frozen 1
            have g2 : w6.frozen? ⟨gz, 2, none⟩ = false := z6.frozen 2
            have hlz : gz < w6.heap.size := z6.lt
            go_wp2_with (go_at_call 105; refine (ca _).mono ?_; rintro e w9 ⟨rfl, rfl⟩)
            go_loopw [67] (fun i wr => i = .int .i64 0 ∧ w6 = wr) (fun _ _ => 0)
            case atStart => exact ⟨rfl, rfl⟩
            case round =>
              obtain ⟨rfl, rfl⟩ := hrel
              go_upto_region 23 with fail
              refine beginH (fun W => BlkIs W gz 55 #[.int .i64 op, .int .i64 v, .slice none 0 0]) (by kernel_rfl) (z6.drew) (fun hHeld => ?_)
              refine takeH (i := 0) (d := some 93) (v := .agg #[.int .i64 op, .int .i64 v, .slice none 0 0]) (by kernel_rfl) rfl rfl rfl (fun _ _ _ h => h) hHeld (fun W hSw => by exact exec_load_row rfl rfl hSw Tryd.underlying55 rfl (by kernel_rfl)) ?_
              simp only [Act.put, List.setIfInBounds_toArray, List.set_cons_zero, List.set_cons_succ]
              refine takeH (i := 1) (d := some 94) (v := .pointer (some ⟨g, 0, none⟩)) (by kernel_rfl) rfl rfl rfl (fun _ _ _ h => h) hHeld (fun W hSw => by go_simp) ?_
              simp only [Act.put, List.setIfInBounds_toArray, List.set_cons_zero, List.set_cons_succ]
              refine onlyH (i := 2) (d := some 95) (by kernel_rfl) rfl rfl rfl (fun K' hK => ?_)
              refine wp_go_call 106 _ _ rfl #[.pointer (some ⟨g, 0, none⟩), .string ⟨#[41]⟩] rfl (fun W' => by go_simp) (eat_any g (y.drop j) [41] ((m : Int) - 1) _ (BlkIs.drew r6)) (fun e wg he => ?_)
              obtain ⟨rfl, hkg, hrg⟩ := he
              rw [hah] at *
              have zg : BlkIs wg gz 55 #[.int .i64 op, .int .i64 v, .slice none 0 0] := hHeld.keepM hkg hgn.symm
              refine ⟨_, rfl, hK.out _ _ zg (fun hHeld => ?_)⟩
              simp only [Act.put, List.setIfInBounds_toArray, List.set_cons_zero, List.set_cons_succ]
              refine onlyH (i := 3) (d := none) (by kernel_rfl) rfl rfl rfl (fun K' hK => ?_)
              refine wp_store_row 55 (.tmp 2) (.tmp 93) rfl gz #[.int .i64 op, .int .i64 v, .slice none 0 0] rfl rfl 55 _ zg (by kernel_rfl) rfl (by simp [Value.oneCell']) (hK.out _ _ (setRow_heap _ _ _ _ _ _ zg) (fun hHeld => ?_))
              refine takeH (i := 4) (d := some 3) (v := .bool true) (by kernel_rfl) rfl rfl rfl (fun _ _ _ h => h) hHeld (fun W hSw => by go_simp) ?_
              simp only [Act.put, List.setIfInBounds_toArray, List.set_cons_zero, List.set_cons_succ]
              refine wpAnyH_done (by kernel_rfl) ?_ _
              have zf : BlkIs (wg.setRow gz #[.int .i64 op, .int .i64 v, .slice none 0 0]) gz 55 #[.int .i64 op, .int .i64 v, .slice none 0 0] := hHeld
              have zc0 := zf.cell 0
              have zc1 := zf.cell 1
              have zc2 := zf.cell 2
              go_wp2_with fail
              refine bodyPost_ret (v := .tuple #[.agg #[.int .i64 op, .int .i64 v, .slice none 0 0], .bool true]) (by simp [results, Tryd.results66, go_sem, zc0, zc1, zc2]) rfl ?_
              have hgo : BlkIs wg g 96 #[.string ⟨(s.drop (k + 1 + (j + 1))).toArray⟩, .int .i64 ((m - 1 : Nat) : Int)] := by rw [← her, ← hm1]; exact hrg
              exact ⟨((k6.drew).trans hkg).setRow hgzw _, none, 0, rfl, rep_leaf, (setRow_other wg gz g _ hgn).trans hgo⟩

theorem rdP_any : ∀ f, RdOkP f
  | 0 => fun _ _ _ _ h => absurd h (by omega)
  | f + 1 => rdP_step f (rdP_any f)

end

end Go.Proofs.YthdicdkgfmiepaaDoor

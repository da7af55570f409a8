/- cover.small, better, kidsCost, fits walked. cover.fits walked. (*Chooser).find walked: it ends in what the five turns find. The memory of bests: a map by keys. A tree's best: what it is, and how much it may be. What stays while the memory of bests is written: all but its block. Any order of a region's operations, with a condition on memory that holds till the last operation, which waits for all others, has come up. Any order of a region's operations, with a condition on memory that all of them keep. -/
import Derived.Test.YtaippkdlibampaaDoorK5
import Derived.DeepKeys5
import Derived.Maps.Keyed
import Derived.Test.YtaippkdlibampaaDoorProg
import Derived.OrdersHeld
import Derived.RegionTactic
import Derived.Maps.AppendAt
import Derived.Laws.Tables
import Derived.Laws.Rows
import Derived.Lib.Hide
import Derived.Deep.MidRow
import Derived.Great.BuildSlice
namespace Go.Proofs.YtaippkdlibampaaDoor

/- cover.small, better, kidsCost, fits walked. -/
section
open Go.RowKit

def bestCells (b : Best) : Array Value := #[.int .i64 b.c0, .int .i64 b.c1, .int .i64 b.c2, .int .i64 b.c3, .int .i64 b.r0, .int .i64 b.r1, .int .i64 b.r2, .int .i64 b.r3]

theorem bestCells_cost (b : Best) (n : Nat) (h : n < 4) : (bestCells b)[n]? = some (.int .i64 (b.cost n)) := by
  rcases nt4 h with rfl | rfl | rfl | rfl <;> rfl
theorem bestCells_rule (b : Best) (n : Nat) (h : n < 4) : (bestCells b)[4 + n]? = some (.int .i64 (b.rule n)) := by
  rcases nt4 h with rfl | rfl | rfl | rfl <;> rfl
theorem bestCells_set (b : Best) (n : Nat) (h : n < 4) (c a : Int) : ((bestCells b).setIfInBounds n (.int .i64 c)).setIfInBounds (4 + n) (.int .i64 a) = bestCells (b.set n c a) := by
  rcases nt4 h with rfl | rfl | rfl | rfl <;> rfl
theorem bestCells_set2 (b : Best) (n : Nat) (h : n < 4) (c a : Int) : ((bestCells b).setIfInBounds (4 + n) (.int .i64 a)).setIfInBounds n (.int .i64 c) = bestCells (b.set n c a) := by
  rcases nt4 h with rfl | rfl | rfl | rfl <;> rfl

/-- is a tree a small number? -/
def smallT (op n : Int) : Bool := decide (op = 1) && (decide (-2048 ≤ n) && decide (n ≤ 2047))

set_option maxHeartbeats 1000000 in
theorem small_any (op n : Int) (A : Option Addr) (m c : Nat) (w : World) :
    Calls Tryd.prog 113 #[.agg #[.int .i64 op, .int .i64 n, .slice A m c]] w (SomeBoolBelow (smallT op n) w) := by
  go_enter Tryd.func113, Tryd.ntmps113
  go_wp2_with fail
  all_goals
    go_ret
    refine ⟨ret_bool ?_, below_alloc _ _⟩
    unfold smallT
    grind

def BetterPost (g : Nat) (b : Best) (n : Nat) (c a : Int) (w : World) (e : Ending) (w' : World) : Prop :=
  ∃ t : Bool, e = .returned (.bool t) ∧ Below g w w' ∧
    (t = false → w = w' ∧ b.cost n ≠ -1 ∧ (b.cost n < c ∨ b.cost n = c ∧ b.rule n ≤ a)) ∧
    (t = true → BlkIs w' g 114 (bestCells (b.set n c a)) ∧ (b.cost n = -1 ∨ c < b.cost n ∨ c = b.cost n ∧ a < b.rule n))

set_option maxHeartbeats 2000000 in
theorem better_any (g : Nat) (b : Best) (n : Nat) (hn : n < 4) (c a : Int) (w : World) (hb : BlkIs w g 114 (bestCells b)) :
    Calls Tryd.prog 124 #[.pointer (some ⟨g, 0, none⟩), .int .i64 n, .int .i64 c, .int .i64 a] w (BetterPost g b n c a w) := by
  have hc := (hb.cell n).trans (bestCells_cost b n hn)
  have hr := (hb.cell (4 + n)).trans (bestCells_rule b n hn)
  have f0 := hb.frozen n
  have f1 := hb.frozen (4 + n)
  have hlt := hb.lt
  obtain ⟨x, hx⟩ : ∃ x, Hid (b.cost n = x) := ⟨_, Lib.hid rfl⟩
  obtain ⟨y, hy⟩ : ∃ y, Hid (b.rule n = y) := ⟨_, Lib.hid rfl⟩
  rw [hx.out] at hc
  rw [hy.out] at hr
  have hne : (4 + n) ≠ n := by omega
  go_enter Tryd.func124, Tryd.ntmps124
  go_wp2_with fail
  · go_ret
    exact ⟨false, ret_bool rfl, Below.refl _ _, fun _ => ⟨rfl, by rw [hx.out]; omega, by rw [hx.out]; omega⟩, fun h => Bool.noConfusion h⟩
  · go_ret
    exact ⟨false, ret_bool rfl, Below.refl _ _, fun _ => ⟨rfl, by rw [hx.out]; omega, by rw [hx.out, hy.out]; omega⟩, fun h => Bool.noConfusion h⟩
  all_goals
    have hlast : Hid (b.cost n = -1 ∨ c < b.cost n ∨ c = b.cost n ∧ a < b.rule n) := Lib.hid (by rw [hx.out, hy.out]; omega)
    go_region
    all_goals
      go_wp2_with fail
      go_ret
      refine ⟨true, ret_bool rfl, ?_, fun h => Bool.noConfusion h, fun _ => ⟨?_, hlast.out⟩⟩
      · exact Below.drew (Below.setCell (Below.setCell (Below.refl _ _) (by simp) _) (by simp) _)
      · first
          | (rw [← bestCells_set b n hn]; exact ((hb.put n _).put (4 + n) _).drew)
          | (rw [← bestCells_set2 b n hn]; exact ((hb.put (4 + n) _).put n _).drew)

/-- a node's key: its op, whether it is a small number, its kids' bests -/
structure Key where
  op : Int
  sm : Bool
  k0 : Best
  k1 : Best
def Key.kid (k : Key) : Nat → Best
  | 0 => k.k0
  | _ => k.k1
def Key.kc (k : Key) (i n : Nat) : Int := (k.kid i).cost n
def kidsCells (k : Key) : Array Value := #[.int .i64 k.k0.c0, .int .i64 k.k0.c1, .int .i64 k.k0.c2, .int .i64 k.k0.c3, .int .i64 k.k0.r0, .int .i64 k.k0.r1, .int .i64 k.k0.r2, .int .i64 k.k0.r3, .int .i64 k.k1.c0, .int .i64 k.k1.c1, .int .i64 k.k1.c2, .int .i64 k.k1.c3, .int .i64 k.k1.r0, .int .i64 k.k1.r1, .int .i64 k.k1.r2, .int .i64 k.k1.r3]
def keyCells (k : Key) : Array Value := #[.int .i64 k.op, .bool k.sm, .int .i64 k.k0.c0, .int .i64 k.k0.c1, .int .i64 k.k0.c2, .int .i64 k.k0.c3, .int .i64 k.k0.r0, .int .i64 k.k0.r1, .int .i64 k.k0.r2, .int .i64 k.k0.r3, .int .i64 k.k1.c0, .int .i64 k.k1.c1, .int .i64 k.k1.c2, .int .i64 k.k1.c3, .int .i64 k.k1.r0, .int .i64 k.k1.r1, .int .i64 k.k1.r2, .int .i64 k.k1.r3]

theorem kidsCells_at (k : Key) (i n : Nat) (hi : i < 2) (hn : n < 4) : (kidsCells k)[i * 8 + n]? = some (.int .i64 (k.kc i n)) := by
  have h : i = 0 ∨ i = 1 := by omega
  rcases h with rfl | rfl <;> rcases nt4 hn with rfl | rfl | rfl | rfl <;> rfl

/-- kids that are nonterminals, two at most -/
def FlatOk (ps : List Pat) : Prop := ps.length ≤ 2 ∧ ∀ p ∈ ps, 0 ≤ p.nt ∧ p.nt ≤ 3

def SumPost (o : Option Int) (w : World) (e : Ending) (w' : World) : Prop :=
  Below w.heap.size w w' ∧ match o with
  | none => e = .returned (.tuple #[.int .i64 0, .bool false])
  | some c => e = .returned (.tuple #[.int .i64 c, .bool true])

theorem kidsSum_take : ∀ (ps : List Pat) (i : Nat) (kc : Nat → Nat → Int) (k : Nat) (hk : k < ps.length) (s : Int), kidsSum (ps.take k) i kc = some s →
    kidsSum (ps.take (k + 1)) i kc = if kc (i + k) ps[k].nt.toNat = -1 then none else some (s + kc (i + k) ps[k].nt.toNat)
  | p :: ps, i, kc, 0, _, s, h => by
    simp only [List.take_zero, kidsSum] at h
    injection h with h
    subst h
    simp only [List.take_succ_cons, List.take_zero, kidsSum, Nat.add_zero, List.getElem_cons_zero]
    split
    · rfl
    · simp
  | p :: ps, i, kc, k + 1, hk, s, h => by
    simp only [List.take_succ_cons, kidsSum] at h
    split at h
    · cases h
    · rename_i hne
      cases hs : kidsSum (ps.take k) (i + 1) kc with
      | none => rw [hs] at h; cases h
      | some d =>
        rw [hs] at h
        simp only [Option.map_some, Option.some.injEq] at h
        have ih := kidsSum_take ps (i + 1) kc k (by simpa using hk) d hs
        rw [List.take_succ_cons]
        simp only [kidsSum]
        rw [if_neg hne, ih, List.getElem_cons_succ, show i + 1 + k = i + (k + 1) by omega]
        split
        · rfl
        · simp only [Option.map_some]; congr 1; omega

theorem kidsSum_none : ∀ (ps : List Pat) (i : Nat) (kc : Nat → Nat → Int) (k : Nat), kidsSum (ps.take k) i kc = none → kidsSum ps i kc = none
  | [], _, _, k, h => by simpa using h
  | p :: ps, i, kc, 0, h => by simp [kidsSum] at h
  | p :: ps, i, kc, k + 1, h => by
    simp only [List.take_succ_cons, kidsSum] at h ⊢
    split
    · rfl
    · rename_i hne
      rw [if_neg hne] at h
      cases hs : kidsSum (ps.take k) (i + 1) kc with
      | none => rw [kidsSum_none ps (i + 1) kc k hs]; rfl
      | some d => rw [hs] at h; cases h

set_option maxRecDepth 100000 in
set_option maxHeartbeats 4000000 in
theorem kidsCost_any (p : Pat) (hf : FlatOk p.kids) (k : Key) (hkl : ∀ i n, -1 ≤ k.kc i n ∧ k.kc i n ≤ 1000000000) (A : Option Addr) (c : Nat) (w : World) (hp : PatIn w A c p) :
    Calls Tryd.prog 128 #[.agg #[.int .i64 p.op, .int .i64 p.nt, .slice A p.kids.length c], .agg (kidsCells k)] w (SumPost (kidsSum p.kids 0 k.kc) w) := by
  obtain ⟨hf1, hf2⟩ := hf
  obtain ⟨n, hn⟩ : ∃ n, Hid (p.kids.length = n) := ⟨_, Lib.hid rfl⟩
  have HK : Hid (PatsIn w A c p.kids) := Lib.hid hp.kids
  rw [hn.out] at hf1 ⊢
  obtain ⟨o, ho⟩ : ∃ o, Hid (kidsSum p.kids 0 k.kc = o) := ⟨_, Lib.hid rfl⟩
  rw [ho.out]
  clear hp
  go_enter Tryd.func128, Tryd.ntmps128
  go_wp2_with fail
  obtain ⟨KC, hKC⟩ : ∃ K, Hid (kidsCells k = K) := ⟨_, Lib.hid rfl⟩
  rw [hKC.out]
  have hat : ∀ i n, i < 2 → n < 4 → KC[i * 8 + n]? = some (.int .i64 (k.kc i n)) := fun i n hi hn => by rw [← hKC.out]; exact kidsCells_at k i n hi hn
  have HAT := Lib.hid hat
  clear hat
  have hb0 : Below w.heap.size w ((w.alloc (.cells #[.int .i64 p.op, .int .i64 p.nt, .slice A n c] 31)).alloc (.cells KC 149)) := below_box2 _ _ _
  have hbk0 : BlkIs ((w.alloc (.cells #[.int .i64 p.op, .int .i64 p.nt, .slice A n c] 31)).alloc (.cells KC 149)) (w.heap.size + 1) 149 KC := BlkIs.fresh1 _ _ _ _
  go_loopw [6, 13] (fun s i wr => ∃ (q : Nat) (m : Int), q ≤ n ∧ i = .int .i64 q ∧ s = .int .i64 m ∧ 0 ≤ m ∧ m ≤ 1000000000 * q ∧ Below w.heap.size w wr ∧ BlkIs wr (w.heap.size + 1) 149 KC ∧ Hid (kidsSum (p.kids.take q) 0 k.kc = some m)) (fun _ i _ => n - (intOf i).toNat)
  case atStart => exact ⟨0, 0, by omega, rfl, rfl, by omega, by omega, hb0, hbk0, Lib.hid (by simp [kidsSum])⟩
  case round =>
    obtain ⟨q, m, hq, rfl, rfl, hm0, hm1, hb, hbk, hsum⟩ := hrel
    obtain ⟨wo, rfl⟩ : ∃ wo : World, wo = wr := ⟨_, rfl⟩
    clear hb0 hbk0
    have hbz := hbk.lt
    have hbz2 := hb.size
    by_cases hlt : q < n
    · have hkl2 : q < p.kids.length := by rw [hn.out]; exact hlt
      obtain ⟨ok, hps⟩ := HK.out.below hb
      obtain ⟨g, off, B, c', rfl, _, hg, ⟨a0, a1, a2⟩, _⟩ := pats_at hps q hkl2
      have hnt := hf2 p.kids[q] (List.getElem_mem hkl2)
      have htk := Lib.hid (kidsSum_take p.kids 0 k.kc q hkl2 m hsum.out)
      have hno := Lib.hid (kidsSum_none p.kids 0 k.kc (q + 1))
      obtain ⟨x, hx⟩ : ∃ x, Hid (p.kids[q] = x) := ⟨_, Lib.hid rfl⟩
      rw [hx.out] at a0 a1 a2 hnt htk
      obtain ⟨nt, hnt2⟩ : ∃ nt : Nat, x.nt = nt := ⟨x.nt.toNat, by omega⟩
      have hnt4 : nt < 4 := by omega
      rw [hnt2] at a1 htk
      rw [show ((nt : Nat) : Int).toNat = nt from rfl, Nat.zero_add] at htk
      have hcell : wo.cell? ⟨w.heap.size + 1, q * 8 + nt, none⟩ = some (.int .i64 (k.kc q nt)) := (hbk.cell _).trans (HAT.out q nt (by omega) hnt4)
      obtain ⟨v, hv⟩ : ∃ v, Hid (k.kc q nt = v) := ⟨_, Lib.hid rfl⟩
      have hvl := hkl q nt
      rw [hv.out] at hvl hcell htk
      have hbkA := hbk.alloc (.cells #[.int .i64 x.op, .int .i64 nt, .slice B x.kids.length c'] 31)
      have hbA := hb.alloc hbz2 (.cells #[.int .i64 x.op, .int .i64 nt, .slice B x.kids.length c'] 31)
      clear hps hnt2 hkl
      go_wp2_with fail
      go_quiet (fail)
      by_cases hv1 : v = -1
      · have hve : (v == -1) = true := by simpa using hv1
        obtain rfl : o = none := by rw [← ho.out]; exact hno.out (by rw [htk.out, if_pos hv1])
        go_wp2_with fail
        go_ret2
        exact ⟨below_drewsN hbA _, rfl⟩
      · have hve : (v == -1) = false := by simpa using hv1
        go_wp2_with fail
        go_roundw
        case rel => exact ⟨q + 1, m + v, by omega, by go_num, rfl, by omega, by omega, below_drewsN hbA _, hbkA.drewN _, Lib.hid (by rw [htk.out, if_neg hv1])⟩
        case measure => simp [intOf]; omega
    · obtain rfl : q = n := by omega
      have h1 : p.kids.take q = p.kids := List.take_of_length_le (by rw [hn.out]; omega)
      obtain rfl : o = some m := by rw [← ho.out, ← h1]; exact hsum.out
      go_wp2_with fail
      go_ret2
      exact ⟨hb, rfl⟩

end

/- cover.fits walked. -/
section
open Go.RowKit

def RuleFlat (r : Rule) : Prop := (r.pat.op = 0 → 0 ≤ r.pat.nt ∧ r.pat.nt ≤ 3) ∧ FlatOk r.pat.kids ∧ 0 ≤ r.cost ∧ r.cost ≤ 65535

def FitsPost (o : Option Int) (w : World) (e : Ending) (w' : World) : Prop :=
  ∃ (c : Int) (ok : Bool), e = .returned (.tuple #[.int .i64 c, .bool ok]) ∧ o = (if ok = true then some c else none) ∧ Below w.heap.size w w'

theorem kc_low (k : Key) (h : ∀ i n, n < 4 → -1 ≤ k.kc i n ∧ k.kc i n ≤ 1000000000) : ∀ i n, -1 ≤ k.kc i n ∧ k.kc i n ≤ 1000000000 := by
  intro i n
  by_cases hn : n < 4
  · exact h i n hn
  · have := h i 3 (by omega)
    have e : k.kc i n = k.kc i 3 := by
      match n, hn with
      | 0, h | 1, h | 2, h => omega
      | 3, _ => rfl
      | n + 4, _ => rfl
    rw [e]; exact this

theorem kidsSum_top (ps : List Pat) (kc : Nat → Nat → Int) (h : FlatOk ps) (hk : ∀ i n, kc i n ≤ 1000000000) : ∀ s, kidsSum ps 0 kc = some s → s ≤ 2000000000 := by
  intro s hs
  match ps, h.1, hs with
  | [], _, hs => simp [kidsSum] at hs; omega
  | [p], _, hs =>
    simp only [kidsSum] at hs
    split at hs
    · cases hs
    · simp at hs; have := hk 0 p.nt.toNat; omega
  | [p, q], _, hs =>
    simp only [kidsSum] at hs
    split at hs
    · cases hs
    · split at hs
      · cases hs
      · simp at hs; have := hk 0 p.nt.toNat; have := hk 1 q.nt.toNat; omega
  | p :: q :: r :: ps, h, _ => simp at h

set_option maxRecDepth 100000 in
set_option maxHeartbeats 8000000 in
theorem fits_any (r : Rule) (hr : RuleFlat r) (k : Key) (b : Best) (hkl : ∀ i n, -1 ≤ k.kc i n ∧ k.kc i n ≤ 1000000000) (hbl : ∀ n, n < 4 → -1 ≤ b.cost n ∧ b.cost n ≤ 1000000000) (A : Option Addr) (c : Nat) (w : World) (hp : PatIn w A c r.pat) :
    Calls Tryd.prog 123 #[.agg #[.int .i64 r.nt, .int .i64 r.pat.op, .int .i64 r.pat.nt, .slice A r.pat.kids.length c, .int .i64 r.cost, .string ⟨r.form.toArray⟩], .agg (keyCells k), .agg (bestCells b)] w (FitsPost (ruleCost r k.op k.sm k.kc b.cost) w) := by
  obtain ⟨h1, h2, h3, h4⟩ := hr
  obtain ⟨o, ho⟩ : ∃ o, Hid (ruleCost r k.op k.sm k.kc b.cost = o) := ⟨_, Lib.hid rfl⟩
  rw [ho.out]
  have HP := Lib.hid hp
  clear hp
  by_cases h0 : r.pat.op = 0
  · obtain ⟨g1, g2⟩ := h1 h0
    obtain ⟨nt, hnt⟩ : ∃ nt : Nat, r.pat.nt = nt := ⟨r.pat.nt.toNat, by omega⟩
    have hnt4 : nt < 4 := by omega
    have hoe : Hid (o = if b.cost nt = -1 then none else some (b.cost nt + r.cost)) := Lib.hid (by rw [← ho.out]; unfold ruleCost; rw [if_pos h0, hnt]; rfl)
    have hlt := hbl nt hnt4
    obtain ⟨BC, hBC⟩ : ∃ K, Hid (bestCells b = K) := ⟨_, Lib.hid rfl⟩
    have hat := bestCells_cost b nt hnt4
    rw [hBC.out] at hat ⊢
    obtain ⟨v, hv⟩ : ∃ v, Hid (b.cost nt = v) := ⟨_, Lib.hid rfl⟩
    rw [hv.out] at hat hlt hoe
    rw [h0, hnt]
    obtain ⟨KC, hKC⟩ : ∃ K, Hid (keyCells k = K) := ⟨_, Lib.hid rfl⟩
    rw [hKC.out]
    have hcell : (((w.alloc (.cells #[.int .i64 r.nt, .int .i64 0, .int .i64 nt, .slice A r.pat.kids.length c, .int .i64 r.cost, .string ⟨r.form.toArray⟩] 33)).alloc (.cells KC 151)).alloc (.cells BC 114)).cell? ⟨w.heap.size + 1 + 1, nt, none⟩ = some (.int .i64 v) := by
      refine Eq.trans ((BlkIs.fresh2 (by simp)).cell nt) hat
    clear hnt g1 g2 h1 h2 h0 hbl hkl hat
    by_cases hv1 : v = -1
    · have hve : (v != -1) = false := by simp [hv1]
      obtain rfl : o = none := by rw [hoe.out, if_pos hv1]
      go_enter Tryd.func123, Tryd.ntmps123
      go_wp2_with fail
      go_ret2
      exact ⟨_, false, rfl, rfl, below_box3 _ _ _ _⟩
    · have hve : (v != -1) = true := by simp [hv1]
      obtain rfl : o = some (v + r.cost) := by rw [hoe.out, if_neg hv1]
      go_enter Tryd.func123, Tryd.ntmps123
      go_wp2_with fail
      go_ret2
      exact ⟨v + r.cost, true, rfl, rfl, below_box3 _ _ _ _⟩
  · have h0e : (r.pat.op == 0) = false := by simpa using h0
    by_cases hbad : r.pat.op ≠ k.op ∨ (r.nt = 2 ∧ k.sm = false)
    · obtain rfl : o = none := by rw [← ho.out]; unfold ruleCost; rw [if_neg h0, if_pos hbad]
      by_cases hb1 : r.pat.op = k.op
      · have hb2 : r.nt = 2 ∧ k.sm = false := by rcases hbad with h | h; exact absurd hb1 h; exact h
        obtain ⟨hb2, hb3⟩ := hb2
        have hne : (r.pat.op != k.op) = false := by simp [hb1]
        have hne2 : (r.pat.op == k.op) = true := by simp [hb1]
        have hne3 : (r.nt == 2) = true := by simp [hb2]
        clear hbad hb1 hb2
        go_enter Tryd.func123, Tryd.ntmps123
        unfold keyCells bestCells
        rw [hb3]
        go_wp2_with fail
        go_ret2
        exact ⟨0, false, rfl, rfl, below_box3 _ _ _ _⟩
      · have hne : (r.pat.op != k.op) = true := by simp [hb1]
        have hne2 : (r.pat.op == k.op) = false := by simp [hb1]
        clear hbad
        go_enter Tryd.func123, Tryd.ntmps123
        unfold keyCells bestCells
        go_wp2_with fail
        go_ret2
        exact ⟨0, false, rfl, rfl, below_box3 _ _ _ _⟩
    · have hoe : Hid (o = (kidsSum r.pat.kids 0 k.kc).map (· + r.cost)) := Lib.hid (by rw [← ho.out]; unfold ruleCost; rw [if_neg h0, if_neg hbad])
      have hcall := fun W => kidsCost_any r.pat h2 k hkl A c W
      have hb1 : r.pat.op = k.op := Classical.byContradiction fun h => hbad (Or.inl h)
      have hne : (r.pat.op != k.op) = false := by simp [hb1]
      have hne2 : (r.pat.op == k.op) = true := by simp [hb1]
      have hsb := kidsSum_top _ k.kc h2 (fun i n => (hkl i n).2)
      by_cases hn2 : r.nt = 2
      · have hsm : k.sm = true := by
          cases hs : k.sm
          · exact absurd (Or.inr ⟨hn2, hs⟩) hbad
          · rfl
        have hne3 : (r.nt == 2) = true := by simp [hn2]
        clear hbad hb1 hn2
        go_enter Tryd.func123, Tryd.ntmps123
        unfold keyCells bestCells
        rw [hsm]
        go_wp2_with fail
        refine (hcall _ (HP.out.below (below_box3 _ _ _ _))).mono ?_
        rintro e w3 ⟨hb3, hpost⟩
        have hb4 := (below_box3 w _ _ _).trans (hb3.mono (by simp; omega))
        obtain ⟨hc0, hf0⟩ := bcell hb3
        have hz3 : w.heap.size < w3.heap.size := by have := hb3.size; simp at this; omega
        clear hcall
        cases hs : kidsSum r.pat.kids 0 k.kc with
        | none =>
          rw [hs] at hpost hoe
          obtain rfl : e = _ := hpost
          obtain rfl : o = none := by rw [hoe.out]; rfl
          clear hs
          go_wp2_with fail
          go_ret2
          exact ⟨_, false, rfl, rfl, hb4⟩
        | some s =>
          have hs0 := kidsSum_nonneg _ _ _ (fun i n => (hkl i n).1) s hs
          have hs1 := hsb s hs
          rw [hs] at hpost hoe
          obtain rfl : e = _ := hpost
          obtain rfl : o = some (s + r.cost) := by rw [hoe.out]; rfl
          clear hs
          go_wp2_with fail
          go_ret2
          exact ⟨_, true, rfl, rfl, hb4⟩
      · have hne3 : (r.nt == 2) = false := by simp [hn2]
        clear hbad hb1 hn2
        go_enter Tryd.func123, Tryd.ntmps123
        unfold keyCells bestCells
        go_wp2_with fail
        refine (hcall _ (HP.out.below (below_box3 _ _ _ _))).mono ?_
        rintro e w3 ⟨hb3, hpost⟩
        have hb4 := (below_box3 w _ _ _).trans (hb3.mono (by simp; omega))
        obtain ⟨hc0, hf0⟩ := bcell hb3
        have hz3 : w.heap.size < w3.heap.size := by have := hb3.size; simp at this; omega
        clear hcall
        cases hs : kidsSum r.pat.kids 0 k.kc with
        | none =>
          rw [hs] at hpost hoe
          obtain rfl : e = _ := hpost
          obtain rfl : o = none := by rw [hoe.out]; rfl
          clear hs
          go_wp2_with fail
          go_ret2
          exact ⟨_, false, rfl, rfl, hb4⟩
        | some s =>
          have hs0 := kidsSum_nonneg _ _ _ (fun i n => (hkl i n).1) s hs
          have hs1 := hsb s hs
          rw [hs] at hpost hoe
          obtain rfl : e = _ := hpost
          obtain rfl : o = some (s + r.cost) := by rw [hoe.out]; rfl
          clear hs
          go_wp2_with fail
          go_ret2
          exact ⟨_, true, rfl, rfl, hb4⟩

end

/- (*Chooser).find walked: it ends in what the five turns find. -/
section
open Go.RowKit

def bestOf (rs : List Rule) (k : Key) : Best := turns rs k.op k.sm k.kc 5

/-- rules by which covers are found -/
def RulesFlat (rs : List Rule) : Prop := rs.length ≤ 96 ∧ ∀ r ∈ rs, RuleFlat r ∧ ChainOk r ∧ NtOk r

theorem key_info : (Tryd.prog.info? 151).map (·.size) = some 18 := by kernel_rfl
theorem best_info : (Tryd.prog.info? 114).map (·.size) = some 8 := by kernel_rfl

theorem kidsSum_le (ps : List Pat) (kc : Nat → Nat → Int) (Y : Int) (h0 : 0 ≤ Y) (h : FlatOk ps) (hk : ∀ i n, kc i n ≤ Y) : ∀ s, kidsSum ps 0 kc = some s → s ≤ 2 * Y := by
  intro s hs
  match ps, h.1, hs with
  | [], _, hs => simp [kidsSum] at hs; omega
  | [p], _, hs =>
    simp only [kidsSum] at hs
    split at hs
    · cases hs
    · simp at hs; have := hk 0 p.nt.toNat; omega
  | [p, q], _, hs =>
    simp only [kidsSum] at hs
    split at hs
    · cases hs
    · split at hs
      · cases hs
      · simp at hs; have := hk 0 p.nt.toNat; have := hk 1 q.nt.toNat; omega
  | p :: q :: r :: ps, h, _ => simp at h

theorem below_setRow {B : Nat} {w w' : World} (h : Below B w w') {g : Nat} (hg : B ≤ g) (cs : Array Value) : Below B w (w'.setRow g cs) :=
  h.trans ⟨rfl, rfl, rfl, by simp, fun k hk => setRow_other w' g k cs (by omega)⟩

def chN : Bool → Nat
  | true => 1
  | false => 0

set_option maxRecDepth 100000 in
set_option maxHeartbeats 8000000 in
theorem find_any (rs : List Rule) (hrs : RulesFlat rs) (k : Key) (hkl : ∀ i n, -1 ≤ k.kc i n ∧ k.kc i n ≤ 400000000) (gc : Nat) (A : Option Addr) (c : Nat) (w : World)
    (hgc : gc < w.heap.size) (hcr : w.cell? ⟨gc, 0, none⟩ = some (.slice A rs.length c)) (hr : RulesIn w A c rs) :
    Calls Tryd.prog 111 #[.pointer (some ⟨gc, 0, none⟩), .agg (keyCells k)] w fun e w' => e = .returned (.agg (bestCells (bestOf rs k))) ∧ Below w.heap.size w w' := by
  obtain ⟨hl, hall⟩ := hrs
  have hn : ∀ r ∈ rs, NtOk r := fun r hr => (hall r hr).2.2
  have hc : ∀ r ∈ rs, ChainOk r := fun r hr => (hall r hr).2.1
  have hf : ∀ r ∈ rs, RuleFlat r := fun r hr => (hall r hr).1
  have hres : Hid (∀ b, Fix rs k.op k.sm k.kc b → b = bestOf rs k) := Lib.hid (fun b hb => Fix.one hc hb (turns_fix hc hn (fun r hr => (hf r hr).2.2.1) (fun i n => (hkl i n).1)))
  have hcosts : Hid (∀ b : Best, Got rs k.op k.sm k.kc b → CostsOk rs k.op k.sm k.kc b.cost) := Lib.hid (fun b hb => costsOk_of (fun r hr => (hf r hr).2.2.1) (fun i n => (hkl i n).1) hb.low)
  have hlims : Hid (∀ (b : Best) (j : Nat) (hj : j < rs.length) (c : Int), Lim 800000000 b → ruleCost rs[j] k.op k.sm k.kc b.cost = some c → c ≤ 800000000 + lvl rs[j].nt.toNat * 65535) :=
    Lib.hid (fun b j hj c hb h => ruleCost_lim (hn _ (List.getElem_mem hj)) (hc _ (List.getElem_mem hj)) (hf _ (List.getElem_mem hj)).2.2.2 (kidsSum_le _ _ 400000000 (by omega) (hf _ (List.getElem_mem hj)).2.1 (fun i n => (hkl i n).2)) hb h)
  have hfits := fun (b : Best) (j : Nat) (hj : j < rs.length) hbl A c W => fits_any rs[j] (hf _ (List.getElem_mem hj)) k b (fun i n => ⟨(hkl i n).1, by have := (hkl i n).2; omega⟩) hbl A c W
  obtain ⟨n, hnn⟩ : ∃ n, Hid (rs.length = n) := ⟨_, Lib.hid rfl⟩
  have HR := Lib.hid hr
  have HN := Lib.hid hn
  have HC := Lib.hid hc
  obtain ⟨R, hR⟩ : ∃ R, Hid (bestOf rs k = R) := ⟨_, Lib.hid rfl⟩
  obtain ⟨KC, hKC⟩ : ∃ K, Hid (keyCells k = K) := ⟨_, Lib.hid rfl⟩
  have hKs : KC.size = 18 := by rw [← hKC.out]; rfl
  rw [hKC.out] at hfits
  rw [hnn.out] at hl hcr
  rw [hKC.out, hR.out]
  have HFITS := Lib.hid hfits
  clear hr hn hc hf hall hkl hfits
  go_enter Tryd.func111, Tryd.ntmps111
  go_wp2_with fail
  obtain ⟨Z, hZ⟩ : ∃ Z : Array Value, Hid (#[.int .i64 0, .int .i64 0, .int .i64 0, .int .i64 0, .int .i64 0, .int .i64 0, .int .i64 0, .int .i64 0] = Z) := ⟨_, Lib.hid rfl⟩
  rw [hZ.out]
  obtain ⟨w0, hw0⟩ : ∃ w0, w0 = ((w.alloc (.cells KC 151)).alloc (.cells Z 114)).alloc (.cells (bestCells .none) 114) := ⟨_, rfl⟩
  have hb0 : Below w.heap.size w w0 := by rw [hw0]; exact below_box3 _ _ _ _
  have k0 : BlkIs w0 w.heap.size 151 KC := by rw [hw0]; exact ((BlkIs.fresh _ _ _).alloc _).alloc _
  have z0 : BlkIs w0 (w.heap.size + 1) 114 Z := by rw [hw0]; exact (BlkIs.fresh1 _ _ _ _).alloc _
  have b0 : BlkIs w0 (w.heap.size + 1 + 1) 114 (bestCells .none) := by rw [hw0]; exact BlkIs.fresh2 (by simp)
  rw [show ((w.alloc (.cells KC 151)).alloc (.cells Z 114)).alloc (.cells #[.int .i64 (-1), .int .i64 (-1), .int .i64 (-1), .int .i64 (-1), .int .i64 0, .int .i64 0, .int .i64 0, .int .i64 0] 114) = w0 from hw0.symm]
  clear hw0
  go_loopg [6] (2 * mu .none + 1) (fun gg s6 wr => ∃ (b : Best) (ch : Bool), s6 = .bool ch ∧ 2 * mu b + chN ch ≤ gg ∧ Below w.heap.size w wr ∧ BlkIs wr w.heap.size 151 KC ∧ BlkIs wr (w.heap.size + 1) 114 Z ∧ BlkIs wr (w.heap.size + 1 + 1) 114 (bestCells b) ∧ Hid (Got rs k.op k.sm k.kc b) ∧ Hid (Lim 800000000 b) ∧ Hid (ch = false → ∀ j, Sat rs k.op k.sm k.kc b j))
  case atStart => exact ⟨.none, true, rfl, Nat.le_refl _, hb0, k0, z0, b0, Lib.hid got_none, Lib.hid (lim_none (by omega)), Lib.hid (fun h => Bool.noConfusion h)⟩
  case round =>
    obtain ⟨b, ch, rfl, hgg, hb, kx, zx, bx, hgot, hlim, hsat⟩ := hrel
    obtain ⟨wo, rfl⟩ : ∃ wo : World, wo = wr := ⟨_, rfl⟩
    clear hb0 k0 z0 b0
    rcases (by cases ch <;> simp : ch = true ∨ ch = false) with rfl | rfl
    · have hcr2 : wo.cell? ⟨gc, 0, none⟩ = some (.slice A n c) := (hb.cell hgc).trans hcr
      have hgcw : gc < wo.heap.size := Nat.lt_of_lt_of_le hgc hb.size
      go_wp2_with fail
      go_loopw [6, 19] (fun s6 i wr => ∃ (q : Nat) (b2 : Best) (ch : Bool), q ≤ n ∧ i = .int .i64 q ∧ s6 = .bool ch ∧ Below w.heap.size w wr ∧ BlkIs wr w.heap.size 151 KC ∧ BlkIs wr (w.heap.size + 1) 114 Z ∧ BlkIs wr (w.heap.size + 1 + 1) 114 (bestCells b2) ∧ Hid (Got rs k.op k.sm k.kc b2) ∧ Hid (Lim 800000000 b2) ∧ Hid (mu b2 ≤ mu b) ∧ Hid (ch = true → mu b2 < mu b) ∧ Hid (ch = false → ∀ j, j < q → Sat rs k.op k.sm k.kc b2 j)) (fun _ i _ => n - (intOf i).toNat)
      case atStart => exact ⟨0, b, false, by omega, rfl, rfl, hb, kx, zx, bx, hgot, hlim, Lib.hid (Nat.le_refl _), Lib.hid (fun h => Bool.noConfusion h), Lib.hid (fun _ j h => absurd h (by omega))⟩
      case round =>
        obtain ⟨q, b2, ch2, hq, rfl, rfl, hb2, ky, zy, by2, hgot2, hlim2, hmu, hmut, hsat2⟩ := hrel
        obtain ⟨wp, rfl⟩ : ∃ wp : World, wp = wr := ⟨_, rfl⟩
        clear hb kx zx bx hcr2 hgcw hgot hlim hsat
        have hb2z := hb2.size
        by_cases hlt : q < n
        · have hql : q < rs.length := by rw [hnn.out]; exact hlt
          obtain ⟨ok, hrs⟩ := HR.out.below hb2
          obtain ⟨g, off, B, d, rfl, _, hg, ⟨a0, a1, a2, a3, a4, a5⟩, _, hpi⟩ := rules_at hrs q hql
          have hlow : ∀ m, m < 4 → -1 ≤ b2.cost m ∧ b2.cost m ≤ 1000000000 := fun m hm => ⟨hgot2.out.low m, by have := hlim2.out m hm; rcases nt4 hm with rfl | rfl | rfl | rfl <;> simp only [lvl] at this <;> omega⟩
          have hcall := fun W => HFITS.out b2 q hql hlow B d W
          have hnt := HN.out rs[q] (List.getElem_mem hql)
          obtain ⟨r, hre⟩ : ∃ r, Hid (rs[q] = r) := ⟨_, Lib.hid rfl⟩
          rw [hre.out] at a0 a1 a2 a3 a4 a5 hpi hcall hnt
          obtain ⟨hnt0, hnt3⟩ := hnt
          obtain ⟨nt, hnte⟩ : ∃ nt : Nat, r.nt = nt := ⟨r.nt.toNat, by omega⟩
          have hnt4 : nt < 4 := by omega
          have HP : Hid (PatIn wp B d r.pat) := Lib.hid ⟨_, hpi⟩
          have HNT := Lib.hid hnte
          obtain ⟨o, ho⟩ : ∃ o, Hid (ruleCost r k.op k.sm k.kc b2.cost = o) := ⟨_, Lib.hid rfl⟩
          obtain ⟨BC, hBC⟩ : ∃ K, Hid (bestCells b2 = K) := ⟨_, Lib.hid rfl⟩
          have hBs : BC.size = 8 := by rw [← hBC.out]; rfl
          rw [ho.out, hBC.out, hnte] at hcall
          rw [hnte] at a0
          rw [hBC.out] at by2
          clear hrs hpi hnte hnt0 hnt3 hlow
          have hik : (Tryd.prog.info? 151).map (·.size) = some KC.size := by rw [hKs]; exact key_info
          have hib : (Tryd.prog.info? 114).map (·.size) = some BC.size := by rw [hBs]; exact best_info
          go_wp2_with (first | (refine wpList_load_row rfl 151 (.tmp 3) rfl w.heap.size rfl 151 KC (0, 0) _ (BlkIs.alloc ky _) Tryd.underlying151 rfl hik ?_) | (refine wpList_load_row rfl 114 (.tmp 5) rfl (w.heap.size + 1 + 1) rfl 114 BC (0, 0) _ (BlkIs.alloc by2 _) Tryd.underlying114 rfl hib ?_))
          refine (hcall _ (HP.out.below (below_alloc _ _))).mono ?_
          rintro e w3 ⟨cst, okb, rfl, hoe, hb3⟩
          have hlt0 : w.heap.size + 1 + 1 < wp.heap.size := by2.lt
          have hb3A : Below wp.heap.size wp w3 := (below_alloc _ _).trans (hb3.mono (by simp))
          have ky3 := ky.below hb3A ky.lt
          have zy3 := zy.below hb3A zy.lt
          have by3 : BlkIs w3 (w.heap.size + 1 + 1) 114 (bestCells b2) := by rw [hBC.out]; exact by2.below hb3A by2.lt
          have hb4 : Below w.heap.size w w3 := hb2.trans (hb3A.mono hb2z)
          have x0 : w3.cell? ⟨wp.heap.size, 0, none⟩ = some (.int .i64 nt) := cell_later hb3 (by simp)
          have hqN : Hid (rs[q].nt.toNat = nt) := Lib.hid (by rw [hre.out, HNT.out]; rfl)
          have HO := Lib.hid hoe
          clear a0 a1 a2 a3 a4 a5 ky zy by2 hcall hoe hik hib
          cases okb
          · have hno : Hid (ruleCost r k.op k.sm k.kc b2.cost = none) := Lib.hid (by rw [ho.out, HO.out]; rfl)
            go_wp2_with fail
            go_roundw
            case rel =>
              refine ⟨q + 1, b2, ch2, by omega, by go_num, rfl, hb4, ky3, zy3, by3, hgot2, hlim2, hmu, hmut, Lib.hid (fun h j hj => ?_)⟩
              by_cases e : j = q
              · subst e
                intro hjl c' hc'
                rw [hre.out, hno.out] at hc'
                cases hc'
              · exact hsat2.out h j (by omega)
            case measure => simp [intOf]; omega
          · have hso : Hid (ruleCost r k.op k.sm k.kc b2.cost = some cst) := Lib.hid (by rw [ho.out, HO.out]; rfl)
            have hcs0 := hcosts.out b2 hgot2.out q hql cst (by rw [hre.out]; exact hso.out)
            have hcs1 := hlims.out b2 q hql cst hlim2.out (by rw [hre.out]; exact hso.out)
            rw [hqN.out] at hcs1
            have hcs2 : cst ≤ 1000000000 := by rcases nt4 hnt4 with rfl | rfl | rfl | rfl <;> simp only [lvl] at hcs1 <;> omega
            have HCS1 := Lib.hid hcs1
            have hbt := better_any (w.heap.size + 1 + 1) b2 nt hnt4 cst q w3 by3
            clear hcs1
            go_wp2_with fail
            refine hbt.mono ?_
            rintro e w4 ⟨tb, rfl, hb5, hfal, htru⟩
            have HFAL := Lib.hid hfal
            have HTRU := Lib.hid htru
            clear hfal htru hbt
            cases tb
            · obtain ⟨rfl, hs1, hs2⟩ := HFAL.out rfl
              have HS : Hid (Sat rs k.op k.sm k.kc b2 q) := Lib.hid (fun hjl c' hc' => by
                rw [hre.out, hso.out] at hc'
                injection hc' with hc'
                rw [hqN.out, ← hc']
                exact ⟨hs1, hs2⟩)
              clear hs1 hs2
              go_wp2_with fail
              go_roundw
              case rel =>
                refine ⟨q + 1, b2, ch2, by omega, by go_num, rfl, hb4, ky3, zy3, by3, hgot2, hlim2, hmu, hmut, Lib.hid (fun h j hj => ?_)⟩
                by_cases e : j = q
                · subst e; exact HS.out
                · exact hsat2.out h j (by omega)
              case measure => simp [intOf]; omega
            · obtain ⟨hbn, hbetter⟩ := HTRU.out rfl
              have ky4 := ky3.below hb5 (by omega)
              have zy4 := zy3.below hb5 (by omega)
              have hb6 : Below w.heap.size w w4 := hb4.trans (hb5.mono (by omega))
              have hg3 : Hid (Got rs k.op k.sm k.kc (b2.set nt cst q)) := Lib.hid (by
                have := got_set HN.out HC.out hgot2.out q hql cst hcs0 (by rw [hre.out]; exact hso.out) (by rw [hqN.out]; omega)
                rwa [hqN.out] at this)
              have hl3 : Hid (Lim 800000000 (b2.set nt cst q)) := Lib.hid (lim_set hnt4 hlim2.out HCS1.out)
              have hru : 0 ≤ b2.rule nt := by
                rcases hgot2.out nt hnt4 with ⟨_, h2⟩ | ⟨_, i, _, h2, _⟩ <;> omega
              have hm3 : Hid (mu (b2.set nt cst q) < mu b2) := Lib.hid (mu_less hnt4 hbetter hcs0 hcs2 (by omega) (by omega) hru)
              clear hbetter hru
              go_wp2_with fail
              go_roundw
              case rel =>
                exact ⟨q + 1, b2.set nt cst q, true, by omega, by go_num, rfl, hb6, ky4, zy4, hbn, hg3, hl3, Lib.hid (by have := hm3.out; have := hmu.out; omega), Lib.hid (fun _ => by have := hm3.out; have := hmu.out; omega), Lib.hid (fun h => Bool.noConfusion h)⟩
              case measure => simp [intOf]; omega
        · obtain rfl : q = n := by omega
          go_wp2_with fail
          go_roundg (2 * mu b2 + chN ch2)
          case measure =>
            have h1 := hmu.out
            have h2 := hmut.out
            cases ch2
            · simp only [chN] at hgg ⊢; omega
            · have := h2 rfl; simp only [chN] at hgg ⊢; omega
          case rel =>
            exact ⟨b2, ch2, rfl, Nat.le_refl _, hb2, ky, zy, by2, hgot2, hlim2, Lib.hid (fun h j => by
              by_cases hj : j < q
              · exact hsat2.out h j hj
              · intro hjl; exact absurd hjl (by rw [hnn.out]; exact hj))⟩
    · have hbR : Hid (b = bestOf rs k) := Lib.hid (hres.out b (fix_of HN.out hgot.out (hsat.out rfl)))
      obtain ⟨BC, hBC⟩ : ∃ K, Hid (bestCells b = K) := ⟨_, Lib.hid rfl⟩
      have hBs : BC.size = 8 := by rw [← hBC.out]; rfl
      have hB1 : BC.all (·.oneCell') = true := by rw [← hBC.out]; simp [bestCells, Value.oneCell']
      have hZs : Z.size = BC.size := by rw [hBs, ← hZ.out]; rfl
      have hRB : Hid (bestCells R = BC) := Lib.hid (by rw [← hR.out, ← hbR.out]; exact hBC.out)
      have hib : (Tryd.prog.info? 114).map (·.size) = some BC.size := by rw [hBs]; exact best_info
      rw [hBC.out] at bx
      go_wp2_with (first | (refine wpList_load_row rfl 114 (.tmp 5) rfl (w.heap.size + 1 + 1) rfl 114 BC (0, 0) _ bx Tryd.underlying114 rfl hib ?_) | (refine wpList_store_row rfl 114 (.tmp 4) (.tmp 40) rfl (w.heap.size + 1) BC rfl rfl 114 Z zx hib hZs hB1 ?_))
      refine bodyPost_ret (v := .agg BC) (results_cell_row Tryd.results111 _ _ (w.heap.size + 1) 114 BC (0, 0) _ rfl (setRow_heap _ _ _ _ _ _ zx) Tryd.underlying114 rfl hib) rfl ?_
      exact ⟨by rw [hRB.out], below_setRow hb (by omega) _⟩

end

/- The memory of bests: a map by keys. -/
section
open Go.RowKit Go.ChangeMaps

def BestWf (b : Best) : Prop := (I64 b.c0 ∧ I64 b.c1 ∧ I64 b.c2 ∧ I64 b.c3) ∧ I64 b.r0 ∧ I64 b.r1 ∧ I64 b.r2 ∧ I64 b.r3
def KeyWf (k : Key) : Prop := I64 k.op ∧ BestWf k.k0 ∧ BestWf k.k1

theorem laidOut2 : laidOutB Tryd.prog = true := by kernel_rfl
theorem keyed : Go.Maps.Keyed Tryd.prog 151 := Go.Maps.Keyed.of_law (deep_law_gate laidOut2 (of_decide_eq_true (by kernel_rfl)) (of_decide_eq_true (by kernel_rfl)) (by kernel_rfl) (by kernel_rfl))

theorem keyCells_inj {a b : Key} (h : keyCells a = keyCells b) : a = b := by
  obtain ⟨o, s, ⟨a0, a1, a2, a3, a4, a5, a6, a7⟩, ⟨b0, b1, b2, b3, b4, b5, b6, b7⟩⟩ := a
  obtain ⟨o', s', ⟨a0', a1', a2', a3', a4', a5', a6', a7'⟩, ⟨b0', b1', b2', b3', b4', b5', b6', b7'⟩⟩ := b
  unfold keyCells at h
  have h2 := congrArg Array.toList h
  simp only [List.cons.injEq, Value.int.injEq, Value.bool.injEq, true_and, and_true] at h2
  obtain ⟨rfl, rfl, rfl, rfl, rfl, rfl, rfl, rfl, rfl, rfl, rfl, rfl, rfl, rfl, rfl, rfl, rfl, rfl⟩ := h2
  rfl

theorem kl_array {P : Program} {d n : Nat} {t e : TypeId} {cs : List Value} (hu : P.underlying t = some (.array n e)) :
    P.keyLits (d + 1) t cs = if cs.length = P.cellsOf t then ((List.range n).mapM fun i => P.keyLits d e ((cs.drop (i * P.cellsOf e)).take (P.cellsOf e))).map List.flatten else none := by
  rw [Program.keyLits.eq_def]
  simp only [hu]
theorem kl_struct {P : Program} {d : Nat} {t : TypeId} {fs : Array Field} {cs : List Value} (hu : P.underlying t = some (.struct fs)) :
    P.keyLits (d + 1) t cs = if cs.length = P.cellsOf t ∧ fs.all (·.name != "_") = true then (fs.toList.mapM fun f => P.keyLits d f.type ((cs.drop f.offset).take (P.cellsOf f.type))).map List.flatten else none := by
  rw [Program.keyLits.eq_def]
  simp only [hu]

section
variable {d : Nat}
theorem kl_int {n : Int} (h : (Lit.int .i64 n).wf = true) : Tryd.prog.keyLits (d + 1) 3 [.int .i64 n] = some [.int .i64 n] := by
  simp [Program.keyLits, Tryd.underlying3, h]
theorem kl_bool {b : Bool} : Tryd.prog.keyLits (d + 1) 4 [.bool b] = some [.bool b] := by
  simp [Program.keyLits, Tryd.underlying4]
theorem kl_arr4 {a b c e : Int} (h1 : (Lit.int .i64 a).wf = true) (h2 : (Lit.int .i64 b).wf = true) (h3 : (Lit.int .i64 c).wf = true) (h4 : (Lit.int .i64 e).wf = true) :
    Tryd.prog.keyLits (d + 2) 70 [.int .i64 a, .int .i64 b, .int .i64 c, .int .i64 e] = some [.int .i64 a, .int .i64 b, .int .i64 c, .int .i64 e] := by
  have c70 : Tryd.prog.cellsOf 70 = 4 := by kernel_rfl
  have c3 : Tryd.prog.cellsOf 3 = 1 := by kernel_rfl
  rw [kl_array Tryd.underlying70]
  simp only [c70, c3]
  simp [List.range_succ, kl_int h1, kl_int h2, kl_int h3, kl_int h4]
theorem kl_best {b : Best} (h : BestWf b) : Tryd.prog.keyLits (d + 3) 114 (bestCells b).toList = some [.int .i64 b.c0, .int .i64 b.c1, .int .i64 b.c2, .int .i64 b.c3, .int .i64 b.r0, .int .i64 b.r1, .int .i64 b.r2, .int .i64 b.r3] := by
  obtain ⟨⟨h1, h2, h3, h4⟩, h5, h6, h7, h8⟩ := h
  have c70 : Tryd.prog.cellsOf 70 = 4 := by kernel_rfl
  have c114 : Tryd.prog.cellsOf 114 = 8 := by kernel_rfl
  rw [kl_struct Tryd.underlying114]
  simp only [c114]
  simp [bestCells, c70, kl_arr4 (d := d) h1 h2 h3 h4, kl_arr4 (d := d) h5 h6 h7 h8]
theorem kl_kids {a b : Best} (h1 : BestWf a) (h2 : BestWf b) : ∃ l, Tryd.prog.keyLits (d + 4) 149 ((bestCells a).toList ++ (bestCells b).toList) = some l := by
  have c114 : Tryd.prog.cellsOf 114 = 8 := by kernel_rfl
  have c149 : Tryd.prog.cellsOf 149 = 16 := by kernel_rfl
  rw [kl_array Tryd.underlying149]
  simp only [c114, c149]
  have e1 : List.take 8 ((bestCells a).toList ++ (bestCells b).toList) = (bestCells a).toList := rfl
  have e2 : List.take 8 (List.drop 8 ((bestCells a).toList ++ (bestCells b).toList)) = (bestCells b).toList := rfl
  have e3 : ((bestCells a).toList ++ (bestCells b).toList).length = 16 := rfl
  rw [if_pos e3]
  simp only [List.range_succ, List.range_zero, List.nil_append, List.cons_append, List.mapM_cons, List.mapM_nil, Nat.zero_mul, List.drop_zero, Nat.one_mul]
  rw [e1, e2, kl_best h1, kl_best h2]
  exact ⟨_, rfl⟩
end

set_option maxRecDepth 100000 in
theorem key_lit (k : Key) (h : KeyWf k) : ∃ l, keyOf Tryd.prog 151 (.agg (keyCells k)) = some l := by
  obtain ⟨h0, h1, h2⟩ := h
  have hk : Tryd.prog.keyType 151 = true := by kernel_rfl
  have hf : (Value.agg (keyCells k)).formed Tryd.prog 151 = true := by kernel_rfl
  obtain ⟨n, hn⟩ : ∃ n, Tryd.prog.types.size + 1 = n + 5 := ⟨Tryd.prog.types.size - 4, by have : 5 ≤ Tryd.prog.types.size := of_decide_eq_true (by kernel_rfl); omega⟩
  obtain ⟨l, hl⟩ := kl_kids (d := n) h1 h2
  have hl' : Tryd.prog.keyLits (n + 4) 149 (((Value.agg (keyCells k)).cells.toList.drop 2).take 16) = some l := hl
  have c1 : Tryd.prog.cellsOf 149 = 16 := by kernel_rfl
  have c2 : Tryd.prog.cellsOf 151 = 18 := by kernel_rfl
  have c3 : Tryd.prog.cellsOf 3 = 1 := by kernel_rfl
  have c4 : Tryd.prog.cellsOf 4 = 1 := by kernel_rfl
  have e1 : Tryd.prog.keyLits (n + 4) 3 (((Value.agg (keyCells k)).cells.toList.drop 0).take 1) = some [.int .i64 k.op] := kl_int (d := n + 3) h0
  have e2 : Tryd.prog.keyLits (n + 4) 4 (((Value.agg (keyCells k)).cells.toList.drop 1).take 1) = some [.bool k.sm] := kl_bool (d := n + 3)
  have e3 : (Value.agg (keyCells k)).cells.toList.length = 18 := rfl
  unfold keyOf
  rw [Tryd.underlying151]
  simp only
  rw [hk, hf, hn, kl_struct Tryd.underlying151]
  simp only [c2, Bool.and_self, if_true]
  rw [if_pos ⟨e3, by kernel_rfl⟩]
  simp only [List.mapM_cons, List.mapM_nil, c1, c3, c4, e1, e2, hl']
  exact ⟨_, rfl⟩

/-- the map holds, of each key that it has, that key's best -/
def Memo (rs : List Rule) (w : World) (gm : Nat) : Prop :=
  ∃ (es : Array MapEntry) (clock : Nat), w.heap[gm]? = some (.map es clock) ∧ ∀ e ∈ es.toList, ∃ k : Key, KeyWf k ∧ e.key = .agg (keyCells k) ∧ e.val = .agg (bestCells (bestOf rs k))

theorem Memo.keep {rs : List Rule} {w w' : World} {gm : Nat} (h : Memo rs w gm) (hk : w'.heap[gm]? = w.heap[gm]?) : Memo rs w' gm := by
  obtain ⟨es, clock, h1, h2⟩ := h
  exact ⟨es, clock, hk.trans h1, h2⟩
theorem Memo.lt {rs : List Rule} {w : World} {gm : Nat} (h : Memo rs w gm) : gm < w.heap.size := by
  obtain ⟨es, clock, h1, _⟩ := h
  exact lt_of_block h1
theorem Memo.fresh (rs : List Rule) (w : World) : Memo rs (w.alloc (.map #[] 0)) w.heap.size := ⟨#[], 0, heap_alloc_new w _, by simp⟩

theorem zeroBest (w : World) : (zeroValue 114).run Tryd.prog w = .ok (.agg #[.int .i64 0, .int .i64 0, .int .i64 0, .int .i64 0, .int .i64 0, .int .i64 0, .int .i64 0, .int .i64 0]) w := by kernel_rfl

theorem memo_keys {rs : List Rule} {es : Array MapEntry} (h : ∀ e ∈ es.toList, ∃ k : Key, KeyWf k ∧ e.key = .agg (keyCells k) ∧ e.val = .agg (bestCells (bestOf rs k))) : ∀ e ∈ es.toList, ∃ l, keyOf Tryd.prog 151 e.key = some l := by
  intro e he
  obtain ⟨k, hk, h1, _⟩ := h e he
  rw [h1]; exact key_lit k hk

theorem memo_look {rs : List Rule} {w : World} {gm : Nat} (h : Memo rs w gm) (k : Key) (hk : KeyWf k) :
    ∃ (v : Array Value) (f : Bool), (Instr.lookup 145 (.map (some gm)) (.agg (keyCells k)) true).run Tryd.prog w = .ok (.tuple #[.agg v, .bool f]) w ∧ v.size = 8 ∧ v.all (·.oneCell') = true ∧ (f = true → v = bestCells (bestOf rs k)) := by
  obtain ⟨es, clock, h1, h2⟩ := h
  obtain ⟨l, hl⟩ := key_lit k hk
  rcases keyed.find w hl es.toList (memo_keys h2) with ⟨g1, g2⟩ | ⟨j, e0, g1, g2, g3⟩
  · exact ⟨#[.int .i64 0, .int .i64 0, .int .i64 0, .int .i64 0, .int .i64 0, .int .i64 0, .int .i64 0, .int .i64 0], false, by simp [Instr.lookup, run_underlying Tryd.underlying145, MapKept.run_getObj_map h1, keyed.check w _ hl, g1, Result.andThen], rfl, by simp [Value.oneCell'], fun h => Bool.noConfusion h⟩
  · obtain ⟨k', _, e1, e2⟩ := h2 e0 (List.mem_of_getElem? g2)
    rw [e1] at g3
    injection g3 with g3
    have := keyCells_inj g3
    subst this
    refine ⟨bestCells (bestOf rs k'), true, ?_, rfl, by simp [bestCells, Value.oneCell'], fun _ => rfl⟩
    rw [e2] at g1
    simp [Instr.lookup, run_underlying Tryd.underlying145, MapKept.run_getObj_map h1, keyed.check w _ hl, g1, Result.andThen]

theorem memo_put {rs : List Rule} {w : World} {gm : Nat} (h : Memo rs w gm) (k : Key) (hk : KeyWf k) :
    ∃ w', (Instr.mapUpdate 145 (.map (some gm)) (.agg (keyCells k)) (.agg (bestCells (bestOf rs k)))).run Tryd.prog w = .ok () w' ∧ Memo rs w' gm ∧ Below gm w w' ∧ (∀ g, g ≠ gm → w'.heap[g]? = w.heap[g]?) ∧ w'.heap.size = w.heap.size := by
  obtain ⟨es, clock, h1, h2⟩ := h
  obtain ⟨l, hl⟩ := key_lit k hk
  have fin : ∀ es' clock', (∀ e ∈ (es' : Array MapEntry).toList, ∃ k : Key, KeyWf k ∧ e.key = .agg (keyCells k) ∧ e.val = .agg (bestCells (bestOf rs k))) →
      Memo rs (setBlock w gm (.map es' clock')) gm ∧ Below gm w (setBlock w gm (.map es' clock')) ∧ (∀ g, g ≠ gm → (setBlock w gm (.map es' clock')).heap[g]? = w.heap[g]?) ∧ (setBlock w gm (.map es' clock')).heap.size = w.heap.size := by
    intro es' clock' hall
    refine ⟨⟨es', clock', heap_setBlock_same h1 _, hall⟩, ⟨rfl, rfl, rfl, by simp [setBlock], fun g hg => heap_setBlock_other h1 _ (by omega)⟩, fun g hg => heap_setBlock_other h1 _ hg, by simp [setBlock]⟩
  rcases keyed.find w hl es.toList (memo_keys h2) with ⟨g1, g2⟩ | ⟨j, e0, g1, g2, g3⟩
  · refine ⟨_, by simp [Instr.mapUpdate, run_underlying Tryd.underlying145, MapKept.run_getObj_map h1, keyed.check w false hl, g1, MapKept.run_setObj_map _ h1, Result.andThen]; rfl, fin (es.push ⟨.agg (keyCells k), .agg (bestCells (bestOf rs k)), clock⟩) (clock + 1) ?_⟩
    intro e he
    simp only [Array.toList_push, List.mem_append, List.mem_singleton] at he
    rcases he with he | rfl
    · exact h2 e he
    · exact ⟨k, hk, rfl, rfl⟩
  · have hj2 : es[j]? = some e0 := by simpa using g2
    refine ⟨_, by simp [Instr.mapUpdate, run_underlying Tryd.underlying145, MapKept.run_getObj_map h1, keyed.check w false hl, g1, hj2, g3, keyed.stays w hl, MapKept.run_setObj_map _ h1, Result.andThen]; rfl, fin (es.modify j (fun e' => { e' with key := .agg (keyCells k), val := .agg (bestCells (bestOf rs k)) })) clock ?_⟩
    intro e he
    rcases MapFrom.mem_modify he with he | ⟨e', _, rfl⟩
    · exact h2 e he
    · exact ⟨k, hk, rfl, rfl⟩

end

/- A tree's best: what it is, and how much it may be. -/
section
def zeroB : Best := ⟨0, 0, 0, 0, 0, 0, 0, 0⟩
def nodeKey (t : Pat) (bs : List Best) : Key := ⟨t.op, smallT t.op t.nt, bs.getD 0 zeroB, bs.getD 1 zeroB⟩

mutual
/-- a tree's best -/
def labB (rs : List Rule) : Pat → Best
  | .mk op nt ks => bestOf rs (nodeKey (.mk op nt ks) (labBs rs ks))
def labBs (rs : List Rule) : List Pat → List Best
  | [] => []
  | p :: ps => labB rs p :: labBs rs ps
end
theorem labB_eq (rs : List Rule) (t : Pat) : labB rs t = bestOf rs (nodeKey t (labBs rs t.kids)) := by cases t; unfold labB; rfl
theorem labBs_map (rs : List Rule) : ∀ ps : List Pat, labBs rs ps = ps.map (labB rs)
  | [] => by unfold labBs; rfl
  | p :: ps => by unfold labBs; rw [labBs_map rs ps]; rfl

theorem lim_turns {rs : List Rule} {op : Int} {sm : Bool} {kc : Nat → Nat → Int} {X : Int} (hX : 0 ≤ X) (hrs : RulesFlat rs) (hlow : ∀ i n, -1 ≤ kc i n) (hk : ∀ r ∈ rs, ∀ s, kidsSum r.pat.kids 0 kc = some s → s ≤ X) : ∀ k, Lim X (turns rs op sm kc k)
  | 0 => by unfold turns; exact lim_none hX
  | k + 1 => by
    have hn : ∀ r ∈ rs, NtOk r := fun r hr => (hrs.2 r hr).2.2
    have hr : ∀ r ∈ rs, 0 ≤ r.cost := fun r hr => (hrs.2 r hr).1.2.2.1
    have ih := lim_turns (op := op) (sm := sm) hX hrs hlow hk k
    intro nt hnt
    rcases turns_min (op := op) (sm := sm) hn hr hlow k nt hnt with ⟨h1, _, _⟩ | ⟨i, hi, _, h2, h3, _⟩
    · rw [h1]; rcases nt4 hnt with rfl | rfl | rfl | rfl <;> simp only [lvl] <;> omega
    · have hri := hrs.2 _ (List.getElem_mem hi)
      have := ruleCost_lim (X := X) hri.2.2 hri.2.1 hri.1.2.2.2 (hk _ (List.getElem_mem hi)) ih h3
      rw [show rs[i].nt.toNat = nt by omega] at this
      exact this

theorem kidsSum_two (ps : List Pat) (kc : Nat → Nat → Int) (Y0 Y1 : Int) (h0 : 0 ≤ Y0) (h1 : 0 ≤ Y1) (h : FlatOk ps) (hk0 : ∀ n, kc 0 n ≤ Y0) (hk1 : ∀ n, kc 1 n ≤ Y1) : ∀ s, kidsSum ps 0 kc = some s → s ≤ Y0 + Y1 := by
  intro s hs
  match ps, h.1, hs with
  | [], _, hs => simp [kidsSum] at hs; omega
  | [p], _, hs =>
    simp only [kidsSum] at hs
    split at hs
    · cases hs
    · simp at hs; have := hk0 p.nt.toNat; omega
  | [p, q], _, hs =>
    simp only [kidsSum] at hs
    split at hs
    · cases hs
    · split at hs
      · cases hs
      · simp at hs; have := hk0 p.nt.toNat; have := hk1 q.nt.toNat; omega
  | p :: q :: r :: ps, h, _ => simp at h

/-- a best of a tree of so many nodes -/
def BestIn (_rs : List Rule) (N : Nat) (b : Best) : Prop := (∀ n, -1 ≤ b.cost n ∧ b.cost n ≤ 262140 * (N : Int)) ∧ ∀ n, n < 4 → 0 ≤ b.rule n ∧ b.rule n ≤ 96

theorem cost_all {b : Best} {Y : Int} (h : ∀ n, n < 4 → b.cost n ≤ Y) : ∀ n, b.cost n ≤ Y := by
  intro n
  match n with
  | 0 => exact h 0 (by omega)
  | 1 => exact h 1 (by omega)
  | 2 => exact h 2 (by omega)
  | n + 3 => exact h 3 (by omega)

theorem bestIn_node {rs : List Rule} (hrs : RulesFlat rs) (k : Key) (N0 N1 : Nat) (h0 : BestIn rs N0 k.k0) (h1 : BestIn rs N1 k.k1) : BestIn rs (N0 + N1 + 1) (bestOf rs k) := by
  have hlow : ∀ i n, -1 ≤ k.kc i n := fun i n => by
    match i with
    | 0 => exact (h0.1 n).1
    | i + 1 => exact (h1.1 n).1
  have hn : ∀ r ∈ rs, NtOk r := fun r hr => (hrs.2 r hr).2.2
  have hr : ∀ r ∈ rs, 0 ≤ r.cost := fun r hr => (hrs.2 r hr).1.2.2.1
  have hlim := lim_turns (op := k.op) (sm := k.sm) (X := 262140 * (N0 : Int) + 262140 * (N1 : Int)) (by omega) hrs hlow (fun r hrm => kidsSum_two _ _ _ _ (by omega) (by omega) (hrs.2 r hrm).1.2.1 (fun n => (h0.1 n).2) (fun n => (h1.1 n).2)) 5
  refine ⟨fun n => ⟨turns_low (op := k.op) (sm := k.sm) hn hr hlow 5 n, cost_all (fun n hn => ?_) n⟩, fun n hnt => ?_⟩
  · have := hlim n hn
    unfold bestOf
    rcases nt4 hn with rfl | rfl | rfl | rfl <;> simp only [lvl] at this <;> omega
  · rcases turns_min (op := k.op) (sm := k.sm) hn hr hlow 4 n hnt with ⟨_, h2, _⟩ | ⟨i, hi, h2, _, _, _⟩
    · unfold bestOf; rw [h2]; omega
    · unfold bestOf; rw [h2]; have := hrs.1; omega

theorem zeroB_in (rs : List Rule) : BestIn rs 0 zeroB := by
  refine ⟨fun n => ?_, fun n _ => ?_⟩
  · unfold zeroB Best.cost; split <;> simp
  · unfold zeroB Best.rule; split <;> simp

theorem kids_two {t : Pat} (h : treeOk t = true) : t.kids.length ≤ 2 := by
  rw [treeOk_eq, Bool.and_eq_true] at h
  have h1 := h.1
  unfold topOk at h1
  simp only [Bool.and_eq_true, decide_eq_true_eq] at h1
  have h2 := h1.2.1
  unfold arityOf at h2
  split at h2
  · omega
  · split at h2 <;> omega

theorem labB_in {rs : List Rule} (hrs : RulesFlat rs) : ∀ t : Pat, treeOk t = true → BestIn rs (patN t) (labB rs t)
  | .mk op nt ks, h => by
    have hk := kids_two h
    rw [treeOk_eq, Bool.and_eq_true] at h
    have hks := (treesOk_iff _).1 h.2
    rw [labB_eq, patN_eq]
    simp only [Pat.kids] at hk hks ⊢
    match ks, hk, hks with
    | [], _, _ =>
      have := bestIn_node hrs (nodeKey (.mk op nt []) (labBs rs [])) 0 0 (zeroB_in rs) (zeroB_in rs)
      simpa [patsN] using this
    | [p], _, hks =>
      have := bestIn_node hrs (nodeKey (.mk op nt [p]) (labBs rs [p])) (patN p) 0 (labB_in hrs p (hks 0 (by simp))) (zeroB_in rs)
      simpa [patsN, Nat.add_comm] using this
    | [p, q], _, hks =>
      have := bestIn_node hrs (nodeKey (.mk op nt [p, q]) (labBs rs [p, q])) (patN p) (patN q) (labB_in hrs p (hks 0 (by simp))) (labB_in hrs q (hks 1 (by simp)))
      simpa [patsN, Nat.add_comm] using this
    | p :: q :: r :: ks, hk, _ => simp at hk

theorem i64_of {n : Int} (h1 : -1 ≤ n) (h2 : n ≤ 1000000000) : I64 n := by
  unfold I64; exact WalkArith.wf_i64 (by omega)

theorem bestWf_of {rs : List Rule} {N : Nat} (hN : N ≤ 200) {b : Best} (h : BestIn rs N b) : BestWf b := by
  have hc : ∀ n, n < 4 → I64 (b.cost n) := fun n _ => i64_of (h.1 n).1 (by have := (h.1 n).2; omega)
  have hr : ∀ n, n < 4 → I64 (b.rule n) := fun n hn => i64_of (by have := (h.2 n hn).1; omega) (by have := (h.2 n hn).2; omega)
  exact ⟨⟨hc 0 (by omega), hc 1 (by omega), hc 2 (by omega), hc 3 (by omega)⟩, hr 0 (by omega), hr 1 (by omega), hr 2 (by omega), hr 3 (by omega)⟩

end

/- What stays while the memory of bests is written: all but its block. -/
section
open Go.RowKit

/-- all that was there is as it was, but for block gm -/
structure KeepM (gm : Nat) (w w' : World) : Prop where
  os : w'.os = w.os
  tape : w'.tape = w.tape
  output : w'.output = w.output
  size : w.heap.size ≤ w'.heap.size
  block : ∀ g, g ≠ gm → g < w.heap.size → w'.heap[g]? = w.heap[g]?

section
variable {gm : Nat} {w w' w2 : World}
theorem KeepM.refl (gm : Nat) (w : World) : KeepM gm w w := ⟨rfl, rfl, rfl, Nat.le_refl _, fun _ _ _ => rfl⟩
theorem KeepM.trans (h : KeepM gm w w') (k : KeepM gm w' w2) : KeepM gm w w2 :=
  ⟨k.os.trans h.os, k.tape.trans h.tape, k.output.trans h.output, Nat.le_trans h.size k.size, fun g hg hl => (k.block g hg (Nat.lt_of_lt_of_le hl h.size)).trans (h.block g hg hl)⟩
theorem KeepM.of (h : Below w.heap.size w w') : KeepM gm w w' := ⟨h.os, h.tape, h.output, h.size, fun g _ hl => h.block g hl⟩
theorem KeepM.alloc (h : KeepM gm w w') (o : Obj) : KeepM gm w (w'.alloc o) := h.trans (KeepM.of (below_alloc _ _))
theorem KeepM.drew (h : KeepM gm w w') : KeepM gm w w'.drew := ⟨h.os, h.tape, h.output, h.size, h.block⟩
theorem KeepM.drewN (h : KeepM gm w w') (n : Nat) : KeepM gm w (w'.drewN n) := ⟨h.os, h.tape, h.output, h.size, h.block⟩
theorem KeepM.setCell (h : KeepM gm w w') {p : Addr} (hp : w.heap.size ≤ p.block) (u : Value) : KeepM gm w (w'.setCell p u) :=
  ⟨h.os, h.tape, h.output, by simp [World.setCell]; exact h.size, fun g hg hl => (heap_setCell_other _ _ _ _ (by omega)).trans (h.block g hg hl)⟩
theorem KeepM.setRow (h : KeepM gm w w') {g : Nat} (hp : w.heap.size ≤ g) (cs : Array Value) : KeepM gm w (w'.setRow g cs) :=
  ⟨h.os, h.tape, h.output, by simp; exact h.size, fun k hk hl => (setRow_other w' g k cs (by omega)).trans (h.block k hk hl)⟩
theorem KeepM.below (h : KeepM gm w w') (hm : gm ≤ w.heap.size) : Below gm w w' := ⟨h.os, h.tape, h.output, h.size, fun g hg => h.block g (by omega) (by omega)⟩
theorem BlkIs.keepM {g : Nat} {t : TypeId} {cs : Array Value} (h : BlkIs w g t cs) (hk : KeepM gm w w') (hg : g ≠ gm) : BlkIs w' g t cs := (hk.block g hg h.lt).trans h
theorem Rep.keepM {ok : Nat → Prop} {d : D} {cs : List Value} (h : Rep w ok d cs) (hk : KeepM gm w w') (hok : ∀ g, ok g → g ≠ gm) : Rep w' ok d cs := Rep.keep (fun _ h _ => h) (fun g hg hl => hk.block g (hok g hg) hl) d cs h
theorem cell_keepM {p : Addr} {v : Value} (h : w.cell? p = some v) (hk : KeepM gm w w') (hp : p.block ≠ gm) : w'.cell? p = some v := by
  have hl := World.block_lt_of_cell? _ _ h
  rw [← h]
  exact World.cell?_of_block (w := w) (hk.block _ hp hl)
theorem Memo.blk {rs : List Rule} {g : Nat} {t : TypeId} {cs : Array Value} (h : Memo rs w gm) (hb : BlkIs w g t cs) : g ≠ gm := by
  obtain ⟨es, clock, h1, _⟩ := h
  intro e
  subst e
  unfold BlkIs at hb
  rw [h1] at hb
  injection hb with hb
  cases hb
end

end

/- Any order of a region's operations, with a condition on memory that holds till the last operation, which waits for all others, has come up. -/
section
open Go.RowKit

section
variable {P : Program} {ops : Array Oper} {Q : Exit → Act → World → Prop} {md : Region.Mode} {S : World → Prop} {last : Nat}

/-- whichever order is picked: S holds behind each operation but the last one -/
def AnyJ (P : Program) (md : Region.Mode) (ops : Array Oper) (Q : Exit → Act → World → Prop) (S : World → Prop) (last : Nat) : Nat → Array Bool → Act → World → Prop
  | 0, listed, a, w => Region.ready md ops listed = [] ∧ Q .normal a w
  | fuel + 1, listed, a, w =>
    (Region.ready md ops listed = [] → Q .normal a w) ∧
    ∀ i ∈ Region.ready md ops listed, wpOp P ops Q i (fun a' w' => (i ≠ last → S w') ∧ AnyJ P md ops Q S last fuel (listed.setIfInBounds i true) a' w') a w

theorem anyJ_any : ∀ (fuel : Nat) (listed : Array Bool) (a : Act) (w : World), AnyJ P md ops Q S last fuel listed a w → wpAny P md ops Q fuel listed a w
  | 0, _, _, _, h => h
  | fuel + 1, _, _, _, h => ⟨h.1, fun i hi => wpOp_mono (fun a' w' h' => anyJ_any fuel _ a' w' h'.2) (h.2 i hi)⟩

/-- the last operation waits for all others -/
def Waits (md : Region.Mode) (ops : Array Oper) (last : Nat) : Bool := (List.range ops.size).all fun i => i == last || (match ops[last]? with | some o => o.after.any fun e => Region.binds md e && e.on == i | none => false)

theorem waits_spec (h : Waits md ops last = true) {i : Nat} (hi : i < ops.size) (hne : i ≠ last) : ∃ o, ops[last]? = some o ∧ ∃ e ∈ o.after, Region.binds md e = true ∧ e.on = i := by
  unfold Waits at h
  have h1 := List.all_eq_true.1 h i (by simpa using hi)
  rw [Bool.or_eq_true] at h1
  rcases h1 with h1 | h1
  · exact absurd (by simpa using h1) hne
  · cases ho : ops[last]? with
    | none => rw [ho] at h1; cases h1
    | some o =>
      rw [ho] at h1
      obtain ⟨j, hj, h2⟩ := Array.any_eq_true.1 h1
      rw [Bool.and_eq_true] at h2
      exact ⟨o, rfl, o.after[j], Array.getElem_mem hj, h2.1, by simpa using h2.2⟩

theorem anyJ_first (hw : Waits md ops last = true) {i : Nat} {oi : Oper} {v : Value} (hi : ops[i]? = some oi) (hne : i ≠ last) (hsel : ∀ (j : Nat) (o : Oper) cs b, ops[j]? = some o → o.op ≠ .select cs b)
    (hQ : ∀ c a w, Q (.panic c) (a.put oi.dst v) w → Q (.panic c) a w) :
    ∀ (fuel : Nat) (listed : Array Bool) (a : Act) (w : World),
      (∀ j oj, ops[j]? = some oj → j ≠ i → listed.getD j true = false → (∀ e ∈ oj.after, Region.binds md e = true → e.on ≠ i) → oi.apart ops oj = true) →
      i ∈ Region.ready md ops listed → YieldsIf P ops S oi v a → S w →
      AnyJ P md ops Q S last fuel (listed.setIfInBounds i true) (a.put oi.dst v) w → AnyJ P md ops Q S last (fuel + 1) listed a w := by
  intro fuel
  have hil : i < ops.size := (Array.getElem?_eq_some_iff.1 hi).1
  -- who is ready while i is not listed does not wait for i; so it is not the last one
  have hno : ∀ (listed : Array Bool) (j : Nat), i ∈ Region.ready md ops listed → j ∈ Region.ready md ops listed → j ≠ i → (∀ oj, ops[j]? = some oj → ∀ e ∈ oj.after, Region.binds md e = true → e.on ≠ i) ∧ j ≠ last := by
    intro listed j hri hrj hji
    obtain ⟨_, oj, hoj, hall⟩ := mem_ready.1 hrj
    have h0 := (mem_ready.1 hri).1
    have key : ∀ e ∈ oj.after, Region.binds md e = true → e.on ≠ i := fun e he hb heq => by
      have h1 := hall e he hb
      rw [heq] at h1
      rcases Nat.lt_or_ge i listed.size with h' | h'
      · simp [h'] at h0 h1; rw [h0] at h1; cases h1
      · simp [Array.getElem?_eq_none h'] at h1
    refine ⟨fun o ho => ?_, fun hjl => ?_⟩
    · rw [hoj] at ho
      injection ho with ho
      subst ho
      exact key
    · subst hjl
      obtain ⟨o, ho, e, he, hb, hon⟩ := waits_spec hw hil hne
      rw [hoj] at ho
      injection ho with ho
      subst ho
      exact key e he hb hon
  induction fuel with
  | zero =>
    intro listed a w _ hr hy hS H
    refine ⟨fun h => (by rw [h] at hr; cases hr), fun j hj => ?_⟩
    by_cases hji : j = i
    · subst hji; exact hy.wpOp hi hS ⟨fun _ => hS, H⟩
    · have := ready_mono hj hji
      rw [H.1] at this
      cases this
  | succ fuel ih =>
    intro listed a w hfree hr hy hS H
    refine ⟨fun h => (by rw [h] at hr; cases hr), fun j hj => ?_⟩
    by_cases hji : j = i
    · subst hji; exact hy.wpOp hi hS ⟨fun _ => hS, H⟩
    · have h1 := H.2 j (ready_mono hj hji)
      obtain ⟨hjun, oj, hoj, _⟩ := mem_ready.1 hj
      obtain ⟨hnot, hjl⟩ := hno listed j hr hj hji
      have h2 := wpOp_putIf hoj (hfree j oj hoj hji hjun (hnot oj hoj)) (fun cs b => hsel i oi cs b hi) (fun cs b => hsel j oj cs b hoj) hQ hy h1
      have hfree' : ∀ k ok, ops[k]? = some ok → k ≠ i → (listed.setIfInBounds j true).getD k true = false →
          (∀ e ∈ ok.after, Region.binds md e = true → e.on ≠ i) → oi.apart ops ok = true := fun k ok hk hki hun hn => by
        refine hfree k ok hk hki ?_ hn
        by_cases hjk : j = k
        · subst hjk; exact hjun
        · rw [getD_set_ne true hjk] at hun; exact hun
      refine wpOp_mono (fun a' w' h3 => ⟨h3.2.1, ih (listed.setIfInBounds j true) a' w' hfree' (ready_mono hr (Ne.symm hji)) h3.1 (h3.2.1 hjl) ?_⟩) h2
      rw [Array.setIfInBounds_comm _ _ hji]
      exact h3.2.2

/-- the beginning -/
theorem anyJ_begin {id : Nat} {a : Act} {w : World} (last : Nat) (S : World → Prop) (hm : P.follows .mixedOrders = true) (hS : S w.drew)
    (h : S w.drew → AnyJ P .any ops Q S last ops.size (Array.replicate ops.size false) a w.drew) : (Code.region id ops true).wp P Q a w :=
  wp_region_any hm (anyJ_any _ _ _ _ (h hS))

/-- number i is taken first -/
theorem anyJ_take {i : Nat} {oi : Oper} {d : Option Tmp} {v : Value} {fuel : Nat} {listed : Array Bool} {a : Act} {w : World} (hi : ops[i]? = some oi) (hd : oi.dst = d) (hw : Waits md ops last = true) (hne : (i == last) = false)
    (hs : Region.noSelect ops = true) (hf : Region.free md ops listed i = true) (hr : (Region.ready md ops listed).contains i = true)
    (hQ : ∀ c a w, Q (.panic c) (a.put d v) w → Q (.panic c) a w) (hwt : Region.wanted oi (yielded ops a.tmps) = true) (hy : ∀ w, S w → (execOp a.eval oi).run P w = .ok (.value v) w) (hS : S w)
    (h : AnyJ P md ops Q S last fuel (listed.setIfInBounds i true) (a.put d v) w) : AnyJ P md ops Q S last (fuel + 1) listed a w := by
  subst hd
  exact anyJ_first hw hi (by simpa using hne) (Region.noSelect_spec hs) hQ fuel listed a w (Region.free_spec hi hf) (by simpa using hr) (.inl ⟨hwt, hy⟩) hS h

/-- a way that only one operation may come up -/
theorem anyJ_only {i : Nat} {o : Oper} {d : Option Tmp} {fuel : Nat} {listed : Array Bool} {a : Act} {w : World} (hr : Region.ready md ops listed = [i]) (ho : ops[i]? = some o) (hd : o.dst = d) (hwt : Region.wanted o (yielded ops a.tmps) = true)
    (h : ∀ K' : Act → World → Prop, Hid (∀ v w, (i ≠ last → S w) → ((i ≠ last → S w) → AnyJ P md ops Q S last fuel (listed.setIfInBounds i true) (a.put d v) w) → K' (a.put o.dst v) w) → Oper.wp P o a w K' Q) : AnyJ P md ops Q S last (fuel + 1) listed a w := by
  subst hd
  refine ⟨fun h0 => absurd (hr ▸ h0) (by simp), fun j hj => ?_⟩
  rw [hr] at hj
  obtain rfl : j = i := by simpa using hj
  exact wpOp_step ho (fun K' hK => by rw [if_pos hwt]; exact h K' (Lib.hid (fun v w hS hW => hK _ w ⟨hS, hW hS⟩)))

/-- two operations may come up -/
theorem anyJ_two {i j : Nat} {o p : Oper} {d d2 : Option Tmp} {fuel : Nat} {listed : Array Bool} {a : Act} {w : World} (hr : Region.ready md ops listed = [i, j]) (ho : ops[i]? = some o) (hp : ops[j]? = some p) (hd : o.dst = d) (hd2 : p.dst = d2)
    (hwt : Region.wanted o (yielded ops a.tmps) = true) (hwt2 : Region.wanted p (yielded ops a.tmps) = true)
    (h : ∀ K' : Act → World → Prop, Hid (∀ v w, (i ≠ last → S w) → ((i ≠ last → S w) → AnyJ P md ops Q S last fuel (listed.setIfInBounds i true) (a.put d v) w) → K' (a.put o.dst v) w) → Oper.wp P o a w K' Q)
    (h2 : ∀ K' : Act → World → Prop, Hid (∀ v w, (j ≠ last → S w) → ((j ≠ last → S w) → AnyJ P md ops Q S last fuel (listed.setIfInBounds j true) (a.put d2 v) w) → K' (a.put p.dst v) w) → Oper.wp P p a w K' Q) : AnyJ P md ops Q S last (fuel + 1) listed a w := by
  subst hd hd2
  refine ⟨fun h0 => absurd (hr ▸ h0) (by simp), fun k hk => ?_⟩
  rw [hr] at hk
  have hk : k = i ∨ k = j := by simpa using hk
  rcases hk with rfl | rfl
  · exact wpOp_step ho (fun K' hK => by rw [if_pos hwt]; exact h K' (Lib.hid (fun v w hS hW => hK _ w ⟨hS, hW hS⟩)))
  · exact wpOp_step hp (fun K' hK => by rw [if_pos hwt2]; exact h2 K' (Lib.hid (fun v w hS hW => hK _ w ⟨hS, hW hS⟩)))

theorem anyJ_done {listed : Array Bool} {a : Act} {w : World} (hr : Region.ready md ops listed = []) (h : Q .normal a w) : ∀ fuel, AnyJ P md ops Q S last fuel listed a w
  | 0 => ⟨hr, h⟩
  | _ + 1 => ⟨fun _ => h, by rw [hr]; simp⟩
end

/-- all that a taking asks, in one -/
def takeOk (md : Region.Mode) (ops : Array Oper) (listed : Array Bool) (last i : Nat) : Bool := Waits md ops last && !(i == last) && Region.noSelect ops && Region.free md ops listed i && (Region.ready md ops listed).contains i

section
variable {P : Program} {ops : Array Oper} {Q : Exit → Act → World → Prop} {md : Region.Mode} {S : World → Prop} {last : Nat}

theorem take {i : Nat} {oi : Oper} {d : Option Tmp} {v : Value} {fuel : Nat} {listed : Array Bool} {a : Act} {w : World} (hk : takeOk md ops listed last i = true) (hi : ops[i]? = some oi) (hd : oi.dst = d) (hwt : Region.wanted oi (yielded ops a.tmps) = true)
    (hQ : ∀ c a w, Q (.panic c) (a.put d v) w → Q (.panic c) a w) (hS : S w) (hy : ∀ w, S w → (execOp a.eval oi).run P w = .ok (.value v) w)
    (h : AnyJ P md ops Q S last fuel (listed.setIfInBounds i true) (a.put d v) w) : AnyJ P md ops Q S last (fuel + 1) listed a w := by
  unfold takeOk at hk
  simp only [Bool.and_eq_true, Bool.not_eq_true'] at hk
  obtain ⟨⟨⟨⟨h1, h2⟩, h3⟩, h4⟩, h5⟩ := hk
  exact anyJ_take hi hd h1 h2 h3 h4 h5 hQ hwt hy hS h

theorem wp_go_call {o : Oper} {a : Act} {w : World} {K : Act → World → Prop} (f : FuncId) (xs : Array Operand) (ts : Array TypeId) (ho : o.op = .call { callee := .value (.func f), args := xs, argTypes := ts }) (vs : Array Value) (hv : xs.toList.map a.eval = vs.toList) (hf : ∀ w, (callFunc f vs).run P w = .ok (.enter f vs) w) {Post : Ending → World → Prop}
    (hc : Calls P f vs w Post) (h : ∀ e w', Post e w' → ∃ v, e = .returned v ∧ K (a.put o.dst v) w') : o.wp P a w K Q := by
  have hv2 : xs.map a.eval = vs := by rw [← Array.toList_inj, Array.toList_map]; exact hv
  subst hv2
  unfold Oper.wp execOp
  simp only [ho, resolve, invoke, Act.eval, Sem.run_bind]
  have e1 : (Deferred.ofValue (Value.func (Fn.func f) #[] #[]) (xs.map a.eval)).run P w = .ok { target := .fn (.func f) #[], args := xs.map a.eval } w := by
    simp [Deferred.ofValue]
  rw [e1]
  simp only [Result.andThen_ok, Array.append_empty]
  rw [hf]
  simp only [Oper.upon]
  refine hc.mono fun e w' he => ?_
  obtain ⟨v, rfl, hv⟩ := h e w' he
  exact hv

theorem wp_val {o : Oper} {a : Act} {w w' : World} {K : Act → World → Prop} {v : Value} (hr : (execOp a.eval o).run P w = .ok (.value v) w') (h : K (a.put o.dst v) w') : o.wp P a w K Q := by
  unfold Oper.wp
  rw [hr]
  exact h

theorem wp_skip {o : Oper} {a : Act} {w w' : World} {K : Act → World → Prop} (hr : (execOp a.eval o).run P w = .ok .skip w') (h : K (a.put o.dst undef) w') : o.wp P a w K Q := by
  unfold Oper.wp
  rw [hr]
  exact h
theorem exec_load_row {o : Oper} {a : Act} {w : World} {ty : TypeId} {x : Operand} (ho : o.op = .load ty x) {g : Nat} (hx : a.eval x = .pointer (some ⟨g, 0, none⟩)) {t : TypeId} {cs : Array Value} {fr : Nat × Nat} {d : TypeDesc} (hg : w.heap[g]? = some (.cells cs t fr))
    (hu : P.underlying ty = some d) (hd : (match d with | .struct _ | .array _ _ => true | _ => false) = true) (hi : (P.info? ty).map (·.size) = some cs.size) : (execOp a.eval o).run P w = .ok (.value (.agg cs)) w := by
  unfold execOp
  simp only [ho, hx, Instr.loadAt, Instr.sureAddr, Sem.run_bind, Sem.run_pure, Result.andThen_ok]
  rw [run_loadVar_row w g t ty cs fr d hg hu hd hi]
  rfl

theorem exec_load_mid {o : Oper} {a : Act} {w : World} {ty : TypeId} {x : Operand} (ho : o.op = .load ty x) {b off : Nat} (hx : a.eval x = .pointer (some ⟨b, off, none⟩)) {cs : List Value} {d : TypeDesc} (hg : w.rangeAt b off cs)
    (hu : P.underlying ty = some d) (hd : d.isRow = true) (hi : (P.info? ty).map (·.size) = some cs.length) : (execOp a.eval o).run P w = .ok (.value (.agg cs.toArray)) w := by
  unfold execOp
  simp only [ho, hx, Instr.loadAt, Instr.sureAddr, Sem.run_bind, Sem.run_pure, Result.andThen_ok, run_loadVar_mid w b off ty cs d hg hu hd hi]
end

end

/- Any order of a region's operations, with a condition on memory that all of them keep. -/
section
open Go.RowKit

def takeHOk (md : Region.Mode) (ops : Array Oper) (listed : Array Bool) (i : Nat) : Bool := Region.noSelect ops && Region.free md ops listed i && (Region.ready md ops listed).contains i

section
variable {P : Program} {ops : Array Oper} {Q : Exit → Act → World → Prop} {md : Region.Mode} {S : World → Prop}

theorem beginH {id : Nat} {a : Act} {w : World} (S : World → Prop) (hm : P.follows .mixedOrders = true) (hS : S w.drew)
    (h : S w.drew → wpAnyH P .any ops Q S ops.size (Array.replicate ops.size false) a w.drew) : (Code.region id ops true).wp P Q a w := wp_region_held hm (h hS)

theorem takeH {i : Nat} {oi : Oper} {d : Option Tmp} {v : Value} {fuel : Nat} {listed : Array Bool} {a : Act} {w : World} (hk : takeHOk md ops listed i = true) (hi : ops[i]? = some oi) (hd : oi.dst = d) (hwt : Region.wanted oi (yielded ops a.tmps) = true)
    (hQ : ∀ c a w, Q (.panic c) (a.put d v) w → Q (.panic c) a w) (hS : S w) (hy : ∀ w, S w → (execOp a.eval oi).run P w = .ok (.value v) w)
    (h : wpAnyH P md ops Q S fuel (listed.setIfInBounds i true) (a.put d v) w) : wpAnyH P md ops Q S (fuel + 1) listed a w := by
  unfold takeHOk at hk
  simp only [Bool.and_eq_true] at hk
  obtain ⟨⟨h3, h4⟩, h5⟩ := hk
  subst hd
  exact wpAnyH_take hi h3 h4 h5 hQ (.inl ⟨hwt, hy⟩) hS h

theorem onlyH {i : Nat} {o : Oper} {d : Option Tmp} {fuel : Nat} {listed : Array Bool} {a : Act} {w : World} (hr : Region.ready md ops listed = [i]) (ho : ops[i]? = some o) (hd : o.dst = d) (hwt : Region.wanted o (yielded ops a.tmps) = true)
    (h : ∀ K' : Act → World → Prop, Hid (∀ v w, S w → (S w → wpAnyH P md ops Q S fuel (listed.setIfInBounds i true) (a.put d v) w) → K' (a.put o.dst v) w) → Oper.wp P o a w K' Q) : wpAnyH P md ops Q S (fuel + 1) listed a w := by
  subst hd
  refine ⟨fun h0 => absurd (hr ▸ h0) (by simp), fun j hj => ?_⟩
  rw [hr] at hj
  obtain rfl : j = i := by simpa using hj
  exact wpOp_step ho (fun K' hK => by rw [if_pos hwt]; exact h K' (Lib.hid (fun v w hS hW => hK _ w ⟨hS, hW hS⟩)))
end

end

end Go.Proofs.YtaippkdlibampaaDoor

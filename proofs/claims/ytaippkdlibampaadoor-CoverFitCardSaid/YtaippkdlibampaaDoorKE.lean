/- More rules make no tree dearer; with each cost twice as high the cheapest is twice as dear: plain laws. An owned row of rules whose costs are doubled; what checks say of beginnings and of doubled rules. What CoverMore asks of the three tables, and beginnings of rows. -/
import Derived.Test.YtaippkdlibampaaDoorKA
import Derived.Test.YtaippkdlibampaaDoorKC
import Derived.Test.YtaippkdlibampaaDoorKD
namespace Go.Proofs.YtaippkdlibampaaDoor

/- More rules make no tree dearer; with each cost twice as high the cheapest is twice as dear: plain laws. -/
section
def dblC (c : Int) : Int := if c = -1 then -1 else 2 * c
def dblR (r : Rule) : Rule := ⟨r.nt, r.pat, 2 * r.cost, r.form⟩
def dblB (b : Best) : Best := ⟨dblC b.c0, dblC b.c1, dblC b.c2, dblC b.c3, b.r0, b.r1, b.r2, b.r3⟩

theorem dblC_neg (c : Int) : dblC c = -1 ↔ c = -1 := by unfold dblC; split <;> omega
theorem dblC_ne {c : Int} (h : c ≠ -1) : dblC c = 2 * c := by unfold dblC; rw [if_neg h]
theorem dblB_cost (b : Best) (n : Nat) : (dblB b).cost n = dblC (b.cost n) := by
  match n with
  | 0 => rfl
  | 1 => rfl
  | 2 => rfl
  | n + 3 => rfl
theorem dblB_set (b : Best) (n : Nat) (c r : Int) (h : c ≠ -1) : dblB (b.set n c r) = (dblB b).set n (2 * c) r := by
  match n with
  | 0 => simp only [Best.set, dblB, dblC_ne h]
  | 1 => simp only [Best.set, dblB, dblC_ne h]
  | 2 => simp only [Best.set, dblB, dblC_ne h]
  | n + 3 => simp only [Best.set, dblB, dblC_ne h]

theorem kidsSum_dbl : ∀ (ps : List Pat) (i : Nat) (kc kc2 : Nat → Nat → Int), (∀ i n, kc2 i n = dblC (kc i n)) → kidsSum ps i kc2 = (kidsSum ps i kc).map (2 * ·)
  | [], _, _, _, _ => rfl
  | p :: ps, i, kc, kc2, h => by
    simp only [kidsSum]
    rw [h, kidsSum_dbl ps (i + 1) kc kc2 h]
    by_cases hk : kc i p.nt.toNat = -1
    · rw [if_pos hk, if_pos ((dblC_neg _).2 hk)]; rfl
    · rw [if_neg hk, if_neg (fun e => hk ((dblC_neg _).1 e)), dblC_ne hk]
      cases kidsSum ps (i + 1) kc with
      | none => rfl
      | some d => simp only [Option.map_some]; congr 1; omega

theorem ruleCost_dbl (r : Rule) (op : Int) (sm : Bool) (kc kc2 : Nat → Nat → Int) (x x2 : Nat → Int) (h : ∀ i n, kc2 i n = dblC (kc i n)) (hx : ∀ n, x2 n = dblC (x n)) : ruleCost (dblR r) op sm kc2 x2 = (ruleCost r op sm kc x).map (2 * ·) := by
  unfold ruleCost
  show (if r.pat.op = 0 then (if x2 r.pat.nt.toNat = -1 then none else some (x2 r.pat.nt.toNat + 2 * r.cost)) else if r.pat.op ≠ op ∨ (r.nt = 2 ∧ sm = false) then none else (kidsSum r.pat.kids 0 kc2).map (· + 2 * r.cost)) = _
  by_cases h0 : r.pat.op = 0
  · rw [if_pos h0, if_pos h0, hx]
    by_cases hk : x r.pat.nt.toNat = -1
    · rw [if_pos hk, if_pos ((dblC_neg _).2 hk)]; rfl
    · rw [if_neg hk, if_neg (fun e => hk ((dblC_neg _).1 e)), dblC_ne hk]
      simp only [Option.map_some]; congr 1; omega
  · rw [if_neg h0, if_neg h0]
    by_cases hb : r.pat.op ≠ op ∨ (r.nt = 2 ∧ sm = false)
    · rw [if_pos hb, if_pos hb]; rfl
    · rw [if_neg hb, if_neg hb, kidsSum_dbl _ _ kc kc2 h]
      cases kidsSum r.pat.kids 0 kc with
      | none => rfl
      | some d => simp only [Option.map_some]; congr 1; omega

theorem turnFrom_dbl {op : Int} {sm : Bool} {kc kc2 : Nat → Nat → Int} {x x2 : Nat → Int} (h : ∀ i n, kc2 i n = dblC (kc i n)) (hx : ∀ n, x2 n = dblC (x n)) : ∀ (rs : List Rule) (i : Nat) (y : Best), turnFrom op sm kc2 x2 (rs.map dblR) i (dblB y) = dblB (turnFrom op sm kc x rs i y)
  | [], _, _ => rfl
  | r :: rs, i, y => by
    simp only [List.map_cons, turnFrom]
    rw [ruleCost_dbl r op sm kc kc2 x x2 h hx]
    rw [← turnFrom_dbl h hx rs (i + 1)]
    congr 1
    cases ruleCost r op sm kc x with
    | none => rfl
    | some c =>
      simp only [Option.map_some]
      show (if 2 * c ≥ 0 ∧ ((dblB y).cost r.nt.toNat < 0 ∨ 2 * c < (dblB y).cost r.nt.toNat) then (dblB y).set r.nt.toNat (2 * c) i else dblB y) = _
      rw [dblB_cost]
      have hiff : (2 * c ≥ 0 ∧ (dblC (y.cost r.nt.toNat) < 0 ∨ 2 * c < dblC (y.cost r.nt.toNat))) ↔ (c ≥ 0 ∧ (y.cost r.nt.toNat < 0 ∨ c < y.cost r.nt.toNat)) := by
        unfold dblC; split <;> omega
      by_cases hb : c ≥ 0 ∧ (y.cost r.nt.toNat < 0 ∨ c < y.cost r.nt.toNat)
      · rw [if_pos hb, if_pos (hiff.2 hb), dblB_set _ _ _ _ (by omega)]
      · rw [if_neg hb, if_neg (fun e => hb (hiff.1 e))]

theorem turns_dbl {rs : List Rule} {op : Int} {sm : Bool} {kc kc2 : Nat → Nat → Int} (h : ∀ i n, kc2 i n = dblC (kc i n)) : ∀ k, turns (rs.map dblR) op sm kc2 k = dblB (turns rs op sm kc k)
  | 0 => rfl
  | k + 1 => by
    simp only [turns, turn]
    rw [turns_dbl h k]
    exact turnFrom_dbl h (fun n => dblB_cost _ n) rs 0 .none

mutual
theorem labB_dbl (rs : List Rule) : ∀ t : Pat, labB (rs.map dblR) t = dblB (labB rs t)
  | .mk op nt ks => by
    unfold labB bestOf
    rw [labBs_dbl rs ks]
    have hz : ∀ j, ((labBs rs ks).map dblB).getD j zeroB = dblB ((labBs rs ks).getD j zeroB) := fun j => by
      simp only [List.getD, List.getElem?_map]
      cases (labBs rs ks)[j]? <;> rfl
    have h : ∀ i n, (nodeKey (.mk op nt ks) ((labBs rs ks).map dblB)).kc i n = dblC ((nodeKey (.mk op nt ks) (labBs rs ks)).kc i n) := fun i n => by
      unfold nodeKey Key.kc Key.kid
      match i with
      | 0 => simp only [hz]; exact dblB_cost _ n
      | i + 1 => simp only [hz]; exact dblB_cost _ n
    exact turns_dbl h 5
theorem labBs_dbl (rs : List Rule) : ∀ ts : List Pat, labBs (rs.map dblR) ts = (labBs rs ts).map dblB
  | [] => rfl
  | t :: ts => by
    unfold labBs
    rw [labB_dbl rs t, labBs_dbl rs ts]
    rfl
end

/-- dearer or none: costs that are no less -/
def LessC (a b : Int) : Prop := b ≠ -1 → a ≠ -1 ∧ a ≤ b

theorem kidsSum_less : ∀ (ps : List Pat) (i : Nat) (kc kc2 : Nat → Nat → Int), (∀ j n, i ≤ j → j < i + ps.length → LessC (kc j n) (kc2 j n)) → ∀ s, kidsSum ps i kc2 = some s → ∃ d, kidsSum ps i kc = some d ∧ d ≤ s
  | [], _, _, _, _, s, h => by simp only [kidsSum, Option.some.injEq] at h; exact ⟨0, rfl, by omega⟩
  | p :: ps, i, kc, kc2, hl, s, h => by
    simp only [kidsSum] at h ⊢
    split at h
    · cases h
    · rename_i hne
      cases hs : kidsSum ps (i + 1) kc2 with
      | none => rw [hs] at h; cases h
      | some d =>
        rw [hs] at h
        simp only [Option.map_some, Option.some.injEq] at h
        obtain ⟨d', h1, h2⟩ := kidsSum_less ps (i + 1) kc kc2 (fun j n h1 h2 => hl j n (by omega) (by simp; omega)) d hs
        have h3 := hl i p.nt.toNat (Nat.le_refl _) (by simp) hne
        rw [if_neg h3.1, h1]
        exact ⟨kc i p.nt.toNat + d', rfl, by omega⟩

theorem less_step {rs : List Rule} (hrs : RulesFit rs) (k : Nat) (hrs2 : RulesFit (rs.take k)) (t : Pat) (ht : treeOk t = true) (ih : ∀ i (h : i < t.kids.length) n, LessC ((labB rs t.kids[i]).cost n) ((labB (rs.take k) t.kids[i]).cost n)) (nt : Nat) (hnt : nt < 4)
    (hc : ∀ m, (nt = 1 ∧ m = 2 ∨ nt = 0 ∧ m = 1 ∨ nt = 3 ∧ m = 0) → LessC ((labB rs t).cost m) ((labB (rs.take k) t).cost m)) : LessC ((labB rs t).cost nt) ((labB (rs.take k) t).cost nt) := by
  intro hne
  rcases labB_fix hrs2.1 t ht nt hnt with ⟨h1, _, _⟩ | ⟨i, hi, h1, h2, h3, _⟩
  · exact absurd h1 hne
  · have hi' : i < rs.length := by rw [List.length_take] at hi; omega
    have he : (rs.take k)[i] = rs[i] := List.getElem_take
    rw [he] at h2 h3
    have hri := hrs.1.2 _ (List.getElem_mem hi')
    have hrf := hrs.2 _ (List.getElem_mem hi')
    have key : ∃ d, ruleCost rs[i] t.op (smallT t.op t.nt) (nodeKey t (labBs rs t.kids)).kc (labB rs t).cost = some d ∧ d ≤ (labB (rs.take k) t).cost nt := by
      unfold ruleCost at h3 ⊢
      by_cases hop : rs[i].pat.op = 0
      · rw [if_pos hop] at h3 ⊢
        split at h3
        · cases h3
        · rename_i hx
          injection h3 with h3
          have hm := hc rs[i].pat.nt.toNat (by rcases hri.2.1 hop with h | h | h <;> omega) hx
          rw [if_neg hm.1]
          exact ⟨_, rfl, by omega⟩
      · rw [if_neg hop] at h3 ⊢
        split at h3
        · cases h3
        · rename_i hb
          rw [if_neg hb]
          cases hs : kidsSum rs[i].pat.kids 0 (nodeKey t (labBs (rs.take k) t.kids)).kc with
          | none => rw [hs] at h3; cases h3
          | some s =>
            rw [hs] at h3
            simp only [Option.map_some, Option.some.injEq] at h3
            have hopt : rs[i].pat.op = t.op := Classical.byContradiction fun h => hb (Or.inl h)
            have hl := hrf.2 hop
            have hta := kids_arity ht
            rw [hopt, ← hta.1] at hl
            have h2' := hri.1.2.1.1
            obtain ⟨d, hd1, hd2⟩ := kidsSum_less rs[i].pat.kids 0 (nodeKey t (labBs rs t.kids)).kc _ (fun j n _ hj => by
              have hjt : j < t.kids.length := by omega
              rw [kc_at t j n hjt (by omega), kc_at t j n hjt (by omega)]
              exact ih j hjt n) s hs
            rw [hd1]
            exact ⟨d + rs[i].cost, rfl, by omega⟩
    obtain ⟨d, hd1, hd2⟩ := key
    rcases labB_fix hrs.1 t ht nt hnt with ⟨_, _, g3⟩ | ⟨j, hj, g1, g2, g3, g4⟩
    · have := g3 i hi' h2
      rw [hd1] at this; cases this
    · have g5 := g4 i hi' d h2 hd1
      have hlow : 0 ≤ (labB rs t).cost nt := costsOk_of (op := t.op) (sm := smallT t.op t.nt) (fun r hr => (hrs.1.2 r hr).1.2.2.1) (kc_low' hrs.1 t ht) (labB_low hrs.1 t ht) j hj _ g3
      exact ⟨by omega, by omega⟩

theorem labB_more {rs : List Rule} (hrs : RulesFit rs) (k : Nat) (hrs2 : RulesFit (rs.take k)) : ∀ t : Pat, treeOk t = true → ∀ n, LessC ((labB rs t).cost n) ((labB (rs.take k) t).cost n)
  | .mk op nt ks, ht => by
    have ih : ∀ i (h : i < (Pat.mk op nt ks).kids.length) n, LessC ((labB rs (Pat.mk op nt ks).kids[i]).cost n) ((labB (rs.take k) (Pat.mk op nt ks).kids[i]).cost n) :=
      fun i h n => labB_more hrs k hrs2 ks[i] (kid_ok ht i h) n
    have s2 := less_step hrs k hrs2 _ ht ih 2 (by omega) (fun m h => by omega)
    have s1 := less_step hrs k hrs2 _ ht ih 1 (by omega) (fun m h => by obtain rfl : m = 2 := (by omega); exact s2)
    have s0 := less_step hrs k hrs2 _ ht ih 0 (by omega) (fun m h => by obtain rfl : m = 1 := (by omega); exact s1)
    have s3 := less_step hrs k hrs2 _ ht ih 3 (by omega) (fun m h => by obtain rfl : m = 0 := (by omega); exact s0)
    intro n
    match n with
    | 0 => exact s0
    | 1 => exact s1
    | 2 => exact s2
    | n + 3 => exact s3
termination_by t => SizeOf.sizeOf t
decreasing_by
  have := List.sizeOf_lt_of_mem (List.getElem_mem h)
  simp only [Pat.kids] at this
  simp only [Pat.mk.sizeOf_spec]
  omega

end

/- An owned row of rules whose costs are doubled; what checks say of beginnings and of doubled rules. -/
section
open Go.RowKit

theorem Cells.set_at {w : World} {ok : Nat → Prop} {z : Nat} : ∀ (ds : List D) (cs : List Value) (k : Nat) (hk : k < ds.length) (d' : D) (j : Nat) (_ : j < z) (u : Value), Cells w ok z ds cs → (∀ a, Rep w ok ds[k] a → Rep w ok d' (a.set j u)) → Cells w ok z (ds.set k d') (cs.set (k * z + j) u)
  | d :: ds, cs, 0, _, d', j, hj, u, h, hd => by
    obtain ⟨a, b, rfl, hl, h1, h2⟩ := h
    refine ⟨a.set j u, b, ?_, by simpa using hl, hd a h1, h2⟩
    rw [Nat.zero_mul, Nat.zero_add, List.set_append_left _ _ (by omega)]
  | d :: ds, cs, k + 1, hk, d', j, hj, u, h, hd => by
    obtain ⟨a, b, rfl, hl, h1, h2⟩ := h
    refine ⟨a, b.set (k * z + j) u, ?_, hl, h1, Cells.set_at ds b k (by simpa using hk) d' j hj u h2 (fun a ha => hd a (by simpa using ha))⟩
    rw [List.set_append_right _ _ (by rw [hl, Nat.add_mul]; omega), hl]
    congr 2
    rw [Nat.add_mul]; omega

theorem Own.set_at {w : World} {B : Nat} {ok : Nat → Prop} {e : TypeId} {z g n c : Nat} {ds : List D} (h : Own w B ok e z (.slice (some ⟨g, 0, none⟩) n c) ds) (k : Nat) (hk : k < ds.length) (d' : D) (j : Nat) (hj : j < z) (u : Value)
    (hd : ∀ a, Rep w (fun k => ok k ∧ some k ≠ Value.ownBlock (.slice (some ⟨g, 0, none⟩) n c)) ds[k] a → Rep w (fun k => ok k ∧ some k ≠ Value.ownBlock (.slice (some ⟨g, 0, none⟩) n c)) d' (a.set j u)) :
    Own (w.setCell ⟨g, k * z + j, none⟩ u) B ok e z (.slice (some ⟨g, 0, none⟩) n c) (ds.set k d') := by
  obtain ⟨xs, h1, h2⟩ := h
  have hn : n = ds.length := by
    rcases h1.2 with ⟨hv, _⟩ | ⟨_, _, _, hv, _⟩
    · cases hv
    · injection hv
  subst hn
  refine ⟨xs.set (k * z + j) u, ?_, ?_⟩
  · rw [List.length_set]; exact (h1.stored _ _).1
  · refine Cells.keep (fun _ h _ => h) (fun g' hg _ => heap_setCell_other _ _ _ _ ?_) (Cells.set_at ds xs k hk d' j hj u h2 hd)
    intro e
    exact hg.2 (by rw [e]; rfl)

theorem rep_dbl {w : World} {ok : Nat → Prop} {r : Rule} {a : List Value} (h : Rep w ok (encR r) a) : Rep w ok (encR (dblR r)) (a.set 4 (.int .i64 (2 * r.cost))) := by
  obtain ⟨A, c, rfl, _, hp⟩ := rep_rule_inv h
  exact rep_rule_of (r := dblR r) hp

/-- the first so many doubled -/
def dblTo (j : Nat) (rs : List Rule) : List Rule := (rs.take j).map dblR ++ rs.drop j
theorem dblTo_zero (rs : List Rule) : dblTo 0 rs = rs := by simp [dblTo]
theorem dblTo_len (j : Nat) (rs : List Rule) : (dblTo j rs).length = rs.length := by simp [dblTo]; omega
theorem dblTo_all (rs : List Rule) : dblTo rs.length rs = rs.map dblR := by simp [dblTo]
theorem dblTo_at (j : Nat) (rs : List Rule) (h : j < rs.length) (h' : j < (dblTo j rs).length) : (dblTo j rs)[j] = rs[j] := by
  have : (dblTo j rs)[j]? = some rs[j] := by
    unfold dblTo
    rw [List.getElem?_append_right (by simp; omega), List.length_map, List.length_take, Nat.min_eq_left (Nat.le_of_lt h), Nat.sub_self, List.getElem?_drop, Nat.add_zero, List.getElem?_eq_getElem h]
  rw [List.getElem?_eq_getElem h'] at this
  exact Option.some.inj this
theorem dblTo_succ (j : Nat) (rs : List Rule) (h : j < rs.length) : (dblTo j rs).set j (dblR rs[j]) = dblTo (j + 1) rs := by
  unfold dblTo
  rw [List.set_append_right _ _ (by simp; omega), List.take_succ_eq_append_getElem h, List.map_append, List.append_assoc, List.length_map, List.length_take, Nat.min_eq_left (Nat.le_of_lt h), Nat.sub_self]
  congr 1
  rw [List.drop_eq_getElem_cons h]
  rfl

theorem check_take {rs : List Rule} (h : checkE rs = 0) (k : Nat) : checkE (rs.take k) = 0 := by
  unfold checkE at h
  split at h
  · omega
  · rename_i hm
    split at h
    · rename_i ha
      have hm : mayRs rs = true := by simpa using hm
      unfold mayRs at hm
      rw [Bool.and_eq_true] at hm
      refine checkE_good _ ?_ (fun j hj => ?_)
      · unfold mayRs
        rw [Bool.and_eq_true]
        refine ⟨List.all_eq_true.2 fun r hr => List.all_eq_true.1 hm.1 r (List.mem_of_mem_take hr), ?_⟩
        have := hm.2
        simp only [decide_eq_true_eq] at this ⊢
        rw [List.length_take]; omega
      · exact List.all_eq_true.1 ha _ (List.mem_of_mem_take (List.getElem_mem hj))
    · omega

theorem okRule_dbl {r : Rule} (h : okRule r = true) : okRule (dblR r) = decide (2 * r.cost ≤ 65535) := by
  unfold okRule dblR at *
  simp only [Bool.and_eq_true, decide_eq_true_eq] at h
  obtain ⟨h1, h2, h3, h4, h5⟩ := h
  rw [h1, h2, h5]
  have : decide (0 ≤ 2 * r.cost) = true := by simp; omega
  rw [this]; simp

theorem check_dbl {rs : List Rule} (h : checkE rs = 0) : checkE (rs.map dblR) = 0 ↔ ∀ r ∈ rs, 2 * r.cost ≤ 65535 := by
  unfold checkE at h
  split at h
  · omega
  · rename_i hm
    split at h
    · rename_i ha
      have hm : mayRs rs = true := by simpa using hm
      unfold mayRs at hm
      rw [Bool.and_eq_true] at hm
      have hall : ∀ r ∈ rs, okRule r = true := fun r hr => List.all_eq_true.1 hm.1 r hr
      have hmay : mayRs (rs.map dblR) = true ↔ ∀ r ∈ rs, 2 * r.cost ≤ 65535 := by
        unfold mayRs
        rw [Bool.and_eq_true, List.all_eq_true]
        constructor
        · rintro ⟨h1, _⟩ r hr
          have := h1 (dblR r) (List.mem_map_of_mem hr)
          rw [okRule_dbl (hall r hr)] at this
          simpa using this
        · intro h1
          refine ⟨fun x hx => ?_, by rw [List.length_map]; exact hm.2⟩
          obtain ⟨r, hr, rfl⟩ := List.mem_map.1 hx
          rw [okRule_dbl (hall r hr)]
          simpa using h1 r hr
      constructor
      · intro h1
        refine hmay.1 ?_
        apply Classical.byContradiction
        intro hne
        have : mayRs (rs.map dblR) = false := by simpa using hne
        unfold checkE at h1
        rw [if_pos this] at h1
        omega
      · intro h1
        refine checkE_good _ (hmay.2 h1) (fun j hj => ?_)
        have hj' : j < rs.length := by simpa using hj
        rw [List.getElem_map]
        exact List.all_eq_true.1 ha rs[j] (List.getElem_mem hj')
    · omega

end

/- What CoverMore asks of the three tables, and beginnings of rows. -/
section
open Go.RowKit

/-- the first so many fit when doubled -/
def fitsTo (j : Nat) (rs : List Rule) : Bool := (rs.take j).all fun r => decide (2 * r.cost ≤ 65535)
theorem fitsTo_zero (rs : List Rule) : fitsTo 0 rs = true := rfl
theorem fitsTo_succ (j : Nat) (rs : List Rule) (h : j < rs.length) : fitsTo (j + 1) rs = (fitsTo j rs && decide (2 * rs[j].cost ≤ 65535)) := by
  unfold fitsTo
  rw [List.take_succ_eq_append_getElem h, List.all_append]
  simp

theorem checked_cost {rs : List Rule} (h : checkE rs = 0) : ∀ r ∈ rs, 0 ≤ r.cost ∧ r.cost ≤ 65535 := by
  unfold checkE at h
  split at h
  · omega
  · rename_i hm
    have hm : mayRs rs = true := by simpa using hm
    unfold mayRs at hm
    rw [Bool.and_eq_true] at hm
    intro r hr
    have := List.all_eq_true.1 hm.1 r hr
    unfold okRule at this
    simp only [Bool.and_eq_true, decide_eq_true_eq] at this
    exact ⟨this.2.2.1, this.2.2.2.1⟩

structure MoreIn (rs : List Rule) (t : Pat) (k : Nat) : Prop where
  wf2 : RulesWf (rs.take k)
  wf3 : RulesWf (rs.map dblR)
  m1 : coverMay rs t 0 = true
  m2 : coverMay (rs.take k) t 0 = true
  m3 : coverMay (rs.map dblR) t 0 = fitsTo rs.length rs
  a1 : ∀ n, -1 ≤ (labB rs t).cost n ∧ (labB rs t).cost n ≤ 100000000
  b1 : ∀ n, -1 ≤ (labB (rs.take k) t).cost n ∧ (labB (rs.take k) t).cost n ≤ 100000000
  ab : ∀ n, LessC ((labB rs t).cost n) ((labB (rs.take k) t).cost n)
  ac : ∀ n, (labB (rs.map dblR) t).cost n = dblC ((labB rs t).cost n)

theorem more_in {rs : List Rule} {t : Pat} (hwf : RulesWf rs) (hm : (mayT t && decide (checkE rs = 0)) = true) (k : Nat) : MoreIn rs t k := by
  rw [Bool.and_eq_true, decide_eq_true_eq] at hm
  obtain ⟨ht, hc⟩ := hm
  have hc2 := check_take hc k
  obtain ⟨hfit, _⟩ := fit_of_check hc
  obtain ⟨hfit2, _⟩ := fit_of_check hc2
  obtain ⟨hto, hN⟩ := mayT_fit ht
  have hcost := checked_cost hc
  refine ⟨hwf.take k, ⟨by rw [List.length_map]; exact hwf.1, fun r hr => ?_⟩, ?_, ?_, ?_, fun n => ?_, fun n => ?_, labB_more hfit k hfit2 t hto, fun n => ?_⟩
  · obtain ⟨r0, hr0, rfl⟩ := List.mem_map.1 hr
    obtain ⟨h1, h2, h3, h4⟩ := hwf.2 r0 hr0
    have := hcost r0 hr0
    refine ⟨h1, h2, ?_, h4⟩
    show I64 (2 * r0.cost)
    unfold I64 Lit.wf
    have g1 : IntKind.i64.min = -9223372036854775808 := rfl
    have g2 : IntKind.i64.max = 9223372036854775807 := rfl
    simp
    omega
  · unfold coverMay; rw [hc, ht]; rfl
  · unfold coverMay; rw [hc2, ht]; rfl
  · unfold coverMay; rw [ht]
    by_cases hf : fitsTo rs.length rs = true
    · rw [hf]
      unfold fitsTo at hf
      rw [List.take_length] at hf
      rw [(check_dbl hc).2 fun r hr => by simpa using List.all_eq_true.1 hf r hr]
      rfl
    · have h0 : ¬ checkE (rs.map dblR) = 0 := fun e => hf (by
        unfold fitsTo
        rw [List.take_length, List.all_eq_true]
        intro r hr
        simpa using (check_dbl hc).1 e r hr)
      have hf2 : fitsTo rs.length rs = false := by simpa using hf
      rw [hf2, decide_eq_false h0]
      rfl
  · have := (labB_in hfit.1 t hto).1 n
    have hN' : (patN t : Int) ≤ 200 := by omega
    exact ⟨this.1, by omega⟩
  · have := (labB_in hfit2.1 t hto).1 n
    have hN' : (patN t : Int) ≤ 200 := by omega
    exact ⟨this.1, by omega⟩
  · rw [labB_dbl, dblB_cost]

theorem Own.blk {w : World} {B : Nat} {ok : Nat → Prop} {e : TypeId} {z n c : Nat} {A : Option Addr} {ds : List D} (h : Own w B ok e z (.slice A n c) ds) (hk : 0 < ds.length) : ∃ g cur, A = some ⟨g, 0, none⟩ ∧ B ≤ g ∧ BlkIs w g e cur := by
  obtain ⟨xs, h1, _⟩ := h
  rcases h1.2 with ⟨_, h0⟩ | ⟨g, cap, cur, hv, hb, hh, _⟩
  · omega
  · injection hv with e1 _ _
    exact ⟨g, cur, e1, hb, hh⟩

theorem costCells_at (B : Best) (n : Nat) (h : n < 4) : (costCells B)[n]? = some (.int .i64 (B.cost n)) := by
  match n with
  | 0 => rfl
  | 1 => rfl
  | 2 => rfl
  | 3 => rfl
  | n + 4 => omega

end

end Go.Proofs.YtaippkdlibampaaDoor

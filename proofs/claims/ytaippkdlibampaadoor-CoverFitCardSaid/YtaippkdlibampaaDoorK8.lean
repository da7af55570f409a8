/- The reference's Labels walked. Labels, any tree. The reference's All walked. Covers as data, and the cover that a tree's labels tell. What a cover costs, in plain words; none is cheaper than the cheapest. The reference's covers: what they are made of, and covers walked for a chain and for an op. The reference's covers walked: a rule that goes on at the same tree. -/
import Derived.Test.YtaippkdlibampaaDoorK7
import Derived.Deep.RegionHeld3
namespace Go.Proofs.YtaippkdlibampaaDoor

/- The reference's Labels walked. -/
section
open Go.RowKit

theorem kidsSum_same (ps : List Pat) (h : ps.length ≤ 2) {kc kc' : Nat → Nat → Int} (e : ∀ i n, i < 2 → kc i n = kc' i n) : kidsSum ps 0 kc = kidsSum ps 0 kc' := by
  match ps, h with
  | [], _ => rfl
  | [p], _ => simp only [kidsSum]; rw [e 0 _ (by omega)]
  | [p, q], _ => simp only [kidsSum]; rw [e 0 _ (by omega), e (0 + 1) _ (by omega)]
  | p :: q :: r :: ps, h => simp at h

theorem ruleCost_same {r : Rule} {op : Int} {sm : Bool} {kc kc' : Nat → Nat → Int} {x : Nat → Int} (h : kidsSum r.pat.kids 0 kc = kidsSum r.pat.kids 0 kc') : ruleCost r op sm kc x = ruleCost r op sm kc' x := by
  unfold ruleCost; rw [h]

theorem turnFrom_same {op : Int} {sm : Bool} {kc kc' : Nat → Nat → Int} {x : Nat → Int} : ∀ (rs : List Rule) (_ : ∀ r ∈ rs, kidsSum r.pat.kids 0 kc = kidsSum r.pat.kids 0 kc') (i : Nat) (y : Best), turnFrom op sm kc x rs i y = turnFrom op sm kc' x rs i y
  | [], _, _, _ => rfl
  | r :: rs, h, i, y => by
    unfold turnFrom
    rw [ruleCost_same (h r (by simp))]
    exact turnFrom_same rs (fun r hr => h r (by simp [hr])) _ _

theorem turns_same {rs : List Rule} {op : Int} {sm : Bool} {kc kc' : Nat → Nat → Int} (h : ∀ r ∈ rs, kidsSum r.pat.kids 0 kc = kidsSum r.pat.kids 0 kc') : ∀ k, turns rs op sm kc k = turns rs op sm kc' k
  | 0 => rfl
  | k + 1 => by
    unfold turns turn
    rw [turns_same h k]
    exact turnFrom_same rs h _ _

theorem labB_turns {rs : List Rule} (hrs : RulesFlat rs) (t : Pat) : turns rs t.op (smallT t.op t.nt) (kcOf (labBs rs t.kids)) 5 = labB rs t := by
  rw [labB_eq]
  unfold bestOf
  refine turns_same (fun r hr => kidsSum_same _ (hrs.2 r hr).1.2.1.1 (fun i n hi => ?_)) 5
  have : i = 0 ∨ i = 1 := by omega
  rcases this with rfl | rfl <;> rfl

theorem kcOf_in {rs : List Rule} (hrs : RulesFlat rs) (t : Pat) (h : treeOk t = true) (hN : patN t ≤ 200) : ∀ i n, -1 ≤ kcOf (labBs rs t.kids) i n ∧ kcOf (labBs rs t.kids) i n ≤ 400000000 := by
  intro i n
  unfold kcOf
  rw [labBs_map]
  by_cases hi : i < t.kids.length
  · rw [show (t.kids.map (labB rs)).getD i zeroB = labB rs t.kids[i] by simp [List.getD, hi]]
    have hk : treeOk t.kids[i] = true := by
      rw [treeOk_eq, Bool.and_eq_true] at h
      exact (treesOk_iff _).1 h.2 i hi
    have h1 := labB_in hrs _ hk
    have h2 : patN t.kids[i] ≤ patN t := by
      rw [patN_eq t]
      have := patsN_take t.kids i hi
      have := patsN_take_le t.kids (i + 1)
      omega
    have := h1.1 n
    omega
  · rw [show (t.kids.map (labB rs)).getD i zeroB = zeroB by simp [List.getD, List.getElem?_eq_none (Nat.le_of_not_lt hi)]]
    have := (zeroB_in rs).1 n
    omega

theorem Own.far {w w' : World} {B : Nat} {ok : Nat → Prop} {e : TypeId} {z : Nat} {v : Value} {ds : List D} (h : Own w B ok e z v ds) (hok : ∀ g, ok g → B ≤ g) (hk : ∀ g, B ≤ g → g < w.heap.size → w'.heap[g]? = w.heap[g]?) : Own w' B ok e z v ds := by
  obtain ⟨xs, h1, h2⟩ := h
  refine ⟨xs, ⟨h1.1, ?_⟩, Cells.keep (fun g hg hl => hg) (fun g hg hl => hk g (hok g hg.1) hl) h2⟩
  rcases h1.2 with h3 | ⟨g, cap, cur, hvv, hbb, hh, hr⟩
  · exact .inl h3
  · exact .inr ⟨g, cap, cur, hvv, hbb, (hk g hbb (lt_of_block hh)).trans hh, hr⟩

theorem lab8 {w : World} {g : Nat} {t : TypeId} {b : Best} {v : Value} (h : BlkIs w g t (labCells b v)) : w.cell? ⟨g, 0, none⟩ = some (.int .i64 b.c0) ∧ w.cell? ⟨g, 1, none⟩ = some (.int .i64 b.c1) ∧ w.cell? ⟨g, 2, none⟩ = some (.int .i64 b.c2) ∧ w.cell? ⟨g, 3, none⟩ = some (.int .i64 b.c3) ∧ w.cell? ⟨g, 4, none⟩ = some (.int .i64 b.r0) ∧ w.cell? ⟨g, 5, none⟩ = some (.int .i64 b.r1) ∧ w.cell? ⟨g, 6, none⟩ = some (.int .i64 b.r2) ∧ w.cell? ⟨g, 7, none⟩ = some (.int .i64 b.r3) :=
  ⟨h.cell 0, h.cell 1, h.cell 2, h.cell 3, h.cell 4, h.cell 5, h.cell 6, h.cell 7⟩

theorem BlkIs.fresh_at {w : World} {g : Nat} {cs : Array Value} {t : TypeId} (h : g = w.heap.size) : BlkIs (w.alloc (.cells cs t)) g t cs := by subst h; exact BlkIs.fresh _ _ _

theorem lab_set (a b : Best) (v v' : Value) : ((((((((((labCells a v).setIfInBounds 0 (.int .i64 b.c0)).setIfInBounds 1 (.int .i64 b.c1)).setIfInBounds 2 (.int .i64 b.c2)).setIfInBounds 3 (.int .i64 b.c3)).setIfInBounds 4 (.int .i64 b.r0)).setIfInBounds 5 (.int .i64 b.r1)).setIfInBounds 6 (.int .i64 b.r2)).setIfInBounds 7 (.int .i64 b.r3)).setIfInBounds 8 v') = labCells b v' := by
  simp [labCells]

def LabRet (rs : List Rule) (t : Pat) (w : World) (e : Ending) (w' : World) : Prop :=
  ∃ A c, e = .returned (.agg (labCells (labB rs t) (.slice A t.kids.length c))) ∧ Rep w' (fun g => w.heap.size ≤ g) (encL rs t) (labCells (labB rs t) (.slice A t.kids.length c)).toList ∧ Below w.heap.size w w'

def LabelsOk (rs : List Rule) (t : Pat) : Prop := ∀ (A A2 : Option Addr) (c c2 : Nat) (w : World), RulesIn w A2 c2 rs → PatIn w A c t →
  Calls Tryd.prog 70 #[.slice A2 rs.length c2, .agg #[.int .i64 t.op, .int .i64 t.nt, .slice A t.kids.length c]] w (LabRet rs t w)

set_option maxRecDepth 100000 in
set_option maxHeartbeats 8000000 in
theorem labels_of (rs : List Rule) (hrs : RulesFit rs) (t : Pat) (ht : treeOk t = true) (hN : patN t ≤ 200) (ih : ∀ i (h : i < t.kids.length), LabelsOk rs t.kids[i]) : LabelsOk rs t := by
  intro A A2 c c2 w hr hp
  have htop : topOk t.op t.nt t.kids.length = true := by
    rw [treeOk_eq, Bool.and_eq_true] at ht; exact ht.1
  have har : t.op ≠ 0 ∧ (t.kids.length : Int) = arityOf t.op := by
    unfold topOk isOp at htop
    simp only [Bool.and_eq_true, decide_eq_true_eq] at htop
    exact ⟨by omega, htop.2.1⟩
  have hk2 := kids_two ht
  have hlen : (labBs rs t.kids).length = t.kids.length := by rw [labBs_map]; simp
  have hof := fun (A3 B : Option Addr) (c3 d : Nat) (W : World) (h1 : RulesIn W A2 c2 rs) (ok : Nat → Prop) => of_any rs hrs t (labBs rs t.kids) (fun r hr' ho => by
    have := (hrs.2 r hr').2 (by rw [ho]; exact har.1)
    rw [hlen]; rw [ho] at this; omega) (kcOf_in hrs.1 t ht hN) A3 A2 B c3 c2 d W h1 ok
  rw [labB_turns hrs.1 t, hlen, labBs_map, List.map_map] at hof
  have HOF := Lib.hid hof
  have HP := Lib.hid hp.kids
  have HR := Lib.hid hr
  have HTS : Hid (t.kids.take t.kids.length = t.kids) := Lib.hid (List.take_length)
  obtain ⟨n, hn⟩ : ∃ n, Hid (t.kids.length = n) := ⟨_, Lib.hid rfl⟩
  obtain ⟨rn, hrn⟩ : ∃ n, Hid (rs.length = n) := ⟨_, Lib.hid rfl⟩
  obtain ⟨ts, hts⟩ : ∃ x, Hid (t.kids = x) := ⟨_, Lib.hid rfl⟩
  obtain ⟨op, hop⟩ : ∃ x, Hid (t.op = x) := ⟨_, Lib.hid rfl⟩
  obtain ⟨nt, hnt⟩ : ∃ x, Hid (t.nt = x) := ⟨_, Lib.hid rfl⟩
  rw [hn.out] at hk2
  clear hr hp ht hN hof htop har hlen
  rw [hn.out, hop.out, hnt.out, hrn.out]
  go_enter Tryd.func70, Tryd.ntmps70
  go_wp2_with fail
  obtain ⟨Z, hZ⟩ : ∃ Z : Array Value, Hid (labCells zeroB (.slice none 0 0) = Z) := ⟨_, Lib.hid rfl⟩
  obtain ⟨w0, hw0⟩ : ∃ w0, w0 = ((w.alloc (.cells #[.int .i64 op, .int .i64 nt, .slice A n c] 64)).alloc (.cells Z 118)).alloc (.cells (labCells zeroB (.slice none 0 0)) 118) := ⟨_, rfl⟩
  have hb0 : Below w.heap.size w w0 := by rw [hw0]; exact below_box3 _ _ _ _
  have k0 : BlkIs w0 w.heap.size 64 #[.int .i64 op, .int .i64 nt, .slice A n c] := by rw [hw0]; exact ((BlkIs.fresh _ _ _).alloc _).alloc _
  have z0 : BlkIs w0 (w.heap.size + 1) 118 Z := by rw [hw0]; exact (BlkIs.fresh1 _ _ _ _).alloc _
  have b0 : BlkIs w0 (w.heap.size + 1 + 1) 118 (labCells zeroB (.slice none 0 0)) := by rw [hw0]; exact BlkIs.fresh2 (by simp)
  rw [show ((w.alloc (.cells #[.int .i64 op, .int .i64 nt, .slice A n c] 64)).alloc (.cells #[.int .i64 0, .int .i64 0, .int .i64 0, .int .i64 0, .int .i64 0, .int .i64 0, .int .i64 0, .int .i64 0, .slice none 0 0] 118)).alloc (.cells #[.int .i64 0, .int .i64 0, .int .i64 0, .int .i64 0, .int .i64 0, .int .i64 0, .int .i64 0, .int .i64 0, .slice none 0 0] 118) = w0 from by rw [hw0, ← hZ.out]; rfl]
  clear hw0
  go_loopw [6, 7] (fun v2 i wr => ∃ (k : Nat) (v1 : Value), k ≤ n ∧ i = .int .i64 k ∧ Below w.heap.size w wr ∧ BlkIs wr w.heap.size 64 #[.int .i64 op, .int .i64 nt, .slice A n c] ∧ BlkIs wr (w.heap.size + 1) 118 Z ∧ BlkIs wr (w.heap.size + 1 + 1) 118 (labCells zeroB v1) ∧ Own wr (w.heap.size + 3) (fun g => w.heap.size + 3 ≤ g ∧ some g ≠ v2.ownBlock) 118 9 v1 ((ts.take k).map (encL rs)) ∧ Own wr (w.heap.size + 3) (fun g => w.heap.size + 3 ≤ g ∧ some g ≠ v1.ownBlock) 74 8 v2 ((ts.take k).map (encB ∘ labB rs))) (fun _ i _ => n - (intOf i).toNat)
  case atStart => exact ⟨0, .slice none 0 0, by omega, rfl, hb0, k0, z0, b0, Own.nil _ _ _ _ _, Own.nil _ _ _ _ _⟩
  case round =>
    obtain ⟨k, v1, hk, rfl, hb, kx, zx, bx, hown1, hown2⟩ := hrel
    obtain ⟨wo, rfl⟩ : ∃ wo : World, wo = wr := ⟨_, rfl⟩
    clear hb0 k0 z0 b0
    have hbz := hb.size
    by_cases hlt : k < n
    · have hkl : k < t.kids.length := by rw [hn.out]; exact hlt
      obtain ⟨ok, hps⟩ := HP.out.below hb
      obtain ⟨g, off, B, c', rfl, _, hg, ⟨a0, a1, a2⟩, hpi⟩ := pats_at hps k hkl
      have hcall := fun W => ih k hkl B A2 c' c2 W
      have hts1 := Lib.hid (take_map (encL rs) t.kids k hkl)
      have hts2 := Lib.hid (take_map (encB ∘ labB rs) t.kids k hkl)
      obtain ⟨q, hq⟩ : ∃ q, Hid (t.kids[k] = q) := ⟨_, Lib.hid rfl⟩
      rw [hq.out] at a0 a1 a2 hpi hcall
      rw [hq.out, hts.out] at hts1 hts2
      rw [hrn.out] at hcall
      have HQ : Hid (PatIn wo B c' q) := Lib.hid ⟨_, hpi⟩
      have HRO : Hid (RulesIn wo A2 c2 rs) := Lib.hid (HR.out.below hb)
      have s2 : wo.cell? ⟨w.heap.size, 2, none⟩ = some (.slice (some ⟨g, off, none⟩) n c) := kx.cell 2
      have x8 : wo.cell? ⟨w.heap.size + 1 + 1, 8, none⟩ = some v1 := bx.cell 8
      clear hps hpi
      go_wp2_with fail
      refine (hcall _ HRO.out HQ.out).mono ?_
      rintro e w3 ⟨A3, c3, rfl, hp3, hb3⟩
      obtain ⟨bq, hbq⟩ : ∃ x, Hid (labB rs q = x) := ⟨_, Lib.hid rfl⟩
      rw [hbq.out] at hp3
      rw [hbq.out]
      have HP3 := Lib.hid hp3
      unfold labCells
      have hb3z := hb3.size
      have hltx : w.heap.size + 1 + 1 < wo.heap.size := bx.lt
      have own1 := hown1.below hb3
      have own2 := hown2.below hb3
      have hb4 : Below w.heap.size w w3 := hb.trans (hb3.mono hbz)
      have kx3 := kx.below hb3 kx.lt
      have zx3 := zx.below hb3 zx.lt
      have bx3 := bx.below hb3 bx.lt
      have y8 : w3.cell? ⟨w.heap.size + 1 + 1, 8, none⟩ = some v1 := bx3.cell 8
      have y8lt : w.heap.size + 1 + 1 < w3.heap.size := by omega
      have hne1 : ∀ g, wo.heap.size ≤ g → some g ≠ v1.ownBlock := fun g hg => hown1.ne_far hg
      have hne2 : ∀ g, wo.heap.size ≤ g → some g ≠ u6.ownBlock := fun g hg => hown2.ne_far hg
      have H12 := Lib.hid (own1.apart own2 (by decide))
      have H21 := Lib.hid (own2.apart own1 (by decide))
      have hl1 : ((ts.take k).map (encL rs)).length ≤ 1000000000 := by simp; omega
      have hl2 : ((ts.take k).map (encB ∘ labB rs)).length ≤ 1000000000 := by simp; omega
      have HN1 := Lib.hid hne1
      have HN2 := Lib.hid hne2
      clear hp3 hcall kx zx bx a0 a1 a2 s2 x8 hown1 hown2 hne1 hne2
      have hle3 : wo.heap.size ≤ w3.heap.size := hb3z
      go_wp2_with (first | (at_builtin; (refine append_two rfl (.tmp 24) (.tmp 26) 116 118 9 88 _ rfl Tryd.underlying116 lab_info rfl (by decide) (by decide) (w.heap.size + 3) (fun g => w.heap.size + 3 ≤ g ∧ some g ≠ u6.ownBlock) v1 _ rfl (w3.heap.size + 1) rfl ((own1.alloc _).alloc _) (labCells bq (.slice A3 q.kids.length c3)).toList (encL rs q) (BlkIs.fresh1 _ _ _ _) rfl (by simp [labCells, Value.oneCell']) (((HP3.out.imp (fun g hg _ => ⟨⟨by omega, HN2.out g hg⟩, HN1.out g hg⟩)).alloc _).alloc _) hl1 (by simp; omega) ?_); intro v1' w5 own5 hb5 hk5 hv5; obtain ⟨A5, c5, rfl, _⟩ := own5.rep.len; obtain ⟨L5, hL5⟩ : ∃ L, Hid (((ts.take k).map (encL rs) ++ [encL rs q]).length = L) := ⟨_, Lib.hid rfl⟩; rw [hL5.out] at own5 hv5 ⊢; have z5 : w3.heap.size + 2 ≤ w5.heap.size := (by have := hb5.size; simp at this; omega); have bx5 : BlkIs w5 (w.heap.size + 1 + 1) 118 (labCells zeroB v1) := (hb5.block _ (by omega)).trans ((bx3.alloc _).alloc _); have kx5 : BlkIs w5 w.heap.size 64 #[.int .i64 op, .int .i64 nt, .slice (some ⟨g, off, none⟩) n c] := (hb5.block _ (by omega)).trans ((kx3.alloc _).alloc _); have zx5 : BlkIs w5 (w.heap.size + 1) 118 Z := (hb5.block _ (by omega)).trans ((zx3.alloc _).alloc _); have y5 : BlkIs w5 w3.heap.size 118 (labCells bq (.slice A3 q.kids.length c3)) := (hk5 _ (HN1.out _ hle3) (by simp; omega)).trans ((BlkIs.fresh _ _ _).alloc _); have own6 := Own.other ((own2.alloc _).alloc _) H21.out hk5 hv5; have hf5 := bx5.frozen 8; have hx5 : w5.cell? ⟨w.heap.size + 1 + 1, 8, none⟩ = some v1 := bx5.cell 8; have hlt5 : w.heap.size + 1 + 1 < w5.heap.size := (by omega); obtain ⟨d0, d1, d2, d3, d4, d5, d6, d7⟩ := lab8 y5; have hlt6 : w3.heap.size < w5.heap.size := (by omega); have hb6 : Below w.heap.size w w5 := ((hb4.alloc (by omega) _).alloc (by simp; omega) _).trans (hb5.mono (by omega)); have own7 := fun u => Own.far (w' := w5.setCell ⟨w.heap.size + 1 + 1, 8, none⟩ u) own6 (fun g h => h.1) (fun g hg _ => heap_setCell_other _ _ _ _ (by show g ≠ w.heap.size + 1 + 1; omega)); have own8 := fun u => Own.far (w' := w5.setCell ⟨w.heap.size + 1 + 1, 8, none⟩ u) own5 (fun g h => h.1) (fun g hg _ => heap_setCell_other _ _ _ _ (by show g ≠ w.heap.size + 1 + 1; omega))) | (at_builtin; go_must (refine append_two rfl (.tmp 29) (.tmp 32) 155 74 8 64 _ rfl Tryd.underlying155 least_info3 rfl (by decide) (by decide) (w.heap.size + 3) (fun g => w.heap.size + 3 ≤ g ∧ some g ≠ Value.ownBlock (.slice A5 L5 c5)) u6 _ rfl w5.heap.size rfl ((own7 _).alloc _) (bestCells bq).toList (encB bq) (BlkIs.fresh_at (by simp)) rfl (by simp [bestCells, Value.oneCell']) (rep_best bq) hl2 (by simp; omega) ?_); intro v2' w7 own9 hb7 hk7 hv7))
      go_roundw
      case rel =>
        refine ⟨k + 1, .slice A5 L5 c5, by omega, by go_num, ?_, ?_, ?_, ?_, ?_, ?_⟩
        · exact ((hb6.setCell (by show w.heap.size ≤ w.heap.size + 1 + 1; omega) _).alloc (by simp; omega) _).trans (hb7.mono (by omega))
        · exact (hb7.block _ (by omega)).trans ((kx5.far (by show w.heap.size ≠ w.heap.size + 1 + 1; omega) _).alloc _)
        · exact (hb7.block _ (by omega)).trans ((zx5.far (by show w.heap.size + 1 ≠ w.heap.size + 1 + 1; omega) _).alloc _)
        · exact (hb7.block _ (by omega)).trans ((bx5.put 8 _).alloc _)
        · rw [hts1.out]
          exact Own.other ((own8 _).alloc _) (own5.apart own6 (by decide)) hk7 hv7
        · rw [hts2.out]
          show Own _ _ _ _ _ _ (_ ++ [encB (labB rs q)])
          rw [hbq.out]
          exact own9
      case measure => simp [intOf]; omega
    · obtain rfl : k = n := by omega
      have h1 : ts.take k = ts := List.take_of_length_le (by rw [← hts.out, hn.out]; omega)
      rw [h1] at hown1 hown2
      have hlk : ts.length = k := by rw [← hts.out]; exact hn.out
      obtain ⟨A5, c5, rfl, _⟩ := hown1.rep.len
      obtain ⟨A6, c6, rfl, _⟩ := hown2.rep.len
      have HO1 := Lib.hid hown1
      have HO2 := Lib.hid hown2
      clear hown1 hown2
      simp only [List.length_map, hlk] at HO1 HO2 bx
      rw [List.length_map, hlk]
      have s0 : wo.cell? ⟨w.heap.size, 0, none⟩ = some (.int .i64 op) := kx.cell 0
      have s1 : wo.cell? ⟨w.heap.size, 1, none⟩ = some (.int .i64 nt) := kx.cell 1
      have s2 : wo.cell? ⟨w.heap.size, 2, none⟩ = some (.slice A k c) := kx.cell 2
      go_wp2_with fail
      have hof2 := HOF.out
      rw [hop.out, hnt.out, hn.out, hrn.out, hts.out] at hof2
      refine (hof2 A A6 c c6 _ (HR.out.below hb) _ HO2.out.rep).mono ?_
      rintro e w3 ⟨rfl, hb3⟩
      have hb3z := hb3.size
      have hltx : w.heap.size + 1 + 1 < wo.heap.size := bx.lt
      have hb4 : Below w.heap.size w w3 := hb.trans (hb3.mono hbz)
      have zx3 := zx.below hb3 zx.lt
      have bx3 := bx.below hb3 bx.lt
      obtain ⟨bT, hbT⟩ : ∃ x, Hid (labB rs t = x) := ⟨_, Lib.hid rfl⟩
      rw [hbT.out]
      unfold bestCells
      have hlt3 : w.heap.size + 1 + 1 < w3.heap.size := by omega
      have hlt4 : w.heap.size + 1 < w3.heap.size := by omega
      have HO3 := Lib.hid (HO1.out.below hb3)
      have f : ∀ i, w3.frozen? ⟨w.heap.size + 1 + 1, i, none⟩ = false := fun i => bx3.frozen i
      have f2 : ∀ i, w3.frozen? ⟨w.heap.size + 1, i, none⟩ = false := fun i => zx3.frozen i
      obtain ⟨d0, d1, d2, d3, d4, d5, d6, d7⟩ := lab8 bx3
      have d8 : w3.cell? ⟨w.heap.size + 1 + 1, 8, none⟩ = some (.slice A5 k c5) := bx3.cell 8
      rw [← hZ.out] at zx3
      obtain ⟨g0, g1, g2, g3, g4, g5, g6, g7⟩ := lab8 zx3
      have g8 : w3.cell? ⟨w.heap.size + 1, 8, none⟩ = some (.slice none 0 0) := zx3.cell 8
      clear s0 s1 s2 kx bx zx hof2
      go_wp2_with fail
      have hsz : (Tryd.prog.info? 118).map (·.size) = some (labCells bT (.slice A5 k c5)).size := by kernel_rfl
      refine bodyPost_ret (v := .agg (labCells bT (.slice A5 k c5))) (results_cell_row Tryd.results70 _ _ (w.heap.size + 1) 118 (labCells bT (.slice A5 k c5)) (0, 0) _ rfl (by have h := (((((((((((((((((zx3.far (p := ⟨w.heap.size + 1 + 1, 0, none⟩) (by simp) (.int .i64 bT.c0)).far (p := ⟨w.heap.size + 1 + 1, 1, none⟩) (by simp) (.int .i64 bT.c1)).far (p := ⟨w.heap.size + 1 + 1, 2, none⟩) (by simp) (.int .i64 bT.c2)).far (p := ⟨w.heap.size + 1 + 1, 3, none⟩) (by simp) (.int .i64 bT.c3)).far (p := ⟨w.heap.size + 1 + 1, 4, none⟩) (by simp) (.int .i64 bT.r0)).far (p := ⟨w.heap.size + 1 + 1, 5, none⟩) (by simp) (.int .i64 bT.r1)).far (p := ⟨w.heap.size + 1 + 1, 6, none⟩) (by simp) (.int .i64 bT.r2)).far (p := ⟨w.heap.size + 1 + 1, 7, none⟩) (by simp) (.int .i64 bT.r3)).put 0 (.int .i64 bT.c0)).put 1 (.int .i64 bT.c1)).put 2 (.int .i64 bT.c2)).put 3 (.int .i64 bT.c3)).put 4 (.int .i64 bT.r0)).put 5 (.int .i64 bT.r1)).put 6 (.int .i64 bT.r2)).put 7 (.int .i64 bT.r3)).put 8 (.slice A5 k c5)); rw [lab_set] at h; exact h) Tryd.underlying118 rfl hsz) rfl ?_
      refine ⟨A5, c5, by rw [hbT.out, hn.out], ?_, ?_⟩
      · refine rep_lab_mk ?_
        rw [hn.out, hts.out]
        refine Rep.imp (ok := fun g => w.heap.size + 3 ≤ g) ?_ (fun g hg _ => by omega)
        iterate 17 refine Rep.setCell ?_ (fun g hg => by simp; omega)
        exact Rep.imp HO3.out.rep (fun g hg _ => by omega)
      · iterate 17 refine Below.setCell ?_ (by simp; try omega) _
        exact hb4

end

/- Labels, any tree. -/
section
theorem labels_any (rs : List Rule) (hrs : RulesFit rs) : ∀ t : Pat, treeOk t = true → patN t ≤ 200 → LabelsOk rs t
  | .mk op nt kids, h, hN => labels_of rs hrs _ h hN fun i hi => labels_any rs hrs kids[i]
      (by rw [treeOk_eq, Bool.and_eq_true] at h; exact (treesOk_iff _).1 h.2 i hi)
      (by
        rw [patN_eq] at hN
        have := patsN_take kids i hi
        have := patsN_take_le kids (i + 1)
        simp only [Pat.kids] at hN
        omega)
termination_by t => SizeOf.sizeOf t
decreasing_by
  have := List.sizeOf_lt_of_mem (List.getElem_mem hi)
  simp only [Pat.kids] at this
  simp only [Pat.mk.sizeOf_spec]
  omega

end

/- The reference's All walked. -/
section
open Go.RowKit

theorem lab_field (b : Best) (v : Value) (w : World) : Sem.run Tryd.prog (Instr.field 118 (.agg (labCells b v)) 0) w = .ok (.agg (bestCells b)) w := by
  kernel_rfl

set_option maxRecDepth 100000 in
theorem allR_any (rs : List Rule) (hrs : RulesFit rs) (t : Pat) (ht : treeOk t = true) (hN : patN t ≤ 200) (A A2 : Option Addr) (c c2 : Nat) (w : World) (hr : RulesIn w A2 c2 rs) (hp : PatIn w A c t) :
    Calls Tryd.prog 33 #[.slice A2 rs.length c2, .agg #[.int .i64 t.op, .int .i64 t.nt, .slice A t.kids.length c]] w
      fun e w' => e = .returned (.agg (bestCells (labB rs t))) ∧ Below w.heap.size w w' := by
  have hcall := fun W => labels_any rs hrs t ht hN A A2 c c2 W
  have HR := Lib.hid hr
  have HP := Lib.hid hp
  obtain ⟨b, hb⟩ : ∃ x, Hid (labB rs t = x) := ⟨_, Lib.hid rfl⟩
  rw [hb.out]
  clear hr hp hrs ht hN
  go_enter Tryd.func33, Tryd.ntmps33
  go_wp2_with fail
  refine (hcall _ ((HR.out.below (below_alloc _ _)).below (below_alloc _ _)) ((HP.out.below (below_alloc _ _)).below (below_alloc _ _))).mono ?_
  rintro e w3 ⟨A3, c3, rfl, _, hb3⟩
  rw [hb.out]
  unfold labCells
  obtain ⟨hc, hf⟩ := bcell hb3
  have hz3 : w.heap.size + 1 < w3.heap.size := by have := hb3.size; simp at this; omega
  have hfield := lab_field b (.slice A3 t.kids.length c3) w3
  unfold labCells at hfield
  obtain ⟨BC, hBC⟩ : ∃ K, Hid (bestCells b = K) := ⟨_, Lib.hid rfl⟩
  have hBs : BC.size = 8 := by rw [← hBC.out]; rfl
  have hB1 : BC.all (·.oneCell') = true := by rw [← hBC.out]; simp [bestCells, Value.oneCell']
  have hib : (Tryd.prog.info? 74).map (·.size) = some BC.size := by rw [hBs]; exact least_info
  have zx : BlkIs w3 (w.heap.size + 1) 74 (bestCells zeroB) := (hb3.block _ (by simp)).trans (BlkIs.fresh1 _ _ _ _)
  have hZs : (bestCells zeroB).size = BC.size := by rw [hBs]; rfl
  rw [hBC.out] at hfield
  have hbw : Below w.heap.size w w3 := ((below_alloc _ _).trans ((below_alloc _ _).mono (by simp))).trans (hb3.mono (by simp; omega))
  clear hcall hc hf
  go_wp2_with (refine wpList_store_row rfl 74 (.tmp 4) (.tmp 8) rfl (w.heap.size + 1) BC rfl rfl 74 (bestCells zeroB) zx hib hZs hB1 ?_)
  refine bodyPost_ret (v := .agg BC) (results_cell_row Tryd.results33 _ _ (w.heap.size + 1) 74 BC (0, 0) _ rfl (setRow_heap _ _ _ _ _ _ zx) Tryd.underlying74 rfl hib) rfl ?_
  exact ⟨by rw [← hBC.out], below_setRow hbw (by omega) _⟩

end

/- Covers as data, and the cover that a tree's labels tell. -/
section
open Go.RowKit

inductive Cov where
  | mk (rule : Int) (kids : List Cov)
def Cov.rule : Cov → Int
  | .mk r _ => r
def Cov.kids : Cov → List Cov
  | .mk _ ks => ks

def encC : Cov → D
  | .mk r ks => .st [.int .i64 r, .lst 2 (encCs ks)]
where encCs : List Cov → List D
  | [] => []
  | c :: cs => encC c :: encCs cs

theorem encCs_map : ∀ cs : List Cov, encC.encCs cs = cs.map encC
  | [] => rfl
  | c :: cs => by unfold encC.encCs; rw [encCs_map cs]; rfl

/-- the cover that is told by labels -/
inductive IsCov (rs : List Rule) : Pat → Nat → Cov → Prop
  | chain (t : Pat) (nt a : Nat) (h : a < rs.length) (m : Nat) (c : Cov) (hr : (labB rs t).rule nt = a) (h0 : rs[a].pat.op = 0) (hm : rs[a].pat.nt = m) (hm4 : m < 4) (hc : IsCov rs t m c) : IsCov rs t nt (.mk a [c])
  | op (t : Pat) (nt a : Nat) (h : a < rs.length) (cs : List Cov) (hr : (labB rs t).rule nt = a) (h0 : rs[a].pat.op ≠ 0) (hl : cs.length = rs[a].pat.kids.length) (ht : cs.length = t.kids.length)
      (m : Nat → Nat) (hm : ∀ (i : Nat) (h2 : i < rs[a].pat.kids.length), rs[a].pat.kids[i].nt = m i ∧ m i < 4)
      (hc : ∀ (i : Nat) (h1 : i < cs.length) (h3 : i < t.kids.length), IsCov rs t.kids[i] (m i) cs[i]) : IsCov rs t nt (.mk a cs)

theorem labB_low {rs : List Rule} (hrs : RulesFlat rs) (t : Pat) (ht : treeOk t = true) : ∀ n, -1 ≤ (labB rs t).cost n := fun n => ((labB_in hrs t ht).1 n).1

theorem kid_ok {t : Pat} (ht : treeOk t = true) (i : Nat) (h : i < t.kids.length) : treeOk t.kids[i] = true := by
  rw [treeOk_eq, Bool.and_eq_true] at ht
  exact (treesOk_iff _).1 ht.2 i h

theorem kc_at {rs : List Rule} (t : Pat) (i n : Nat) (hi : i < t.kids.length) (h2 : i < 2) : (nodeKey t (labBs rs t.kids)).kc i n = (labB rs t.kids[i]).cost n := by
  have e : (labBs rs t.kids).getD i zeroB = labB rs t.kids[i] := by rw [labBs_map]; simp [List.getD, hi]
  have h : i = 0 ∨ i = 1 := by omega
  unfold nodeKey Key.kc
  rcases h with rfl | rfl
  · show ((labBs rs t.kids).getD 0 zeroB).cost n = _; rw [e]
  · show ((labBs rs t.kids).getD 1 zeroB).cost n = _; rw [e]

theorem kc_low' {rs : List Rule} (hrs : RulesFlat rs) (t : Pat) (ht : treeOk t = true) : ∀ i n, -1 ≤ (nodeKey t (labBs rs t.kids)).kc i n := by
  intro i n
  have key : ∀ j, -1 ≤ ((labBs rs t.kids).getD j zeroB).cost n := fun j => by
    by_cases hj : j < t.kids.length
    · rw [labBs_map, show (t.kids.map (labB rs)).getD j zeroB = labB rs t.kids[j] by simp [List.getD, hj]]
      exact labB_low hrs _ (kid_ok ht j hj) n
    · rw [labBs_map, show (t.kids.map (labB rs)).getD j zeroB = zeroB by simp [List.getD, List.getElem?_eq_none (Nat.le_of_not_lt hj)]]
      exact ((zeroB_in rs).1 n).1
  match i with
  | 0 => exact key 0
  | i + 1 => exact key 1

theorem labB_fix {rs : List Rule} (hrs : RulesFlat rs) (t : Pat) (ht : treeOk t = true) : Fix rs t.op (smallT t.op t.nt) (nodeKey t (labBs rs t.kids)).kc (labB rs t) := by
  rw [labB_eq]
  exact turns_fix (fun r hr => (hrs.2 r hr).2.1) (fun r hr => (hrs.2 r hr).2.2) (fun r hr => (hrs.2 r hr).1.2.2.1) (kc_low' hrs t ht)

theorem kidsSum_some : ∀ (ps : List Pat) (i : Nat) (kc : Nat → Nat → Int) (s : Int), kidsSum ps i kc = some s → ∀ j (h : j < ps.length), kc (i + j) ps[j].nt.toNat ≠ -1
  | [], _, _, _, _, j, h => absurd h (by simp)
  | p :: ps, i, kc, s, h, j, hj => by
    simp only [kidsSum] at h
    split at h
    · cases h
    · rename_i hne
      cases hs : kidsSum ps (i + 1) kc with
      | none => rw [hs] at h; cases h
      | some d =>
        cases j with
        | zero => simpa using hne
        | succ j =>
          have := kidsSum_some ps (i + 1) kc d hs j (by simpa using hj)
          rw [List.getElem_cons_succ, show i + (j + 1) = i + 1 + j by omega]
          exact this

theorem exists_covs {Q : Nat → Cov → Prop} : ∀ n : Nat, (∀ i, i < n → ∃ d, Q i d) → ∃ ds : List Cov, ds.length = n ∧ ∀ i (h : i < ds.length), Q i ds[i]
  | 0, _ => ⟨[], rfl, fun i h => absurd h (by simp)⟩
  | n + 1, h => by
    obtain ⟨ds, h1, h2⟩ := exists_covs n fun i hi => h i (by omega)
    obtain ⟨d, hd⟩ := h n (by omega)
    refine ⟨ds ++ [d], by simp [h1], fun i hi => ?_⟩
    by_cases hin : i < ds.length
    · rw [List.getElem_append_left hin]; exact h2 i hin
    · have : i = n := by simp at hi; omega
      subst this
      rw [List.getElem_append_right (by omega)]
      simpa [h1] using hd

theorem kids_arity {t : Pat} (ht : treeOk t = true) : (t.kids.length : Int) = arityOf t.op ∧ t.op ≠ 0 := by
  rw [treeOk_eq, Bool.and_eq_true] at ht
  have h1 := ht.1
  unfold topOk isOp at h1
  simp only [Bool.and_eq_true, decide_eq_true_eq] at h1
  exact ⟨h1.2.1, by omega⟩

/-- what has a cost has a cover -/
theorem isCov_step {rs : List Rule} (hrs : RulesFit rs) (t : Pat) (ht : treeOk t = true) (ih : ∀ i (h : i < t.kids.length) n, n < 4 → 0 ≤ (labB rs t.kids[i]).cost n → ∃ c, IsCov rs t.kids[i] n c)
    (nt : Nat) (hnt : nt < 4) (hc : ∀ m, (nt = 1 ∧ m = 2 ∨ nt = 0 ∧ m = 1 ∨ nt = 3 ∧ m = 0) → 0 ≤ (labB rs t).cost m → ∃ c, IsCov rs t m c) (h0 : 0 ≤ (labB rs t).cost nt) : ∃ c, IsCov rs t nt c := by
  rcases labB_fix hrs.1 t ht nt hnt with ⟨h1, _, _⟩ | ⟨i, hi, h1, h2, h3, _⟩
  · omega
  · have hri := hrs.1.2 _ (List.getElem_mem hi)
    have hrf := hrs.2 _ (List.getElem_mem hi)
    unfold ruleCost at h3
    by_cases hop : rs[i].pat.op = 0
    · rw [if_pos hop] at h3
      split at h3
      · cases h3
      · rename_i hne
        have hlow := labB_low hrs.1 t ht rs[i].pat.nt.toNat
        have hm := hri.1.1 hop
        obtain ⟨c, hcc⟩ := hc rs[i].pat.nt.toNat (by rcases hri.2.1 hop with h | h | h <;> omega) (by omega)
        exact ⟨_, IsCov.chain t nt i hi rs[i].pat.nt.toNat c h1 hop (by omega) (by omega) hcc⟩
    · rw [if_neg hop] at h3
      split at h3
      · cases h3
      · rename_i hne
        have hopt : rs[i].pat.op = t.op := by
          apply Classical.byContradiction
          intro h; exact hne (Or.inl h)
        have hl := hrf.2 hop
        have hta := kids_arity ht
        rw [hopt, ← hta.1] at hl
        cases hs : kidsSum rs[i].pat.kids 0 (nodeKey t (labBs rs t.kids)).kc with
        | none => rw [hs] at h3; cases h3
        | some s =>
          have hk := kidsSum_some _ _ _ _ hs
          have hflat := hri.1.2.1
          have h2' := hflat.1
          obtain ⟨cs, hcl, hcs⟩ := exists_covs (Q := fun j c => ∀ (h : j < t.kids.length) (h' : j < rs[i].pat.kids.length), IsCov rs t.kids[j] rs[i].pat.kids[j].nt.toNat c) t.kids.length (fun j hj => by
            have hj' : j < rs[i].pat.kids.length := by omega
            have hne := hk j hj'
            rw [Nat.zero_add, kc_at t j _ hj (by omega)] at hne
            have := labB_low hrs.1 _ (kid_ok ht j hj) rs[i].pat.kids[j].nt.toNat
            have hn4 := hflat.2 _ (List.getElem_mem hj')
            obtain ⟨c, hcv⟩ := ih j hj rs[i].pat.kids[j].nt.toNat (by omega) (by omega)
            exact ⟨c, fun _ _ => hcv⟩)
          refine ⟨_, IsCov.op t nt i hi cs h1 hop (by omega) hcl (fun j => (rs[i].pat.kids.getD j (.mk 0 0 [])).nt.toNat) (fun j hj => ?_) (fun j hj1 hj3 => ?_)⟩
          · have hn4 := hflat.2 _ (List.getElem_mem hj)
            simp only [List.getD, List.getElem?_eq_getElem hj, Option.getD_some]
            omega
          · have hj' : j < rs[i].pat.kids.length := by omega
            have := hcs j hj1 hj3 hj'
            simpa only [List.getD, List.getElem?_eq_getElem hj', Option.getD_some] using this

theorem isCov_ex {rs : List Rule} (hrs : RulesFit rs) : ∀ t : Pat, treeOk t = true → ∀ nt, nt < 4 → 0 ≤ (labB rs t).cost nt → ∃ c, IsCov rs t nt c
  | .mk op n ks, ht => by
    have ih : ∀ i (h : i < (Pat.mk op n ks).kids.length) m, m < 4 → 0 ≤ (labB rs (Pat.mk op n ks).kids[i]).cost m → ∃ c, IsCov rs (Pat.mk op n ks).kids[i] m c :=
      fun i h m hm h0 => isCov_ex hrs ks[i] (kid_ok ht i h) m hm h0
    have s2 := isCov_step hrs _ ht ih 2 (by omega) (fun m h => by omega)
    have s1 := isCov_step hrs _ ht ih 1 (by omega) (fun m h => by obtain rfl : m = 2 := (by omega); exact s2)
    have s0 := isCov_step hrs _ ht ih 0 (by omega) (fun m h => by obtain rfl : m = 1 := (by omega); exact s1)
    have s3 := isCov_step hrs _ ht ih 3 (by omega) (fun m h => by obtain rfl : m = 0 := (by omega); exact s0)
    intro nt hnt h0
    rcases nt4 hnt with rfl | rfl | rfl | rfl
    · exact s0 h0
    · exact s1 h0
    · exact s2 h0
    · exact s3 h0
termination_by t => SizeOf.sizeOf t
decreasing_by
  have := List.sizeOf_lt_of_mem (List.getElem_mem h)
  simp only [Pat.kids] at this
  simp only [Pat.mk.sizeOf_spec]
  omega

end

/- What a cover costs, in plain words; none is cheaper than the cheapest. -/
section
def tsOf (r : Rule) (t : Pat) : List Pat := if r.pat.op = 0 then [t] else t.kids
def psOf (r : Rule) : List Pat := if r.pat.op = 0 then [r.pat] else r.pat.kids
def asksBad (r : Rule) (t : Pat) (nt : Int) (n : Nat) : Prop := r.nt ≠ nt ∨ (r.pat.op ≠ 0 ∧ (r.pat.op ≠ t.op ∨ (r.nt = 2 ∧ smallT t.op t.nt = false))) ∨ n ≠ (psOf r).length
instance (r : Rule) (t : Pat) (nt : Int) (n : Nat) : Decidable (asksBad r t nt n) := by unfold asksBad; infer_instance

mutual
/-- what a cover of a tree as a nonterminal costs; none: it is none -/
def covCost (rs : List Rule) : Cov → Pat → Int → Option Int
  | .mk r ks, t, nt =>
    match (if 0 ≤ r then rs[r.toNat]? else none) with
    | none => none
    | some R => if asksBad R t nt ks.length then none else covsCost rs ks (tsOf R t) (psOf R) R.cost
def covsCost (rs : List Rule) : List Cov → List Pat → List Pat → Int → Option Int
  | [], _, _, s => some s
  | c :: cs, ts, ps, s =>
    match ts, ps with
    | t :: ts, p :: ps =>
      match covCost rs c t p.nt with
      | none => none
      | some n => covsCost rs cs ts ps (s + n)
    | _, _ => none
end

mutual
def covN : Cov → Nat
  | .mk _ ks => 1 + covsN ks
def covsN : List Cov → Nat
  | [] => 0
  | c :: cs => covN c + covsN cs
end
theorem covN_eq (c : Cov) : covN c = 1 + covsN c.kids := by cases c; unfold covN; rfl
theorem covN_pos (c : Cov) : 1 ≤ covN c := by rw [covN_eq]; omega
theorem covsN_append (a b : List Cov) : covsN (a ++ b) = covsN a + covsN b := by
  induction a with
  | nil => simp [covsN]
  | cons c cs ih => simp only [List.cons_append, covsN, ih]; omega
theorem covsN_take (cs : List Cov) (k : Nat) (h : k < cs.length) : covsN (cs.take (k + 1)) = covsN (cs.take k) + covN cs[k] := by
  rw [List.take_succ_eq_append_getElem h, covsN_append]; simp [covsN]
theorem covsN_take_le (cs : List Cov) (k : Nat) : covsN (cs.take k) ≤ covsN cs := by
  have h := covsN_append (cs.take k) (cs.drop k)
  rw [List.take_append_drop] at h; omega
theorem covsN_mem (cs : List Cov) (k : Nat) (h : k < cs.length) : covN cs[k] ≤ covsN cs := by
  have := covsN_take cs k h; have := covsN_take_le cs (k + 1); omega

theorem covCost_eq (rs : List Rule) (c : Cov) (t : Pat) (nt : Int) : covCost rs c t nt = match (if 0 ≤ c.rule then rs[c.rule.toNat]? else none) with
    | none => none
    | some R => if asksBad R t nt c.kids.length then none else covsCost rs c.kids (tsOf R t) (psOf R) R.cost := by
  cases c; unfold covCost; rfl

theorem covsCost_take (rs : List Rule) : ∀ (cs : List Cov) (ts ps : List Pat) (k : Nat) (hk : k < cs.length) (ht : k < ts.length) (hp : k < ps.length) (s m : Int), covsCost rs (cs.take k) ts ps s = some m →
    covsCost rs (cs.take (k + 1)) ts ps s = (covCost rs cs[k] ts[k] ps[k].nt).map (m + ·)
  | c :: cs, t :: ts, p :: ps, 0, _, _, _, s, m, h => by
    simp only [List.take_zero, covsCost, Option.some.injEq] at h
    subst h
    simp only [List.take_succ_cons, List.take_zero, covsCost, List.getElem_cons_zero]
    cases covCost rs c t p.nt <;> simp
  | c :: cs, t :: ts, p :: ps, k + 1, hk, ht, hp, s, m, h => by
    simp only [List.take_succ_cons, covsCost] at h ⊢
    cases hc : covCost rs c t p.nt with
    | none => rw [hc] at h; cases h
    | some n =>
      rw [hc] at h
      simp only at h ⊢
      rw [covsCost_take rs cs ts ps k (by simpa using hk) (by simpa using ht) (by simpa using hp) _ m h]
      simp only [List.getElem_cons_succ]

theorem covsCost_none (rs : List Rule) : ∀ (cs : List Cov) (ts ps : List Pat) (k : Nat) (s : Int), covsCost rs (cs.take k) ts ps s = none → covsCost rs cs ts ps s = none
  | [], _, _, _, _, h => by simpa using h
  | c :: cs, ts, ps, 0, s, h => by simp [covsCost] at h
  | c :: cs, [], ps, k + 1, s, h => by simp [covsCost]
  | c :: cs, t :: ts, [], k + 1, s, h => by simp [covsCost]
  | c :: cs, t :: ts, p :: ps, k + 1, s, h => by
    simp only [List.take_succ_cons, covsCost] at h ⊢
    cases hc : covCost rs c t p.nt with
    | none => rfl
    | some n =>
      rw [hc] at h
      simp only at h ⊢
      exact covsCost_none rs cs ts ps k _ h

def CostsIn (rs : List Rule) : Prop := ∀ r ∈ rs, 0 ≤ r.cost ∧ r.cost ≤ 65535

mutual
theorem covCost_in {rs : List Rule} (hrs : CostsIn rs) : ∀ (c : Cov) (t : Pat) (nt n : Int), covCost rs c t nt = some n → 0 ≤ n ∧ n ≤ 65535 * (covN c : Int)
  | .mk r ks, t, nt, n, h => by
    unfold covCost at h
    split at h
    · cases h
    · rename_i R hR
      split at h
      · cases h
      · have hm : R ∈ rs := by
          split at hR
          · exact List.mem_of_getElem? hR
          · cases hR
        have h1 := hrs R hm
        have := covsCost_in hrs ks _ _ _ n h h1.1
        unfold covN
        omega
theorem covsCost_in {rs : List Rule} (hrs : CostsIn rs) : ∀ (cs : List Cov) (ts ps : List Pat) (s n : Int), covsCost rs cs ts ps s = some n → 0 ≤ s → s ≤ n ∧ n ≤ s + 65535 * (covsN cs : Int)
  | [], _, _, s, n, h, _ => by unfold covsCost at h; unfold covsN; injection h with h; omega
  | c :: cs, ts, ps, s, n, h, hs => by
    unfold covsCost at h
    split at h
    · rename_i t ts p ps
      split at h
      · cases h
      · rename_i m hm
        have h1 := covCost_in hrs c _ _ m hm
        have h2 := covsCost_in hrs cs _ _ _ n h (by omega)
        unfold covsN
        omega
    · cases h
end

mutual
/-- none is cheaper than the cheapest -/
theorem covCost_ge {rs : List Rule} (hrs : RulesFit rs) : ∀ (c : Cov) (t : Pat) (_ : treeOk t = true) (nt : Nat) (_ : nt < 4) (n : Int), covCost rs c t nt = some n → (labB rs t).cost nt ≠ -1 ∧ (labB rs t).cost nt ≤ n
  | .mk r ks, t, ht, nt, hnt, n, h => by
    unfold covCost at h
    split at h
    · cases h
    · rename_i R hR
      split at h
      · cases h
      · rename_i hbad
        unfold asksBad at hbad
        obtain ⟨hn, h2⟩ := not_or.1 hbad
        obtain ⟨h2, h3⟩ := not_or.1 h2
        have hn : R.nt = nt := Classical.byContradiction hn
        have h3 : ks.length = (psOf R).length := Classical.byContradiction h3
        obtain ⟨a, ha, hRa⟩ : ∃ a, ∃ h : a < rs.length, rs[a] = R := by
          split at hR
          · obtain ⟨h1, h2⟩ := List.getElem?_eq_some_iff.1 hR
            exact ⟨_, h1, h2⟩
          · cases hR
        have hm : R ∈ rs := hRa ▸ List.getElem_mem ha
        have hflat := (hrs.1.2 R hm).1
        have key : ∃ k, ruleCost R t.op (smallT t.op t.nt) (nodeKey t (labBs rs t.kids)).kc (labB rs t).cost = some k ∧ k ≤ n := by
          unfold ruleCost
          by_cases hop : R.pat.op = 0
          · rw [if_pos hop]
            unfold tsOf psOf at h
            unfold psOf at h3
            rw [if_pos hop] at h h3
            rw [if_pos hop] at h
            have hnt4 := hflat.1 hop
            have := covsCost_ge hrs ks [t] [R.pat] (fun x hx => by simp at hx; rw [hx]; exact ht) (fun p hp => by simp at hp; rw [hp]; exact hnt4) R.cost n h (by simpa using h3) 0 (fun i m => (labB rs t).cost m) (fun i hi m => by
              obtain rfl : i = 0 := by simpa using hi
              rfl)
            obtain ⟨k, hk, hkn⟩ := this
            simp only [kidsSum] at hk
            split at hk
            · cases hk
            · rename_i hne
              rw [if_neg hne]
              simp at hk
              exact ⟨_, rfl, by omega⟩
          · rw [if_neg hop]
            have h4 : ¬(R.pat.op ≠ t.op ∨ (R.nt = 2 ∧ smallT t.op t.nt = false)) := fun hh => h2 ⟨hop, hh⟩
            rw [if_neg h4]
            unfold tsOf psOf at h
            unfold psOf at h3
            rw [if_neg hop] at h h3
            rw [if_neg hop] at h
            have h2' := hflat.2.1.1
            have := covsCost_ge hrs ks t.kids R.pat.kids (fun x hx => by
              obtain ⟨i, hi, rfl⟩ := List.getElem_of_mem hx
              exact kid_ok ht i hi) hflat.2.1.2 R.cost n h h3 0 (nodeKey t (labBs rs t.kids)).kc (fun i hi m => by
                rw [Nat.zero_add, kc_at t i m hi (by have := kids_two ht; omega)])
            obtain ⟨k, hk, hkn⟩ := this
            rw [hk]
            exact ⟨k + R.cost, rfl, by omega⟩
        obtain ⟨k, hk, hkn⟩ := key
        rcases labB_fix hrs.1 t ht nt hnt with ⟨_, _, h3⟩ | ⟨i, hi, h1, h2, h3, h4⟩
        · have := h3 a ha (by rw [hRa]; exact hn)
          rw [hRa, hk] at this; cases this
        · have h5 := h4 a ha k (by rw [hRa]; exact hn) (by rw [hRa]; exact hk)
          have hlow : 0 ≤ (labB rs t).cost nt := by
            have := costsOk_of (op := t.op) (sm := smallT t.op t.nt) (fun r hr => (hrs.1.2 r hr).1.2.2.1) (kc_low' hrs.1 t ht) (labB_low hrs.1 t ht) i hi _ h3
            exact this
          exact ⟨by omega, by omega⟩
theorem covsCost_ge {rs : List Rule} (hrs : RulesFit rs) : ∀ (cs : List Cov) (ts ps : List Pat) (_ : ∀ x ∈ ts, treeOk x = true) (_ : ∀ p ∈ ps, 0 ≤ p.nt ∧ p.nt ≤ 3) (s n : Int), covsCost rs cs ts ps s = some n → cs.length = ps.length → ∀ (i : Nat) (kc : Nat → Nat → Int),
    (∀ j (h : j < ts.length) m, kc (i + j) m = (labB rs ts[j]).cost m) → ∃ k, kidsSum ps i kc = some k ∧ s + k ≤ n
  | [], _, ps, _, _, s, n, h, hl, i, kc, _ => by
    unfold covsCost at h
    injection h with h
    have : ps = [] := List.eq_nil_of_length_eq_zero (by simpa using hl.symm)
    subst this
    exact ⟨0, rfl, by omega⟩
  | c :: cs, ts, ps, hts, hps, s, n, h, hl, i, kc, hkc => by
    unfold covsCost at h
    split at h
    · rename_i t ts p ps
      split at h
      · cases h
      · rename_i m hm
        have hp := hps p (by simp)
        have h1 := covCost_ge hrs c t (hts t (by simp)) p.nt.toNat (by omega) m (by rw [Int.toNat_of_nonneg hp.1]; exact hm)
        obtain ⟨k, hk, hkn⟩ := covsCost_ge hrs cs ts ps (fun x hx => hts x (by simp [hx])) (fun q hq => hps q (by simp [hq])) (s + m) n h (by simpa using hl) (i + 1) kc (fun j hj m => by
          have := hkc (j + 1) (by simpa using hj) m
          rw [List.getElem_cons_succ] at this
          rw [← this, show i + 1 + j = i + (j + 1) by omega])
        have h0 := hkc 0 (by simp) p.nt.toNat
        rw [List.getElem_cons_zero, Nat.add_zero] at h0
        simp only [kidsSum]
        rw [if_neg (by rw [h0]; exact h1.1), hk, h0]
        exact ⟨(labB rs t).cost p.nt.toNat + k, rfl, by omega⟩
    · cases h
end

end

/- The reference's covers: what they are made of, and covers walked for a chain and for an op. -/
section
open Go.RowKit

/-- append_one at an operation -/
theorem wp_append_one {P : Program} {o : Oper} {a : Act} {w : World} {K : Act → World → Prop} {Q : Exit → Act → World → Prop} (s x : Operand) (T e : TypeId) (z bytes : Nat) (zero : Value)
    (ho : o.op = .call { callee := .builtin .append, args := #[s, x], argTypes := #[T, T] })
    (hT : P.underlying T = some (.slice e)) (hi : (P.info? e).map (fun i => (i.zero, i.size, i.bytes)) = some (some zero, z, bytes)) (hzs : zero.cells.size = z) (hsz : 0 < z) (hb : bytes ≤ 1000)
    (B : Nat) (ok : Nat → Prop) (v : Value) (ds : List D) (hs : a.eval s = v) (g : Nat) (hx : a.eval x = .slice (some ⟨g, 0, none⟩) 1 1)
    (hown : Own w B ok e z v ds) (cs : List Value) (d : D) (hnew : BlkIs w g e cs.toArray) (hl : cs.length = z) (h1 : ∀ u ∈ cs, u.oneCell' = true)
    (hd : Rep w (fun k => ok k ∧ some k ≠ v.ownBlock) d cs) (hlen : ds.length ≤ 1000000000) (hB : B ≤ w.heap.size)
    (h : ∀ v' w', Own w' B ok e z v' (ds ++ [d]) → Below B w w' → (∀ k, some k ≠ v.ownBlock → k < w.heap.size → w'.heap[k]? = w.heap[k]?) → K (a.put o.dst v') w') :
    Oper.wp P o a w K Q := by
  obtain ⟨i0, hi0, hz0, hz1, hz2⟩ := info_parts hi
  obtain ⟨xs, hrow, hcells⟩ := hown
  have hmul : (ds.length + 1) * bytes ≤ 140737488355328 := by
    have := Nat.mul_le_mul (show ds.length + 1 ≤ 1000000001 by omega) hb
    omega
  obtain ⟨v', w', hrun, h2, h3, _, h5⟩ := run_append_own_at (P := P) w B T o.type e i0 zero z bytes hT hi0 hz0 hz1 hz2 hzs hsz v ds.length xs hrow ⟨g, 0, none⟩ 1 1 cs (by rw [hl]; omega) (hnew.cells (by simp)) h1 (by unfold maxLen; omega) hmul hB
  unfold Oper.wp execOp
  simp only [ho, resolve, invoke, builtin, Sem.run_bind, Sem.run_pure, Result.andThen_ok, List.map_toArray, List.map_cons, List.map_nil, hs, hx, hrun]
  have hkeep : ∀ k, some k ≠ v.ownBlock → k < w.heap.size → w'.heap[k]? = w.heap[k]? := fun k hk hlt => h3.block k hlt hk
  have hok : ∀ k, ok k ∧ some k ≠ v.ownBlock → k < w.heap.size → ok k ∧ some k ≠ v'.ownBlock := by
    intro k hk hlt
    refine ⟨hk.1, ?_⟩
    rcases h5 with h5 | h5
    · rw [h5]; exact hk.2
    · rw [h5]; intro e; injection e with e; omega
  exact h v' w' ⟨xs ++ cs, by rw [List.length_append]; exact h2, Cells.snoc hl (Rep.keep hok (fun k hk => hkeep k hk.2) d cs hd) (Cells.keep hok (fun k hk => hkeep k hk.2) hcells)⟩ ((Below.refl _ _).grown h3 hB (own_block_ge hrow)) (fun k hk hlt => h3.block k hlt hk)

theorem rep_cov_mk {w : World} {ok : Nat → Prop} {c : Cov} {v : Value} (h : Rep w ok (.lst 2 (c.kids.map encC)) [v]) : Rep w ok (encC c) [.int .i64 c.rule, v] := by
  cases c with
  | mk r ks =>
    unfold encC
    rw [encCs_map]
    unfold Rep
    simp only [RepAll, Rep]
    unfold Rep at h
    exact ⟨[_], _, rfl, rfl, [_], [], rfl, h, rfl⟩

theorem rep_lab_inv {w : World} {ok : Nat → Prop} {rs : List Rule} {t : Pat} {cs : List Value} (h : Rep w ok (encL rs t) cs) :
    ∃ (A : Option Addr) (d : Nat), cs = (labCells (labB rs t) (.slice A t.kids.length d)).toList ∧ Rep w ok (.lst 9 (t.kids.map (encL rs))) [.slice A t.kids.length d] := by
  cases t with
  | mk op nt ks =>
    unfold encL at h
    rw [encLs_map] at h
    obtain ⟨a1, r1, rfl, h1, g1⟩ := repAll_inv (rep_st_inv h)
    obtain ⟨a2, r2, rfl, h2, g2⟩ := repAll_inv g1
    obtain ⟨a3, r3, rfl, h3, g3⟩ := repAll_inv g2
    obtain ⟨a4, r4, rfl, h4, g4⟩ := repAll_inv g3
    obtain ⟨a5, r5, rfl, h5, g5⟩ := repAll_inv g4
    obtain ⟨a6, r6, rfl, h6, g6⟩ := repAll_inv g5
    obtain ⟨a7, r7, rfl, h7, g7⟩ := repAll_inv g6
    obtain ⟨a8, r8, rfl, h8, g8⟩ := repAll_inv g7
    obtain ⟨a9, r9, rfl, h9, g9⟩ := repAll_inv g8
    obtain ⟨A, d, e9, _, _, g10⟩ := rep_lst_inv h9
    rw [List.length_map] at e9 g10
    subst e9
    rw [rep_int_inv h1, rep_int_inv h2, rep_int_inv h3, rep_int_inv h4, rep_int_inv h5, rep_int_inv h6, rep_int_inv h7, rep_int_inv h8, repAll_nil g9]
    exact ⟨A, d, rfl, g10⟩

/-- the labels of a tree lie there -/
def LabIn (w : World) (rs : List Rule) (t : Pat) (A : Option Addr) (d : Nat) : Prop := ∃ ok, Rep w ok (.lst 9 (t.kids.map (encL rs))) [.slice A t.kids.length d]

theorem LabIn.below {w w' : World} {rs : List Rule} {t : Pat} {A : Option Addr} {d : Nat} (h : LabIn w rs t A d) (hb : Below w.heap.size w w') : LabIn w' rs t A d := by
  obtain ⟨ok, h⟩ := h; exact ⟨ok, h.below hb⟩
theorem LabIn.drew {w : World} {rs : List Rule} {t : Pat} {A : Option Addr} {d : Nat} (h : LabIn w rs t A d) : LabIn w.drew rs t A d := by
  obtain ⟨ok, h⟩ := h; exact ⟨ok, h.drew⟩
theorem LabIn.drewN {w : World} {rs : List Rule} {t : Pat} {A : Option Addr} {d : Nat} (h : LabIn w rs t A d) (n : Nat) : LabIn (w.drewN n) rs t A d := by
  obtain ⟨ok, h⟩ := h; exact ⟨ok, h.drewN n⟩

theorem labs_at {w : World} {rs : List Rule} {t : Pat} {A : Option Addr} {d : Nat} (h : LabIn w rs t A d) (k : Nat) (hk : k < t.kids.length) :
    ∃ (g off : Nat) (B : Option Addr) (d' : Nat), A = some ⟨g, off, none⟩ ∧ g < w.heap.size ∧ (∀ j, j < 9 → w.cell? ⟨g, off + (k * 9 + j), none⟩ = (labCells (labB rs t.kids[k]) (.slice B t.kids[k].kids.length d'))[j]?) ∧ LabIn w rs t.kids[k] B d' := by
  obtain ⟨ok, h⟩ := h
  obtain ⟨g, off, a, hA, _, hlt, _, hr, hc⟩ := h.at_ k (by simpa using hk)
  rw [List.getElem_map] at hr
  obtain ⟨B, d', rfl, hr2⟩ := rep_lab_inv hr
  exact ⟨g, off, B, d', hA, hlt, fun j hj => by rw [hc j hj]; simp, ⟨ok, hr2⟩⟩

theorem cov_info : (Tryd.prog.info? 60).map (fun i => (i.zero, i.size, i.bytes)) = some (some (.agg #[.int .i64 0, .slice none 0 0]), 2, 32) := by kernel_rfl

def CovRet (w : World) (c : Cov) (e : Ending) (w' : World) : Prop :=
  ∃ A d, e = .returned (.agg #[.int .i64 c.rule, .slice A c.kids.length d]) ∧ Rep w' (fun g => w.heap.size ≤ g) (encC c) [.int .i64 c.rule, .slice A c.kids.length d] ∧ Below w.heap.size w w'

def CoversOk (rs : List Rule) (t : Pat) (nt : Nat) (c : Cov) : Prop := ∀ (A A2 : Option Addr) (d c2 : Nat) (w : World), RulesIn w A2 c2 rs → LabIn w rs t A d →
  Calls Tryd.prog 71 #[.slice A2 rs.length c2, .agg (labCells (labB rs t) (.slice A t.kids.length d)), .int .i64 nt] w (CovRet w c)

theorem below_box4 (w : World) (o o' o'' o3 : Obj) : Below w.heap.size w ((((w.alloc o).alloc o').alloc o'').alloc o3) := (((below_alloc w o).alloc (by simp) _).alloc (by simp; omega) _).alloc (by simp; omega) _

end

/- The reference's covers walked: a rule that goes on at the same tree. -/
section
open Go.RowKit

theorem labCells_rule (b : Best) (v : Value) (n : Nat) (h : n < 4) : (labCells b v)[4 + n]? = some (.int .i64 (b.rule n)) := by
  rcases nt4 h with rfl | rfl | rfl | rfl <;> rfl

theorem cov1_own {w w' : World} {B : Nat} {ok : Nat → Prop} {c : Cov} {cs : List Value} {g : Nat} (hc : Rep w ok (encC c) cs) (hl : cs.length = 2) (hk : ∀ k, ok k → k < w.heap.size → w'.heap[k]? = w.heap[k]?) (hok : ∀ k, ok k → k < w.heap.size → B ≤ k) (hB : B ≤ g)
    (hg : w'.heap[g]? = some (.cells cs.toArray 60 (0, 0))) : Rep w' (fun k => B ≤ k) (.lst 2 [encC c]) [.slice (some ⟨g, 0, none⟩) 1 1] := by
  have hcc : Cells w' (fun k => B ≤ k) 2 [encC c] cs := ⟨cs, [], by simp, hl, Rep.keep hok hk _ _ hc, rfl⟩
  have h := Cells.row [] hcc
  unfold Rep
  refine ⟨some ⟨g, 0, none⟩, 1, rfl, by simp, by simp [maxLen], fun _ => ⟨g, 0, _, _, _, rfl, hB, hg, ?_⟩⟩
  simpa using h

theorem heap_alloc_at (w : World) (o : Obj) {g : Nat} (h : g = w.heap.size) : (w.alloc o).heap[g]? = some o := by subst h; exact heap_alloc_new w o

set_option maxRecDepth 100000 in
set_option maxHeartbeats 8000000 in
theorem covers_chain (rs : List Rule) (t : Pat) (nt a : Nat) (hnt : nt < 4) (h : a < rs.length) (m : Nat) (c : Cov) (hr1 : (labB rs t).rule nt = a) (h0 : rs[a].pat.op = 0) (hm : rs[a].pat.nt = m)
    (ih : CoversOk rs t m c) : CoversOk rs t nt (.mk a [c]) := by
  intro A A2 d c2 w hr hp
  have hcall := fun W => ih A A2 d c2 W
  have HP := Lib.hid hp
  have HR := Lib.hid hr
  have hrule := labCells_rule (labB rs t) (.slice A t.kids.length d) nt hnt
  rw [hr1] at hrule
  obtain ⟨LC, hLC⟩ : ∃ K, Hid (labCells (labB rs t) (.slice A t.kids.length d) = K) := ⟨_, Lib.hid rfl⟩
  have hLs : LC.size = 9 := by rw [← hLC.out]; rfl
  have hL1 : LC.all (·.oneCell') = true := by rw [← hLC.out]; simp [labCells, Value.oneCell']
  rw [hLC.out] at hrule hcall
  rw [hLC.out]
  obtain ⟨rn, hrn⟩ : ∃ n, Hid (rs.length = n) := ⟨_, Lib.hid rfl⟩
  have har : a < rn := by rw [← hrn.out]; exact h
  rw [hrn.out] at hcall ⊢
  have HALL := Lib.hid (And.intro h (And.intro h0 hm))
  have HC := Lib.hid hcall
  clear hr1 h0 hm hp ih hr hcall
  have hil : (Tryd.prog.info? 118).map (·.size) = some LC.size := by rw [hLs]; kernel_rfl
  go_enter Tryd.func71, Tryd.ntmps71
  have b0 : BlkIs (w.alloc (.cells LC 118)) w.heap.size 118 LC := BlkIs.fresh _ _ _
  have r0 : (w.alloc (.cells LC 118)).cell? ⟨w.heap.size, 4 + nt, none⟩ = some (.int .i64 a) := (b0.cell (4 + nt)).trans hrule
  go_upto_region 2 with fail
  obtain ⟨w0, hw0⟩ : ∃ w0, w0 = ((w.alloc (.cells LC 118)).alloc (.cells #[.int .i64 0, .slice none 0 0] 60)).alloc (.cells #[.int .i64 a, .slice none 0 0] 60) := ⟨_, rfl⟩
  have hb0 : Below w.heap.size w w0 := by rw [hw0]; exact below_box3 _ _ _ _
  have k0 : BlkIs w0 w.heap.size 118 LC := by rw [hw0]; exact (b0.alloc _).alloc _
  have z0 : BlkIs w0 (w.heap.size + 1) 60 #[.int .i64 0, .slice none 0 0] := by rw [hw0]; exact (BlkIs.fresh1 _ _ _ _).alloc _
  have v0 : BlkIs w0 (w.heap.size + 1 + 1) 60 #[.int .i64 a, .slice none 0 0] := by rw [hw0]; exact BlkIs.fresh2 (by simp)
  rw [← hw0]
  clear hw0 b0 r0
  obtain ⟨hal, h0, hm⟩ := HALL.out
  have hr0 := HR.out.below hb0
  have hrs := hr0
  obtain ⟨ok, hrs⟩ := hrs
  obtain ⟨g, off, B, d2, rfl, _, hg, ⟨a0, a1, a2, a3, a4, a5⟩, hle5, hpat⟩ := rules_at hrs a hal
  rw [h0] at a1
  rw [hm] at a2
  obtain ⟨pk, hpk⟩ : ∃ x, Hid (rs[a].pat.kids.length = x) := ⟨_, Lib.hid rfl⟩
  rw [hpk.out] at a3
  have x0 : w0.cell? ⟨w.heap.size + 1 + 1, 0, none⟩ = some (.int .i64 a) := v0.cell 0
  have HR0 := Lib.hid hr0
  clear h0 hm hrs a0 a4 a5 hle5 hpat hr0
  have hcall := HC.out
  go_wp2_with (refine wpList_load_row rfl 118 (.tmp 4) rfl w.heap.size rfl 118 LC (0, 0) _ (BlkIs.alloc k0 _) Tryd.underlying118 rfl hil ?_)
  refine (hcall _ (HR0.out.below (below_alloc _ _)) ((HP.out.below hb0).below (below_alloc _ _))).mono ?_
  rintro e w3 ⟨A3, d3, rfl, hrep, hb3⟩
  have hb3A : Below w0.heap.size w0 w3 := (below_alloc _ _).trans (hb3.mono (by simp))
  have v3 := v0.below hb3A v0.lt
  have z3 := z0.below hb3A z0.lt
  have hb4 : Below w.heap.size w w3 := hb0.trans (hb3A.mono hb0.size)
  have hz0 : w.heap.size + 1 + 1 < w0.heap.size := v0.lt
  have hz3 : w.heap.size + 1 + 1 < w3.heap.size := v3.lt
  have hz31 : w.heap.size + 1 < w3.heap.size := by omega
  have y0 : w3.cell? ⟨w.heap.size + 1 + 1, 0, none⟩ = some (.int .i64 a) := v3.cell 0
  have y1 : w3.cell? ⟨w.heap.size + 1 + 1, 1, none⟩ = some (.slice none 0 0) := v3.cell 1
  have f3 : ∀ i, w3.frozen? ⟨w.heap.size + 1 + 1, i, none⟩ = false := fun i => v3.frozen i
  have g0 : w3.cell? ⟨w.heap.size + 1, 0, none⟩ = some (.int .i64 0) := z3.cell 0
  have g1 : w3.cell? ⟨w.heap.size + 1, 1, none⟩ = some (.slice none 0 0) := z3.cell 1
  have g3 : ∀ i, w3.frozen? ⟨w.heap.size + 1, i, none⟩ = false := fun i => z3.frozen i
  have HREP := Lib.hid hrep
  clear a1 a2 a3 x0 hcall hrep k0
  go_wp2_with fail
  have zz := (((z3.far (p := ⟨w.heap.size + 1 + 1, 1, none⟩) (by simp) (.slice (some ⟨w3.heap.size, 0, none⟩) 1 1)).put 0 (.int .i64 a)).put 1 (.slice (some ⟨w3.heap.size, 0, none⟩) 1 1)).alloc (.cells #[.int .i64 c.rule, .slice A3 c.kids.length d3] 60)
  refine bodyPost_ret (v := .agg #[.int .i64 a, .slice (some ⟨w3.heap.size, 0, none⟩) 1 1]) (results_cell_row Tryd.results71 _ _ (w.heap.size + 1) 60 #[.int .i64 a, .slice (some ⟨w3.heap.size, 0, none⟩) 1 1] (0, 0) _ rfl zz Tryd.underlying60 rfl (by kernel_rfl)) rfl ?_
  refine ⟨some ⟨w3.heap.size, 0, none⟩, 1, rfl, rep_cov_mk (c := .mk a [c]) ?_, ?_⟩
  · refine Rep.imp (ok := fun g => w.heap.size + 3 ≤ g) ?_ (fun g hg _ => by omega)
    refine cov1_own (w := w3) HREP.out rfl (fun k hk hl => ?_) (fun k hk _ => by simp at hk; omega) (by omega) (heap_alloc_at _ _ (by simp [World.setCell]))
    have hk2 : w0.heap.size + 1 ≤ k := by simpa using hk
    rw [Below.heap_alloc _ _ _ (by simp [World.setCell]; omega)]
    rw [heap_setCell_other _ _ _ _ (by simp; omega), heap_setCell_other _ _ _ _ (by simp; omega), heap_setCell_other _ _ _ _ (by simp; omega)]
  · refine Below.alloc ?_ (by simp [World.setCell]; omega) _
    iterate 3 refine Below.setCell ?_ (by simp; try omega) _
    exact hb4

end

end Go.Proofs.YtaippkdlibampaaDoor

/- desc.pattern walked. (Printed by gen/gen_dth.py.) desc.Text walked. (Printed by gen/gen_dti.py.) -/
import Derived.Test.YthdicdkgfmiepaaGreatDoorZC
import Derived.Test.YthdicdkgfmiepaaGreatDoorZB
import Derived.Test.YthdicdkgfmiepaaGreatDoorOrdT
namespace Go.Proofs.YthdicdkgfmiepaaGreatDoor

/- desc.pattern walked. (Printed by gen/gen_dth.py.) -/
section
open Go.RowKit

theorem kidsText_tail (ps : List Pat) (i : Nat) : kidsText ps (i + 1) = Lib.joinTail [44, 32] (ps.map patText) := by
  induction ps generalizing i with
  | nil => simp [kidsText, Lib.joinTail]
  | cons p ps ih =>
    rw [kidsText, ih, if_neg (by omega)]
    simp [Lib.joinTail]
theorem kidsText_join (ps : List Pat) (h : ps ≠ []) : [40] ++ Lib.join (ps.map patText) [44, 32] = kidsText ps 0 := by
  cases ps with
  | nil => exact absurd rfl h
  | cons p ps => rw [List.map_cons, Lib.join_cons, kidsText, if_pos rfl, kidsText_tail]

def PatternOk (p : Pat) : Prop := patOk p = true → patN p ≤ 1000 → ∀ (A : Option Addr) (d : Nat) (w : World), PatIn w A d p → Tab w → Calls Tryz.prog 20 #[.agg #[.int .i64 p.op, .int .i64 p.nt, .slice A p.kids.length d]] w fun e w' => e = .returned (.string ⟨(patText p).toArray⟩) ∧ Below w.heap.size w w'

set_option maxRecDepth 100000 in
set_option maxHeartbeats 8000000 in
theorem pattern_of (p : Pat) (ih : ∀ i (h : i < p.kids.length), PatternOk p.kids[i]) : PatternOk p := by
  intro hok hpn A d w hp htab
  have HT : Hid (∀ W, Below w.heap.size w W → Tab W) := Lib.hid (fun W h => Lib.tabBelow_of_tabIs htab W h)
  clear htab
  rw [patN_eq] at hpn
  rw [patOk_eq] at hok
  have hte := Lib.hid (patText_eq p)
  obtain ⟨op, hop⟩ : ∃ x, Hid (p.op = x) := ⟨_, Lib.hid rfl⟩
  obtain ⟨nt, hnt⟩ : ∃ x, Hid (p.nt = x) := ⟨_, Lib.hid rfl⟩
  obtain ⟨ks, hks⟩ : ∃ x, Hid (p.kids = x) := ⟨_, Lib.hid rfl⟩
  obtain ⟨n, hn⟩ : ∃ x, Hid (ks.length = x) := ⟨_, Lib.hid rfl⟩
  have HK : Hid (PatsIn w A d ks) := Lib.hid (by rw [← hks.out]; exact hp.kids)
  have IH : Hid (∀ i (h : i < ks.length), PatternOk ks[i]) := Lib.hid (by rw [← hks.out]; exact ih)
  rw [hks.out] at hpn
  rw [hop.out, hnt.out, hks.out, hn.out] at hok hte ⊢
  clear hp ih
  by_cases h0 : op = 0
  · subst h0
    rw [if_pos rfl, Bool.and_eq_true] at hok
    obtain ⟨k, hk4, rfl⟩ : ∃ k : Nat, k < 4 ∧ nt = k := by
      have := hok.1
      unfold isNt at this
      simp at this
      exact ⟨nt.toNat, by omega, by omega⟩
    have hkl : k < ntWords.length := hk4
    have hres : Hid (patText p = ntWords[k]) := Lib.hid (by rw [hte.out, if_pos rfl, Int.toNat_natCast, List.getD_eq_getElem?_getD, List.getElem?_eq_getElem hkl]; rfl)
    obtain ⟨x, hx⟩ : ∃ x, Hid (ntWords[k] = x) := ⟨_, Lib.hid rfl⟩
    rw [hres.out, hx.out]
    have hns := fun W => names_any W
    go_enter Tryz.func20, Tryz.ntmps20
    go_upto_region 2 with fail
    obtain ⟨w1, hw1⟩ : ∃ W, W = w.alloc (.cells #[.int .i64 0, .int .i64 k, .slice A n d] 45) := ⟨_, rfl⟩
    have hb1 : Below w.heap.size w w1 := by rw [hw1]; exact below_alloc _ _
    have b1 : BlkIs w1 w.heap.size 45 #[.int .i64 0, .int .i64 k, .slice A n d] := by rw [hw1]; exact BlkIs.fresh _ _ _
    have c1 : w1.cell? ⟨w.heap.size, 1, none⟩ = some (.int .i64 k) := b1.cell 1
    have hz1 : w.heap.size < w1.heap.size := b1.lt
    rw [← hw1]
    clear hw1
    refine anyJ_begin 5 (fun W => Below w1.heap.size w1 W) (by kernel_rfl) ((Below.refl _ _).drew) (fun hHeld => ?_)
    refine take (i := 1) (d := some 11) (v := .pointer (some ⟨w.heap.size, 1, none⟩)) (by kernel_rfl) rfl rfl rfl (fun _ _ _ h => h) hHeld (fun W hSw => by go_simp) ?_
    simp only [Act.put, List.setIfInBounds_toArray, List.set_cons_zero, List.set_cons_succ]
    refine take (i := 2) (d := some 12) (v := .int .i64 k) (by kernel_rfl) rfl rfl rfl (fun _ _ _ h => h) hHeld (fun W hSw => by have x := cell_later hSw c1; go_simp) ?_
    simp only [Act.put, List.setIfInBounds_toArray, List.set_cons_zero, List.set_cons_succ]
    refine anyJ_only (i := 0) (d := some 10) (by kernel_rfl) rfl rfl rfl (fun K' hK => ?_)
    refine wp_go_call 19 _ _ rfl #[] rfl (fun W => by go_simp) (hns _) (fun e w2 he => ?_)
    obtain ⟨rfl, hw2⟩ := he
    obtain ⟨gn, hgn⟩ : ∃ x, Hid (w1.drew.heap.size = x) := ⟨_, Lib.hid rfl⟩
    have hgnw : w1.heap.size = gn := hgn.out
    have hb2 : Below w1.heap.size w1 w2 := by rw [← hw2]; exact hHeld.alloc (Nat.le_refl _) _
    have bn : BlkIs w2 gn 9 (strCells ntWords).toArray := by rw [← hw2]; exact BlkIs.fresh_at hgn.out.symm
    have cn : w2.cell? ⟨gn, k, none⟩ = some (.string ⟨x.toArray⟩) := (bn.cell k).trans (by rw [← hx.out]; simp [strCells, List.getElem?_eq_getElem hkl])
    rw [hgn.out]
    clear hw2 hns
    refine ⟨_, rfl, hK.out _ _ (fun _ => hb2) (fun hHeld => ?_)⟩
    have hHeld := hHeld (by decide)
    simp only [Act.put, List.setIfInBounds_toArray, List.set_cons_zero, List.set_cons_succ]
    have hz2 : gn < w2.heap.size := bn.lt
    refine anyJ_only (i := 3) (d := some 13) (by kernel_rfl) rfl rfl rfl (fun K' hK => ?_)
    refine wp_val (w' := w2) (v := .pointer (some ⟨gn, k, none⟩)) (by go_simp; omega) (hK.out _ _ (fun _ => hHeld) (fun _ => ?_))
    simp only [Act.put, List.setIfInBounds_toArray, List.set_cons_zero, List.set_cons_succ]
    refine anyJ_only (i := 4) (d := some 14) (by kernel_rfl) rfl rfl rfl (fun K' hK => ?_)
    refine wp_val (w' := w2) (v := .string ⟨x.toArray⟩) (by go_simp) (hK.out _ _ (fun _ => hHeld) (fun _ => ?_))
    simp only [Act.put, List.setIfInBounds_toArray, List.set_cons_zero, List.set_cons_succ]
    refine anyJ_only (i := 5) (d := some 2) (by kernel_rfl) rfl rfl rfl (fun K' hK => ?_)
    refine wp_val (w' := w2) (v := .string ⟨x.toArray⟩) (by go_simp) (hK.out _ _ (fun h => absurd rfl h) (fun _ => ?_))
    simp only [Act.put, List.setIfInBounds_toArray, List.set_cons_zero, List.set_cons_succ]
    refine anyJ_done (by kernel_rfl) ?_ _
    go_wp2_with fail
    go_ret
    exact ⟨rfl, hb1.trans (hb2.mono (by omega))⟩
  · rw [if_neg h0, Bool.and_eq_true, Bool.and_eq_true, Bool.and_eq_true] at hok
    obtain ⟨⟨⟨hi1, _⟩, hi3⟩, ho4⟩ := hok
    have hle : n ≤ 2 := by
      rw [decide_eq_true_eq] at hi3
      have := arity_le2 op
      omega
    clear hi3
    obtain ⟨o, ho1, ho36, rfl⟩ : ∃ o : Nat, 1 ≤ o ∧ o ≤ 36 ∧ op = o := by
      unfold isOp at hi1
      simp at hi1
      exact ⟨op.toNat, by omega, by omega, by omega⟩
    clear hi1
    have HOK := Lib.hid ((patsOk_iff ks).1 ho4)
    have hoe : ((o : Int) == 0) = false := by simp; omega
    rw [Int.toNat_natCast, if_neg h0] at hte
    have hxl := opWords_le (o - 1)
    have hat := opWords_at (o - 1) (by omega)
    obtain ⟨x, hx⟩ : ∃ x, Hid (opWords.getD (o - 1) [] = x) := ⟨_, Lib.hid rfl⟩
    rw [hx.out] at hte hxl hat
    have hos : ((o : Int) - 1) = ((o - 1 : Nat) : Int) := by omega
    obtain ⟨o1, ho1e⟩ : ∃ m, Hid (o - 1 = m) := ⟨_, Lib.hid rfl⟩
    rw [ho1e.out] at hos hat
    have ho1l : o1 < 36 := by rw [← ho1e.out]; omega
    go_enter Tryz.func20, Tryz.ntmps20
    go_upto_region 3 with fail
    obtain ⟨w1, hw1⟩ : ∃ W, W = w.alloc (.cells #[.int .i64 o, .int .i64 nt, .slice A n d] 45) := ⟨_, rfl⟩
    have hb1 : Below w.heap.size w w1 := by rw [hw1]; exact below_alloc _ _
    have b1 : BlkIs w1 w.heap.size 45 #[.int .i64 o, .int .i64 nt, .slice A n d] := by rw [hw1]; exact BlkIs.fresh _ _ _
    have c1 : w1.cell? ⟨w.heap.size, 0, none⟩ = some (.int .i64 o) := b1.cell 0
    have hz1 : w.heap.size < w1.heap.size := b1.lt
    rw [← hw1]
    clear hw1
    refine anyJ_begin 6 (fun W => Below w1.heap.size w1 W) (by kernel_rfl) ((Below.refl _ _).drew) (fun hHeld => ?_)
    refine take (i := 1) (d := some 16) (v := .pointer (some ⟨w.heap.size, 0, none⟩)) (by kernel_rfl) rfl rfl rfl (fun _ _ _ h => h) hHeld (fun W hSw => by go_simp) ?_
    simp only [Act.put, List.setIfInBounds_toArray, List.set_cons_zero, List.set_cons_succ]
    refine take (i := 2) (d := some 17) (v := .int .i64 o) (by kernel_rfl) rfl rfl rfl (fun _ _ _ h => h) hHeld (fun W hSw => by have x := cell_later hSw c1; go_simp) ?_
    simp only [Act.put, List.setIfInBounds_toArray, List.set_cons_zero, List.set_cons_succ]
    refine take (i := 3) (d := some 18) (v := .int .i64 o1) (by kernel_rfl) rfl rfl rfl (fun _ _ _ h => h) hHeld (fun W hSw => by go_simp; exact IntWalk.i64_in _ (by omega)) ?_
    simp only [Act.put, List.setIfInBounds_toArray, List.set_cons_zero, List.set_cons_succ]
    refine anyJ_only (i := 0) (d := some 15) (by kernel_rfl) rfl rfl rfl (fun K' hK => ?_)
    refine wp_go_call 43 _ _ rfl #[] rfl (fun W => by go_simp) (opWords_any _ (HT.out _ (hb1.trans (hHeld.mono hb1.size)))) (fun e w2 he => ?_)
    obtain ⟨rfl, hw2⟩ := he
    obtain ⟨gn, hgn⟩ : ∃ x, Hid (w1.drew.heap.size = x) := ⟨_, Lib.hid rfl⟩
    have hgnw : w1.heap.size = gn := hgn.out
    have hb2 : Below w1.heap.size w1 w2 := by rw [← hw2]; exact hHeld.alloc (Nat.le_refl _) _
    have bn : BlkIs w2 gn 9 (strCells opWords).toArray := by rw [← hw2]; exact BlkIs.fresh_at hgn.out.symm
    have cn : w2.cell? ⟨gn, o1, none⟩ = some (.string ⟨x.toArray⟩) := (bn.cell o1).trans hat
    rw [hgn.out]
    clear hw2
    refine ⟨_, rfl, hK.out _ _ (fun _ => hb2) (fun hHeld => ?_)⟩
    have hHeld := hHeld (by decide)
    simp only [Act.put, List.setIfInBounds_toArray, List.set_cons_zero, List.set_cons_succ]
    have hz2 : gn < w2.heap.size := bn.lt
    refine anyJ_only (i := 4) (d := some 19) (by kernel_rfl) rfl rfl rfl (fun K' hK => ?_)
    refine wp_val (w' := w2) (v := .pointer (some ⟨gn, o1, none⟩)) (by go_simp; omega) (hK.out _ _ (fun _ => hHeld) (fun _ => ?_))
    simp only [Act.put, List.setIfInBounds_toArray, List.set_cons_zero, List.set_cons_succ]
    refine anyJ_only (i := 5) (d := some 20) (by kernel_rfl) rfl rfl rfl (fun K' hK => ?_)
    refine wp_val (w' := w2) (v := .string ⟨x.toArray⟩) (by go_simp) (hK.out _ _ (fun _ => hHeld) (fun _ => ?_))
    simp only [Act.put, List.setIfInBounds_toArray, List.set_cons_zero, List.set_cons_succ]
    refine anyJ_only (i := 6) (d := some 3) (by kernel_rfl) rfl rfl rfl (fun K' hK => ?_)
    refine wp_val (w' := w2) (v := .string ⟨x.toArray⟩) (by go_simp) (hK.out _ _ (fun h => absurd rfl h) (fun _ => ?_))
    simp only [Act.put, List.setIfInBounds_toArray, List.set_cons_zero, List.set_cons_succ]
    refine anyJ_done (by kernel_rfl) ?_ _
    have hb12 := hb1.trans (hb2.mono (by omega))
    have b2 := b1.below hb2 b1.lt
    have c2 : w2.cell? ⟨w.heap.size, 2, none⟩ = some (.slice A n d) := b2.cell 2
    have hlz := b2.lt
    clear cn bn b1 c1 hb1 hb2 hHeld hz2 hgnw hgn hat hos
    by_cases hn0 : n = 0
    · subst hn0
      go_wp2_with fail
      go_ret
      refine ⟨?_, hb12⟩
      have hk0 : ks = [] := List.eq_nil_of_length_eq_zero hn.out
      have h1 := hte.out
      rw [hk0] at h1
      simp only [kidsText, if_true, List.append_nil] at h1
      rw [h1]
      rfl
    · have hne0 : ((n : Int) == 0) = false := by simp; omega
      go_wp2_with fail
      go_loopw [4, 29] (fun v i wr => ∃ k : Nat, k ≤ n ∧ i = .int .i64 k ∧ Hid (Own wr w2.heap.size (fun g => w2.heap.size ≤ g) 9 1 v ((ks.take k).map fun p => .str (patText p))) ∧ Below w2.heap.size w2 wr) (fun _ i _ => n - (intOf i).toNat)
      case atStart => exact ⟨0, by omega, rfl, Lib.hid (by simpa using Own.nil _ _ _ _ _), Below.refl _ _⟩
      case round =>
        obtain ⟨k, hk, rfl, hown, hb⟩ := hrel
        obtain ⟨wo, rfl⟩ : ∃ wo : World, wo = wr := ⟨_, rfl⟩
        have hbw := hb12.trans (hb.mono hb12.size)
        have bo := b2.below hb b2.lt
        have c2 : wo.cell? ⟨w.heap.size, 2, none⟩ = some (.slice A n d) := bo.cell 2
        have hlzo := bo.lt
        by_cases hlt : k < n
        · have hkl : k < ks.length := by rw [hn.out]; exact hlt
          obtain ⟨ok, hps⟩ := HK.out.below hbw
          obtain ⟨g, off, B, d2, hA, _, hg, ⟨a0, a1, a2⟩, hq⟩ := pats_at hps k hkl
          cases hA
          have hkn2 : patN ks[k] ≤ 1000 := by
            have h1 := patsN_take ks k hkl
            have h2 := patsN_take_le ks (k + 1)
            omega
          have hcall := fun W => IH.out k hkl (HOK.out k hkl) hkn2 B d2 W
          have hnext : Hid ((ks.take (k + 1)).map (fun p => D.str (patText p)) = (ks.take k).map (fun p => D.str (patText p)) ++ [D.str (patText ks[k])]) := Lib.hid (by rw [← List.take_append_getElem hkl, List.map_append]; rfl)
          obtain ⟨q, hqe⟩ : ∃ x, Hid (ks[k] = x) := ⟨_, Lib.hid rfl⟩
          obtain ⟨y, hy⟩ : ∃ x, Hid (patText ks[k] = x) := ⟨_, Lib.hid rfl⟩
          rw [hy.out] at hcall hnext
          rw [hqe.out] at a0 a1 a2 hq hcall
          have HQ : Hid (PatIn wo B d2 q) := Lib.hid ⟨_, hq⟩
          have hdl : ((ks.take k).map fun p => D.str (patText p)).length ≤ 1000000000 := by simp; omega
          have hba : Below wo.heap.size wo (wo.alloc (.cells #[.int .i64 q.op, .int .i64 q.nt, .slice B q.kids.length d2] 45)) := below_alloc _ _
          clear hps hq
          go_wp2_with fail
          refine (hcall _ (HQ.out.below hba) (HT.out _ (hbw.alloc hbw.size _))).mono ?_
          rintro e w3 ⟨rfl, hb3⟩
          have hb30 := hba.trans (hb3.mono hba.size)
          have hown3 := Lib.hid (hown.out.below hb30)
          have hbz := hb.size
          have hbz3 := hb30.size
          clear hown
          go_wp2_with (at_builtin; go_must (refine append_one rfl (.tmp 33) (.tmp 36) 23 9 1 16 _ rfl Tryz.underlying23 string_info rfl (by decide) (by decide) w2.heap.size (fun g => w2.heap.size ≤ g) _ _ rfl w3.heap.size rfl (hown3.out.alloc _) [.string ⟨y.toArray⟩] (.str y) (BlkIs.fresh _ _ _) rfl (by simp [Value.oneCell']) (by unfold Rep; rfl) hdl (by simp; omega) ?_); intro v2 w4 hown4 hb4 hk4)
          go_roundw
          case rel => exact ⟨k + 1, by omega, by go_num, Lib.hid (by rw [hnext.out]; exact hown4), ((hb.trans (hb30.mono hb.size)).alloc (by omega) _).trans hb4⟩
          case measure => simp [intOf]; omega
        · obtain rfl : k = n := by omega
          have hall : ks.take k = ks := List.take_of_length_le (by rw [hn.out]; omega)
          rw [hall] at hown
          obtain ⟨A4, d4, rfl, hcap, _⟩ := hown.out.rep.len
          have hrep := hown.out.rep
          rw [show (ks.map fun p => D.str (patText p)) = (ks.map patText).map D.str by rw [List.map_map]; rfl] at hrep
          have hat := fun j hj => strs_at (S := ks.map patText) hrep j hj
          have hlen : (ks.map patText).length = k := by rw [List.length_map]; exact hn.out
          obtain ⟨g, off, hA, _, hg, _⟩ := hat 0 (by omega)
          cases hA
          have hne : ks ≠ [] := by
            intro h
            rw [h] at hn
            exact hn0 hn.out.symm
          have hj := kidsText_join ks hne
          obtain ⟨j, hje⟩ : ∃ x, Hid (Lib.join (ks.map patText) [44, 32] = x) := ⟨_, Lib.hid rfl⟩
          rw [hje.out] at hj
          have hkl := kidsText_len ks 0
          rw [← hj] at hkl
          have hjl : j.length ≤ 1100000 := by rw [List.length_append] at hkl; simp at hkl; omega
          have hxs : ((ks.map patText).map fun s : List UInt8 => (⟨s.toArray⟩ : ByteArray)).map (·.data.toList) = ks.map patText := by rw [List.map_map]; exact (List.map_congr_left (fun a _ => by simp)).trans (List.map_id _)
          have hJ := Tryz.strings_Join g off d4 ((ks.map patText).map fun s => ⟨s.toArray⟩) ⟨#[44, 32]⟩ wo (by
            intro j2 x2 h2
            rw [List.getElem?_map] at h2
            have hj2 : j2 < (ks.map patText).length := by
              rcases Nat.lt_or_ge j2 (ks.map patText).length with h | h
              · exact h
              · rw [List.getElem?_eq_none h] at h2; cases h2
            rw [List.getElem?_eq_getElem hj2] at h2
            injection h2 with h2
            obtain ⟨g9, off9, hA9, _, _, hc9⟩ := hat j2 hj2
            cases hA9
            rw [hc9, ← h2]) hg (by rw [List.length_map, hlen]; omega) (by rw [List.length_map, hlen]; rw [List.length_map, hn.out] at hcap; exact hcap) (by rw [hxs]; show (Lib.join _ [44, 32]).length ≤ _; rw [hje.out]; omega)
          rw [hxs, show (⟨#[44, 32]⟩ : ByteArray).data.toList = [44, 32] from rfl, hje.out, List.length_map, hlen] at hJ
          rw [List.length_map, hn.out]
          have hte2 := hte.out
          rw [if_neg hn0, ← hj] at hte2
          clear hrep hat hown hxs hj hkl
          have add1 := fun W => add_str x [40] (x ++ [40]) rfl (by simp; omega) W
          obtain ⟨t1, ht1⟩ : ∃ z, Hid (x ++ [40] = z) := ⟨_, Lib.hid rfl⟩
          have l1 : t1.length ≤ 1001 := by rw [← ht1.out, List.length_append]; simp; omega
          rw [ht1.out] at add1
          have add2 := fun W => add_str t1 j (t1 ++ j) rfl (by omega) W
          obtain ⟨t2, ht2⟩ : ∃ z, Hid (t1 ++ j = z) := ⟨_, Lib.hid rfl⟩
          have l2 : t2.length ≤ 1101001 := by rw [← ht2.out, List.length_append]; omega
          rw [ht2.out] at add2
          have add3 := fun W => add_str t2 [41] (t2 ++ [41]) rfl (by simp; omega) W
          obtain ⟨t3, ht3⟩ : ∃ z, Hid (t2 ++ [41] = z) := ⟨_, Lib.hid rfl⟩
          rw [ht3.out] at add3
          go_wp2_with fail
          refine hJ.mono ?_
          rintro e w4 ⟨rfl, hb4⟩
          go_wp2_with fail
          go_ret
          refine ⟨?_, hbw.trans (hb4.mono hbw.size)⟩
          rw [hte2, ← ht3.out, ← ht2.out, ← ht1.out]
          simp only [List.append_assoc]
          rfl

theorem pattern_any : ∀ p : Pat, PatternOk p
  | .mk op nt kids => pattern_of _ fun i h => pattern_any kids[i]
termination_by p => SizeOf.sizeOf p
decreasing_by
  have := List.sizeOf_lt_of_mem (List.getElem_mem h)
  simp only [Pat.kids] at this
  simp only [Pat.mk.sizeOf_spec]
  omega

end

/- desc.Text walked. (Printed by gen/gen_dti.py.) -/
section
open Go.RowKit

theorem ruleTxtD {rs : List Rule} (h : mayRs rs = true) : ∀ r ∈ rs, RuleTxt r := by
  intro r hr
  unfold mayRs at h
  rw [Bool.and_eq_true] at h
  have h1 := List.all_eq_true.1 h.1 r hr
  unfold okRule fitP isNt formB at h1
  simp at h1
  unfold RuleTxt
  refine ⟨?_, ?_, ?_, ?_, ?_, ?_, ?_⟩ <;> first | omega | simp_all | skip

theorem isBuilder_below {T e : TypeId} {B b : Nat} {bs : List Value} {w w' : World} (h : Lib.IsBuilder T e B b bs w) (hb : Below w.heap.size w w') : Lib.IsBuilder T e B b bs w' := by
  rcases h with h | h
  · have hl := h.lt
    obtain ⟨hB, v, hk, hown, hne⟩ := h
    exact .inl ⟨hB, v, (hb.block b hl).trans hk, own_below hown hb, hne⟩
  · have hl := h.lt
    obtain ⟨hB, v, hk, hown, hne⟩ := h
    exact .inr ⟨hB, v, (hb.block b hl).trans hk, own_below hown hb, hne⟩

theorem wstr_any (B b : Nat) (bs : List Value) (s : List UInt8) (w : World) (h : Lib.IsBuilder 52 5 B b bs w) (hlen : bs.length + s.length ≤ 140737488355328) (hBw : B ≤ w.heap.size) :
    Calls Tryz.prog 18 #[.pointer (some ⟨b, 0, none⟩), .string ⟨s.toArray⟩] w fun e w' => e = .returned (.tuple #[.int .i64 s.length, .nilIface]) ∧ Lib.BuilderAt 52 5 B b (.pointer (some ⟨b, 0, none⟩)) (bs ++ Lib.byteCells s) w' ∧ Below B w w' := by
  have h2 : Calls Tryz.prog 18 #[.pointer (some ⟨b, 0, none⟩), .string ⟨s.toArray⟩] w fun e w' => e = .returned (.tuple #[.int .i64 (⟨s.toArray⟩ : ByteArray).size, .nilIface]) ∧ (Lib.BuilderAt 52 5 B b (.pointer (some ⟨b, 0, none⟩)) (bs ++ Lib.strCells ⟨s.toArray⟩) w' ∧ Below B w w') := Any.Builder_WriteString { Tryz.lays156 with } Tryz.Builder_Extra_156 B b bs ⟨s.toArray⟩ w h (by simpa [ByteArray.size] using hlen) hBw
  simpa [ByteArray.size, Lib.strCells_toArray] using h2

def TextRetD (rs : List Rule) (w : World) (e : Ending) (w' : World) : Prop := e = .returned (if mayRs rs = true then .tuple #[.string ⟨(rulesT rs).toArray⟩, .int .i64 0] else .tuple #[.string ⟨#[]⟩, .int .i64 1]) ∧ Below w.heap.size w w'

set_option maxRecDepth 100000 in
set_option maxHeartbeats 8000000 in
theorem textD_any (rs : List Rule) (hwf : RulesWf rs) (A : Option Addr) (d : Nat) (w : World) (hp : RulesIn w A d rs) (henv : DEnv w) : Calls Tryz.prog 7 #[.slice A rs.length d] w (TextRetD rs w) := by
  have HE : Hid (∀ W, Below w.heap.size w W → DEnv W) := Lib.hid (fun W h => henv.below h)
  clear henv
  have HP := Lib.hid hp
  have f1 := may_any rs hwf A d w hp
  obtain ⟨n, hn⟩ : ∃ x, Hid (rs.length = x) := ⟨_, Lib.hid rfl⟩
  rw [hn.out] at f1 ⊢
  clear hp hwf
  unfold TextRetD
  cases hm : mayRs rs
  · rw [hm] at f1
    rw [if_neg (by decide)]
    go_enter Tryz.func7, Tryz.ntmps7
    go_wp2_with fail
    refine f1.mono ?_
    rintro e w1 ⟨rfl, hb1⟩
    go_wp2_with fail
    refine bodyPost_ret (v := .tuple #[.string ⟨#[]⟩, .int .i64 1]) (by simp [results, Tryz.results7, go_sem]) rfl ?_
    exact ⟨rfl, hb1⟩
  have HO := Lib.hid (ruleTxtD hm)
  have hlen : n ≤ 96 := by
    unfold mayRs at hm
    rw [Bool.and_eq_true, decide_eq_true_eq] at hm
    rw [← hn.out]; exact hm.2
  rw [hm] at f1
  rw [if_pos rfl]
  clear hm
  go_enter Tryz.func7, Tryz.ntmps7
  go_upto_region 3 with (go_at_call 17; refine f1.mono ?_; rintro e w1 ⟨rfl, hb01⟩)
  have hB0 : Lib.IsBuilder 52 5 w1.heap.size w1.heap.size (Lib.byteCells []) (w1.alloc (.cells #[.pointer none, .slice none 0 0] 52)) := Lib.fresh_isBuilder _ _ _
  have hbb : Below w1.heap.size w1 (w1.alloc (.cells #[.pointer none, .slice none 0 0] 52)) := below_alloc _ _
  obtain ⟨gb, hgb⟩ : ∃ x, Hid (w1.heap.size = x) := ⟨_, Lib.hid rfl⟩
  have hgbw : w.heap.size ≤ gb := by rw [← hgb.out]; exact hb01.size
  go_upto_region 4 with fail
  obtain ⟨w2, hw2⟩ : ∃ W, w1.alloc (.cells #[.pointer none, .slice none 0 0] 52) = W := ⟨_, rfl⟩
  rw [hw2] at hB0 hbb ⊢
  rw [hgb.out] at hB0 ⊢
  have hb02 : Below w.heap.size w w2 := hb01.trans (hbb.mono hb01.size)
  have hg2 : gb < w2.heap.size := by rw [← hw2, ← hgb.out]; simp
  clear hw2
  go_wp2_with fail
  go_loopw [12] (fun i wr => ∃ (k : Nat) (t : List UInt8), k ≤ n ∧ i = .int .i64 k ∧ Hid (t = rulesT (rs.take k)) ∧ t.length ≤ 10000 * k ∧ Hid (Lib.IsBuilder 52 5 gb gb (Lib.byteCells t) wr) ∧ Below w.heap.size w wr ∧ gb < wr.heap.size) (fun i _ => n - (intOf i).toNat)
  case atStart => exact ⟨0, [], by omega, rfl, Lib.hid rfl, by simp, Lib.hid hB0, hb02, hg2⟩
  case round =>
    obtain ⟨k, t, hk, rfl, hte, htl, hbd, hb, hgo⟩ := hrel
    obtain ⟨wo, rfl⟩ : ∃ wo : World, wo = wr := ⟨_, rfl⟩
    by_cases hlt : k < n
    · have hkl : k < rs.length := by rw [hn.out]; exact hlt
      obtain ⟨ok, hps⟩ := HP.out.below hb
      obtain ⟨g, off, B, d2, hA, _, hg, ⟨a0, a1, a2, a3, a4, a5⟩, _, hq⟩ := rules_at hps k hkl
      cases hA
      have hok := HO.out rs[k] (List.getElem_mem hkl)
      have hnext := Lib.hid (rulesT_take rs k hkl)
      obtain ⟨r, hr⟩ : ∃ x, Hid (rs[k] = x) := ⟨_, Lib.hid rfl⟩
      rw [hr.out] at a0 a1 a2 a3 a4 a5 hq hok hnext
      obtain ⟨h1, h2, h3, h4, h5, h6, h7⟩ := hok
      obtain ⟨nt, hnt⟩ : ∃ m : Nat, r.nt = m := ⟨r.nt.toNat, by omega⟩
      obtain ⟨c, hc⟩ : ∃ m : Nat, r.cost = m := ⟨r.cost.toNat, by omega⟩
      have hnt4 : nt < 4 := by omega
      have hc10 : c ≤ 65535 := by omega
      have hdl := digs_len 5 c (by omega) (by omega)
      have hll : Hid (lineT r = ntWords.getD nt [] ++ ([32, 60, 45, 32] ++ (patText r.pat ++ ([32, 58, 32] ++ (digs c ++ ([32] ++ (r.form ++ [10]))))))) := Lib.hid (by unfold lineT; rw [hnt, hc, Int.toNat_natCast, decT_nat])
      have hcp := fun W hx ht => pattern_any r.pat h3 (by omega) B d2 W hx ht
      have hyl := patText_len r.pat
      have hcd := fun W h => Tryz.strconv_Itoa (c : Int) (by omega) (by omega) W h
      rw [itoa_dec, decT_nat] at hcd
      have hns := fun W => names_any W
      have hntl : nt < ntWords.length := hnt4
      have hgd : ntWords.getD nt [] = ntWords[nt] := by rw [List.getD_eq_getElem?_getD, List.getElem?_eq_getElem hntl]; rfl
      have hxl := ntWord_le nt
      rw [hgd] at hll hxl
      rw [hnt] at a0
      rw [hc] at a4
      obtain ⟨x, hx⟩ : ∃ x, Hid (ntWords[nt] = x) := ⟨_, Lib.hid rfl⟩
      obtain ⟨q, hqe⟩ : ∃ x, Hid (r.pat = x) := ⟨_, Lib.hid rfl⟩
      obtain ⟨y, hy⟩ : ∃ x, Hid (patText r.pat = x) := ⟨_, Lib.hid rfl⟩
      obtain ⟨f, hf⟩ : ∃ x, Hid (r.form = x) := ⟨_, Lib.hid rfl⟩
      obtain ⟨b, hb0⟩ : ∃ x, Hid (digs c = x) := ⟨_, Lib.hid rfl⟩
      rw [hx.out, hy.out, hf.out, hb0.out] at hll
      rw [hx.out] at hxl
      rw [hy.out] at hyl hcp
      rw [hqe.out] at hcp a1 a2 a3 hq h4 hyl
      rw [hf.out] at a5 h7
      rw [hb0.out] at hcd hdl
      have hyl2 : y.length ≤ 8800 := by omega
      clear h1 h2 h3 hnt hc hgd
      obtain ⟨t1, s1⟩ : ∃ z, Hid (x ++ [32, 60, 45, 32] = z) := ⟨_, Lib.hid rfl⟩
      have l1 : t1.length ≤ 8 := by rw [← s1.out, List.length_append]; (try simp only [List.length_cons, List.length_nil]); omega
      have d1a := fun W => add_str x [32, 60, 45, 32] t1 s1.out (by (try simp only [List.length_cons, List.length_nil]); omega) W
      obtain ⟨t2, s2⟩ : ∃ z, Hid (t1 ++ y = z) := ⟨_, Lib.hid rfl⟩
      have l2 : t2.length ≤ 8808 := by rw [← s2.out, List.length_append]; (try simp only [List.length_cons, List.length_nil]); omega
      have d2a := fun W => add_str t1 y t2 s2.out (by (try simp only [List.length_cons, List.length_nil]); omega) W
      obtain ⟨t3, s3⟩ : ∃ z, Hid (t2 ++ [32, 58, 32] = z) := ⟨_, Lib.hid rfl⟩
      have l3 : t3.length ≤ 8811 := by rw [← s3.out, List.length_append]; (try simp only [List.length_cons, List.length_nil]); omega
      have d3a := fun W => add_str t2 [32, 58, 32] t3 s3.out (by (try simp only [List.length_cons, List.length_nil]); omega) W
      obtain ⟨t4, s4⟩ : ∃ z, Hid (t3 ++ b = z) := ⟨_, Lib.hid rfl⟩
      have l4 : t4.length ≤ 8816 := by rw [← s4.out, List.length_append]; (try simp only [List.length_cons, List.length_nil]); omega
      have d4a := fun W => add_str t3 b t4 s4.out (by (try simp only [List.length_cons, List.length_nil]); omega) W
      obtain ⟨t5, s5⟩ : ∃ z, Hid (t4 ++ [32] = z) := ⟨_, Lib.hid rfl⟩
      have l5 : t5.length ≤ 8817 := by rw [← s5.out, List.length_append]; (try simp only [List.length_cons, List.length_nil]); omega
      have d5a := fun W => add_str t4 [32] t5 s5.out (by (try simp only [List.length_cons, List.length_nil]); omega) W
      obtain ⟨t6, s6⟩ : ∃ z, Hid (t5 ++ f = z) := ⟨_, Lib.hid rfl⟩
      have l6 : t6.length ≤ 8829 := by rw [← s6.out, List.length_append]; (try simp only [List.length_cons, List.length_nil]); omega
      have d6a := fun W => add_str t5 f t6 s6.out (by (try simp only [List.length_cons, List.length_nil]); omega) W
      obtain ⟨t7, s7⟩ : ∃ z, Hid (t6 ++ [10] = z) := ⟨_, Lib.hid rfl⟩
      have l7 : t7.length ≤ 8830 := by rw [← s7.out, List.length_append]; (try simp only [List.length_cons, List.length_nil]); omega
      have d7a := fun W => add_str t6 [10] t7 s7.out (by (try simp only [List.length_cons, List.length_nil]); omega) W
      have HQ0 : Hid (PatIn wo B d2 q) := Lib.hid ⟨_, hq⟩
      have hbox : BlkIs (wo.alloc (.cells #[.int .i64 nt, .int .i64 q.op, .int .i64 q.nt, .slice B q.kids.length d2, .int .i64 c, .string ⟨f.toArray⟩] 47)) wo.heap.size 47 #[.int .i64 nt, .int .i64 q.op, .int .i64 q.nt, .slice B q.kids.length d2, .int .i64 c, .string ⟨f.toArray⟩] := BlkIs.fresh _ _ _
      have hba := below_alloc wo (.cells #[.int .i64 nt, .int .i64 q.op, .int .i64 q.nt, .slice B q.kids.length d2, .int .i64 c, .string ⟨f.toArray⟩] 47)
      clear hps hq
      go_upto_region 7 with fail
      obtain ⟨wp, hwp⟩ : ∃ W, wo.alloc (.cells #[.int .i64 nt, .int .i64 q.op, .int .i64 q.nt, .slice B q.kids.length d2, .int .i64 c, .string ⟨f.toArray⟩] 47) = W := ⟨_, rfl⟩
      obtain ⟨gr, hgr⟩ : ∃ x, Hid (wo.heap.size = x) := ⟨_, Lib.hid rfl⟩
      have HQ : Hid (PatIn wp B d2 q) := Lib.hid (by rw [← hwp]; exact HQ0.out.below hba)
      have hbp : Below w.heap.size w wp := by rw [← hwp]; exact hb.trans (hba.mono hb.size)
      have HBp : Hid (Lib.IsBuilder 52 5 gb gb (Lib.byteCells t) wp) := Lib.hid (by rw [← hwp]; exact isBuilder_below hbd.out hba)
      rw [hgr.out] at hbox
      rw [hwp] at hbox ⊢
      rw [hgr.out]
      have hgp : gb < wp.heap.size := by rw [← hwp]; simp; omega
      clear hwp HQ0 hba a0 a1 a2 a3 a4 a5 hbd
      have a0 : wp.cell? ⟨gr, 0, none⟩ = some (.int .i64 nt) := hbox.cell 0
      have a1 : wp.cell? ⟨gr, 1, none⟩ = some (.int .i64 q.op) := hbox.cell 1
      have a2 : wp.cell? ⟨gr, 2, none⟩ = some (.int .i64 q.nt) := hbox.cell 2
      have a3 : wp.cell? ⟨gr, 3, none⟩ = some (.slice B q.kids.length d2) := hbox.cell 3
      have a4 : wp.cell? ⟨gr, 4, none⟩ = some (.int .i64 c) := hbox.cell 4
      have a5 : wp.cell? ⟨gr, 5, none⟩ = some (.string ⟨f.toArray⟩) := hbox.cell 5
      have hz0 := hbp.size
      have hzr : gr < wp.heap.size := hbox.lt
      have hd0 : Below wp.heap.size wp wp.drew := (Below.refl _ _).drew
      have HTp : Hid (∀ W, Below wp.heap.size wp W → Tab W) := Lib.hid (fun W h => (HE.out W (hbp.trans (h.mono hbp.size))).tab)
      have HPp : Hid (∀ W, Below wp.heap.size wp W → PowIs W) := Lib.hid (fun W h => (HE.out W (hbp.trans (h.mono hbp.size))).pow)
      refine anyJ_begin 20 (fun W => Below wp.heap.size wp W) (by kernel_rfl) ((Below.refl _ _).drew) (fun hHeld => ?_)
      refine takeT (i := 1) (d := some 17) (v := .pointer (some ⟨gr, 0, none⟩)) (by kernel_rfl) rfl rfl rfl (fun _ _ _ h => h) hHeld (fun W hSw => by go_simp) ?_
      simp only [Act.put, List.setIfInBounds_toArray, List.set_cons_zero, List.set_cons_succ]
      refine takeT (i := 2) (d := some 18) (v := .int .i64 nt) (by kernel_rfl) rfl rfl rfl (fun _ _ _ h => h) hHeld (fun W hSw => by have x0 := cell_later hSw a0; go_simp) ?_
      simp only [Act.put, List.setIfInBounds_toArray, List.set_cons_zero, List.set_cons_succ]
      refine takeT (i := 6) (d := some 22) (v := .pointer (some ⟨gr, 1, none⟩)) (by kernel_rfl) rfl rfl rfl (fun _ _ _ h => h) hHeld (fun W hSw => by go_simp) ?_
      simp only [Act.put, List.setIfInBounds_toArray, List.set_cons_zero, List.set_cons_succ]
      refine takeT (i := 7) (d := some 23) (v := .agg #[.int .i64 q.op, .int .i64 q.nt, .slice B q.kids.length d2]) (by kernel_rfl) rfl rfl rfl (fun _ _ _ h => h) hHeld (fun W hSw => by have x1 := cell_later hSw a1; have x2 := cell_later hSw a2; have x3 := cell_later hSw a3; go_simp) ?_
      simp only [Act.put, List.setIfInBounds_toArray, List.set_cons_zero, List.set_cons_succ]
      refine takeT (i := 11) (d := some 27) (v := .pointer (some ⟨gr, 4, none⟩)) (by kernel_rfl) rfl rfl rfl (fun _ _ _ h => h) hHeld (fun W hSw => by go_simp) ?_
      simp only [Act.put, List.setIfInBounds_toArray, List.set_cons_zero, List.set_cons_succ]
      refine takeT (i := 12) (d := some 28) (v := .int .i64 c) (by kernel_rfl) rfl rfl rfl (fun _ _ _ h => h) hHeld (fun W hSw => by have x4 := cell_later hSw a4; go_simp) ?_
      simp only [Act.put, List.setIfInBounds_toArray, List.set_cons_zero, List.set_cons_succ]
      refine takeT (i := 16) (d := some 32) (v := .pointer (some ⟨gr, 5, none⟩)) (by kernel_rfl) rfl rfl rfl (fun _ _ _ h => h) hHeld (fun W hSw => by go_simp) ?_
      simp only [Act.put, List.setIfInBounds_toArray, List.set_cons_zero, List.set_cons_succ]
      refine takeT (i := 17) (d := some 33) (v := .string ⟨f.toArray⟩) (by kernel_rfl) rfl rfl rfl (fun _ _ _ h => h) hHeld (fun W hSw => by have x5 := cell_later hSw a5; go_simp) ?_
      simp only [Act.put, List.setIfInBounds_toArray, List.set_cons_zero, List.set_cons_succ]
      refine anyJ_only (i := 0) (d := some 16) (by kernel_rfl) rfl rfl rfl (fun K' hK => ?_)
      refine wp_go_call 19 _ _ rfl #[] rfl (fun W => by go_simp) (hns _) (fun e w1 he => ?_)
      obtain ⟨rfl, hw1⟩ := he
      obtain ⟨gn, hgn⟩ : ∃ x, Hid (wp.drew.heap.size = x) := ⟨_, Lib.hid rfl⟩
      have hb1 : Below wp.heap.size wp w1 := by rw [← hw1]; exact hd0.alloc (Nat.le_refl _) _
      have bn : BlkIs w1 gn 9 (strCells ntWords).toArray := by rw [← hw1]; exact BlkIs.fresh_at hgn.out.symm
      have cn : w1.cell? ⟨gn, nt, none⟩ = some (.string ⟨x.toArray⟩) := (bn.cell nt).trans (by rw [← hx.out]; simp [strCells, List.getElem?_eq_getElem hntl])
      have hgnw : wp.heap.size = gn := hgn.out
      rw [hgn.out]
      clear hw1
      refine ⟨_, rfl, hK.out _ _ (fun _ => hb1) (fun hHeld => ?_)⟩
      have hHeld := hHeld (by decide)
      simp only [Act.put, List.setIfInBounds_toArray, List.set_cons_zero, List.set_cons_succ]
      refine takeT (i := 3) (d := some 19) (v := .pointer (some ⟨gn, nt, none⟩)) (by kernel_rfl) rfl rfl rfl (fun _ _ _ h => h) hHeld (fun W hSw => by go_simp; omega) ?_
      simp only [Act.put, List.setIfInBounds_toArray, List.set_cons_zero, List.set_cons_succ]
      have hgl : gn < w1.heap.size := bn.lt
      refine anyJ_two (i := 4) (j := 8) (d := some 20) (d2 := some 24) (by kernel_rfl) rfl rfl rfl rfl rfl rfl (fun K' hK => ?_) (fun K' hK => ?_)
      · skip
        refine wp_val (w' := w1) (v := .string ⟨x.toArray⟩) (by go_simp) (hK.out _ _ (fun _ => hHeld) (fun hHeld => ?_))
        have hHeld := hHeld (by decide)
        simp only [Act.put, List.setIfInBounds_toArray, List.set_cons_zero, List.set_cons_succ]
        refine takeT (i := 5) (d := some 21) (v := .string ⟨t1.toArray⟩) (by kernel_rfl) rfl rfl rfl (fun _ _ _ h => h) hHeld (fun W hSw => by have x := d1a W; go_simp) ?_
        simp only [Act.put, List.setIfInBounds_toArray, List.set_cons_zero, List.set_cons_succ]
        refine anyJ_only (i := 8) (d := some 24) (by kernel_rfl) rfl rfl rfl (fun K' hK => ?_)
        refine wp_go_call 20 _ _ rfl #[.agg #[.int .i64 q.op, .int .i64 q.nt, .slice B q.kids.length d2]] rfl (fun W => by go_simp) (hcp _ (HQ.out.below hb1) (HTp.out _ hb1)) (fun e w2 he => ?_)
        obtain ⟨rfl, hw2⟩ := he
        have hb2 : Below wp.heap.size wp w2 := hb1.trans (hw2.mono hb1.size)
        have bn := bn.below hw2 bn.lt
        have cn := cell_later hw2 cn
        refine ⟨_, rfl, hK.out _ _ (fun _ => hb2) (fun hHeld => ?_)⟩
        have hHeld := hHeld (by decide)
        simp only [Act.put, List.setIfInBounds_toArray, List.set_cons_zero, List.set_cons_succ]
        refine takeT (i := 9) (d := some 25) (v := .string ⟨t2.toArray⟩) (by kernel_rfl) rfl rfl rfl (fun _ _ _ h => h) hHeld (fun W hSw => by have x := d2a W; go_simp) ?_
        simp only [Act.put, List.setIfInBounds_toArray, List.set_cons_zero, List.set_cons_succ]
        refine takeT (i := 10) (d := some 26) (v := .string ⟨t3.toArray⟩) (by kernel_rfl) rfl rfl rfl (fun _ _ _ h => h) hHeld (fun W hSw => by have x := d3a W; go_simp) ?_
        simp only [Act.put, List.setIfInBounds_toArray, List.set_cons_zero, List.set_cons_succ]
        refine anyJ_only (i := 13) (d := some 29) (by kernel_rfl) rfl rfl rfl (fun K' hK => ?_)
        refine wp_go_call 21 _ _ rfl #[.int .i64 c] rfl (fun W => by go_simp) (hcd _ (HPp.out _ hb2)) (fun e w3 he => ?_)
        obtain ⟨rfl, q9, os, hw9⟩ := he
        have hw3 : Below w2.heap.size w2 w3 := by rw [hw9]; exact Lib.below_grow _ _ (Nat.le_refl _) q9 os
        have hb3 : Below wp.heap.size wp w3 := hb2.trans (hw3.mono hb2.size)
        have cn := cell_later hw3 cn
        clear hw9
        refine ⟨_, rfl, hK.out _ _ (fun _ => hb3) (fun hHeld => ?_)⟩
        have hHeld := hHeld (by decide)
        simp only [Act.put, List.setIfInBounds_toArray, List.set_cons_zero, List.set_cons_succ]
        refine takeT (i := 14) (d := some 30) (v := .string ⟨t4.toArray⟩) (by kernel_rfl) rfl rfl rfl (fun _ _ _ h => h) hHeld (fun W hSw => by have x := d4a W; go_simp) ?_
        simp only [Act.put, List.setIfInBounds_toArray, List.set_cons_zero, List.set_cons_succ]
        refine takeT (i := 15) (d := some 31) (v := .string ⟨t5.toArray⟩) (by kernel_rfl) rfl rfl rfl (fun _ _ _ h => h) hHeld (fun W hSw => by have x := d5a W; go_simp) ?_
        simp only [Act.put, List.setIfInBounds_toArray, List.set_cons_zero, List.set_cons_succ]
        refine takeT (i := 18) (d := some 34) (v := .string ⟨t6.toArray⟩) (by kernel_rfl) rfl rfl rfl (fun _ _ _ h => h) hHeld (fun W hSw => by have x := d6a W; go_simp) ?_
        simp only [Act.put, List.setIfInBounds_toArray, List.set_cons_zero, List.set_cons_succ]
        refine takeT (i := 19) (d := some 35) (v := .string ⟨t7.toArray⟩) (by kernel_rfl) rfl rfl rfl (fun _ _ _ h => h) hHeld (fun W hSw => by have x := d7a W; go_simp) ?_
        simp only [Act.put, List.setIfInBounds_toArray, List.set_cons_zero, List.set_cons_succ]
        refine anyJ_only (i := 20) (d := some 36) (by kernel_rfl) rfl rfl rfl (fun K' hK => ?_)
        have hbd3 := isBuilder_below HBp.out hb3
        refine wp_go_call 18 _ _ rfl #[.pointer (some ⟨gb, 0, none⟩), .string ⟨t7.toArray⟩] rfl (fun W => by go_simp) (wstr_any gb gb (Lib.byteCells t) t7 w3 hbd3 (by rw [Lib.byteCells_length]; omega) (by have := hb3.size; omega)) (fun e w4 he => ?_)
        obtain ⟨rfl, hbd4, hb4⟩ := he
        refine ⟨_, rfl, hK.out _ _ (fun h => absurd rfl h) (fun _ => ?_)⟩
        simp only [Act.put, List.setIfInBounds_toArray, List.set_cons_zero, List.set_cons_succ]
        refine anyJ_done (by kernel_rfl) ?_ _
        go_wp2_with fail
        go_roundw
        case rel => exact ⟨k + 1, t ++ t7, by omega, by go_num, Lib.hid (by
          rw [hnext.out, hll.out, ← hte.out, ← s7.out, ← s6.out, ← s5.out, ← s4.out, ← s3.out, ← s2.out, ← s1.out]
          simp only [List.append_assoc]), by rw [List.length_append]; omega, Lib.hid (by rw [Lib.byteCells_append]; exact .inr hbd4), (hbp.trans (hb3.mono hbp.size)).trans (hb4.mono hgbw), by have h8 := hb4.size; have h9 := hb3.size; omega⟩
        case measure => simp [intOf]; omega
      · skip
        refine wp_go_call 20 _ _ rfl #[.agg #[.int .i64 q.op, .int .i64 q.nt, .slice B q.kids.length d2]] rfl (fun W => by go_simp) (hcp _ (HQ.out.below hb1) (HTp.out _ hb1)) (fun e w2 he => ?_)
        obtain ⟨rfl, hw2⟩ := he
        have hb2 : Below wp.heap.size wp w2 := hb1.trans (hw2.mono hb1.size)
        have bn := bn.below hw2 bn.lt
        have cn := cell_later hw2 cn
        refine ⟨_, rfl, hK.out _ _ (fun _ => hb2) (fun hHeld => ?_)⟩
        have hHeld := hHeld (by decide)
        simp only [Act.put, List.setIfInBounds_toArray, List.set_cons_zero, List.set_cons_succ]
        refine anyJ_two (i := 4) (j := 13) (d := some 20) (d2 := some 29) (by kernel_rfl) rfl rfl rfl rfl rfl rfl (fun K' hK => ?_) (fun K' hK => ?_)
        · skip
          refine wp_val (w' := w2) (v := .string ⟨x.toArray⟩) (by go_simp) (hK.out _ _ (fun _ => hHeld) (fun hHeld => ?_))
          have hHeld := hHeld (by decide)
          simp only [Act.put, List.setIfInBounds_toArray, List.set_cons_zero, List.set_cons_succ]
          refine takeT (i := 5) (d := some 21) (v := .string ⟨t1.toArray⟩) (by kernel_rfl) rfl rfl rfl (fun _ _ _ h => h) hHeld (fun W hSw => by have x := d1a W; go_simp) ?_
          simp only [Act.put, List.setIfInBounds_toArray, List.set_cons_zero, List.set_cons_succ]
          refine takeT (i := 9) (d := some 25) (v := .string ⟨t2.toArray⟩) (by kernel_rfl) rfl rfl rfl (fun _ _ _ h => h) hHeld (fun W hSw => by have x := d2a W; go_simp) ?_
          simp only [Act.put, List.setIfInBounds_toArray, List.set_cons_zero, List.set_cons_succ]
          refine takeT (i := 10) (d := some 26) (v := .string ⟨t3.toArray⟩) (by kernel_rfl) rfl rfl rfl (fun _ _ _ h => h) hHeld (fun W hSw => by have x := d3a W; go_simp) ?_
          simp only [Act.put, List.setIfInBounds_toArray, List.set_cons_zero, List.set_cons_succ]
          refine anyJ_only (i := 13) (d := some 29) (by kernel_rfl) rfl rfl rfl (fun K' hK => ?_)
          refine wp_go_call 21 _ _ rfl #[.int .i64 c] rfl (fun W => by go_simp) (hcd _ (HPp.out _ hb2)) (fun e w3 he => ?_)
          obtain ⟨rfl, q9, os, hw9⟩ := he
          have hw3 : Below w2.heap.size w2 w3 := by rw [hw9]; exact Lib.below_grow _ _ (Nat.le_refl _) q9 os
          have hb3 : Below wp.heap.size wp w3 := hb2.trans (hw3.mono hb2.size)
          have cn := cell_later hw3 cn
          clear hw9
          refine ⟨_, rfl, hK.out _ _ (fun _ => hb3) (fun hHeld => ?_)⟩
          have hHeld := hHeld (by decide)
          simp only [Act.put, List.setIfInBounds_toArray, List.set_cons_zero, List.set_cons_succ]
          refine takeT (i := 14) (d := some 30) (v := .string ⟨t4.toArray⟩) (by kernel_rfl) rfl rfl rfl (fun _ _ _ h => h) hHeld (fun W hSw => by have x := d4a W; go_simp) ?_
          simp only [Act.put, List.setIfInBounds_toArray, List.set_cons_zero, List.set_cons_succ]
          refine takeT (i := 15) (d := some 31) (v := .string ⟨t5.toArray⟩) (by kernel_rfl) rfl rfl rfl (fun _ _ _ h => h) hHeld (fun W hSw => by have x := d5a W; go_simp) ?_
          simp only [Act.put, List.setIfInBounds_toArray, List.set_cons_zero, List.set_cons_succ]
          refine takeT (i := 18) (d := some 34) (v := .string ⟨t6.toArray⟩) (by kernel_rfl) rfl rfl rfl (fun _ _ _ h => h) hHeld (fun W hSw => by have x := d6a W; go_simp) ?_
          simp only [Act.put, List.setIfInBounds_toArray, List.set_cons_zero, List.set_cons_succ]
          refine takeT (i := 19) (d := some 35) (v := .string ⟨t7.toArray⟩) (by kernel_rfl) rfl rfl rfl (fun _ _ _ h => h) hHeld (fun W hSw => by have x := d7a W; go_simp) ?_
          simp only [Act.put, List.setIfInBounds_toArray, List.set_cons_zero, List.set_cons_succ]
          refine anyJ_only (i := 20) (d := some 36) (by kernel_rfl) rfl rfl rfl (fun K' hK => ?_)
          have hbd3 := isBuilder_below HBp.out hb3
          refine wp_go_call 18 _ _ rfl #[.pointer (some ⟨gb, 0, none⟩), .string ⟨t7.toArray⟩] rfl (fun W => by go_simp) (wstr_any gb gb (Lib.byteCells t) t7 w3 hbd3 (by rw [Lib.byteCells_length]; omega) (by have := hb3.size; omega)) (fun e w4 he => ?_)
          obtain ⟨rfl, hbd4, hb4⟩ := he
          refine ⟨_, rfl, hK.out _ _ (fun h => absurd rfl h) (fun _ => ?_)⟩
          simp only [Act.put, List.setIfInBounds_toArray, List.set_cons_zero, List.set_cons_succ]
          refine anyJ_done (by kernel_rfl) ?_ _
          go_wp2_with fail
          go_roundw
          case rel => exact ⟨k + 1, t ++ t7, by omega, by go_num, Lib.hid (by
            rw [hnext.out, hll.out, ← hte.out, ← s7.out, ← s6.out, ← s5.out, ← s4.out, ← s3.out, ← s2.out, ← s1.out]
            simp only [List.append_assoc]), by rw [List.length_append]; omega, Lib.hid (by rw [Lib.byteCells_append]; exact .inr hbd4), (hbp.trans (hb3.mono hbp.size)).trans (hb4.mono hgbw), by have h8 := hb4.size; have h9 := hb3.size; omega⟩
          case measure => simp [intOf]; omega
        · skip
          refine wp_go_call 21 _ _ rfl #[.int .i64 c] rfl (fun W => by go_simp) (hcd _ (HPp.out _ hb2)) (fun e w3 he => ?_)
          obtain ⟨rfl, q9, os, hw9⟩ := he
          have hw3 : Below w2.heap.size w2 w3 := by rw [hw9]; exact Lib.below_grow _ _ (Nat.le_refl _) q9 os
          have hb3 : Below wp.heap.size wp w3 := hb2.trans (hw3.mono hb2.size)
          have cn := cell_later hw3 cn
          clear hw9
          refine ⟨_, rfl, hK.out _ _ (fun _ => hb3) (fun hHeld => ?_)⟩
          have hHeld := hHeld (by decide)
          simp only [Act.put, List.setIfInBounds_toArray, List.set_cons_zero, List.set_cons_succ]
          refine anyJ_only (i := 4) (d := some 20) (by kernel_rfl) rfl rfl rfl (fun K' hK => ?_)
          refine wp_val (w' := w3) (v := .string ⟨x.toArray⟩) (by go_simp) (hK.out _ _ (fun _ => hHeld) (fun hHeld => ?_))
          have hHeld := hHeld (by decide)
          simp only [Act.put, List.setIfInBounds_toArray, List.set_cons_zero, List.set_cons_succ]
          refine takeT (i := 5) (d := some 21) (v := .string ⟨t1.toArray⟩) (by kernel_rfl) rfl rfl rfl (fun _ _ _ h => h) hHeld (fun W hSw => by have x := d1a W; go_simp) ?_
          simp only [Act.put, List.setIfInBounds_toArray, List.set_cons_zero, List.set_cons_succ]
          refine takeT (i := 9) (d := some 25) (v := .string ⟨t2.toArray⟩) (by kernel_rfl) rfl rfl rfl (fun _ _ _ h => h) hHeld (fun W hSw => by have x := d2a W; go_simp) ?_
          simp only [Act.put, List.setIfInBounds_toArray, List.set_cons_zero, List.set_cons_succ]
          refine takeT (i := 10) (d := some 26) (v := .string ⟨t3.toArray⟩) (by kernel_rfl) rfl rfl rfl (fun _ _ _ h => h) hHeld (fun W hSw => by have x := d3a W; go_simp) ?_
          simp only [Act.put, List.setIfInBounds_toArray, List.set_cons_zero, List.set_cons_succ]
          refine takeT (i := 14) (d := some 30) (v := .string ⟨t4.toArray⟩) (by kernel_rfl) rfl rfl rfl (fun _ _ _ h => h) hHeld (fun W hSw => by have x := d4a W; go_simp) ?_
          simp only [Act.put, List.setIfInBounds_toArray, List.set_cons_zero, List.set_cons_succ]
          refine takeT (i := 15) (d := some 31) (v := .string ⟨t5.toArray⟩) (by kernel_rfl) rfl rfl rfl (fun _ _ _ h => h) hHeld (fun W hSw => by have x := d5a W; go_simp) ?_
          simp only [Act.put, List.setIfInBounds_toArray, List.set_cons_zero, List.set_cons_succ]
          refine takeT (i := 18) (d := some 34) (v := .string ⟨t6.toArray⟩) (by kernel_rfl) rfl rfl rfl (fun _ _ _ h => h) hHeld (fun W hSw => by have x := d6a W; go_simp) ?_
          simp only [Act.put, List.setIfInBounds_toArray, List.set_cons_zero, List.set_cons_succ]
          refine takeT (i := 19) (d := some 35) (v := .string ⟨t7.toArray⟩) (by kernel_rfl) rfl rfl rfl (fun _ _ _ h => h) hHeld (fun W hSw => by have x := d7a W; go_simp) ?_
          simp only [Act.put, List.setIfInBounds_toArray, List.set_cons_zero, List.set_cons_succ]
          refine anyJ_only (i := 20) (d := some 36) (by kernel_rfl) rfl rfl rfl (fun K' hK => ?_)
          have hbd3 := isBuilder_below HBp.out hb3
          refine wp_go_call 18 _ _ rfl #[.pointer (some ⟨gb, 0, none⟩), .string ⟨t7.toArray⟩] rfl (fun W => by go_simp) (wstr_any gb gb (Lib.byteCells t) t7 w3 hbd3 (by rw [Lib.byteCells_length]; omega) (by have := hb3.size; omega)) (fun e w4 he => ?_)
          obtain ⟨rfl, hbd4, hb4⟩ := he
          refine ⟨_, rfl, hK.out _ _ (fun h => absurd rfl h) (fun _ => ?_)⟩
          simp only [Act.put, List.setIfInBounds_toArray, List.set_cons_zero, List.set_cons_succ]
          refine anyJ_done (by kernel_rfl) ?_ _
          go_wp2_with fail
          go_roundw
          case rel => exact ⟨k + 1, t ++ t7, by omega, by go_num, Lib.hid (by
            rw [hnext.out, hll.out, ← hte.out, ← s7.out, ← s6.out, ← s5.out, ← s4.out, ← s3.out, ← s2.out, ← s1.out]
            simp only [List.append_assoc]), by rw [List.length_append]; omega, Lib.hid (by rw [Lib.byteCells_append]; exact .inr hbd4), (hbp.trans (hb3.mono hbp.size)).trans (hb4.mono hgbw), by have h8 := hb4.size; have h9 := hb3.size; omega⟩
          case measure => simp [intOf]; omega
    · have hkn : k = n := by omega
      have hall : rs.take k = rs := List.take_of_length_le (by rw [hn.out]; omega)
      have hte2 := hte.out
      rw [hall] at hte2
      have hst := Tryz.Builder_String_any gb gb t wo hbd.out (by omega)
      go_wp2_with fail
      refine hst.mono ?_
      rintro e w3 ⟨rfl, hb3⟩
      go_wp2_with fail
      refine bodyPost_ret (v := .tuple #[.string ⟨(rulesT rs).toArray⟩, .int .i64 0]) (by simp [results, Tryz.results7, go_sem]) rfl ?_
      exact ⟨rfl, hb.trans (hb3.mono (by omega))⟩

end

end Go.Proofs.YthdicdkgfmiepaaGreatDoor

/- What a tree comes to: tree.Value, gantletref6.Eval walked. (Printed by gen/gen_tpd.py.) -/
import Derived.Test.YthdicdkgfmiepaaDoorTpC
import Derived.Test.YthdicdkgfmiepaaDoorOrdH
namespace Go.Proofs.YthdicdkgfmiepaaDoor
open Go.RowKit

def ValOk (f : Nat) (p : Pat) : Prop := ∀ (A : Option Addr) (c : Nat) (w : World), PatIn w A c p → PatWf p → treeOk p = true → plainT p = true →
  Calls Tryd.prog f #[.agg #[.int .i64 p.op, .int .i64 p.nt, .slice A p.kids.length c]] w fun e w' => e = .returned (.int .i64 (valT p)) ∧ Below w.heap.size w w'

set_option maxRecDepth 100000 in
set_option maxHeartbeats 2000000 in
theorem value_of (p : Pat) (ih : ∀ i (h : i < p.kids.length), ValOk 57 p.kids[i]) : ValOk 57 p := by
  intro A c w hp hwf hok hpl
  have hcase := plain_cases hok hpl
  have hkp := hp.kids
  have hv := Lib.hid (valT_eq p)
  have hok' := treeOk_kid hok
  have hpl' := plainT_kid hpl
  have hwf' : ∀ j (h : j < p.kids.length), PatWf p.kids[j] := fun j h => hwf.kid _ (List.getElem_mem h)
  clear hok hpl hp
  have HK : Hid (PatsIn w A c p.kids) := Lib.hid hkp
  clear hkp
  obtain ⟨op, hop⟩ : ∃ x, Hid (p.op = x) := ⟨_, Lib.hid rfl⟩
  obtain ⟨nt, hnt⟩ : ∃ x, Hid (p.nt = x) := ⟨_, Lib.hid rfl⟩
  obtain ⟨y, hy⟩ : ∃ x, Hid (valT p = x) := ⟨_, Lib.hid rfl⟩
  rw [hop.out] at hcase
  rw [hop.out, hnt.out, hy.out]
  rcases hcase with ⟨hc1, hc2⟩ | ⟨hc1, hc1', hc2⟩ | ⟨hc1, hc1', hc2⟩
  · obtain rfl : y = nt := by
      have h1 : p.kids = [] := List.length_eq_zero_iff.1 hc2
      rw [← hy.out, hv.out, h1, ← hnt.out]; rfl
    rw [hc2]
    have t1 : (op == 1) = true := by simpa using hc1
    clear hc1
    go_enter Tryd.func57, Tryd.ntmps57
    go_wp2_with fail
    go_ret
    exact ⟨rfl, below_alloc _ _⟩
  · have h0 : 0 < p.kids.length := by omega
    have h1 : 1 < p.kids.length := by omega
    obtain ⟨ok, hps⟩ := HK.out.below (below_alloc w (.cells #[.int .i64 op, .int .i64 nt, .slice A 2 c] 55))
    obtain ⟨g, off, B, d, hA, _, hg, ⟨a0, a1, a2⟩, hpi⟩ := pats_at hps 0 h0
    obtain ⟨g', off', B2, d2, hA2, _, hg2, ⟨b0, b1, b2⟩, hpi2⟩ := pats_at hps 1 h1
    rw [hA] at hA2
    injection hA2 with hA2
    injection hA2 with hA3 hA4
    subst hA3 hA4
    subst hA
    have hcq := fun W h => ih 0 h0 B d W h (hwf' 0 h0) (hok' 0 h0) (hpl' 0 h0)
    have hcu := fun W h => ih 1 h1 B2 d2 W h (hwf' 1 h1) (hok' 1 h1) (hpl' 1 h1)
    have hxr := valT_rng _ (hwf' 0 h0)
    have hzr := valT_rng _ (hwf' 1 h1)
    have hyv : Hid (y = twoF op (valT p.kids[0]) (valT p.kids[1])) := Lib.hid (by
      have h2 : p.kids = [p.kids[0], p.kids[1]] := by
        apply List.ext_getElem
        · simp [hc2]
        · intro i hi hi2
          simp at hi2
          rcases (by omega : i = 0 ∨ i = 1) with rfl | rfl <;> rfl
      rw [← hy.out, hv.out, hop.out]
      conv => lhs; rw [h2]
      rfl)
    obtain ⟨q, hq⟩ : ∃ q, Hid (p.kids[0] = q) := ⟨_, Lib.hid rfl⟩
    obtain ⟨u, hu⟩ : ∃ q, Hid (p.kids[1] = q) := ⟨_, Lib.hid rfl⟩
    rw [hq.out] at a0 a1 a2 hpi hcq hxr hyv
    rw [hu.out] at b0 b1 b2 hpi2 hcu hzr hyv
    obtain ⟨x, hx⟩ : ∃ x, Hid (valT q = x) := ⟨_, Lib.hid rfl⟩
    obtain ⟨z, hz⟩ : ∃ z, Hid (valT u = z) := ⟨_, Lib.hid rfl⟩
    rw [hx.out] at hcq hxr hyv
    rw [hz.out] at hcu hzr hyv
    have c2 := fun W => num2_any op x z hxr hzr W
    rw [← hyv.out] at c2
    have HQ : Hid (PatIn _ B d q) := Lib.hid ⟨_, hpi⟩
    have HU : Hid (PatIn _ B2 d2 u) := Lib.hid ⟨_, hpi2⟩
    clear hpi hpi2 hps ih hok' hpl' hwf' HK hxr hzr
    rw [hc2]
    have t1 : (op == 1) = false := by simp; omega
    have t2 : isBin op = true := by unfold isBin; simp; omega
    go_enter Tryd.func57, Tryd.ntmps57
    go_upto_region 1 with fail
    have hb0 := below_alloc w (.cells #[.int .i64 op, .int .i64 nt, .slice (some ⟨g, off, none⟩) 2 c] 55)
    obtain ⟨w1, hw1⟩ : ∃ w1, w1 = w.alloc (.cells #[.int .i64 op, .int .i64 nt, .slice (some ⟨g, off, none⟩) 2 c] 55) := ⟨_, rfl⟩
    have r0 : w1.cell? ⟨w.heap.size, 0, none⟩ = some (.int .i64 op) := by rw [hw1]; simp
    have r2 : w1.cell? ⟨w.heap.size, 2, none⟩ = some (.slice (some ⟨g, off, none⟩) 2 c) := by rw [hw1]; simp
    have hlt1 : w.heap.size < w1.heap.size := by rw [hw1]; simp
    rw [← hw1] at hb0 hg a0 a1 a2 b0 b1 b2 HQ HU
    rw [← hw1]
    clear hw1 hg2
    simp only [Nat.zero_mul, Nat.one_mul, Nat.add_zero] at a0 a1 a2 b0 b1 b2
    go_upto_region 4 with (go_at_call 76; refine (binary_any _ _).mono ?_; rintro e w9 ⟨rfl, rfl⟩)
    refine beginH (fun W' => Below w1.heap.size w1 W') (by kernel_rfl) ((Below.refl _ _).drew) (fun hHeld => ?_)
    refine takeH (i := 0) (d := some 13) (v := .pointer (some ⟨w.heap.size, 0, none⟩)) (by kernel_rfl) rfl rfl rfl (fun _ _ _ h => h) hHeld (fun W hSw => by go_simp) ?_
    simp only [Act.put, List.setIfInBounds_toArray, List.set_cons_zero, List.set_cons_succ]
    refine takeH (i := 1) (d := some 14) (v := .int .i64 op) (by kernel_rfl) rfl rfl rfl (fun _ _ _ h => h) hHeld (fun W hSw => by have x0 := (hSw.cell (p := ⟨w.heap.size, 0, none⟩) (by show w.heap.size < _; omega)).trans r0; go_simp) ?_
    simp only [Act.put, List.setIfInBounds_toArray, List.set_cons_zero, List.set_cons_succ]
    refine takeH (i := 2) (d := some 15) (v := .pointer (some ⟨w.heap.size, 2, none⟩)) (by kernel_rfl) rfl rfl rfl (fun _ _ _ h => h) hHeld (fun W hSw => by go_simp) ?_
    simp only [Act.put, List.setIfInBounds_toArray, List.set_cons_zero, List.set_cons_succ]
    refine takeH (i := 3) (d := some 16) (v := .slice (some ⟨g, off, none⟩) 2 c) (by kernel_rfl) rfl rfl rfl (fun _ _ _ h => h) hHeld (fun W hSw => by have x0 := (hSw.cell (p := ⟨w.heap.size, 2, none⟩) (by show w.heap.size < _; omega)).trans r2; go_simp) ?_
    simp only [Act.put, List.setIfInBounds_toArray, List.set_cons_zero, List.set_cons_succ]
    refine takeH (i := 4) (d := some 17) (v := .pointer (some ⟨g, off, none⟩)) (by kernel_rfl) rfl rfl rfl (fun _ _ _ h => h) hHeld (fun W hSw => by go_simp) ?_
    simp only [Act.put, List.setIfInBounds_toArray, List.set_cons_zero, List.set_cons_succ]
    refine takeH (i := 5) (d := some 18) (v := .agg #[.int .i64 q.op, .int .i64 q.nt, .slice B q.kids.length d]) (by kernel_rfl) rfl rfl rfl (fun _ _ _ h => h) hHeld (fun W hSw => by have x0 := (hSw.cell (p := ⟨g, off, none⟩) (by show g < _; omega)).trans a0; have x1 := (hSw.cell (p := ⟨g, off + 1, none⟩) (by show g < _; omega)).trans a1; have x2 := (hSw.cell (p := ⟨g, off + 2, none⟩) (by show g < _; omega)).trans a2; go_simp) ?_
    simp only [Act.put, List.setIfInBounds_toArray, List.set_cons_zero, List.set_cons_succ]
    refine takeH (i := 7) (d := some 20) (v := .pointer (some ⟨w.heap.size, 2, none⟩)) (by kernel_rfl) rfl rfl rfl (fun _ _ _ h => h) hHeld (fun W hSw => by go_simp) ?_
    simp only [Act.put, List.setIfInBounds_toArray, List.set_cons_zero, List.set_cons_succ]
    refine takeH (i := 8) (d := some 21) (v := .slice (some ⟨g, off, none⟩) 2 c) (by kernel_rfl) rfl rfl rfl (fun _ _ _ h => h) hHeld (fun W hSw => by have x0 := (hSw.cell (p := ⟨w.heap.size, 2, none⟩) (by show w.heap.size < _; omega)).trans r2; go_simp) ?_
    simp only [Act.put, List.setIfInBounds_toArray, List.set_cons_zero, List.set_cons_succ]
    refine takeH (i := 9) (d := some 22) (v := .pointer (some ⟨g, off + 3, none⟩)) (by kernel_rfl) rfl rfl rfl (fun _ _ _ h => h) hHeld (fun W hSw => by go_simp) ?_
    simp only [Act.put, List.setIfInBounds_toArray, List.set_cons_zero, List.set_cons_succ]
    refine takeH (i := 10) (d := some 23) (v := .agg #[.int .i64 u.op, .int .i64 u.nt, .slice B2 u.kids.length d2]) (by kernel_rfl) rfl rfl rfl (fun _ _ _ h => h) hHeld (fun W hSw => by have x0 := (hSw.cell (p := ⟨g, off + 3, none⟩) (by show g < _; omega)).trans b0; have x1 := (hSw.cell (p := ⟨g, off + 4, none⟩) (by show g < _; omega)).trans b1; have x2 := (hSw.cell (p := ⟨g, off + 5, none⟩) (by show g < _; omega)).trans b2; go_simp) ?_
    simp only [Act.put, List.setIfInBounds_toArray, List.set_cons_zero, List.set_cons_succ]
    refine onlyH (i := 6) (d := some 19) (by kernel_rfl) rfl rfl rfl (fun K' hK => ?_)
    refine wp_go_call 57 _ _ rfl #[.agg #[.int .i64 q.op, .int .i64 q.nt, .slice B q.kids.length d]] rfl (fun W' => by go_simp) (hcq _ (HQ.out.below hHeld)) (fun e wg he => ?_)
    obtain ⟨rfl, hb3⟩ := he
    refine ⟨_, rfl, hK.out _ _ (hHeld.trans (hb3.mono hHeld.size)) (fun hHeld => ?_)⟩
    simp only [Act.put, List.setIfInBounds_toArray, List.set_cons_zero, List.set_cons_succ]
    refine onlyH (i := 11) (d := some 24) (by kernel_rfl) rfl rfl rfl (fun K' hK => ?_)
    refine wp_go_call 57 _ _ rfl #[.agg #[.int .i64 u.op, .int .i64 u.nt, .slice B2 u.kids.length d2]] rfl (fun W' => by go_simp) (hcu _ (HU.out.below hHeld)) (fun e wg he => ?_)
    obtain ⟨rfl, hb4⟩ := he
    refine ⟨_, rfl, hK.out _ _ (hHeld.trans (hb4.mono hHeld.size)) (fun hHeld => ?_)⟩
    simp only [Act.put, List.setIfInBounds_toArray, List.set_cons_zero, List.set_cons_succ]
    refine onlyH (i := 12) (d := some 25) (by kernel_rfl) rfl rfl rfl (fun K' hK => ?_)
    refine wp_go_call 95 _ _ rfl #[.int .i64 op, .int .i64 x, .int .i64 z] rfl (fun W' => by go_simp) (c2 _) (fun e wg he => ?_)
    obtain ⟨rfl, m, rfl⟩ := he
    refine ⟨_, rfl, hK.out _ _ (below_drewsN hHeld _) (fun hHeld => ?_)⟩
    simp only [Act.put, List.setIfInBounds_toArray, List.set_cons_zero, List.set_cons_succ]
    refine takeH (i := 13) (d := some 2) (v := .int .i64 y) (by kernel_rfl) rfl rfl rfl (fun _ _ _ h => h) hHeld (fun W hSw => by go_simp) ?_
    simp only [Act.put, List.setIfInBounds_toArray, List.set_cons_zero, List.set_cons_succ]
    refine wpAnyH_done (by kernel_rfl) ?_ _
    go_wp2_with fail
    go_ret
    exact ⟨rfl, hb0.trans (hHeld.mono (by omega))⟩
  · have h0 : 0 < p.kids.length := by omega
    obtain ⟨ok, hps⟩ := HK.out.below (below_alloc w (.cells #[.int .i64 op, .int .i64 nt, .slice A 1 c] 55))
    obtain ⟨g, off, B, d, hA, _, hg, ⟨a0, a1, a2⟩, hpi⟩ := pats_at hps 0 h0
    subst hA
    have hcq := fun W h => ih 0 h0 B d W h (hwf' 0 h0) (hok' 0 h0) (hpl' 0 h0)
    have hyv : Hid (y = oneF op (valT p.kids[0])) := Lib.hid (by
      have h2 : p.kids = [p.kids[0]] := by
        apply List.ext_getElem
        · simp [hc2]
        · intro i hi hi2
          simp at hi2
          subst hi2
          rfl
      rw [← hy.out, hv.out, hop.out]
      conv => lhs; rw [h2]
      rfl)
    obtain ⟨q, hq⟩ : ∃ q, Hid (p.kids[0] = q) := ⟨_, Lib.hid rfl⟩
    rw [hq.out] at a0 a1 a2 hpi hcq hyv
    obtain ⟨x, hx⟩ : ∃ x, Hid (valT q = x) := ⟨_, Lib.hid rfl⟩
    rw [hx.out] at hcq hyv
    have c1 := fun W => num1_any op x ⟨hc1, hc1'⟩ W
    rw [← hyv.out] at c1
    have HQ : Hid (PatIn _ B d q) := Lib.hid ⟨_, hpi⟩
    clear hpi hps ih hok' hpl' hwf' HK
    rw [hc2]
    have t1 : (op == 1) = false := by simp; omega
    have t2 : isBin op = false := by unfold isBin; simp; omega
    go_enter Tryd.func57, Tryd.ntmps57
    go_upto_region 1 with fail
    have hb0 := below_alloc w (.cells #[.int .i64 op, .int .i64 nt, .slice (some ⟨g, off, none⟩) 1 c] 55)
    obtain ⟨w1, hw1⟩ : ∃ w1, w1 = w.alloc (.cells #[.int .i64 op, .int .i64 nt, .slice (some ⟨g, off, none⟩) 1 c] 55) := ⟨_, rfl⟩
    have r0 : w1.cell? ⟨w.heap.size, 0, none⟩ = some (.int .i64 op) := by rw [hw1]; simp
    have r2 : w1.cell? ⟨w.heap.size, 2, none⟩ = some (.slice (some ⟨g, off, none⟩) 1 c) := by rw [hw1]; simp
    have hlt1 : w.heap.size < w1.heap.size := by rw [hw1]; simp
    rw [← hw1] at hb0 hg a0 a1 a2 HQ
    rw [← hw1]
    clear hw1
    simp only [Nat.zero_mul, Nat.add_zero] at a0 a1 a2
    go_upto_region 5 with (go_at_call 76; refine (binary_any _ _).mono ?_; rintro e w9 ⟨rfl, rfl⟩)
    refine beginH (fun W' => Below w1.heap.size w1 W') (by kernel_rfl) ((Below.refl _ _).drew) (fun hHeld => ?_)
    refine takeH (i := 0) (d := some 26) (v := .pointer (some ⟨w.heap.size, 0, none⟩)) (by kernel_rfl) rfl rfl rfl (fun _ _ _ h => h) hHeld (fun W hSw => by go_simp) ?_
    simp only [Act.put, List.setIfInBounds_toArray, List.set_cons_zero, List.set_cons_succ]
    refine takeH (i := 1) (d := some 27) (v := .int .i64 op) (by kernel_rfl) rfl rfl rfl (fun _ _ _ h => h) hHeld (fun W hSw => by have x0 := (hSw.cell (p := ⟨w.heap.size, 0, none⟩) (by show w.heap.size < _; omega)).trans r0; go_simp) ?_
    simp only [Act.put, List.setIfInBounds_toArray, List.set_cons_zero, List.set_cons_succ]
    refine takeH (i := 2) (d := some 28) (v := .pointer (some ⟨w.heap.size, 2, none⟩)) (by kernel_rfl) rfl rfl rfl (fun _ _ _ h => h) hHeld (fun W hSw => by go_simp) ?_
    simp only [Act.put, List.setIfInBounds_toArray, List.set_cons_zero, List.set_cons_succ]
    refine takeH (i := 3) (d := some 29) (v := .slice (some ⟨g, off, none⟩) 1 c) (by kernel_rfl) rfl rfl rfl (fun _ _ _ h => h) hHeld (fun W hSw => by have x0 := (hSw.cell (p := ⟨w.heap.size, 2, none⟩) (by show w.heap.size < _; omega)).trans r2; go_simp) ?_
    simp only [Act.put, List.setIfInBounds_toArray, List.set_cons_zero, List.set_cons_succ]
    refine takeH (i := 4) (d := some 30) (v := .pointer (some ⟨g, off, none⟩)) (by kernel_rfl) rfl rfl rfl (fun _ _ _ h => h) hHeld (fun W hSw => by go_simp) ?_
    simp only [Act.put, List.setIfInBounds_toArray, List.set_cons_zero, List.set_cons_succ]
    refine takeH (i := 5) (d := some 31) (v := .agg #[.int .i64 q.op, .int .i64 q.nt, .slice B q.kids.length d]) (by kernel_rfl) rfl rfl rfl (fun _ _ _ h => h) hHeld (fun W hSw => by have x0 := (hSw.cell (p := ⟨g, off, none⟩) (by show g < _; omega)).trans a0; have x1 := (hSw.cell (p := ⟨g, off + 1, none⟩) (by show g < _; omega)).trans a1; have x2 := (hSw.cell (p := ⟨g, off + 2, none⟩) (by show g < _; omega)).trans a2; go_simp) ?_
    simp only [Act.put, List.setIfInBounds_toArray, List.set_cons_zero, List.set_cons_succ]
    refine onlyH (i := 6) (d := some 32) (by kernel_rfl) rfl rfl rfl (fun K' hK => ?_)
    refine wp_go_call 57 _ _ rfl #[.agg #[.int .i64 q.op, .int .i64 q.nt, .slice B q.kids.length d]] rfl (fun W' => by go_simp) (hcq _ (HQ.out.below hHeld)) (fun e wg he => ?_)
    obtain ⟨rfl, hb3⟩ := he
    refine ⟨_, rfl, hK.out _ _ (hHeld.trans (hb3.mono hHeld.size)) (fun hHeld => ?_)⟩
    simp only [Act.put, List.setIfInBounds_toArray, List.set_cons_zero, List.set_cons_succ]
    refine onlyH (i := 7) (d := some 33) (by kernel_rfl) rfl rfl rfl (fun K' hK => ?_)
    refine wp_go_call 96 _ _ rfl #[.int .i64 op, .int .i64 x] rfl (fun W' => by go_simp) (c1 _) (fun e wg he => ?_)
    obtain ⟨rfl, hb4⟩ := he
    refine ⟨_, rfl, hK.out _ _ (hHeld.trans (hb4.mono hHeld.size)) (fun hHeld => ?_)⟩
    simp only [Act.put, List.setIfInBounds_toArray, List.set_cons_zero, List.set_cons_succ]
    refine takeH (i := 8) (d := some 2) (v := .int .i64 y) (by kernel_rfl) rfl rfl rfl (fun _ _ _ h => h) hHeld (fun W hSw => by go_simp) ?_
    simp only [Act.put, List.setIfInBounds_toArray, List.set_cons_zero, List.set_cons_succ]
    refine wpAnyH_done (by kernel_rfl) ?_ _
    go_wp2_with fail
    go_ret
    exact ⟨rfl, hb0.trans (hHeld.mono (by omega))⟩

theorem value_any : ∀ p : Pat, ValOk 57 p
  | .mk op nt kids => value_of _ fun i h => value_any kids[i]
termination_by p => SizeOf.sizeOf p
decreasing_by
  have := List.sizeOf_lt_of_mem (List.getElem_mem h)
  simp only [Pat.kids] at this
  simp only [Pat.mk.sizeOf_spec]
  omega


set_option maxRecDepth 100000 in
set_option maxHeartbeats 2000000 in
theorem evalR_of (p : Pat) (ih : ∀ i (h : i < p.kids.length), ValOk 28 p.kids[i]) : ValOk 28 p := by
  intro A c w hp hwf hok hpl
  have hcase := plain_cases hok hpl
  have hkp := hp.kids
  have hv := Lib.hid (valT_eq p)
  have hok' := treeOk_kid hok
  have hpl' := plainT_kid hpl
  have hwf' : ∀ j (h : j < p.kids.length), PatWf p.kids[j] := fun j h => hwf.kid _ (List.getElem_mem h)
  clear hok hpl hp
  have HK : Hid (PatsIn w A c p.kids) := Lib.hid hkp
  clear hkp
  obtain ⟨op, hop⟩ : ∃ x, Hid (p.op = x) := ⟨_, Lib.hid rfl⟩
  obtain ⟨nt, hnt⟩ : ∃ x, Hid (p.nt = x) := ⟨_, Lib.hid rfl⟩
  obtain ⟨y, hy⟩ : ∃ x, Hid (valT p = x) := ⟨_, Lib.hid rfl⟩
  rw [hop.out] at hcase
  rw [hop.out, hnt.out, hy.out]
  rcases hcase with ⟨hc1, hc2⟩ | ⟨hc1, hc1', hc2⟩ | ⟨hc1, hc1', hc2⟩
  · obtain rfl : y = nt := by
      have h1 : p.kids = [] := List.length_eq_zero_iff.1 hc2
      rw [← hy.out, hv.out, h1, ← hnt.out]; rfl
    rw [hc2]
    have t1 : (op == 1) = true := by simpa using hc1
    clear hc1
    go_enter Tryd.func28, Tryd.ntmps28
    go_wp2_with fail
    go_ret
    exact ⟨rfl, below_alloc _ _⟩
  · have h0 : 0 < p.kids.length := by omega
    have h1 : 1 < p.kids.length := by omega
    obtain ⟨ok, hps⟩ := HK.out.below (below_alloc w (.cells #[.int .i64 op, .int .i64 nt, .slice A 2 c] 55))
    obtain ⟨g, off, B, d, hA, _, hg, ⟨a0, a1, a2⟩, hpi⟩ := pats_at hps 0 h0
    obtain ⟨g', off', B2, d2, hA2, _, hg2, ⟨b0, b1, b2⟩, hpi2⟩ := pats_at hps 1 h1
    rw [hA] at hA2
    injection hA2 with hA2
    injection hA2 with hA3 hA4
    subst hA3 hA4
    subst hA
    have hcq := fun W h => ih 0 h0 B d W h (hwf' 0 h0) (hok' 0 h0) (hpl' 0 h0)
    have hcu := fun W h => ih 1 h1 B2 d2 W h (hwf' 1 h1) (hok' 1 h1) (hpl' 1 h1)
    have hxr := valT_rng _ (hwf' 0 h0)
    have hzr := valT_rng _ (hwf' 1 h1)
    have hyv : Hid (y = twoF op (valT p.kids[0]) (valT p.kids[1])) := Lib.hid (by
      have h2 : p.kids = [p.kids[0], p.kids[1]] := by
        apply List.ext_getElem
        · simp [hc2]
        · intro i hi hi2
          simp at hi2
          rcases (by omega : i = 0 ∨ i = 1) with rfl | rfl <;> rfl
      rw [← hy.out, hv.out, hop.out]
      conv => lhs; rw [h2]
      rfl)
    obtain ⟨q, hq⟩ : ∃ q, Hid (p.kids[0] = q) := ⟨_, Lib.hid rfl⟩
    obtain ⟨u, hu⟩ : ∃ q, Hid (p.kids[1] = q) := ⟨_, Lib.hid rfl⟩
    rw [hq.out] at a0 a1 a2 hpi hcq hxr hyv
    rw [hu.out] at b0 b1 b2 hpi2 hcu hzr hyv
    obtain ⟨x, hx⟩ : ∃ x, Hid (valT q = x) := ⟨_, Lib.hid rfl⟩
    obtain ⟨z, hz⟩ : ∃ z, Hid (valT u = z) := ⟨_, Lib.hid rfl⟩
    rw [hx.out] at hcq hxr hyv
    rw [hz.out] at hcu hzr hyv
    have c2 := fun W => bin_any op x z ⟨hc1, hc1'⟩ hxr hzr W
    rw [← hyv.out] at c2
    have HQ : Hid (PatIn _ B d q) := Lib.hid ⟨_, hpi⟩
    have HU : Hid (PatIn _ B2 d2 u) := Lib.hid ⟨_, hpi2⟩
    clear hpi hpi2 hps ih hok' hpl' hwf' HK hxr hzr
    rw [hc2]
    
    go_enter Tryd.func28, Tryd.ntmps28
    go_upto_region 1 with fail
    have hb0 := below_alloc w (.cells #[.int .i64 op, .int .i64 nt, .slice (some ⟨g, off, none⟩) 2 c] 55)
    obtain ⟨w1, hw1⟩ : ∃ w1, w1 = w.alloc (.cells #[.int .i64 op, .int .i64 nt, .slice (some ⟨g, off, none⟩) 2 c] 55) := ⟨_, rfl⟩
    have r0 : w1.cell? ⟨w.heap.size, 0, none⟩ = some (.int .i64 op) := by rw [hw1]; simp
    have r2 : w1.cell? ⟨w.heap.size, 2, none⟩ = some (.slice (some ⟨g, off, none⟩) 2 c) := by rw [hw1]; simp
    have hlt1 : w.heap.size < w1.heap.size := by rw [hw1]; simp
    rw [← hw1] at hb0 hg a0 a1 a2 b0 b1 b2 HQ HU
    rw [← hw1]
    clear hw1 hg2
    simp only [Nat.zero_mul, Nat.one_mul, Nat.add_zero] at a0 a1 a2 b0 b1 b2
    go_upto_region 6 with fail
    refine beginH (fun W' => Below w1.heap.size w1 W') (by kernel_rfl) ((Below.refl _ _).drew) (fun hHeld => ?_)
    refine takeH (i := 0) (d := some 20) (v := .pointer (some ⟨w.heap.size, 0, none⟩)) (by kernel_rfl) rfl rfl rfl (fun _ _ _ h => h) hHeld (fun W hSw => by go_simp) ?_
    simp only [Act.put, List.setIfInBounds_toArray, List.set_cons_zero, List.set_cons_succ]
    refine takeH (i := 1) (d := some 21) (v := .int .i64 op) (by kernel_rfl) rfl rfl rfl (fun _ _ _ h => h) hHeld (fun W hSw => by have x0 := (hSw.cell (p := ⟨w.heap.size, 0, none⟩) (by show w.heap.size < _; omega)).trans r0; go_simp) ?_
    simp only [Act.put, List.setIfInBounds_toArray, List.set_cons_zero, List.set_cons_succ]
    refine takeH (i := 2) (d := some 22) (v := .pointer (some ⟨w.heap.size, 2, none⟩)) (by kernel_rfl) rfl rfl rfl (fun _ _ _ h => h) hHeld (fun W hSw => by go_simp) ?_
    simp only [Act.put, List.setIfInBounds_toArray, List.set_cons_zero, List.set_cons_succ]
    refine takeH (i := 3) (d := some 23) (v := .slice (some ⟨g, off, none⟩) 2 c) (by kernel_rfl) rfl rfl rfl (fun _ _ _ h => h) hHeld (fun W hSw => by have x0 := (hSw.cell (p := ⟨w.heap.size, 2, none⟩) (by show w.heap.size < _; omega)).trans r2; go_simp) ?_
    simp only [Act.put, List.setIfInBounds_toArray, List.set_cons_zero, List.set_cons_succ]
    refine takeH (i := 4) (d := some 24) (v := .pointer (some ⟨g, off, none⟩)) (by kernel_rfl) rfl rfl rfl (fun _ _ _ h => h) hHeld (fun W hSw => by go_simp) ?_
    simp only [Act.put, List.setIfInBounds_toArray, List.set_cons_zero, List.set_cons_succ]
    refine takeH (i := 5) (d := some 25) (v := .agg #[.int .i64 q.op, .int .i64 q.nt, .slice B q.kids.length d]) (by kernel_rfl) rfl rfl rfl (fun _ _ _ h => h) hHeld (fun W hSw => by have x0 := (hSw.cell (p := ⟨g, off, none⟩) (by show g < _; omega)).trans a0; have x1 := (hSw.cell (p := ⟨g, off + 1, none⟩) (by show g < _; omega)).trans a1; have x2 := (hSw.cell (p := ⟨g, off + 2, none⟩) (by show g < _; omega)).trans a2; go_simp) ?_
    simp only [Act.put, List.setIfInBounds_toArray, List.set_cons_zero, List.set_cons_succ]
    refine takeH (i := 7) (d := some 27) (v := .pointer (some ⟨w.heap.size, 2, none⟩)) (by kernel_rfl) rfl rfl rfl (fun _ _ _ h => h) hHeld (fun W hSw => by go_simp) ?_
    simp only [Act.put, List.setIfInBounds_toArray, List.set_cons_zero, List.set_cons_succ]
    refine takeH (i := 8) (d := some 28) (v := .slice (some ⟨g, off, none⟩) 2 c) (by kernel_rfl) rfl rfl rfl (fun _ _ _ h => h) hHeld (fun W hSw => by have x0 := (hSw.cell (p := ⟨w.heap.size, 2, none⟩) (by show w.heap.size < _; omega)).trans r2; go_simp) ?_
    simp only [Act.put, List.setIfInBounds_toArray, List.set_cons_zero, List.set_cons_succ]
    refine takeH (i := 9) (d := some 29) (v := .pointer (some ⟨g, off + 3, none⟩)) (by kernel_rfl) rfl rfl rfl (fun _ _ _ h => h) hHeld (fun W hSw => by go_simp) ?_
    simp only [Act.put, List.setIfInBounds_toArray, List.set_cons_zero, List.set_cons_succ]
    refine takeH (i := 10) (d := some 30) (v := .agg #[.int .i64 u.op, .int .i64 u.nt, .slice B2 u.kids.length d2]) (by kernel_rfl) rfl rfl rfl (fun _ _ _ h => h) hHeld (fun W hSw => by have x0 := (hSw.cell (p := ⟨g, off + 3, none⟩) (by show g < _; omega)).trans b0; have x1 := (hSw.cell (p := ⟨g, off + 4, none⟩) (by show g < _; omega)).trans b1; have x2 := (hSw.cell (p := ⟨g, off + 5, none⟩) (by show g < _; omega)).trans b2; go_simp) ?_
    simp only [Act.put, List.setIfInBounds_toArray, List.set_cons_zero, List.set_cons_succ]
    refine onlyH (i := 6) (d := some 26) (by kernel_rfl) rfl rfl rfl (fun K' hK => ?_)
    refine wp_go_call 28 _ _ rfl #[.agg #[.int .i64 q.op, .int .i64 q.nt, .slice B q.kids.length d]] rfl (fun W' => by go_simp) (hcq _ (HQ.out.below hHeld)) (fun e wg he => ?_)
    obtain ⟨rfl, hb3⟩ := he
    refine ⟨_, rfl, hK.out _ _ (hHeld.trans (hb3.mono hHeld.size)) (fun hHeld => ?_)⟩
    simp only [Act.put, List.setIfInBounds_toArray, List.set_cons_zero, List.set_cons_succ]
    refine onlyH (i := 11) (d := some 31) (by kernel_rfl) rfl rfl rfl (fun K' hK => ?_)
    refine wp_go_call 28 _ _ rfl #[.agg #[.int .i64 u.op, .int .i64 u.nt, .slice B2 u.kids.length d2]] rfl (fun W' => by go_simp) (hcu _ (HU.out.below hHeld)) (fun e wg he => ?_)
    obtain ⟨rfl, hb4⟩ := he
    refine ⟨_, rfl, hK.out _ _ (hHeld.trans (hb4.mono hHeld.size)) (fun hHeld => ?_)⟩
    simp only [Act.put, List.setIfInBounds_toArray, List.set_cons_zero, List.set_cons_succ]
    refine onlyH (i := 12) (d := some 32) (by kernel_rfl) rfl rfl rfl (fun K' hK => ?_)
    refine wp_go_call 61 _ _ rfl #[.int .i64 op, .int .i64 x, .int .i64 z] rfl (fun W' => by go_simp) (c2 _) (fun e wg he => ?_)
    obtain ⟨rfl, m, rfl⟩ := he
    refine ⟨_, rfl, hK.out _ _ (below_drewsN hHeld _) (fun hHeld => ?_)⟩
    simp only [Act.put, List.setIfInBounds_toArray, List.set_cons_zero, List.set_cons_succ]
    refine takeH (i := 13) (d := some 2) (v := .int .i64 y) (by kernel_rfl) rfl rfl rfl (fun _ _ _ h => h) hHeld (fun W hSw => by go_simp) ?_
    simp only [Act.put, List.setIfInBounds_toArray, List.set_cons_zero, List.set_cons_succ]
    refine wpAnyH_done (by kernel_rfl) ?_ _
    go_wp2_with fail
    go_ret
    exact ⟨rfl, hb0.trans (hHeld.mono (by omega))⟩
  · have h0 : 0 < p.kids.length := by omega
    obtain ⟨ok, hps⟩ := HK.out.below (below_alloc w (.cells #[.int .i64 op, .int .i64 nt, .slice A 1 c] 55))
    obtain ⟨g, off, B, d, hA, _, hg, ⟨a0, a1, a2⟩, hpi⟩ := pats_at hps 0 h0
    subst hA
    have hcq := fun W h => ih 0 h0 B d W h (hwf' 0 h0) (hok' 0 h0) (hpl' 0 h0)
    have hyv : Hid (y = oneF op (valT p.kids[0])) := Lib.hid (by
      have h2 : p.kids = [p.kids[0]] := by
        apply List.ext_getElem
        · simp [hc2]
        · intro i hi hi2
          simp at hi2
          subst hi2
          rfl
      rw [← hy.out, hv.out, hop.out]
      conv => lhs; rw [h2]
      rfl)
    obtain ⟨q, hq⟩ : ∃ q, Hid (p.kids[0] = q) := ⟨_, Lib.hid rfl⟩
    rw [hq.out] at a0 a1 a2 hpi hcq hyv
    obtain ⟨x, hx⟩ : ∃ x, Hid (valT q = x) := ⟨_, Lib.hid rfl⟩
    rw [hx.out] at hcq hyv
    have c1 := fun W => un_any op x ⟨hc1, hc1'⟩ W
    rw [← hyv.out] at c1
    have HQ : Hid (PatIn _ B d q) := Lib.hid ⟨_, hpi⟩
    clear hpi hps ih hok' hpl' hwf' HK
    rw [hc2]
    
    go_enter Tryd.func28, Tryd.ntmps28
    go_upto_region 1 with fail
    have hb0 := below_alloc w (.cells #[.int .i64 op, .int .i64 nt, .slice (some ⟨g, off, none⟩) 1 c] 55)
    obtain ⟨w1, hw1⟩ : ∃ w1, w1 = w.alloc (.cells #[.int .i64 op, .int .i64 nt, .slice (some ⟨g, off, none⟩) 1 c] 55) := ⟨_, rfl⟩
    have r0 : w1.cell? ⟨w.heap.size, 0, none⟩ = some (.int .i64 op) := by rw [hw1]; simp
    have r2 : w1.cell? ⟨w.heap.size, 2, none⟩ = some (.slice (some ⟨g, off, none⟩) 1 c) := by rw [hw1]; simp
    have hlt1 : w.heap.size < w1.heap.size := by rw [hw1]; simp
    rw [← hw1] at hb0 hg a0 a1 a2 HQ
    rw [← hw1]
    clear hw1
    simp only [Nat.zero_mul, Nat.add_zero] at a0 a1 a2
    go_upto_region 5 with fail
    refine beginH (fun W' => Below w1.heap.size w1 W') (by kernel_rfl) ((Below.refl _ _).drew) (fun hHeld => ?_)
    refine takeH (i := 0) (d := some 12) (v := .pointer (some ⟨w.heap.size, 0, none⟩)) (by kernel_rfl) rfl rfl rfl (fun _ _ _ h => h) hHeld (fun W hSw => by go_simp) ?_
    simp only [Act.put, List.setIfInBounds_toArray, List.set_cons_zero, List.set_cons_succ]
    refine takeH (i := 1) (d := some 13) (v := .int .i64 op) (by kernel_rfl) rfl rfl rfl (fun _ _ _ h => h) hHeld (fun W hSw => by have x0 := (hSw.cell (p := ⟨w.heap.size, 0, none⟩) (by show w.heap.size < _; omega)).trans r0; go_simp) ?_
    simp only [Act.put, List.setIfInBounds_toArray, List.set_cons_zero, List.set_cons_succ]
    refine takeH (i := 2) (d := some 14) (v := .pointer (some ⟨w.heap.size, 2, none⟩)) (by kernel_rfl) rfl rfl rfl (fun _ _ _ h => h) hHeld (fun W hSw => by go_simp) ?_
    simp only [Act.put, List.setIfInBounds_toArray, List.set_cons_zero, List.set_cons_succ]
    refine takeH (i := 3) (d := some 15) (v := .slice (some ⟨g, off, none⟩) 1 c) (by kernel_rfl) rfl rfl rfl (fun _ _ _ h => h) hHeld (fun W hSw => by have x0 := (hSw.cell (p := ⟨w.heap.size, 2, none⟩) (by show w.heap.size < _; omega)).trans r2; go_simp) ?_
    simp only [Act.put, List.setIfInBounds_toArray, List.set_cons_zero, List.set_cons_succ]
    refine takeH (i := 4) (d := some 16) (v := .pointer (some ⟨g, off, none⟩)) (by kernel_rfl) rfl rfl rfl (fun _ _ _ h => h) hHeld (fun W hSw => by go_simp) ?_
    simp only [Act.put, List.setIfInBounds_toArray, List.set_cons_zero, List.set_cons_succ]
    refine takeH (i := 5) (d := some 17) (v := .agg #[.int .i64 q.op, .int .i64 q.nt, .slice B q.kids.length d]) (by kernel_rfl) rfl rfl rfl (fun _ _ _ h => h) hHeld (fun W hSw => by have x0 := (hSw.cell (p := ⟨g, off, none⟩) (by show g < _; omega)).trans a0; have x1 := (hSw.cell (p := ⟨g, off + 1, none⟩) (by show g < _; omega)).trans a1; have x2 := (hSw.cell (p := ⟨g, off + 2, none⟩) (by show g < _; omega)).trans a2; go_simp) ?_
    simp only [Act.put, List.setIfInBounds_toArray, List.set_cons_zero, List.set_cons_succ]
    refine onlyH (i := 6) (d := some 18) (by kernel_rfl) rfl rfl rfl (fun K' hK => ?_)
    refine wp_go_call 28 _ _ rfl #[.agg #[.int .i64 q.op, .int .i64 q.nt, .slice B q.kids.length d]] rfl (fun W' => by go_simp) (hcq _ (HQ.out.below hHeld)) (fun e wg he => ?_)
    obtain ⟨rfl, hb3⟩ := he
    refine ⟨_, rfl, hK.out _ _ (hHeld.trans (hb3.mono hHeld.size)) (fun hHeld => ?_)⟩
    simp only [Act.put, List.setIfInBounds_toArray, List.set_cons_zero, List.set_cons_succ]
    refine onlyH (i := 7) (d := some 19) (by kernel_rfl) rfl rfl rfl (fun K' hK => ?_)
    refine wp_go_call 60 _ _ rfl #[.int .i64 op, .int .i64 x] rfl (fun W' => by go_simp) (c1 _) (fun e wg he => ?_)
    obtain ⟨rfl, rfl⟩ := he
    refine ⟨_, rfl, hK.out _ _ (hHeld) (fun hHeld => ?_)⟩
    simp only [Act.put, List.setIfInBounds_toArray, List.set_cons_zero, List.set_cons_succ]
    refine takeH (i := 8) (d := some 2) (v := .int .i64 y) (by kernel_rfl) rfl rfl rfl (fun _ _ _ h => h) hHeld (fun W hSw => by go_simp) ?_
    simp only [Act.put, List.setIfInBounds_toArray, List.set_cons_zero, List.set_cons_succ]
    refine wpAnyH_done (by kernel_rfl) ?_ _
    go_wp2_with fail
    go_ret
    exact ⟨rfl, hb0.trans (hHeld.mono (by omega))⟩

theorem evalR_any : ∀ p : Pat, ValOk 28 p
  | .mk op nt kids => evalR_of _ fun i h => evalR_any kids[i]
termination_by p => SizeOf.sizeOf p
decreasing_by
  have := List.sizeOf_lt_of_mem (List.getElem_mem h)
  simp only [Pat.kids] at this
  simp only [Pat.mk.sizeOf_spec]
  omega


end Go.Proofs.YthdicdkgfmiepaaDoor

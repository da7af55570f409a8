/- The reference's reader of a tree walked. (Printed by gen/gen_txf.py.) Which tree a text is, by the program and by the reference: tree.Parse, gantletref6.Parse walked. -/
import Derived.Test.YthdicdkgfmiepaaDoorMB
namespace Go.Proofs.YthdicdkgfmiepaaDoor

/- The reference's reader of a tree walked. (Printed by gen/gen_txf.py.) -/
section
open Go.RowKit

def RdPostR (o : RdRes) (g : Nat) (w : World) (e : Ending) (w' : World) : Prop := KeepM g w w' ∧ match o with
  | none => ∃ (a b : Int) (A : Option Addr) (n c : Nat), e = .returned (.tuple #[.agg #[.int .i64 a, .int .i64 b, .slice A n c], .bool false])
  | some (p, s2, m2) => ∃ (A : Option Addr) (d : Nat), e = .returned (.tuple #[.agg #[.int .i64 p.op, .int .i64 p.nt, .slice A p.kids.length d], .bool true]) ∧ Rep w' (fun k => w.heap.size ≤ k) (encP p) [.int .i64 p.op, .int .i64 p.nt, .slice A p.kids.length d] ∧ RdR w' g s2 (200 - (m2 : Int))

def RdOkR (f : Nat) : Prop := ∀ (s : List UInt8) (m g : Nat) (w : World), m < f → m ≤ 200 → s.length ≤ 140737488355328 → RdR w g s (200 - (m : Int)) →
  Calls Tryd.prog 67 #[.pointer (some ⟨g, 0, none⟩)] w (RdPostR (rdT f s m) g w)

theorem RdPostR.bad {g : Nat} {w w' : World} {a b : Int} {A : Option Addr} {n c : Nat} (h : KeepM g w w') : RdPostR none g w (.returned (.tuple #[.agg #[.int .i64 a, .int .i64 b, .slice A n c], .bool false])) w' := ⟨h, a, b, A, n, c, rfl⟩
theorem put3 {w : World} {gz : Nat} {t : TypeId} {a b v x y u : Value} (z : BlkIs w gz t #[x, y, u]) : BlkIs (((w.setCell ⟨gz, 0, none⟩ a).setCell ⟨gz, 1, none⟩ b).setCell ⟨gz, 2, none⟩ v) gz t #[a, b, v] := ((z.put 0 a).put 1 b).put 2 v
theorem rdr3 {w : World} {g gz : Nat} {a b v : Value} {s : List UInt8} {m : Int} (h : RdR w g s m) (hz : g ≠ gz) : RdR (((w.setCell ⟨gz, 0, none⟩ a).setCell ⟨gz, 1, none⟩ b).setCell ⟨gz, 2, none⟩ v) g s m := BlkIs.far (BlkIs.far (BlkIs.far h hz _) hz _) hz _
theorem opT_nil : opT [] = 0 := by kernel_rfl
theorem ahead_short {b s : List UInt8} (h : s.length < b.length) : aheadB b s = false := by
  unfold aheadB
  rw [beq_eq_false_iff_ne]
  intro e
  have := congrArg List.length e
  rw [List.length_take] at this
  omega

set_option maxRecDepth 100000 in
set_option maxHeartbeats 8000000 in
theorem rdR_step (f : Nat) (ih : RdOkR f) : RdOkR (f + 1) := by
  intro s m g w hmf hm hs hr
  have hl : g < w.heap.size := BlkIs.lt hr
  have z0 : BlkIs (w.alloc (.cells #[.int .i64 0, .int .i64 0, .slice none 0 0] 55)) w.heap.size 55 #[.int .i64 0, .int .i64 0, .slice none 0 0] := BlkIs.fresh _ _ _
  have hr0 : RdR (w.alloc (.cells #[.int .i64 0, .int .i64 0, .slice none 0 0] 55)) g s (200 - (m : Int)) := BlkIs.alloc hr _
  have k0 : KeepM g w (w.alloc (.cells #[.int .i64 0, .int .i64 0, .slice none 0 0] 55)) := (KeepM.refl g w).alloc _
  obtain ⟨gz, hgz⟩ : ∃ x, Hid (w.heap.size = x) := ⟨_, Lib.hid rfl⟩
  have hzw := hgz.out
  have hgzw : w.heap.size ≤ gz := Nat.le_of_eq hzw
  clear hr
  obtain ⟨R, hR⟩ : ∃ R, Hid (rdT (f + 1) s m = R) := ⟨_, Lib.hid rfl⟩
  rw [hR.out]
  obtain ⟨n, hn⟩ : ∃ n, Hid (s.length = n) := ⟨_, Lib.hid rfl⟩
  have hn2 : n ≤ 140737488355328 := by rw [← hn.out]; exact hs
  go_enter Tryd.func67, Tryd.ntmps67
  go_upto_region 1 with fail
  obtain ⟨w0, hw0⟩ : ∃ W, w.alloc (.cells #[.int .i64 0, .int .i64 0, .slice none 0 0] 55) = W := ⟨_, rfl⟩
  rw [hw0] at z0 hr0 k0 ⊢
  rw [hzw] at z0
  clear hw0
  have hgn : g ≠ gz := by omega
  have hl0 : g < w0.heap.size := BlkIs.lt hr0
  have c1 : w0.cell? ⟨g, 1, none⟩ = some (.int .i64 (200 - (m : Int))) := BlkIs.cell hr0 1
  have f1 : w0.frozen? ⟨g, 1, none⟩ = false := BlkIs.frozen hr0 1
  obtain ⟨q, hq⟩ : ∃ q : Int, Hid (200 - (m : Int) = q) := ⟨_, Lib.hid rfl⟩
  have hqr : 0 ≤ q ∧ q ≤ 200 := by rw [← hq.out]; omega
  rw [hq.out] at c1 hr0
  go_upto_region 2 with fail
  obtain ⟨w1, hw1⟩ : ∃ W, w0.setCell ⟨g, 1, none⟩ (.int .i64 (q + 1)) = W := ⟨_, rfl⟩
  have hr1 : RdR w1 g s (q + 1) := by rw [← hw1]; exact hr0.putM
  have z1 : BlkIs w1 gz 55 #[.int .i64 0, .int .i64 0, .slice none 0 0] := by rw [← hw1]; exact z0.far (by simpa using hgn.symm) _
  have k1 : KeepM g w w1 := by rw [← hw1]; exact k0.own 1 _
  rw [hw1]
  clear hw1 hr0 z0 k0 c1 f1 hl0
  have hu := until_any g 40 s (q + 1) hs w1 hr1
  unfold UntilRet at hu
  cases hix : idxB 40 s with
  | none =>
    obtain rfl : R = none := by rw [← hR.out, rdT, hix]; simp
    rw [hix] at hu
    simp only at hu
    have ho := fun W => opW_any [] W
    rw [opT_nil] at ho
    clear hix
    go_wp2_with fail
    refine hu.mono ?_
    rintro e w2 ⟨rfl, hw2⟩
    subst hw2
    go_wp2_with fail
    refine (ho _).mono ?_
    rintro e w3 ⟨rfl, hb3⟩
    have z3 := (z1.below hb3 z1.lt).alloc (.cells #[.int .i64 0, .int .i64 0, .slice none 0 0] 55)
    have k3 := (k1.trans (KeepM.of hb3)).alloc (.cells #[.int .i64 0, .int .i64 0, .slice none 0 0] 55)
    go_upto_region 4 with fail
    obtain ⟨g6, hg6⟩ : ∃ x, Hid (w3.heap.size = x) := ⟨_, Lib.hid rfl⟩
    rw [hg6.out]
    obtain ⟨w4, hw4⟩ : ∃ W, w3.alloc (.cells #[.int .i64 0, .int .i64 0, .slice none 0 0] 55) = W := ⟨_, rfl⟩
    have P4 : BlkIs w4 g6 55 #[.int .i64 0, .int .i64 0, .slice none 0 0] := by rw [← hw4]; exact BlkIs.fresh_at hg6.out.symm
    rw [hw4] at z3 k3 ⊢
    clear hw4
    have y0 : w4.cell? ⟨gz, 0, none⟩ = some (.int .i64 0) := z3.cell 0
    have y1 : w4.cell? ⟨gz, 1, none⟩ = some (.int .i64 0) := z3.cell 1
    have y2 : w4.cell? ⟨gz, 2, none⟩ = some (.slice none 0 0) := z3.cell 2
    have g0 : w4.frozen? ⟨gz, 0, none⟩ = false := z3.frozen 0
    have g1 : w4.frozen? ⟨gz, 1, none⟩ = false := z3.frozen 1
    have g2 : w4.frozen? ⟨gz, 2, none⟩ = false := z3.frozen 2
    have hlz : gz < w4.heap.size := z3.lt
    have p0 : w4.cell? ⟨g6, 0, none⟩ = some (.int .i64 0) := P4.cell 0
    have p1 : w4.cell? ⟨g6, 1, none⟩ = some (.int .i64 0) := P4.cell 1
    have p2 : w4.cell? ⟨g6, 2, none⟩ = some (.slice none 0 0) := P4.cell 2
    have q0 : w4.frozen? ⟨g6, 0, none⟩ = false := P4.frozen 0
    have q1 : w4.frozen? ⟨g6, 1, none⟩ = false := P4.frozen 1
    have q2 : w4.frozen? ⟨g6, 2, none⟩ = false := P4.frozen 2
    have hlp : g6 < w4.heap.size := P4.lt
    go_wp2_with fail
    refine bodyPost_ret (v := .tuple #[.agg #[.int .i64 0, .int .i64 0, .slice none 0 0], .bool false]) (by simp [results, Tryd.results67, go_sem, (put3 z3).cell]) rfl ?_
    exact RdPostR.bad (keep3 k3 hgzw)
  | some k =>
    have hkn : k < n := by rw [← hn.out]; exact idxB_lt hix
    rw [hix] at hu
    simp only at hu
    have ho := fun W => opW_any (s.take k) W
    have hoi := opT_in (s.take k)
    have hR2 := hR.out
    rw [rdT, hix] at hR2
    simp only at hR2
    obtain ⟨x, hx⟩ : ∃ x, Hid (s.take k = x) := ⟨_, Lib.hid rfl⟩
    obtain ⟨y, hy⟩ : ∃ x, Hid (s.drop (k + 1) = x) := ⟨_, Lib.hid rfl⟩
    rw [hx.out] at ho hoi hR2 hu
    rw [hy.out] at hR2 hu
    obtain ⟨op, hop⟩ : ∃ o, Hid (opT x = o) := ⟨_, Lib.hid rfl⟩
    rw [hop.out] at ho hoi hR2
    have HR2 := Lib.hid hR2
    clear hR2 hix
    go_wp2_with fail
    refine hu.mono ?_
    rintro e w2 ⟨rfl, hk2, hr2⟩
    have z2 := z1.keepM hk2 hgn.symm
    have k2 := k1.trans hk2
    clear z1 k1 hr1 hu
    go_wp2_with fail
    refine (ho _).mono ?_
    rintro e w3 ⟨rfl, hb3⟩
    have z3 := (z2.below hb3 z2.lt).alloc (.cells #[.int .i64 op, .int .i64 0, .slice none 0 0] 55)
    have k3 := (k2.trans (KeepM.of hb3)).alloc (.cells #[.int .i64 op, .int .i64 0, .slice none 0 0] 55)
    have hr3 : RdR (w3.alloc (.cells #[.int .i64 op, .int .i64 0, .slice none 0 0] 55)) g y (q + 1) := BlkIs.alloc (BlkIs.below hr2 hb3 (BlkIs.lt hr2)) _
    have hg3 : g < w3.heap.size := by have := hb3.size; have := BlkIs.lt hr2; omega
    have hz3 : gz < w3.heap.size := by have := hb3.size; have := z2.lt; omega
    clear z2 k2 hr2 ho hb3
    go_upto_region 4 with fail
    obtain ⟨g6, hg6⟩ : ∃ x, Hid (w3.heap.size = x) := ⟨_, Lib.hid rfl⟩
    rw [hg6.out]
    obtain ⟨w4, hw4⟩ : ∃ W, w3.alloc (.cells #[.int .i64 op, .int .i64 0, .slice none 0 0] 55) = W := ⟨_, rfl⟩
    have P4 : BlkIs w4 g6 55 #[.int .i64 op, .int .i64 0, .slice none 0 0] := by rw [← hw4]; exact BlkIs.fresh_at hg6.out.symm
    rw [hw4] at z3 k3 hr3 ⊢
    rw [hg6.out] at hg3 hz3
    have hgz6 : gz ≠ g6 := by omega
    have hg6w : w.heap.size ≤ g6 := by omega
    clear hw4
    have y0 : w4.cell? ⟨gz, 0, none⟩ = some (.int .i64 0) := z3.cell 0
    have y1 : w4.cell? ⟨gz, 1, none⟩ = some (.int .i64 0) := z3.cell 1
    have y2 : w4.cell? ⟨gz, 2, none⟩ = some (.slice none 0 0) := z3.cell 2
    have g0 : w4.frozen? ⟨gz, 0, none⟩ = false := z3.frozen 0
    have g1 : w4.frozen? ⟨gz, 1, none⟩ = false := z3.frozen 1
    have g2 : w4.frozen? ⟨gz, 2, none⟩ = false := z3.frozen 2
    have hlz : gz < w4.heap.size := z3.lt
    have p0 : w4.cell? ⟨g6, 0, none⟩ = some (.int .i64 op) := P4.cell 0
    have p1 : w4.cell? ⟨g6, 1, none⟩ = some (.int .i64 0) := P4.cell 1
    have p2 : w4.cell? ⟨g6, 2, none⟩ = some (.slice none 0 0) := P4.cell 2
    have q0 : w4.frozen? ⟨g6, 0, none⟩ = false := P4.frozen 0
    have q1 : w4.frozen? ⟨g6, 1, none⟩ = false := P4.frozen 1
    have q2 : w4.frozen? ⟨g6, 2, none⟩ = false := P4.frozen 2
    have hlp : g6 < w4.heap.size := P4.lt
    have c0 : w4.cell? ⟨g, 0, none⟩ = some (.string ⟨y.toArray⟩) := BlkIs.cell hr3 0
    have c1 : w4.cell? ⟨g, 1, none⟩ = some (.int .i64 (q + 1)) := BlkIs.cell hr3 1
    have f0 : w4.frozen? ⟨g, 0, none⟩ = false := BlkIs.frozen hr3 0
    have f1 : w4.frozen? ⟨g, 1, none⟩ = false := BlkIs.frozen hr3 1
    have hl1 : g < w4.heap.size := BlkIs.lt hr3
    have hyl : y.length ≤ 140737488355328 := by rw [← hy.out, List.length_drop]; omega
    by_cases hop0 : op = 0
    · have hope : (op == 0) = true := by simpa using hop0
      obtain rfl : R = none := by rw [← HR2.out]; simp [hop0]
      clear hop0
      go_wp2_with fail
      refine bodyPost_ret (v := .tuple #[.agg #[.int .i64 op, .int .i64 0, .slice none 0 0], .bool false]) (by simp [results, Tryd.results67, go_sem, (put3 z3).cell]) rfl ?_
      exact RdPostR.bad (keep3 k3 hgzw)
    · have hope : (op == 0) = false := by simpa using hop0
      by_cases hm0 : m = 0
      · have hmd : decide (200 < q + 1) = true := by rw [← hq.out]; simp; omega
        obtain rfl : R = none := by rw [← HR2.out, if_pos hm0]
        go_wp2_with fail
        refine bodyPost_ret (v := .tuple #[.agg #[.int .i64 op, .int .i64 0, .slice none 0 0], .bool false]) (by simp [results, Tryd.results67, go_sem, (put3 z3).cell]) rfl ?_
        exact RdPostR.bad (keep3 k3 hgzw)
      · have hmd : decide (200 < q + 1) = false := by rw [← hq.out]; simp; omega
        have HR3 := HR2.out
        rw [if_neg hm0, if_neg hop0] at HR3
        have HR3 := Lib.hid HR3
        have hlfe : isLeaf op = decide (op ≤ 4) := by unfold isLeaf; rw [show decide (1 ≤ op) = true by simp; omega, Bool.true_and]
        have hkids : 0 < op ∧ op ≤ 36 := by omega
        have hm1e : q + 1 = 200 - ((m - 1 : Nat) : Int) := by rw [← hq.out]; omega
        clear HR2
        go_upto_region 6 with fail
        by_cases hlf : op ≤ 4
        · have hlfd : decide (op ≤ 4) = true := by simpa using hlf
          have HR4 := HR3.out
          rw [hlfe, hlfd, if_pos rfl] at HR4
          unfold numR at HR4
          clear hlf HR3 hlfe
          have hu2 := until_any g 41 y (q + 1) hyl w4 hr3
          unfold UntilRet at hu2
          cases hiy : idxB 41 y with
          | none =>
            rw [hiy] at hu2 HR4
            simp only at hu2 HR4
            obtain rfl : R = none := HR4.symm
            clear hiy
            go_wp2_with fail
            refine hu2.mono ?_
            rintro e w5 ⟨rfl, hw5⟩
            subst hw5
            go_wp2_with fail
            refine bodyPost_ret (v := .tuple #[.agg #[.int .i64 op, .int .i64 0, .slice none 0 0], .bool false]) (by simp [results, Tryd.results67, go_sem, (put3 z3).cell]) rfl ?_
            exact RdPostR.bad (keep3 k3 hgzw)
          | some j =>
            rw [hiy] at hu2 HR4
            simp only at hu2 HR4
            have hnum := fun W => num_any (y.take j) (by rw [List.length_take]; omega) W
            unfold NumRet at hnum
            clear hiy
            go_wp2_with fail
            refine hu2.mono ?_
            rintro e w5 ⟨rfl, hk5, hr5⟩
            have z5 := z3.keepM hk5 hgn.symm
            have P5 := P4.keepM hk5 (by omega)
            have k5 := k3.trans hk5
            clear z3 P4 k3 hr3 hu2
            clear y0 y1 y2 g0 g1 g2 hlz
            clear c0 c1 f0 f1 hl1
            clear p0 p1 p2 q0 q1 q2 hlp
            go_wp2_with fail
            refine (hnum w5).mono ?_
            rintro e w6 ⟨⟨v, rfl, hv⟩, hb6⟩
            have z6 := z5.below hb6 z5.lt
            have P6 := P5.below hb6 P5.lt
            have k6 := k5.trans (KeepM.of hb6)
            have hr6 : RdR w6 g (y.drop (j + 1)) (q + 1) := BlkIs.below hr5 hb6 (BlkIs.lt hr5)
            clear z5 P5 k5 hr5 hnum
            have y0 : w6.cell? ⟨gz, 0, none⟩ = some (.int .i64 0) := z6.cell 0
            have y1 : w6.cell? ⟨gz, 1, none⟩ = some (.int .i64 0) := z6.cell 1
            have y2 : w6.cell? ⟨gz, 2, none⟩ = some (.slice none 0 0) := z6.cell 2
            have g0 : w6.frozen? ⟨gz, 0, none⟩ = false := z6.frozen 0
            have g1 : w6.frozen? ⟨gz, 1, none⟩ = false := z6.frozen 1
            have g2 : w6.frozen? ⟨gz, 2, none⟩ = false := z6.frozen 2
            have hlz : gz < w6.heap.size := z6.lt
            have p0 : w6.cell? ⟨g6, 0, none⟩ = some (.int .i64 op) := P6.cell 0
            have p1 : w6.cell? ⟨g6, 1, none⟩ = some (.int .i64 0) := P6.cell 1
            have p2 : w6.cell? ⟨g6, 2, none⟩ = some (.slice none 0 0) := P6.cell 2
            have q0 : w6.frozen? ⟨g6, 0, none⟩ = false := P6.frozen 0
            have q1 : w6.frozen? ⟨g6, 1, none⟩ = false := P6.frozen 1
            have q2 : w6.frozen? ⟨g6, 2, none⟩ = false := P6.frozen 2
            have hlp : g6 < w6.heap.size := P6.lt
            go_upto_region 11 with fail
            have z7 : BlkIs (w6.setCell ⟨g6, 1, none⟩ (.int .i64 v)) gz 55 #[.int .i64 0, .int .i64 0, .slice none 0 0] := z6.far (by simpa using hgz6) _
            have P7 : BlkIs (w6.setCell ⟨g6, 1, none⟩ (.int .i64 v)) g6 55 #[.int .i64 op, .int .i64 v, .slice none 0 0] := P6.put 1 _
            have k7 : KeepM g w (w6.setCell ⟨g6, 1, none⟩ (.int .i64 v)) := k6.setCell hg6w _
            have r7 : RdR (w6.setCell ⟨g6, 1, none⟩ (.int .i64 v)) g (y.drop (j + 1)) (q + 1) := BlkIs.far hr6 (by simp; omega) _
            obtain ⟨w7, hw7⟩ : ∃ W, w6.setCell ⟨g6, 1, none⟩ (.int .i64 v) = W := ⟨_, rfl⟩
            rw [hw7] at z7 P7 k7 r7 ⊢
            clear hw7 z6 P6 k6 hr6
            clear y0 y1 y2 g0 g1 g2 hlz
            clear p0 p1 p2 q0 q1 q2 hlp
            have y0 : w7.cell? ⟨gz, 0, none⟩ = some (.int .i64 0) := z7.cell 0
            have y1 : w7.cell? ⟨gz, 1, none⟩ = some (.int .i64 0) := z7.cell 1
            have y2 : w7.cell? ⟨gz, 2, none⟩ = some (.slice none 0 0) := z7.cell 2
            have g0 : w7.frozen? ⟨gz, 0, none⟩ = false := z7.frozen 0
            have g1 : w7.frozen? ⟨gz, 1, none⟩ = false := z7.frozen 1
            have g2 : w7.frozen? ⟨gz, 2, none⟩ = false := z7.frozen 2
            have hlz : gz < w7.heap.size := z7.lt
            have p0 : w7.cell? ⟨g6, 0, none⟩ = some (.int .i64 op) := P7.cell 0
            have p1 : w7.cell? ⟨g6, 1, none⟩ = some (.int .i64 v) := P7.cell 1
            have p2 : w7.cell? ⟨g6, 2, none⟩ = some (.slice none 0 0) := P7.cell 2
            have q0 : w7.frozen? ⟨g6, 0, none⟩ = false := P7.frozen 0
            have q1 : w7.frozen? ⟨g6, 1, none⟩ = false := P7.frozen 1
            have q2 : w7.frozen? ⟨g6, 2, none⟩ = false := P7.frozen 2
            have hlp : g6 < w7.heap.size := P7.lt
            cases hnt : numT (y.take j) with
            | none =>
              rw [hnt] at HR4
              obtain rfl : R = none := HR4.symm
              rw [Option.isSome_none]
              go_wp2_with fail
              refine bodyPost_ret (v := .tuple #[.agg #[.int .i64 op, .int .i64 v, .slice none 0 0], .bool false]) (by simp [results, Tryd.results67, go_sem, (put3 z7).cell]) rfl ?_
              exact RdPostR.bad (keep3 k7 hgzw)
            | some v2 =>
              obtain rfl : v = v2 := hv v2 hnt
              rw [hnt] at HR4
              simp only at HR4
              have hrest : y.drop (j + 1) = s.drop (k + 1 + (j + 1)) := by rw [← hy.out, List.drop_drop]
              rw [hrest, hm1e] at r7
              obtain rfl : R = some (.mk op v [], s.drop (k + 1 + (j + 1)), m - 1) := HR4.symm
              rw [Option.isSome_some]
              clear hnt hv HR4 hrest
              go_wp2_with fail
              refine bodyPost_ret (v := .tuple #[.agg #[.int .i64 op, .int .i64 v, .slice none 0 0], .bool true]) (by simp [results, Tryd.results67, go_sem, (put3 z7).cell]) rfl ?_
              exact ⟨keep3 k7 hgzw, none, 0, rfl, rep_leaf, rdr3 r7 hgn⟩
        · have hlfd : decide (op ≤ 4) = false := by simpa using hlf
          have HR4 := HR3.out
          rw [hlfe, hlfd, if_neg (by decide)] at HR4
          have har : 0 ≤ arityOf op ∧ arityOf op ≤ 2 := by unfold arityOf; split <;> (try split) <;> omega
          obtain ⟨N, hN⟩ : ∃ N : Nat, Hid ((arityOf op).toNat = N) := ⟨_, Lib.hid rfl⟩
          have hNa : kidsOf op = N := by
            unfold kidsOf
            rw [if_pos (by unfold isOp; simp; omega), ← hN.out]
            omega
          have hN2 : N ≤ 2 := by rw [← hN.out]; omega
          have ca := fun W => kidsR_any op W
          rw [hN.out] at HR4
          rw [hNa] at ca
          obtain ⟨K, hK0⟩ : ∃ K, Hid (rdKs (rdT f) N 0 y (m - 1) = K) := ⟨_, Lib.hid rfl⟩
          have hstart := KidsFrom.start (rdT f) N y (m - 1)
          rw [hK0.out] at HR4 hstart
          have HST := Lib.hid hstart
          have HRK := Lib.hid HR4
          clear HR4 hstart HR3 hlfe har hNa hlf
          have hm1f : m - 1 < f := by omega
          have hm1k : m - 1 ≤ 200 := by omega
          obtain ⟨m1, hm1x⟩ : ∃ x, Hid (m - 1 = x) := ⟨_, Lib.hid rfl⟩
          rw [hm1x.out] at hm1e hm1f hm1k HST
          rw [hm1e] at hr3
          clear hm1e
          go_wp2_with fail
          clear c0 c1 f0 f1 hl1
          clear y0 y1 y2 g0 g1 g2 hlz
          clear p0 p1 p2 q0 q1 q2 hlp
          go_loopw [9] (fun i wr => ∃ (k : Nat) (done : List Pat) (sk : List UInt8) (mk : Nat) (v : Value), k ≤ N ∧ i = .int .i64 k ∧ Hid (KidsFrom (rdT f) K done N k sk mk) ∧ done.length = k ∧ sk.length ≤ 140737488355328 ∧ mk ≤ m1 ∧ RdR wr g sk (200 - (mk : Int)) ∧ BlkIs wr gz 55 #[.int .i64 0, .int .i64 0, .slice none 0 0] ∧ BlkIs wr g6 55 #[.int .i64 op, .int .i64 0, v] ∧ Hid (Own wr (g6 + 1) (fun q => g6 + 1 ≤ q) 55 3 v (done.map encP)) ∧ KeepM g w wr) (fun i _ => N - (intOf i).toNat)
          case atStart => exact ⟨0, [], y, m1, .slice none 0 0, by omega, rfl, HST, rfl, hyl, by omega, hr3, z3, P4, Lib.hid (Own.nil _ _ _ _ _), k3⟩
          case round =>
            obtain ⟨k, done, sk, mk, v, hk, rfl, hkf, hdl, hskl, hmk, hRd, hZ, hP, hown, hkm⟩ := hrel
            obtain ⟨wo, rfl⟩ : ∃ wo : World, wo = wr := ⟨_, rfl⟩
            clear z3 hr3 k3 P4
            obtain ⟨A0, d0, rfl, _⟩ := hown.out.rep.len
            rw [List.length_map] at hP hown
            have hdlen : (done.map encP).length ≤ 1000000000 := by rw [List.length_map]; omega
            obtain ⟨dl, hdle⟩ : ∃ x, Hid (done.length = x) := ⟨_, Lib.hid rfl⟩
            rw [hdle.out] at hP hown
            obtain ⟨qk, hqk⟩ : ∃ q : Int, Hid (200 - (mk : Int) = q) := ⟨_, Lib.hid rfl⟩
            obtain ⟨ns, hns⟩ : ∃ n, Hid (sk.length = n) := ⟨_, Lib.hid rfl⟩
            have hssz : (⟨sk.toArray⟩ : ByteArray).size = ns := by rw [← hns.out]; simp [ByteArray.size]
            have hnsl : ns ≤ 140737488355328 := by rw [← hns.out]; exact hskl
            have hRq := hRd
            rw [hqk.out] at hRq
            have y0 : wo.cell? ⟨gz, 0, none⟩ = some (.int .i64 0) := hZ.cell 0
            have y1 : wo.cell? ⟨gz, 1, none⟩ = some (.int .i64 0) := hZ.cell 1
            have y2 : wo.cell? ⟨gz, 2, none⟩ = some (.slice none 0 0) := hZ.cell 2
            have g0 : wo.frozen? ⟨gz, 0, none⟩ = false := hZ.frozen 0
            have g1 : wo.frozen? ⟨gz, 1, none⟩ = false := hZ.frozen 1
            have g2 : wo.frozen? ⟨gz, 2, none⟩ = false := hZ.frozen 2
            have hlz : gz < wo.heap.size := hZ.lt
            have p0 : wo.cell? ⟨g6, 0, none⟩ = some (.int .i64 op) := hP.cell 0
            have p1 : wo.cell? ⟨g6, 1, none⟩ = some (.int .i64 0) := hP.cell 1
            have p2 : wo.cell? ⟨g6, 2, none⟩ = some (.slice A0 dl d0) := hP.cell 2
            have q0 : wo.frozen? ⟨g6, 0, none⟩ = false := hP.frozen 0
            have q1 : wo.frozen? ⟨g6, 1, none⟩ = false := hP.frozen 1
            have q2 : wo.frozen? ⟨g6, 2, none⟩ = false := hP.frozen 2
            have hlp : g6 < wo.heap.size := hP.lt
            have c0 : wo.cell? ⟨g, 0, none⟩ = some (.string ⟨sk.toArray⟩) := BlkIs.cell hRq 0
            have c1 : wo.cell? ⟨g, 1, none⟩ = some (.int .i64 (qk)) := BlkIs.cell hRq 1
            have f0 : wo.frozen? ⟨g, 0, none⟩ = false := BlkIs.frozen hRq 0
            have f1 : wo.frozen? ⟨g, 1, none⟩ = false := BlkIs.frozen hRq 1
            have hl1 : g < wo.heap.size := BlkIs.lt hRq
            by_cases hlt : k < N
            · by_cases hk0 : k = 0
              · subst hk0
                have Rk := hRd
                have Zk := hZ
                have Pk := hP
                have Ok := hown
                have Kk := hkm
                have hcall := ih (sk) mk g wo (by omega) (by omega) (by first | exact hskl | (rw [List.length_drop]; omega)) Rk
                cases hrd : rdT f (sk) mk with
                | none =>
                  obtain rfl : R = none := by
                    have h1 := hkf.out.none hlt (.inl rfl) (by rw [if_pos rfl]; exact hrd)
                    have h2 := HRK.out
                    rw [h1] at h2
                    exact h2.symm
                  rw [hrd] at hcall
                  go_wp2_with (go_at_call 97; refine (ca _).mono ?_; rintro e w9 ⟨rfl, rfl⟩)
                  refine hcall.mono ?_
                  rintro e w7 ⟨hk7, a, b, A7, n7, d7, rfl⟩
                  have z7 := Zk.keepM hk7 hgn.symm
                  have P7 := Pk.keepM hk7 (by omega)
                  have k7 := Kk.trans hk7
                  have zz := (put3 (a := .int .i64 op) (b := .int .i64 0) (v := .slice A0 dl d0) z7).alloc (.cells #[.int .i64 a, .int .i64 b, .slice A7 n7 d7] 55)
                  clear c0 c1 f0 f1 hl1
                  clear y0 y1 y2 g0 g1 g2 hlz
                  clear p0 p1 p2 q0 q1 q2 hlp
                  have y0 : w7.cell? ⟨gz, 0, none⟩ = some (.int .i64 0) := z7.cell 0
                  have y1 : w7.cell? ⟨gz, 1, none⟩ = some (.int .i64 0) := z7.cell 1
                  have y2 : w7.cell? ⟨gz, 2, none⟩ = some (.slice none 0 0) := z7.cell 2
                  have g0 : w7.frozen? ⟨gz, 0, none⟩ = false := z7.frozen 0
                  have g1 : w7.frozen? ⟨gz, 1, none⟩ = false := z7.frozen 1
                  have g2 : w7.frozen? ⟨gz, 2, none⟩ = false := z7.frozen 2
                  have hlz : gz < w7.heap.size := z7.lt
                  have p0 : w7.cell? ⟨g6, 0, none⟩ = some (.int .i64 op) := P7.cell 0
                  have p1 : w7.cell? ⟨g6, 1, none⟩ = some (.int .i64 0) := P7.cell 1
                  have p2 : w7.cell? ⟨g6, 2, none⟩ = some (.slice A0 dl d0) := P7.cell 2
                  have q0 : w7.frozen? ⟨g6, 0, none⟩ = false := P7.frozen 0
                  have q1 : w7.frozen? ⟨g6, 1, none⟩ = false := P7.frozen 1
                  have q2 : w7.frozen? ⟨g6, 2, none⟩ = false := P7.frozen 2
                  have hlp : g6 < w7.heap.size := P7.lt
                  go_wp2_with fail
                  refine bodyPost_ret (v := .tuple #[.agg #[.int .i64 op, .int .i64 0, .slice A0 dl d0], .bool false]) (by simp [results, Tryd.results67, go_sem, zz.cell]) rfl ?_
                  exact RdPostR.bad ((keep3 k7 hgzw).alloc _)
                | some r =>
                  obtain ⟨p, sa, ma⟩ := r
                  have hdown := rdT_down f _ _ _ _ _ hrd
                  have hnext := hkf.out.step hlt (.inl rfl) (by rw [if_pos rfl]; exact hrd)
                  have HNX := Lib.hid hnext
                  have hsal : sa.length ≤ 140737488355328 := by have := hdown.1; omega
                  have hma := hdown.2
                  rw [hrd] at hcall
                  clear hrd hnext hdown
                  go_wp2_with (go_at_call 97; refine (ca _).mono ?_; rintro e w9 ⟨rfl, rfl⟩)
                  refine hcall.mono ?_
                  rintro e w7 ⟨hk7, A5, d5, rfl, hrep5, R7⟩
                  have Z7 := Zk.keepM hk7 hgn.symm
                  have P7 := Pk.keepM hk7 (by omega)
                  have O7 := Ok.out.keepM hk7 (by omega) (fun q h => h)
                  have K7 := Kk.trans hk7
                  have hz67 := hk7.size
                  have hvf : ∀ q, wo.heap.size ≤ q → some q ≠ (Value.slice A0 dl d0).ownBlock := fun q hq => Ok.out.ne_far hq
                  have hzl := Pk.lt
                  have HR5 : Hid (Rep w7 (fun q => g6 + 1 ≤ q ∧ some q ≠ (Value.slice A0 dl d0).ownBlock) (encP p) [.int .i64 p.op, .int .i64 p.nt, .slice A5 p.kids.length d5]) := Lib.hid (hrep5.imp (fun q hq _ => ⟨by omega, hvf q hq⟩))
                  have HO7 := Lib.hid O7
                  clear c0 c1 f0 f1 hl1
                  clear y0 y1 y2 g0 g1 g2 hlz
                  clear p0 p1 p2 q0 q1 q2 hlp
                  clear hcall hrep5 O7
                  have p0 : w7.cell? ⟨g6, 0, none⟩ = some (.int .i64 op) := P7.cell 0
                  have p1 : w7.cell? ⟨g6, 1, none⟩ = some (.int .i64 0) := P7.cell 1
                  have p2 : w7.cell? ⟨g6, 2, none⟩ = some (.slice A0 dl d0) := P7.cell 2
                  have q0 : w7.frozen? ⟨g6, 0, none⟩ = false := P7.frozen 0
                  have q1 : w7.frozen? ⟨g6, 1, none⟩ = false := P7.frozen 1
                  have q2 : w7.frozen? ⟨g6, 2, none⟩ = false := P7.frozen 2
                  have hlp : g6 < w7.heap.size := P7.lt
                  go_wp2_with (at_builtin; go_must (refine append_one rfl (.tmp 102) (.tmp 104) 50 55 3 40 _ rfl Tryd.underlying50 tree_info rfl (by decide) (by decide) (g6 + 1) (fun q => g6 + 1 ≤ q) (.slice A0 dl d0) (done.map encP) rfl (w7.heap.size + 1) rfl ((HO7.out.alloc _).alloc _) [.int .i64 p.op, .int .i64 p.nt, .slice A5 p.kids.length d5] (encP p) (BlkIs.fresh1 _ _ _ _) rfl (by simp [Value.oneCell']) ((HR5.out.alloc _).alloc _) hdlen (by simp; omega) ?_); intro v2 w8 hown2 hb2 hk2; obtain ⟨A8, d8, rfl, _⟩ := hown2.rep.len; obtain ⟨L8, hL8⟩ : ∃ x, Hid ((done.map encP ++ [encP p]).length = x) := ⟨_, Lib.hid rfl⟩; rw [hL8.out] at hown2 ⊢; have P8 := ((P7.alloc _).alloc _).below hb2 (by omega); have u2 := P8.cell 2; have u3 := P8.frozen 2; have u4 := P8.lt)
                  go_roundw
                  case rel =>
                    refine ⟨0 + 1, done ++ [p], sa, ma, .slice A8 L8 d8, by omega, by go_num, HNX, by simp [hdl], hsal, by omega, ?_, ?_, ?_, ?_, ?_⟩
                    · exact BlkIs.far (BlkIs.below ((BlkIs.alloc (BlkIs.alloc R7 _) _)) hb2 (by omega)) (by simp; omega) _
                    · exact (((Z7.alloc _).alloc _).below hb2 (by omega)).far (by simp; omega) _
                    · exact P8.put 2 _
                    · exact Lib.hid (by
                        rw [List.map_append]
                        exact Own.far hown2 (fun q h => h) (fun q hq _ => heap_setCell_other _ _ _ _ (by simp; omega)))
                    · have hsz := hb2.size
                      simp at hsz
                      refine KeepM.setCell ⟨hb2.os.trans K7.os, hb2.tape.trans K7.tape, hb2.output.trans K7.output, by have := K7.size; omega, fun q hq hl => (hb2.block q (by omega)).trans (((K7.alloc _).alloc _).block q hq hl)⟩ (by simp; omega) _
                  case measure => simp [intOf]; omega
              · have hkd : decide ((0 : Int) < (k : Int)) = true := by simp; omega
                have hkp : 0 < k := by omega
                have e1 := ext_head sk 2
                have e2 := ext_tail sk 2 ns hns.out
                cases hah : aheadB [44, 32] sk
                · obtain rfl : R = none := by
                    have h1 := hkf.out.bad hlt (by rw [hah]; simp; exact hk0)
                    have h2 := HRK.out
                    rw [h1] at h2
                    exact h2.symm
                  by_cases hns2 : ns < 2
                  · have hnd : decide ((ns : Int) < 2) = true := by simp; omega
                    go_wp2_with (go_at_call 97; refine (ca _).mono ?_; rintro e w9 ⟨rfl, rfl⟩)
                    refine bodyPost_ret (v := .tuple #[.agg #[.int .i64 op, .int .i64 0, .slice A0 dl d0], .bool false]) (by simp [results, Tryd.results67, go_sem, (put3 hZ).cell]) rfl ?_
                    exact RdPostR.bad (keep3 hkm hgzw)
                  · have hnd : decide ((ns : Int) < 2) = false := by simp; omega
                    unfold aheadB at hah
                    obtain ⟨x2, hx2⟩ : ∃ x, Hid (sk.take 2 = x) := ⟨_, Lib.hid rfl⟩
                    have hE : (x2 == [44, 32]) = false := by rw [← hx2.out]; exact hah
                    have hE2 : (x2 != [44, 32]) = true := by simpa using hE
                    rw [hx2.out] at e1
                    clear hah
                    go_wp2_with (go_at_call 97; refine (ca _).mono ?_; rintro e w9 ⟨rfl, rfl⟩)
                    refine bodyPost_ret (v := .tuple #[.agg #[.int .i64 op, .int .i64 0, .slice A0 dl d0], .bool false]) (by simp [results, Tryd.results67, go_sem, (put3 hZ).cell]) rfl ?_
                    exact RdPostR.bad (keep3 hkm hgzw)
                · have hns2 : ¬ ns < 2 := by
                    intro h
                    have := ahead_short (b := [44, 32]) (s := sk) (by rw [hns.out]; exact h)
                    rw [this] at hah
                    cases hah
                  have hnd : decide ((ns : Int) < 2) = false := by simp; omega
                  have hah2 := hah
                  unfold aheadB at hah2
                  obtain ⟨x2, hx2⟩ : ∃ x, Hid (sk.take 2 = x) := ⟨_, Lib.hid rfl⟩
                  have hE : (x2 == [44, 32]) = true := by rw [← hx2.out]; exact hah2
                  have hE2 : (x2 != [44, 32]) = false := by simpa using hE
                  rw [hx2.out] at e1
                  clear hah2
                  obtain ⟨s2, hs2⟩ : ∃ x, Hid (sk.drop 2 = x) := ⟨_, Lib.hid rfl⟩
                  rw [hs2.out] at e2
                  go_upto_region 19 with (go_at_call 97; refine (ca _).mono ?_; rintro e w9 ⟨rfl, rfl⟩)
                  obtain ⟨w6, hw6⟩ : ∃ W, wo.setCell ⟨g, 0, none⟩ (.string ⟨s2.toArray⟩) = W := ⟨_, rfl⟩
                  have Rk : RdR w6 g (sk.drop 2) (200 - (mk : Int)) := by rw [← hw6, hs2.out]; exact hRd.putS
                  have Zk : BlkIs w6 gz 55 #[.int .i64 0, .int .i64 0, .slice none 0 0] := by rw [← hw6]; exact hZ.far (by simpa using hgn.symm) _
                  have Pk : BlkIs w6 g6 55 #[.int .i64 op, .int .i64 0, .slice A0 dl d0] := by rw [← hw6]; exact hP.far (by simp; omega) _
                  have Kk : KeepM g w w6 := by rw [← hw6]; exact hkm.own 0 _
                  have Ok : Hid (Own w6 (g6 + 1) (fun q => g6 + 1 ≤ q) 55 3 (.slice A0 dl d0) (done.map encP)) := Lib.hid (by rw [← hw6]; exact Own.far hown.out (fun q h => h) (fun q hq _ => heap_setCell_other _ _ _ _ (by simp; omega)))
                  rw [hw6]
                  clear hw6 hE hE2 hnd
                  clear c0 c1 f0 f1 hl1
                  clear y0 y1 y2 g0 g1 g2 hlz
                  clear p0 p1 p2 q0 q1 q2 hlp
                  have c0 := trivial
                  have c1 := trivial
                  have f0 := trivial
                  have f1 := trivial
                  have hl1 := trivial
                  have y0 : w6.cell? ⟨gz, 0, none⟩ = some (.int .i64 0) := Zk.cell 0
                  have y1 : w6.cell? ⟨gz, 1, none⟩ = some (.int .i64 0) := Zk.cell 1
                  have y2 : w6.cell? ⟨gz, 2, none⟩ = some (.slice none 0 0) := Zk.cell 2
                  have g0 : w6.frozen? ⟨gz, 0, none⟩ = false := Zk.frozen 0
                  have g1 : w6.frozen? ⟨gz, 1, none⟩ = false := Zk.frozen 1
                  have g2 : w6.frozen? ⟨gz, 2, none⟩ = false := Zk.frozen 2
                  have hlz : gz < w6.heap.size := Zk.lt
                  have p0 : w6.cell? ⟨g6, 0, none⟩ = some (.int .i64 op) := Pk.cell 0
                  have p1 : w6.cell? ⟨g6, 1, none⟩ = some (.int .i64 0) := Pk.cell 1
                  have p2 : w6.cell? ⟨g6, 2, none⟩ = some (.slice A0 dl d0) := Pk.cell 2
                  have q0 : w6.frozen? ⟨g6, 0, none⟩ = false := Pk.frozen 0
                  have q1 : w6.frozen? ⟨g6, 1, none⟩ = false := Pk.frozen 1
                  have q2 : w6.frozen? ⟨g6, 2, none⟩ = false := Pk.frozen 2
                  have hlp : g6 < w6.heap.size := Pk.lt
                  have hcall := ih (sk.drop 2) mk g w6 (by omega) (by omega) (by first | exact hskl | (rw [List.length_drop]; omega)) Rk
                  cases hrd : rdT f (sk.drop 2) mk with
                  | none =>
                    obtain rfl : R = none := by
                      have h1 := hkf.out.none hlt (.inr hah) (by rw [if_neg (by omega)]; exact hrd)
                      have h2 := HRK.out
                      rw [h1] at h2
                      exact h2.symm
                    rw [hrd] at hcall
                    go_wp2_with fail
                    refine hcall.mono ?_
                    rintro e w7 ⟨hk7, a, b, A7, n7, d7, rfl⟩
                    have z7 := Zk.keepM hk7 hgn.symm
                    have P7 := Pk.keepM hk7 (by omega)
                    have k7 := Kk.trans hk7
                    have zz := (put3 (a := .int .i64 op) (b := .int .i64 0) (v := .slice A0 dl d0) z7).alloc (.cells #[.int .i64 a, .int .i64 b, .slice A7 n7 d7] 55)
                    clear c0 c1 f0 f1 hl1
                    clear y0 y1 y2 g0 g1 g2 hlz
                    clear p0 p1 p2 q0 q1 q2 hlp
                    have y0 : w7.cell? ⟨gz, 0, none⟩ = some (.int .i64 0) := z7.cell 0
                    have y1 : w7.cell? ⟨gz, 1, none⟩ = some (.int .i64 0) := z7.cell 1
                    have y2 : w7.cell? ⟨gz, 2, none⟩ = some (.slice none 0 0) := z7.cell 2
                    have g0 : w7.frozen? ⟨gz, 0, none⟩ = false := z7.frozen 0
                    have g1 : w7.frozen? ⟨gz, 1, none⟩ = false := z7.frozen 1
                    have g2 : w7.frozen? ⟨gz, 2, none⟩ = false := z7.frozen 2
                    have hlz : gz < w7.heap.size := z7.lt
                    have p0 : w7.cell? ⟨g6, 0, none⟩ = some (.int .i64 op) := P7.cell 0
                    have p1 : w7.cell? ⟨g6, 1, none⟩ = some (.int .i64 0) := P7.cell 1
                    have p2 : w7.cell? ⟨g6, 2, none⟩ = some (.slice A0 dl d0) := P7.cell 2
                    have q0 : w7.frozen? ⟨g6, 0, none⟩ = false := P7.frozen 0
                    have q1 : w7.frozen? ⟨g6, 1, none⟩ = false := P7.frozen 1
                    have q2 : w7.frozen? ⟨g6, 2, none⟩ = false := P7.frozen 2
                    have hlp : g6 < w7.heap.size := P7.lt
                    go_wp2_with fail
                    refine bodyPost_ret (v := .tuple #[.agg #[.int .i64 op, .int .i64 0, .slice A0 dl d0], .bool false]) (by simp [results, Tryd.results67, go_sem, zz.cell]) rfl ?_
                    exact RdPostR.bad ((keep3 k7 hgzw).alloc _)
                  | some r =>
                    obtain ⟨p, sa, ma⟩ := r
                    have hdown := rdT_down f _ _ _ _ _ hrd
                    have hnext := hkf.out.step hlt (.inr hah) (by rw [if_neg (by omega)]; exact hrd)
                    have HNX := Lib.hid hnext
                    have hsal : sa.length ≤ 140737488355328 := by have := hdown.1; rw [List.length_drop] at this; omega
                    have hma := hdown.2
                    rw [hrd] at hcall
                    clear hrd hnext hdown
                    go_wp2_with fail
                    refine hcall.mono ?_
                    rintro e w7 ⟨hk7, A5, d5, rfl, hrep5, R7⟩
                    have Z7 := Zk.keepM hk7 hgn.symm
                    have P7 := Pk.keepM hk7 (by omega)
                    have O7 := Ok.out.keepM hk7 (by omega) (fun q h => h)
                    have K7 := Kk.trans hk7
                    have hz67 := hk7.size
                    have hvf : ∀ q, w6.heap.size ≤ q → some q ≠ (Value.slice A0 dl d0).ownBlock := fun q hq => Ok.out.ne_far hq
                    have hzl := Pk.lt
                    have HR5 : Hid (Rep w7 (fun q => g6 + 1 ≤ q ∧ some q ≠ (Value.slice A0 dl d0).ownBlock) (encP p) [.int .i64 p.op, .int .i64 p.nt, .slice A5 p.kids.length d5]) := Lib.hid (hrep5.imp (fun q hq _ => ⟨by omega, hvf q hq⟩))
                    have HO7 := Lib.hid O7
                    clear c0 c1 f0 f1 hl1
                    clear y0 y1 y2 g0 g1 g2 hlz
                    clear p0 p1 p2 q0 q1 q2 hlp
                    clear hcall hrep5 O7
                    have p0 : w7.cell? ⟨g6, 0, none⟩ = some (.int .i64 op) := P7.cell 0
                    have p1 : w7.cell? ⟨g6, 1, none⟩ = some (.int .i64 0) := P7.cell 1
                    have p2 : w7.cell? ⟨g6, 2, none⟩ = some (.slice A0 dl d0) := P7.cell 2
                    have q0 : w7.frozen? ⟨g6, 0, none⟩ = false := P7.frozen 0
                    have q1 : w7.frozen? ⟨g6, 1, none⟩ = false := P7.frozen 1
                    have q2 : w7.frozen? ⟨g6, 2, none⟩ = false := P7.frozen 2
                    have hlp : g6 < w7.heap.size := P7.lt
                    go_wp2_with (at_builtin; go_must (refine append_one rfl (.tmp 102) (.tmp 104) 50 55 3 40 _ rfl Tryd.underlying50 tree_info rfl (by decide) (by decide) (g6 + 1) (fun q => g6 + 1 ≤ q) (.slice A0 dl d0) (done.map encP) rfl (w7.heap.size + 1) rfl ((HO7.out.alloc _).alloc _) [.int .i64 p.op, .int .i64 p.nt, .slice A5 p.kids.length d5] (encP p) (BlkIs.fresh1 _ _ _ _) rfl (by simp [Value.oneCell']) ((HR5.out.alloc _).alloc _) hdlen (by simp; omega) ?_); intro v2 w8 hown2 hb2 hk2; obtain ⟨A8, d8, rfl, _⟩ := hown2.rep.len; obtain ⟨L8, hL8⟩ : ∃ x, Hid ((done.map encP ++ [encP p]).length = x) := ⟨_, Lib.hid rfl⟩; rw [hL8.out] at hown2 ⊢; have P8 := ((P7.alloc _).alloc _).below hb2 (by omega); have u2 := P8.cell 2; have u3 := P8.frozen 2; have u4 := P8.lt)
                    go_roundw
                    case rel =>
                      refine ⟨k + 1, done ++ [p], sa, ma, .slice A8 L8 d8, by omega, by go_num, HNX, by simp [hdl], hsal, by omega, ?_, ?_, ?_, ?_, ?_⟩
                      · exact BlkIs.far (BlkIs.below ((BlkIs.alloc (BlkIs.alloc R7 _) _)) hb2 (by omega)) (by simp; omega) _
                      · exact (((Z7.alloc _).alloc _).below hb2 (by omega)).far (by simp; omega) _
                      · exact P8.put 2 _
                      · exact Lib.hid (by
                          rw [List.map_append]
                          exact Own.far hown2 (fun q h => h) (fun q hq _ => heap_setCell_other _ _ _ _ (by simp; omega)))
                      · have hsz := hb2.size
                        simp at hsz
                        refine KeepM.setCell ⟨hb2.os.trans K7.os, hb2.tape.trans K7.tape, hb2.output.trans K7.output, by have := K7.size; omega, fun q hq hl => (hb2.block q (by omega)).trans (((K7.alloc _).alloc _).block q hq hl)⟩ (by simp; omega) _
                    case measure => simp [intOf]; omega
            · obtain rfl : k = N := by omega
              have hlast := hkf.out.last
              have HR5 := HRK.out
              rw [hlast] at HR5
              simp only at HR5
              have hdd : Hid (dl = done.length) := Lib.hid hdle.out.symm
              obtain ⟨sr, hsr⟩ : ∃ x, Hid (sk.drop 1 = x) := ⟨_, Lib.hid rfl⟩
              rw [hsr.out] at HR5
              have e2 := ext_tail sk 1 ns hns.out
              rw [hsr.out] at e2
              by_cases hns1 : ns < 1
              · have hnd : decide ((ns : Int) < 1) = true := by simp; omega
                have hah := ahead_short (b := [41]) (s := sk) (by rw [hns.out]; exact hns1)
                obtain rfl : R = none := by rw [← HR5, hah]; simp
                go_wp2_with (go_at_call 97; refine (ca _).mono ?_; rintro e w9 ⟨rfl, rfl⟩)
                refine bodyPost_ret (v := .tuple #[.agg #[.int .i64 op, .int .i64 0, .slice A0 dl d0], .bool false]) (by simp [results, Tryd.results67, go_sem, (put3 hZ).cell]) rfl ?_
                exact RdPostR.bad (keep3 hkm hgzw)
              · have hnd : decide ((ns : Int) < 1) = false := by simp; omega
                have hsp : 0 < sk.length := by rw [hns.out]; omega
                obtain ⟨b, hb⟩ : ∃ b, Hid (sk[0] = b) := ⟨_, Lib.hid rfl⟩
                have hget : ((⟨sk.toArray⟩ : ByteArray)[0]'(by rw [hssz]; omega)) = b := hb.out
                have hahb : aheadB [41] sk = (b == 41) := by
                  unfold aheadB
                  cases sk with
                  | nil => simp at hsp
                  | cons c r =>
                    have : c = b := hb.out
                    rw [this]
                    simp [List.cons_beq_cons]
                by_cases hb41 : b = 41
                · have hE : ((b.toNat : Int) == 41) = true := by rw [hb41]; rfl
                  have hE2 : ((b.toNat : Int) != 41) = false := by rw [hb41]; rfl
                  obtain rfl : R = some (.mk op 0 done, sr, mk) := by rw [← HR5, hahb, hb41]; simp
                  clear hahb hb41 HR5
                  go_upto_region 26 with (go_at_call 97; refine (ca _).mono ?_; rintro e w9 ⟨rfl, rfl⟩)
                  obtain ⟨w6, hw6⟩ : ∃ W, wo.setCell ⟨g, 0, none⟩ (.string ⟨sr.toArray⟩) = W := ⟨_, rfl⟩
                  have Rk : RdR w6 g sr (200 - (mk : Int)) := by rw [← hw6]; exact hRd.putS
                  have Zk : BlkIs w6 gz 55 #[.int .i64 0, .int .i64 0, .slice none 0 0] := by rw [← hw6]; exact hZ.far (by simpa using hgn.symm) _
                  have Pk : BlkIs w6 g6 55 #[.int .i64 op, .int .i64 0, .slice A0 dl d0] := by rw [← hw6]; exact hP.far (by simp; omega) _
                  have Kk : KeepM g w w6 := by rw [← hw6]; exact hkm.own 0 _
                  have Ok : Hid (Own w6 (g6 + 1) (fun q => g6 + 1 ≤ q) 55 3 (.slice A0 dl d0) (done.map encP)) := Lib.hid (by rw [← hw6]; exact Own.far hown.out (fun q h => h) (fun q hq _ => heap_setCell_other _ _ _ _ (by simp; omega)))
                  rw [hw6]
                  clear hw6 hE hE2 hnd
                  clear c0 c1 f0 f1 hl1
                  clear y0 y1 y2 g0 g1 g2 hlz
                  clear p0 p1 p2 q0 q1 q2 hlp
                  have y0 : w6.cell? ⟨gz, 0, none⟩ = some (.int .i64 0) := Zk.cell 0
                  have y1 : w6.cell? ⟨gz, 1, none⟩ = some (.int .i64 0) := Zk.cell 1
                  have y2 : w6.cell? ⟨gz, 2, none⟩ = some (.slice none 0 0) := Zk.cell 2
                  have g0 : w6.frozen? ⟨gz, 0, none⟩ = false := Zk.frozen 0
                  have g1 : w6.frozen? ⟨gz, 1, none⟩ = false := Zk.frozen 1
                  have g2 : w6.frozen? ⟨gz, 2, none⟩ = false := Zk.frozen 2
                  have hlz : gz < w6.heap.size := Zk.lt
                  have p0 : w6.cell? ⟨g6, 0, none⟩ = some (.int .i64 op) := Pk.cell 0
                  have p1 : w6.cell? ⟨g6, 1, none⟩ = some (.int .i64 0) := Pk.cell 1
                  have p2 : w6.cell? ⟨g6, 2, none⟩ = some (.slice A0 dl d0) := Pk.cell 2
                  have q0 : w6.frozen? ⟨g6, 0, none⟩ = false := Pk.frozen 0
                  have q1 : w6.frozen? ⟨g6, 1, none⟩ = false := Pk.frozen 1
                  have q2 : w6.frozen? ⟨g6, 2, none⟩ = false := Pk.frozen 2
                  have hlp : g6 < w6.heap.size := Pk.lt
                  go_wp2_with fail
                  refine bodyPost_ret (v := .tuple #[.agg #[.int .i64 op, .int .i64 0, .slice A0 dl d0], .bool true]) (by simp [results, Tryd.results67, go_sem, (put3 Zk).cell]) rfl ?_
                  refine ⟨keep3 Kk hgzw, A0, d0, by rw [hdd.out]; rfl, ?_, rdr3 Rk hgn⟩
                  have hrepd : Rep w6 (fun q => g6 + 1 ≤ q) (.lst 3 (done.map encP)) [.slice A0 done.length d0] := by
                    rw [← hdd.out]
                    exact Ok.out.rep.imp (fun q hq _ => by omega)
                  have hrepe := Rep.keep (w' := ((w6.setCell ⟨gz, 0, none⟩ (.int .i64 op)).setCell ⟨gz, 1, none⟩ (.int .i64 0)).setCell ⟨gz, 2, none⟩ (.slice A0 dl d0)) (ok' := fun q => w.heap.size ≤ q) (fun q hq _ => by omega) (fun q hq _ => ((heap_setCell_other _ _ _ _ (by simp; omega)).trans (heap_setCell_other _ _ _ _ (by simp; omega))).trans (heap_setCell_other _ _ _ _ (by simp; omega))) _ _ hrepd
                  exact rep_pat_mk (p := .mk op 0 done) hrepe
                · have hE : ((b.toNat : Int) == 41) = false := by
                    rw [beq_eq_false_iff_ne]
                    intro h
                    apply hb41
                    apply UInt8.toNat_inj.1
                    have h41 : (41 : UInt8).toNat = 41 := rfl
                    omega
                  have hE2 : ((b.toNat : Int) != 41) = true := by simpa using hE
                  obtain rfl : R = none := by rw [← HR5, hahb]; simp [hb41]
                  clear hahb hb41 HR5
                  go_wp2_with (go_at_call 97; refine (ca _).mono ?_; rintro e w9 ⟨rfl, rfl⟩)
                  refine bodyPost_ret (v := .tuple #[.agg #[.int .i64 op, .int .i64 0, .slice A0 dl d0], .bool false]) (by simp [results, Tryd.results67, go_sem, (put3 hZ).cell]) rfl ?_
                  exact RdPostR.bad (keep3 hkm hgzw)

theorem rdR_any : ∀ f, RdOkR f
  | 0 => fun _ _ _ _ h => absurd h (by omega)
  | f + 1 => rdR_step f (rdR_any f)

end

/- Which tree a text is, by the program and by the reference: tree.Parse, gantletref6.Parse walked. -/
section
open Go.RowKit

def parseA (s : List UInt8) : Option Pat := match rdT 201 s 200 with
  | none => none
  | some (p, s2, _) => if s2 = [] ∧ mayT p = true then some p else none
def noTree : Pat := .mk 0 0 []
def treeA (s : List UInt8) : Pat := (parseA s).getD noTree

theorem Tabs2.far {w : World} {g : Nat} (h : Tabs2 w) (hg : w.heap.size ≤ g) : Far g := by
  have key : ∀ (name : String) (x : Array Value), w.var? Tryd.prog name = some x → ∀ k, Tryd.prog.globalNamed name = some k → k < g := by
    intro name x hx k hk
    unfold World.var? at hx
    rw [hk] at hx
    simp only [Option.bind_some] at hx
    have hlt : k < w.heap.size := by
      rcases Nat.lt_or_ge k w.heap.size with h' | h'
      · exact h'
      · rw [Array.getElem?_eq_none h'] at hx; simp at hx
    omega
  obtain ⟨⟨h1, h2⟩, ⟨t3, p3, h3⟩, ⟨t4, p4, h4⟩⟩ := h
  intro name hn
  simp only [List.mem_cons, List.not_mem_nil, or_false] at hn
  rcases hn with rfl | rfl | rfl | rfl
  · exact key _ _ h1
  · exact key _ _ h2
  · exact key _ _ h3
  · exact key _ _ h4

theorem below_keep {w w1 w2 : World} {g : Nat} (h : Below w.heap.size w w1) (hk : KeepM g w1 w2) (hg : w.heap.size ≤ g) : Below w.heap.size w w2 :=
  ⟨hk.os.trans h.os, hk.tape.trans h.tape, hk.output.trans h.output, Nat.le_trans h.size hk.size, fun k hl => (hk.block k (by omega) (by have := h.size; omega)).trans (h.block k hl)⟩
theorem below_put3 {w w1 : World} {gz : Nat} {a b v : Value} (h : Below w.heap.size w w1) (hz : w.heap.size ≤ gz) : Below w.heap.size w (((w1.setCell ⟨gz, 0, none⟩ a).setCell ⟨gz, 1, none⟩ b).setCell ⟨gz, 2, none⟩ v) :=
  ⟨h.os, h.tape, h.output, by simp [World.setCell]; exact h.size, fun k hl => (((heap_setCell_other _ _ _ _ (by simp; omega)).trans (heap_setCell_other _ _ _ _ (by simp; omega))).trans (heap_setCell_other _ _ _ _ (by simp; omega))).trans (h.block k hl)⟩
theorem rep_put3 {w : World} {gz : Nat} {a b v : Value} {d : D} {cs : List Value} (h : Rep w (fun k => gz < k) d cs) : Rep (((w.setCell ⟨gz, 0, none⟩ a).setCell ⟨gz, 1, none⟩ b).setCell ⟨gz, 2, none⟩ v) (fun k => gz < k) d cs :=
  Rep.keep (fun _ h _ => h) (fun q hq _ => ((heap_setCell_other _ _ _ _ (by simp; omega)).trans (heap_setCell_other _ _ _ _ (by simp; omega))).trans (heap_setCell_other _ _ _ _ (by simp; omega))) _ _ h

def ParsePRet (s : List UInt8) (w : World) (e : Ending) (w' : World) : Prop := ∃ (A : Option Addr) (c : Nat), e = .returned (.tuple #[.agg #[.int .i64 (treeA s).op, .int .i64 (treeA s).nt, .slice A (treeA s).kids.length c], .int .i64 (errT (parseA s).isSome)]) ∧ PatIn w' A c (treeA s) ∧ Below w.heap.size w w'
def ParseRRet (s : List UInt8) (w : World) (e : Ending) (w' : World) : Prop := ∃ (A : Option Addr) (c : Nat), e = .returned (.tuple #[.agg #[.int .i64 (treeA s).op, .int .i64 (treeA s).nt, .slice A (treeA s).kids.length c], .bool (parseA s).isSome]) ∧ PatIn w' A c (treeA s) ∧ Below w.heap.size w w'

theorem noTree_in (w : World) : PatIn w none 0 noTree := ⟨fun _ => True, rep_leaf⟩

set_option maxRecDepth 100000 in
set_option maxHeartbeats 4000000 in
theorem tparse_any (s : List UInt8) (hs : s.length ≤ 140737488355328) (w : World) (ht : Tabs2 w) : Calls Tryd.prog 36 #[.string ⟨s.toArray⟩] w (ParsePRet s w) := by
  have hfar := ht.far (g := w.heap.size + 1) (by omega)
  have hb0 := below_alloc w (.cells #[.int .i64 0, .int .i64 0, .slice none 0 0] 55)
  have hb1 := hb0.alloc (by simp) (.cells #[.string ⟨s.toArray⟩, .int .i64 200] 96)
  have z1 : BlkIs ((w.alloc (.cells #[.int .i64 0, .int .i64 0, .slice none 0 0] 55)).alloc (.cells #[.string ⟨s.toArray⟩, .int .i64 200] 96)) w.heap.size 55 #[.int .i64 0, .int .i64 0, .slice none 0 0] := (BlkIs.fresh _ _ _).alloc _
  have r1 : RdP ((w.alloc (.cells #[.int .i64 0, .int .i64 0, .slice none 0 0] 55)).alloc (.cells #[.string ⟨s.toArray⟩, .int .i64 200] 96)) (w.heap.size + 1) s (((200 : Nat) : Int)) := BlkIs.fresh1 _ _ _ _
  have hcall := rdP_any 201 s 200 (w.heap.size + 1) _ (by omega) (by omega) hs r1 (ht.below hb1) hfar
  obtain ⟨gz, hgz⟩ : ∃ x, Hid (w.heap.size = x) := ⟨_, Lib.hid rfl⟩
  have hszg : w.heap.size ≤ gz := Nat.le_of_eq hgz.out
  unfold ParsePRet treeA
  have hpa : parseA s = match rdT 201 s 200 with
    | none => none
    | some (p, s2, _) => if s2 = [] ∧ mayT p = true then some p else none := rfl
  obtain ⟨Q, hQ⟩ : ∃ Q, Hid (parseA s = Q) := ⟨_, Lib.hid rfl⟩
  rw [hQ.out] at hpa ⊢
  obtain ⟨R, hR⟩ : ∃ R, Hid (rdT 201 s 200 = R) := ⟨_, Lib.hid rfl⟩
  rw [hR.out] at hpa hcall
  go_enter Tryd.func36, Tryd.ntmps36
  go_upto_region 2 with fail
  obtain ⟨w1, hw1⟩ : ∃ W, (w.alloc (.cells #[.int .i64 0, .int .i64 0, .slice none 0 0] 55)).alloc (.cells #[.string ⟨s.toArray⟩, .int .i64 200] 96) = W := ⟨_, rfl⟩
  rw [hw1] at hb1 z1 hcall ⊢
  rw [hgz.out] at z1 hcall ⊢
  have hw1s : gz + 1 < w1.heap.size := by rw [← hw1, ← hgz.out]; simp
  clear hw1 hb0 r1
  cases R with
  | none =>
    simp only at hpa
    subst hpa
    go_wp2_with fail
    refine hcall.mono ?_
    rintro e w2 ⟨hk2, a, b, A, n, c, rfl⟩
    have z2 := z1.keepM hk2 (by omega)
    have hb2 := below_keep hb1 hk2 (by omega)
    have y0 : w2.cell? ⟨gz, 0, none⟩ = some (.int .i64 0) := z2.cell 0
    have y1 : w2.cell? ⟨gz, 1, none⟩ = some (.int .i64 0) := z2.cell 1
    have y2 : w2.cell? ⟨gz, 2, none⟩ = some (.slice none 0 0) := z2.cell 2
    have g0 : w2.frozen? ⟨gz, 0, none⟩ = false := z2.frozen 0
    have g1 : w2.frozen? ⟨gz, 1, none⟩ = false := z2.frozen 1
    have g2 : w2.frozen? ⟨gz, 2, none⟩ = false := z2.frozen 2
    have hlz : gz < w2.heap.size := z2.lt
    go_wp2_with fail
    have zz := ((put3 (a := .int .i64 0) (b := .int .i64 0) (v := .slice none 0 0) z2).alloc (.cells #[.int .i64 a, .int .i64 b, .slice A n c] 55))
    refine bodyPost_ret (v := .tuple #[.agg #[.int .i64 0, .int .i64 0, .slice none 0 0], .int .i64 1]) (by simp [results, Tryd.results36, go_sem, zz.cell]) rfl ?_
    exact ⟨none, 0, rfl, noTree_in _, ((below_put3 hb2 hszg).alloc (by have := (below_put3 (a := .int .i64 0) (b := .int .i64 0) (v := .slice none 0 0) hb2 hszg).size; omega) _)⟩
  | some r =>
    obtain ⟨p, s2, m2⟩ := r
    simp only at hpa
    go_wp2_with fail
    refine hcall.mono ?_
    rintro e w2 ⟨hk2, A, d, rfl, hrep, r2⟩
    have z2 := z1.keepM hk2 (by omega)
    have hb2 := below_keep hb1 hk2 (by omega)
    have c0 : w2.cell? ⟨gz + 1, 0, none⟩ = some (.string ⟨s2.toArray⟩) := BlkIs.cell r2 0
    have hl1 : gz + 1 < w2.heap.size := BlkIs.lt r2
    have HP : Hid (PatIn w2 A d p) := Lib.hid ⟨_, hrep⟩
    have hrep1 : Rep w2 (fun k => gz < k) (encP p) [.int .i64 p.op, .int .i64 p.nt, .slice A p.kids.length d] := hrep.imp (fun k hk _ => by omega)
    have HRP := Lib.hid hrep1
    clear hrep hrep1 hcall
    have y0 : w2.cell? ⟨gz, 0, none⟩ = some (.int .i64 0) := z2.cell 0
    have y1 : w2.cell? ⟨gz, 1, none⟩ = some (.int .i64 0) := z2.cell 1
    have y2 : w2.cell? ⟨gz, 2, none⟩ = some (.slice none 0 0) := z2.cell 2
    have g0 : w2.frozen? ⟨gz, 0, none⟩ = false := z2.frozen 0
    have g1 : w2.frozen? ⟨gz, 1, none⟩ = false := z2.frozen 1
    have g2 : w2.frozen? ⟨gz, 2, none⟩ = false := z2.frozen 2
    have hlz : gz < w2.heap.size := z2.lt
    by_cases hs2 : s2 = []
    · subst hs2
      have hbb := hb2.alloc hb2.size (.cells #[.int .i64 p.op, .int .i64 p.nt, .slice A p.kids.length d] 55)
      have hbx : BlkIs (w2.alloc (.cells #[.int .i64 p.op, .int .i64 p.nt, .slice A p.kids.length d] 55)) w2.heap.size 55 #[.int .i64 p.op, .int .i64 p.nt, .slice A p.kids.length d] := BlkIs.fresh _ _ _
      have z3 := z2.alloc (.cells #[.int .i64 p.op, .int .i64 p.nt, .slice A p.kids.length d] 55)
      have hmay := fun W h => mayT_any p A d W h
      cases hmb : mayT p
      · rw [hmb] at hmay hpa
        obtain rfl : Q = none := by rw [hpa]; simp
        go_wp2_with fail
        refine (hmay _ (HP.out.below (below_alloc _ _))).mono ?_
        rintro e w3 ⟨rfl, hb3⟩
        have z4 := z3.below hb3 z3.lt
        have hb4 := hbb.trans (hb3.mono (by have := hb2.size; simp; omega))
        clear y0 y1 y2 g0 g1 g2 hlz
        have y0 : w3.cell? ⟨gz, 0, none⟩ = some (.int .i64 0) := z4.cell 0
        have y1 : w3.cell? ⟨gz, 1, none⟩ = some (.int .i64 0) := z4.cell 1
        have y2 : w3.cell? ⟨gz, 2, none⟩ = some (.slice none 0 0) := z4.cell 2
        have g0 : w3.frozen? ⟨gz, 0, none⟩ = false := z4.frozen 0
        have g1 : w3.frozen? ⟨gz, 1, none⟩ = false := z4.frozen 1
        have g2 : w3.frozen? ⟨gz, 2, none⟩ = false := z4.frozen 2
        have hlz : gz < w3.heap.size := z4.lt
        go_wp2_with fail
        have zz := (put3 (a := .int .i64 0) (b := .int .i64 0) (v := .slice none 0 0) z4)
        refine bodyPost_ret (v := .tuple #[.agg #[.int .i64 0, .int .i64 0, .slice none 0 0], .int .i64 1]) (by simp [results, Tryd.results36, go_sem, zz.cell]) rfl ?_
        exact ⟨none, 0, rfl, noTree_in _, (below_put3 hb4 hszg)⟩
      · rw [hmb] at hmay hpa
        obtain rfl : Q = some p := by rw [hpa]; simp
        go_wp2_with fail
        refine (hmay _ (HP.out.below (below_alloc _ _))).mono ?_
        rintro e w3 ⟨rfl, hb3⟩
        have z4 := z3.below hb3 z3.lt
        have hb4 := hbb.trans (hb3.mono (by have := hb2.size; simp; omega))
        have hx4 := hbx.below hb3 hbx.lt
        have hrep4 := (HRP.out.alloc (.cells #[.int .i64 p.op, .int .i64 p.nt, .slice A p.kids.length d] 55)).below hb3
        clear y0 y1 y2 g0 g1 g2 hlz
        have y0 : w3.cell? ⟨gz, 0, none⟩ = some (.int .i64 0) := z4.cell 0
        have y1 : w3.cell? ⟨gz, 1, none⟩ = some (.int .i64 0) := z4.cell 1
        have y2 : w3.cell? ⟨gz, 2, none⟩ = some (.slice none 0 0) := z4.cell 2
        have g0 : w3.frozen? ⟨gz, 0, none⟩ = false := z4.frozen 0
        have g1 : w3.frozen? ⟨gz, 1, none⟩ = false := z4.frozen 1
        have g2 : w3.frozen? ⟨gz, 2, none⟩ = false := z4.frozen 2
        have hlz : gz < w3.heap.size := z4.lt
        have p0 : w3.cell? ⟨w2.heap.size, 0, none⟩ = some (.int .i64 p.op) := hx4.cell 0
        have p1 : w3.cell? ⟨w2.heap.size, 1, none⟩ = some (.int .i64 p.nt) := hx4.cell 1
        have p2 : w3.cell? ⟨w2.heap.size, 2, none⟩ = some (.slice A p.kids.length d) := hx4.cell 2
        have hlp : w2.heap.size < w3.heap.size := hx4.lt
        go_wp2_with fail
        have zz := put3 (a := .int .i64 p.op) (b := .int .i64 p.nt) (v := .slice A p.kids.length d) z4
        refine bodyPost_ret (v := .tuple #[.agg #[.int .i64 p.op, .int .i64 p.nt, .slice A p.kids.length d], .int .i64 0]) (by simp [results, Tryd.results36, go_sem, zz.cell]) rfl ?_
        exact ⟨A, d, rfl, ⟨_, rep_put3 hrep4⟩, below_put3 hb4 hszg⟩
    · obtain rfl : Q = none := by rw [hpa, if_neg (fun h => hs2 h.1)]
      have hE : (s2 == []) = false := by simpa using hs2
      have hE2 : (s2 != []) = true := by simpa using hs2
      clear hs2
      go_wp2_with fail
      have zz := ((put3 (a := .int .i64 0) (b := .int .i64 0) (v := .slice none 0 0) z2).alloc (.cells #[.int .i64 p.op, .int .i64 p.nt, .slice A p.kids.length d] 55))
      refine bodyPost_ret (v := .tuple #[.agg #[.int .i64 0, .int .i64 0, .slice none 0 0], .int .i64 1]) (by simp [results, Tryd.results36, go_sem, zz.cell]) rfl ?_
      exact ⟨none, 0, rfl, noTree_in _, ((below_put3 hb2 hszg).alloc (by have := (below_put3 (a := .int .i64 0) (b := .int .i64 0) (v := .slice none 0 0) hb2 hszg).size; omega) _)⟩

set_option maxRecDepth 100000 in
set_option maxHeartbeats 4000000 in
theorem rparse_any (s : List UInt8) (hs : s.length ≤ 140737488355328) (w : World) : Calls Tryd.prog 37 #[.string ⟨s.toArray⟩] w (ParseRRet s w) := by
  have hb0 := below_alloc w (.cells #[.int .i64 0, .int .i64 0, .slice none 0 0] 55)
  have hb1 := hb0.alloc (by simp) (.cells #[.string ⟨s.toArray⟩, .int .i64 0] 100)
  have z1 : BlkIs ((w.alloc (.cells #[.int .i64 0, .int .i64 0, .slice none 0 0] 55)).alloc (.cells #[.string ⟨s.toArray⟩, .int .i64 0] 100)) w.heap.size 55 #[.int .i64 0, .int .i64 0, .slice none 0 0] := (BlkIs.fresh _ _ _).alloc _
  have r1 : RdR ((w.alloc (.cells #[.int .i64 0, .int .i64 0, .slice none 0 0] 55)).alloc (.cells #[.string ⟨s.toArray⟩, .int .i64 0] 100)) (w.heap.size + 1) s (200 - ((200 : Nat) : Int)) := BlkIs.fresh1 _ _ _ _
  have hcall := rdR_any 201 s 200 (w.heap.size + 1) _ (by omega) (by omega) hs r1
  obtain ⟨gz, hgz⟩ : ∃ x, Hid (w.heap.size = x) := ⟨_, Lib.hid rfl⟩
  have hszg : w.heap.size ≤ gz := Nat.le_of_eq hgz.out
  unfold ParseRRet treeA
  have hpa : parseA s = match rdT 201 s 200 with
    | none => none
    | some (p, s2, _) => if s2 = [] ∧ mayT p = true then some p else none := rfl
  obtain ⟨Q, hQ⟩ : ∃ Q, Hid (parseA s = Q) := ⟨_, Lib.hid rfl⟩
  rw [hQ.out] at hpa ⊢
  obtain ⟨R, hR⟩ : ∃ R, Hid (rdT 201 s 200 = R) := ⟨_, Lib.hid rfl⟩
  rw [hR.out] at hpa hcall
  go_enter Tryd.func37, Tryd.ntmps37
  go_upto_region 2 with fail
  obtain ⟨w1, hw1⟩ : ∃ W, (w.alloc (.cells #[.int .i64 0, .int .i64 0, .slice none 0 0] 55)).alloc (.cells #[.string ⟨s.toArray⟩, .int .i64 0] 100) = W := ⟨_, rfl⟩
  rw [hw1] at hb1 z1 hcall ⊢
  rw [hgz.out] at z1 hcall ⊢
  have hw1s : gz + 1 < w1.heap.size := by rw [← hw1, ← hgz.out]; simp
  clear hw1 hb0 r1
  cases R with
  | none =>
    simp only at hpa
    subst hpa
    go_wp2_with fail
    refine hcall.mono ?_
    rintro e w2 ⟨hk2, a, b, A, n, c, rfl⟩
    have z2 := z1.keepM hk2 (by omega)
    have hb2 := below_keep hb1 hk2 (by omega)
    have y0 : w2.cell? ⟨gz, 0, none⟩ = some (.int .i64 0) := z2.cell 0
    have y1 : w2.cell? ⟨gz, 1, none⟩ = some (.int .i64 0) := z2.cell 1
    have y2 : w2.cell? ⟨gz, 2, none⟩ = some (.slice none 0 0) := z2.cell 2
    have g0 : w2.frozen? ⟨gz, 0, none⟩ = false := z2.frozen 0
    have g1 : w2.frozen? ⟨gz, 1, none⟩ = false := z2.frozen 1
    have g2 : w2.frozen? ⟨gz, 2, none⟩ = false := z2.frozen 2
    have hlz : gz < w2.heap.size := z2.lt
    go_wp2_with fail
    have zz := ((put3 (a := .int .i64 0) (b := .int .i64 0) (v := .slice none 0 0) z2).alloc (.cells #[.int .i64 a, .int .i64 b, .slice A n c] 55))
    refine bodyPost_ret (v := .tuple #[.agg #[.int .i64 0, .int .i64 0, .slice none 0 0], .bool false]) (by simp [results, Tryd.results37, go_sem, zz.cell]) rfl ?_
    exact ⟨none, 0, rfl, noTree_in _, ((below_put3 hb2 hszg).alloc (by have := (below_put3 (a := .int .i64 0) (b := .int .i64 0) (v := .slice none 0 0) hb2 hszg).size; omega) _)⟩
  | some r =>
    obtain ⟨p, s2, m2⟩ := r
    simp only at hpa
    go_wp2_with fail
    refine hcall.mono ?_
    rintro e w2 ⟨hk2, A, d, rfl, hrep, r2⟩
    have z2 := z1.keepM hk2 (by omega)
    have hb2 := below_keep hb1 hk2 (by omega)
    have c0 : w2.cell? ⟨gz + 1, 0, none⟩ = some (.string ⟨s2.toArray⟩) := BlkIs.cell r2 0
    have hl1 : gz + 1 < w2.heap.size := BlkIs.lt r2
    have HP : Hid (PatIn w2 A d p) := Lib.hid ⟨_, hrep⟩
    have hrep1 : Rep w2 (fun k => gz < k) (encP p) [.int .i64 p.op, .int .i64 p.nt, .slice A p.kids.length d] := hrep.imp (fun k hk _ => by omega)
    have HRP := Lib.hid hrep1
    clear hrep hrep1 hcall
    have y0 : w2.cell? ⟨gz, 0, none⟩ = some (.int .i64 0) := z2.cell 0
    have y1 : w2.cell? ⟨gz, 1, none⟩ = some (.int .i64 0) := z2.cell 1
    have y2 : w2.cell? ⟨gz, 2, none⟩ = some (.slice none 0 0) := z2.cell 2
    have g0 : w2.frozen? ⟨gz, 0, none⟩ = false := z2.frozen 0
    have g1 : w2.frozen? ⟨gz, 1, none⟩ = false := z2.frozen 1
    have g2 : w2.frozen? ⟨gz, 2, none⟩ = false := z2.frozen 2
    have hlz : gz < w2.heap.size := z2.lt
    by_cases hs2 : s2 = []
    · subst hs2
      have hbb := hb2.alloc hb2.size (.cells #[.int .i64 p.op, .int .i64 p.nt, .slice A p.kids.length d] 55)
      have hbx : BlkIs (w2.alloc (.cells #[.int .i64 p.op, .int .i64 p.nt, .slice A p.kids.length d] 55)) w2.heap.size 55 #[.int .i64 p.op, .int .i64 p.nt, .slice A p.kids.length d] := BlkIs.fresh _ _ _
      have z3 := z2.alloc (.cells #[.int .i64 p.op, .int .i64 p.nt, .slice A p.kids.length d] 55)
      have hmay := fun W h => mayTR_any p A d W h
      unfold FitTPost at hmay
      cases hmb : mayT p
      · rw [hmb] at hmay hpa
        obtain rfl : Q = none := by rw [hpa]; simp
        go_wp2_with fail
        refine (hmay _ (HP.out.below (below_alloc _ _))).mono ?_
        rintro e w3 ⟨mm, rfl, _, hb3⟩
        have z4 := z3.below hb3 z3.lt
        have hb4 := hbb.trans (hb3.mono (by have := hb2.size; simp; omega))
        clear y0 y1 y2 g0 g1 g2 hlz
        have y0 : w3.cell? ⟨gz, 0, none⟩ = some (.int .i64 0) := z4.cell 0
        have y1 : w3.cell? ⟨gz, 1, none⟩ = some (.int .i64 0) := z4.cell 1
        have y2 : w3.cell? ⟨gz, 2, none⟩ = some (.slice none 0 0) := z4.cell 2
        have g0 : w3.frozen? ⟨gz, 0, none⟩ = false := z4.frozen 0
        have g1 : w3.frozen? ⟨gz, 1, none⟩ = false := z4.frozen 1
        have g2 : w3.frozen? ⟨gz, 2, none⟩ = false := z4.frozen 2
        have hlz : gz < w3.heap.size := z4.lt
        go_wp2_with fail
        have zz := (put3 (a := .int .i64 0) (b := .int .i64 0) (v := .slice none 0 0) z4)
        refine bodyPost_ret (v := .tuple #[.agg #[.int .i64 0, .int .i64 0, .slice none 0 0], .bool false]) (by simp [results, Tryd.results37, go_sem, zz.cell]) rfl ?_
        exact ⟨none, 0, rfl, noTree_in _, (below_put3 hb4 hszg)⟩
      · rw [hmb] at hmay hpa
        obtain rfl : Q = some p := by rw [hpa]; simp
        have hwf := (rdT_sound 201 s 200 p [] m2 hR.out).2
        have htx : textT p = s := by have := (rdT_sound 201 s 200 p [] m2 hR.out).1; rw [List.append_nil] at this; exact this.symm
        have hok := Lib.hid (mayT_ok hmb).1
        have hnn := (mayT_ok hmb).2
        have htxt := fun W h => textR_any' p A d W h hwf hok.out (by omega)
        rw [htx] at htxt
        clear htx hmb
        go_wp2_with fail
        refine (hmay _ (HP.out.below (below_alloc _ _))).mono ?_
        rintro e w5 ⟨mm, rfl, _, hb5⟩
        have z5 := z3.below hb5 z3.lt
        have hb6 := hbb.trans (hb5.mono (by have := hb2.size; simp; omega))
        have hx5 := hbx.below hb5 hbx.lt
        have hrep5 := (HRP.out.alloc (.cells #[.int .i64 p.op, .int .i64 p.nt, .slice A p.kids.length d] 55)).below hb5
        have HP5 := HP.out.below ((below_alloc w2 (.cells #[.int .i64 p.op, .int .i64 p.nt, .slice A p.kids.length d] 55)).trans (hb5.mono (by simp)))
        clear y0 y1 y2 g0 g1 g2 hlz
        have p0 : w5.cell? ⟨w2.heap.size, 0, none⟩ = some (.int .i64 p.op) := hx5.cell 0
        have p1 : w5.cell? ⟨w2.heap.size, 1, none⟩ = some (.int .i64 p.nt) := hx5.cell 1
        have p2 : w5.cell? ⟨w2.heap.size, 2, none⟩ = some (.slice A p.kids.length d) := hx5.cell 2
        have hlp : w2.heap.size < w5.heap.size := hx5.lt
        go_wp2_with fail
        refine (htxt _ HP5).mono ?_
        rintro e w3 ⟨rfl, hb3⟩
        have z4 := z5.below hb3 z5.lt
        have hb4 := hb6.trans (hb3.mono hb6.size)
        have hx4 := hx5.below hb3 hx5.lt
        have hrep4 := hrep5.below hb3
        clear p0 p1 p2 hlp
        have y0 : w3.cell? ⟨gz, 0, none⟩ = some (.int .i64 0) := z4.cell 0
        have y1 : w3.cell? ⟨gz, 1, none⟩ = some (.int .i64 0) := z4.cell 1
        have y2 : w3.cell? ⟨gz, 2, none⟩ = some (.slice none 0 0) := z4.cell 2
        have g0 : w3.frozen? ⟨gz, 0, none⟩ = false := z4.frozen 0
        have g1 : w3.frozen? ⟨gz, 1, none⟩ = false := z4.frozen 1
        have g2 : w3.frozen? ⟨gz, 2, none⟩ = false := z4.frozen 2
        have hlz : gz < w3.heap.size := z4.lt
        have p0 : w3.cell? ⟨w2.heap.size, 0, none⟩ = some (.int .i64 p.op) := hx4.cell 0
        have p1 : w3.cell? ⟨w2.heap.size, 1, none⟩ = some (.int .i64 p.nt) := hx4.cell 1
        have p2 : w3.cell? ⟨w2.heap.size, 2, none⟩ = some (.slice A p.kids.length d) := hx4.cell 2
        have hlp : w2.heap.size < w3.heap.size := hx4.lt
        go_wp2_with fail
        have zz := put3 (a := .int .i64 p.op) (b := .int .i64 p.nt) (v := .slice A p.kids.length d) z4
        refine bodyPost_ret (v := .tuple #[.agg #[.int .i64 p.op, .int .i64 p.nt, .slice A p.kids.length d], .bool true]) (by simp [results, Tryd.results37, go_sem, zz.cell]) rfl ?_
        exact ⟨A, d, rfl, ⟨_, rep_put3 hrep4⟩, below_put3 hb4 hszg⟩
    · obtain rfl : Q = none := by rw [hpa, if_neg (fun h => hs2 h.1)]
      have hE : (s2 == []) = false := by simpa using hs2
      have hE2 : (s2 != []) = true := by simpa using hs2
      clear hs2
      go_wp2_with fail
      have zz := ((put3 (a := .int .i64 0) (b := .int .i64 0) (v := .slice none 0 0) z2).alloc (.cells #[.int .i64 p.op, .int .i64 p.nt, .slice A p.kids.length d] 55))
      refine bodyPost_ret (v := .tuple #[.agg #[.int .i64 0, .int .i64 0, .slice none 0 0], .bool false]) (by simp [results, Tryd.results37, go_sem, zz.cell]) rfl ?_
      exact ⟨none, 0, rfl, noTree_in _, ((below_put3 hb2 hszg).alloc (by have := (below_put3 (a := .int .i64 0) (b := .int .i64 0) (v := .slice none 0 0) hb2 hszg).size; omega) _)⟩

end

end Go.Proofs.YthdicdkgfmiepaaDoor

/- Plain: what the reference's reader makes of a pattern's text. The reference's reader of patterns walked, where it fails, too. (Printed by gen/gen_dtk.py.) Plain: what the reference makes of a text of rules. -/
import Derived.Test.YthdicdkgfmiepaaGreatDoorZC
import Derived.Test.YthdicdkgfmiepaaGreatDoorZA
import Derived.Test.YthdicdkgfmiepaaGreatDoorOrd
import Derived.Test.YthdicdkgfmiepaaGreatDoorZB
namespace Go.Proofs.YthdicdkgfmiepaaGreatDoor

/- Plain: what the reference's reader makes of a pattern's text. -/
section
open Go.RowKit

abbrev QRes := Option (Pat × List UInt8 × Nat)
def rdQK (rd : List UInt8 → Nat → QRes) : Nat → Nat → List UInt8 → Nat → Option (List Pat × List UInt8 × Nat)
  | 0, _, s, m => some ([], s, m)
  | n + 1, i, s, m =>
    if startsB s (byT i) = true then
      match rd (s.drop (byT i).length) m with
      | none => none
      | some (p, s2, m2) =>
        match rdQK rd n (i + 1) s2 m2 with
        | none => none
        | some (ps, s3, m3) => some (p :: ps, s3, m3)
    else none
def finQ (op : Int) (ps : List Pat) (s : List UInt8) (m : Nat) : QRes :=
  if ps.length = 0 then some (.mk op 0 ps, s, m) else if startsB s [41] = true then some (.mk op 0 ps, s.drop 1, m) else none
/-- a pattern, met so many -/
def rdQ : Nat → List UInt8 → Nat → QRes
  | 0, _, _ => none
  | f + 1, s, m =>
    if 0 ≤ ntT (s.take (wordLen s)) then (if m + 1 ≤ 8 then some (.mk 0 (ntT (s.take (wordLen s))) [], s.drop (wordLen s), m + 1) else none)
    else if opT (s.take (wordLen s)) = 0 ∨ 8 < m + 1 then none
    else match rdQK (rdQ f) (arityOf (opT (s.take (wordLen s)))).toNat 0 (s.drop (wordLen s)) (m + 1) with
      | none => none
      | some (ps, s2, m2) => finQ (opT (s.take (wordLen s))) ps s2 m2

def DownQ (rd : List UInt8 → Nat → QRes) : Prop := ∀ s m p s2 m2, m ≤ 8 → rd s m = some (p, s2, m2) → s2.length ≤ s.length ∧ m < m2 ∧ m2 ≤ 8
theorem rdQK_down {rd : List UInt8 → Nat → QRes} (h : DownQ rd) : ∀ (n i : Nat) (s : List UInt8) (m : Nat) (ps : List Pat) (s3 : List UInt8) (m3 : Nat), m ≤ 8 → rdQK rd n i s m = some (ps, s3, m3) → ps.length = n ∧ s3.length ≤ s.length ∧ m ≤ m3 ∧ m3 ≤ 8
  | 0, i, s, m, ps, s3, m3, hm, e => by
    unfold rdQK at e
    injection e with e
    injection e with e1 e
    injection e with e2 e3
    subst e1 e2 e3
    exact ⟨rfl, Nat.le_refl _, Nat.le_refl _, hm⟩
  | n + 1, i, s, m, ps, s3, m3, hm, e => by
    unfold rdQK at e
    split at e
    · cases hr : rd (s.drop (byT i).length) m with
      | none => rw [hr] at e; cases e
      | some r =>
        obtain ⟨p, s2, m2⟩ := r
        rw [hr] at e
        simp only at e
        obtain ⟨a1, a2, a3⟩ := h _ _ _ _ _ hm hr
        rw [List.length_drop] at a1
        cases hk : rdQK rd n (i + 1) s2 m2 with
        | none => rw [hk] at e; cases e
        | some r =>
          obtain ⟨qs, sa, ma⟩ := r
          rw [hk] at e
          injection e with e
          injection e with e1 e
          injection e with e2 e3
          subst e1 e2 e3
          obtain ⟨b1, b2, b3, b4⟩ := rdQK_down h n (i + 1) s2 m2 _ _ _ a3 hk
          exact ⟨by simp [b1], by omega, by omega, b4⟩
    · cases e
theorem rdQ_down : ∀ f, DownQ (rdQ f)
  | 0 => fun _ _ _ _ _ _ h => by cases h
  | f + 1 => by
    intro s m p s2 m2 hm e
    unfold rdQ at e
    split at e
    · split at e
      · injection e with e
        injection e with _ e
        injection e with e2 e3
        subst e2 e3
        exact ⟨by rw [List.length_drop]; omega, by omega, by omega⟩
      · cases e
    · split at e
      · cases e
      · rename_i hno
        cases hk : rdQK (rdQ f) (arityOf (opT (s.take (wordLen s)))).toNat 0 (s.drop (wordLen s)) (m + 1) with
        | none => rw [hk] at e; cases e
        | some r =>
          obtain ⟨ps, sa, ma⟩ := r
          rw [hk] at e
          simp only at e
          obtain ⟨_, b2, b3, b4⟩ := rdQK_down (rdQ_down f) _ _ _ _ _ _ _ (by omega) hk
          rw [List.length_drop] at b2
          unfold finQ at e
          split at e
          · injection e with e; injection e with _ e; injection e with e2 e3; subst e2 e3; exact ⟨by omega, by omega, b4⟩
          · split at e
            · injection e with e; injection e with _ e; injection e with e2 e3; subst e2 e3; exact ⟨by rw [List.length_drop]; omega, by omega, b4⟩
            · cases e

/-- how the whole of the kids follows from the rest -/
def KidsQ (rd : List UInt8 → Nat → QRes) (K : Option (List Pat × List UInt8 × Nat)) (done : List Pat) (n k : Nat) (s : List UInt8) (m : Nat) : Prop := K = (rdQK rd (n - k) k s m).map fun r => (done ++ r.1, r.2)
section
variable {rd : List UInt8 → Nat → QRes} {K : Option (List Pat × List UInt8 × Nat)} {done : List Pat} {n k m : Nat} {s : List UInt8}
theorem KidsQ.start (rd : List UInt8 → Nat → QRes) (n : Nat) (s : List UInt8) (m : Nat) : KidsQ rd (rdQK rd n 0 s m) [] n 0 s m := by
  unfold KidsQ
  rw [Nat.sub_zero]
  cases rdQK rd n 0 s m with
  | none => rfl
  | some r => rfl
theorem KidsQ.step (h : KidsQ rd K done n k s m) (hk : k < n) {p : Pat} {sa : List UInt8} {ma : Nat} (h0 : startsB s (byT k) = true) (hr : rd (s.drop (byT k).length) m = some (p, sa, ma)) : KidsQ rd K (done ++ [p]) n (k + 1) sa ma := by
  unfold KidsQ at *
  rw [h, show n - k = (n - (k + 1)) + 1 by omega, rdQK, if_pos h0, hr]
  simp only
  cases rdQK rd (n - (k + 1)) (k + 1) sa ma with
  | none => rfl
  | some r => simp
theorem KidsQ.bad (h : KidsQ rd K done n k s m) (hk : k < n) (h0 : startsB s (byT k) = false) : K = none := by
  unfold KidsQ at *
  rw [h, show n - k = (n - (k + 1)) + 1 by omega, rdQK, if_neg (by rw [h0]; decide)]; rfl
theorem KidsQ.none (h : KidsQ rd K done n k s m) (hk : k < n) (h0 : startsB s (byT k) = true) (hr : rd (s.drop (byT k).length) m = none) : K = none := by
  unfold KidsQ at *
  rw [h, show n - k = (n - (k + 1)) + 1 by omega, rdQK, if_pos h0, hr]; rfl
theorem KidsQ.last (h : KidsQ rd K done n n s m) : K = some (done, s, m) := by
  unfold KidsQ at *
  rw [h, Nat.sub_self, rdQK]; simp
end

end

/- The reference's reader of patterns walked, where it fails, too. (Printed by gen/gen_dtk.py.) -/
section
open Go.RowKit

theorem RdIs.putS {w : World} {g : Nat} {s y : List UInt8} {m : Int} (h : RdIs w g s m) : RdIs (w.setCell ⟨g, 0, none⟩ (.string ⟨y.toArray⟩)) g y m := BlkIs.put h 0 _
theorem RdIs.putM {w : World} {g : Nat} {s : List UInt8} {m m' : Int} (h : RdIs w g s m) : RdIs (w.setCell ⟨g, 1, none⟩ (.int .i64 m')) g s m' := BlkIs.put h 1 _
section
variable {P : Program} {ops : Array Oper} {Q : Exit → Act → World → Prop} {md : Region.Mode} {S : World → Prop} {last : Nat}
/-- a taking of what its guard passes over -/
theorem takeSkip {i : Nat} {oi : Oper} {d : Option Tmp} {fuel : Nat} {listed : Array Bool} {a : Act} {w : World} (hk : takeOk md ops listed last i = true) (hi : ops[i]? = some oi) (hd : oi.dst = d) (hwt : Region.wanted oi (yielded ops a.tmps) = false)
    (hQ : ∀ c a w, Q (.panic c) (a.put d undef) w → Q (.panic c) a w) (hS : S w) (h : AnyJ P md ops Q S last fuel (listed.setIfInBounds i true) (a.put d undef) w) : AnyJ P md ops Q S last (fuel + 1) listed a w := by
  unfold takeOk at hk
  simp only [Bool.and_eq_true, Bool.not_eq_true'] at hk
  obtain ⟨⟨⟨⟨h1, h2⟩, h3⟩, h4⟩, h5⟩ := hk
  subst hd
  exact anyJ_first h1 hi (by simpa using h2) (Region.noSelect_spec h3) hQ fuel listed a w (Region.free_spec hi h4) (by simpa using h5) (.inr ⟨hwt, rfl⟩) hS h
end

def RdPostQ (o : QRes) (g : Nat) (w : World) (e : Ending) (w' : World) : Prop := KeepM g w w' ∧ match o with
  | none => ∃ (a b : Int) (A : Option Addr) (n c : Nat), e = .returned (.tuple #[.agg #[.int .i64 a, .int .i64 b, .slice A n c], .bool false])
  | some (p, s2, m2) => ∃ (A : Option Addr) (d : Nat), e = .returned (.tuple #[.agg #[.int .i64 p.op, .int .i64 p.nt, .slice A p.kids.length d], .bool true]) ∧ Rep w' (fun k => w.heap.size ≤ k) (encP p) [.int .i64 p.op, .int .i64 p.nt, .slice A p.kids.length d] ∧ RdIs w' g s2 m2
theorem RdPostQ.bad {g : Nat} {w w' : World} {a b : Int} {A : Option Addr} {n c : Nat} (h : KeepM g w w') : RdPostQ none g w (.returned (.tuple #[.agg #[.int .i64 a, .int .i64 b, .slice A n c], .bool false])) w' := ⟨h, a, b, A, n, c, rfl⟩
theorem qput3 {w : World} {gz : Nat} {t : TypeId} {a b v x y u : Value} (z : BlkIs w gz t #[x, y, u]) : BlkIs (((w.setCell ⟨gz, 0, none⟩ a).setCell ⟨gz, 1, none⟩ b).setCell ⟨gz, 2, none⟩ v) gz t #[a, b, v] := ((z.put 0 a).put 1 b).put 2 v
theorem qkeep3 {w w1 : World} {g gz : Nat} {a b v : Value} (h : KeepM g w w1) (hz : w.heap.size ≤ gz) : KeepM g w (((w1.setCell ⟨gz, 0, none⟩ a).setCell ⟨gz, 1, none⟩ b).setCell ⟨gz, 2, none⟩ v) := ((h.setCell hz _).setCell hz _).setCell hz _

def RdOkQ (f : Nat) : Prop := ∀ (s : List UInt8) (m g : Nat) (w : World), m ≤ 8 → 8 < m + f → s.length ≤ 1000000 → RdIs w g s m → Calls Tryz.prog 35 #[.pointer (some ⟨g, 0, none⟩)] w (RdPostQ (rdQ f s m) g w)

set_option maxRecDepth 100000 in
set_option maxHeartbeats 8000000 in
theorem rdQ_step (f : Nat) (ih : RdOkQ f) : RdOkQ (f + 1) := by
  intro s m g w hm hmf hs hr
  have hwl := wordLen_le s
  obtain ⟨R, hR⟩ : ∃ R, Hid (rdQ (f + 1) s m = R) := ⟨_, Lib.hid rfl⟩
  rw [hR.out]
  have hR2 := hR.out
  unfold rdQ at hR2
  have hw := fun W => word_any g s (m + 1 : Nat) hs W
  have hnw := fun W => ntW_any (s.take (wordLen s)) W
  have how := fun W => opW_any (s.take (wordLen s)) W
  have hop1 := opT_in (s.take (wordLen s))
  have hsd : (s.drop (wordLen s)).length ≤ 1000000 := by rw [List.length_drop]; omega
  obtain ⟨k, hk⟩ : ∃ x, Hid (ntT (s.take (wordLen s)) = x) := ⟨_, Lib.hid rfl⟩
  obtain ⟨op, hop⟩ : ∃ x, Hid (opT (s.take (wordLen s)) = x) := ⟨_, Lib.hid rfl⟩
  rw [hk.out] at hnw hR2
  rw [hop.out] at how hop1 hR2
  obtain ⟨x, hx⟩ : ∃ x, Hid (s.take (wordLen s) = x) := ⟨_, Lib.hid rfl⟩
  obtain ⟨y, hy⟩ : ∃ x, Hid (s.drop (wordLen s) = x) := ⟨_, Lib.hid rfl⟩
  rw [hx.out] at hnw how hw
  rw [hy.out] at hw hR2 hsd
  have c1 : w.cell? ⟨g, 1, none⟩ = some (.int .i64 m) := BlkIs.cell hr 1
  have f1 := BlkIs.frozen hr 1
  have hl : g < w.heap.size := BlkIs.lt hr
  go_enter Tryz.func35, Tryz.ntmps35
  go_wp2_with fail
  have r1 : RdIs ((w.setCell ⟨g, 1, none⟩ (.int .i64 (m + 1 : Nat))).alloc (.cells #[.int .i64 0, .int .i64 0, .slice none 0 0] 45)) g s (m + 1 : Nat) := BlkIs.alloc (RdIs.putM hr) _
  have z1 : BlkIs ((w.setCell ⟨g, 1, none⟩ (.int .i64 (m + 1 : Nat))).alloc (.cells #[.int .i64 0, .int .i64 0, .slice none 0 0] 45)) w.heap.size 45 #[.int .i64 0, .int .i64 0, .slice none 0 0] := BlkIs.fresh_at (by simp [World.setCell])
  have k1 : KeepM g w ((w.setCell ⟨g, 1, none⟩ (.int .i64 (m + 1 : Nat))).alloc (.cells #[.int .i64 0, .int .i64 0, .slice none 0 0] 45)) := ((KeepM.refl g w).own 1 _).alloc _
  refine (hw _ r1).mono ?_
  rintro e w2 ⟨rfl, hw2⟩
  have r2 : RdIs w2 g y (m + 1 : Nat) := by rw [← hw2]; exact r1.putS
  have z2 : BlkIs w2 w.heap.size 45 #[.int .i64 0, .int .i64 0, .slice none 0 0] := by rw [← hw2]; exact z1.far (by simp; omega) _
  have k2 : KeepM g w w2 := by rw [← hw2]; exact k1.own 0 _
  clear hw2 r1 z1 k1 hw c1 f1
  go_wp2_with fail
  refine (hnw w2).mono ?_
  rintro e w3 ⟨rfl, hb3⟩
  have r3 : RdIs w3 g y (m + 1 : Nat) := BlkIs.below r2 hb3 (BlkIs.lt r2)
  have z3 : BlkIs w3 w.heap.size 45 #[.int .i64 0, .int .i64 0, .slice none 0 0] := z2.below hb3 z2.lt
  have k3 : KeepM g w w3 := k2.trans (KeepM.of hb3)
  clear r2 z2 k2 hb3 hnw
  obtain ⟨gz, hgz⟩ : ∃ x, Hid (w.heap.size = x) := ⟨_, Lib.hid rfl⟩
  have hzw := hgz.out
  have hgzw : w.heap.size ≤ gz := Nat.le_of_eq hzw
  rw [hzw] at z3 ⊢
  have hgn : g ≠ gz := by omega
  by_cases hnt : 0 ≤ k
  · rw [if_pos hnt] at hR2
    have c1 : w3.cell? ⟨g, 1, none⟩ = some (.int .i64 (m + 1 : Nat)) := BlkIs.cell r3 1
    have hl3 : g < w3.heap.size := BlkIs.lt r3
    by_cases hm8 : m + 1 ≤ 8
    · rw [if_pos hm8] at hR2
      subst hR2
      go_upto_region 5 with fail
      refine anyJ_begin 8 (fun W => KeepM gz w3 W) (by kernel_rfl) ((KeepM.refl _ _).drew) (fun hHeld => ?_)
      refine take (i := 0) (d := some 24) (v := .int .i64 k) (by kernel_rfl) rfl rfl rfl (fun _ _ _ h => h) hHeld (fun W hSw => by go_simp) ?_
      simp only [Act.put, List.setIfInBounds_toArray, List.set_cons_zero, List.set_cons_succ]
      refine take (i := 1) (d := some 25) (v := .agg #[.int .i64 0, .int .i64 k, .slice none 0 0]) (by kernel_rfl) rfl rfl rfl (fun _ _ _ h => h) hHeld (fun W hSw => by go_simp) ?_
      simp only [Act.put, List.setIfInBounds_toArray, List.set_cons_zero, List.set_cons_succ]
      refine take (i := 2) (d := some 26) (v := .pointer (some ⟨g, 0, none⟩)) (by kernel_rfl) rfl rfl rfl (fun _ _ _ h => h) hHeld (fun W hSw => by go_simp) ?_
      simp only [Act.put, List.setIfInBounds_toArray, List.set_cons_zero, List.set_cons_succ]
      refine take (i := 3) (d := some 27) (v := .pointer (some ⟨g, 0, none⟩)) (by kernel_rfl) rfl rfl rfl (fun _ _ _ h => h) hHeld (fun W hSw => by go_simp) ?_
      simp only [Act.put, List.setIfInBounds_toArray, List.set_cons_zero, List.set_cons_succ]
      refine take (i := 4) (d := some 28) (v := .pointer (some ⟨g, 1, none⟩)) (by kernel_rfl) rfl rfl rfl (fun _ _ _ h => h) hHeld (fun W hSw => by go_simp) ?_
      simp only [Act.put, List.setIfInBounds_toArray, List.set_cons_zero, List.set_cons_succ]
      refine take (i := 5) (d := some 29) (v := .int .i64 (m + 1 : Nat)) (by kernel_rfl) rfl rfl rfl (fun _ _ _ h => h) hHeld (fun W hSw => by have x := cell_keepM c1 hSw hgn; go_simp) ?_
      simp only [Act.put, List.setIfInBounds_toArray, List.set_cons_zero, List.set_cons_succ]
      refine take (i := 6) (d := some 30) (v := .bool true) (by kernel_rfl) rfl rfl rfl (fun _ _ _ h => h) hHeld (fun W hSw => by go_simp; omega) ?_
      simp only [Act.put, List.setIfInBounds_toArray, List.set_cons_zero, List.set_cons_succ]
      refine anyJ_only (i := 7) (d := none) (by kernel_rfl) rfl rfl rfl (fun K' hK => ?_)
      refine wp_store_row 45 (.tmp 2) (.tmp 25) rfl gz #[.int .i64 0, .int .i64 k, .slice none 0 0] rfl rfl 45 _ (z3.drew) (by kernel_rfl) rfl (by simp [Value.oneCell']) (hK.out _ _ (fun _ => (KeepM.refl gz w3).drew.ownRow _) (fun hHeld => ?_))
      have hHeld := hHeld (by decide)
      refine anyJ_only (i := 8) (d := some 3) (by kernel_rfl) rfl rfl rfl (fun K' hK => ?_)
      refine wp_val (w' := w3.drew.setRow gz #[.int .i64 0, .int .i64 k, .slice none 0 0]) (v := .bool true) (by go_simp) (hK.out _ _ (fun h => absurd rfl h) (fun _ => ?_))
      simp only [Act.put, List.setIfInBounds_toArray, List.set_cons_zero, List.set_cons_succ]
      refine anyJ_done (by kernel_rfl) ?_ _
      have z4 : BlkIs (w3.drew.setRow gz #[.int .i64 0, .int .i64 k, .slice none 0 0]) gz 45 #[.int .i64 0, .int .i64 k, .slice none 0 0] := setRow_heap _ _ _ _ _ _ z3.drew
      go_wp2_with fail
      refine bodyPost_ret (v := .tuple #[.agg #[.int .i64 0, .int .i64 k, .slice none 0 0], .bool true]) (by simp [results, Tryz.results35, go_sem, z4.cell]) rfl ?_
      refine ⟨k3.drew.setRow hgzw _, none, 0, rfl, rep_leaf, ?_⟩
      exact (setRow_other _ gz g _ hgn).trans r3
    · rw [if_neg hm8] at hR2
      subst hR2
      go_upto_region 5 with fail
      refine anyJ_begin 8 (fun W => KeepM gz w3 W) (by kernel_rfl) ((KeepM.refl _ _).drew) (fun hHeld => ?_)
      refine take (i := 0) (d := some 24) (v := .int .i64 k) (by kernel_rfl) rfl rfl rfl (fun _ _ _ h => h) hHeld (fun W hSw => by go_simp) ?_
      simp only [Act.put, List.setIfInBounds_toArray, List.set_cons_zero, List.set_cons_succ]
      refine take (i := 1) (d := some 25) (v := .agg #[.int .i64 0, .int .i64 k, .slice none 0 0]) (by kernel_rfl) rfl rfl rfl (fun _ _ _ h => h) hHeld (fun W hSw => by go_simp) ?_
      simp only [Act.put, List.setIfInBounds_toArray, List.set_cons_zero, List.set_cons_succ]
      refine take (i := 2) (d := some 26) (v := .pointer (some ⟨g, 0, none⟩)) (by kernel_rfl) rfl rfl rfl (fun _ _ _ h => h) hHeld (fun W hSw => by go_simp) ?_
      simp only [Act.put, List.setIfInBounds_toArray, List.set_cons_zero, List.set_cons_succ]
      refine take (i := 3) (d := some 27) (v := .pointer (some ⟨g, 0, none⟩)) (by kernel_rfl) rfl rfl rfl (fun _ _ _ h => h) hHeld (fun W hSw => by go_simp) ?_
      simp only [Act.put, List.setIfInBounds_toArray, List.set_cons_zero, List.set_cons_succ]
      refine take (i := 4) (d := some 28) (v := .pointer (some ⟨g, 1, none⟩)) (by kernel_rfl) rfl rfl rfl (fun _ _ _ h => h) hHeld (fun W hSw => by go_simp) ?_
      simp only [Act.put, List.setIfInBounds_toArray, List.set_cons_zero, List.set_cons_succ]
      refine take (i := 5) (d := some 29) (v := .int .i64 (m + 1 : Nat)) (by kernel_rfl) rfl rfl rfl (fun _ _ _ h => h) hHeld (fun W hSw => by have x := cell_keepM c1 hSw hgn; go_simp) ?_
      simp only [Act.put, List.setIfInBounds_toArray, List.set_cons_zero, List.set_cons_succ]
      refine take (i := 6) (d := some 30) (v := .bool false) (by kernel_rfl) rfl rfl rfl (fun _ _ _ h => h) hHeld (fun W hSw => by go_simp; omega) ?_
      simp only [Act.put, List.setIfInBounds_toArray, List.set_cons_zero, List.set_cons_succ]
      refine anyJ_only (i := 7) (d := none) (by kernel_rfl) rfl rfl rfl (fun K' hK => ?_)
      refine wp_store_row 45 (.tmp 2) (.tmp 25) rfl gz #[.int .i64 0, .int .i64 k, .slice none 0 0] rfl rfl 45 _ (z3.drew) (by kernel_rfl) rfl (by simp [Value.oneCell']) (hK.out _ _ (fun _ => (KeepM.refl gz w3).drew.ownRow _) (fun hHeld => ?_))
      have hHeld := hHeld (by decide)
      refine anyJ_only (i := 8) (d := some 3) (by kernel_rfl) rfl rfl rfl (fun K' hK => ?_)
      refine wp_val (w' := w3.drew.setRow gz #[.int .i64 0, .int .i64 k, .slice none 0 0]) (v := .bool false) (by go_simp) (hK.out _ _ (fun h => absurd rfl h) (fun _ => ?_))
      simp only [Act.put, List.setIfInBounds_toArray, List.set_cons_zero, List.set_cons_succ]
      refine anyJ_done (by kernel_rfl) ?_ _
      have z4 : BlkIs (w3.drew.setRow gz #[.int .i64 0, .int .i64 k, .slice none 0 0]) gz 45 #[.int .i64 0, .int .i64 k, .slice none 0 0] := setRow_heap _ _ _ _ _ _ z3.drew
      go_wp2_with fail
      refine bodyPost_ret (v := .tuple #[.agg #[.int .i64 0, .int .i64 k, .slice none 0 0], .bool false]) (by simp [results, Tryz.results35, go_sem, z4.cell]) rfl ?_
      exact RdPostQ.bad (k3.drew.setRow hgzw _)
  · rw [if_neg hnt] at hR2
    go_wp2_with fail
    refine (how w3).mono ?_
    rintro e w4 ⟨rfl, hb4⟩
    have r4 : RdIs w4 g y (m + 1 : Nat) := BlkIs.below r3 hb4 (BlkIs.lt r3)
    have z4 : BlkIs w4 gz 45 #[.int .i64 0, .int .i64 0, .slice none 0 0] := z3.below hb4 z3.lt
    have k4 : KeepM g w w4 := k3.trans (KeepM.of hb4)
    clear r3 z3 k3 hb4 how
    have hl4 : g < w4.heap.size := BlkIs.lt r4
    go_upto_region 7 with fail
    obtain ⟨g6, hg6⟩ : ∃ x, Hid (w4.heap.size = x) := ⟨_, Lib.hid rfl⟩
    obtain ⟨w5, hw5⟩ : ∃ W, W = w4.alloc (.cells #[.int .i64 op, .int .i64 0, .slice none 0 0] 45) := ⟨_, rfl⟩
    have P5 : BlkIs w5 g6 45 #[.int .i64 op, .int .i64 0, .slice none 0 0] := by rw [hw5]; exact BlkIs.fresh_at hg6.out.symm
    have r5 : RdIs w5 g y (m + 1 : Nat) := by rw [hw5]; exact BlkIs.alloc r4 _
    have z5 : BlkIs w5 gz 45 #[.int .i64 0, .int .i64 0, .slice none 0 0] := by rw [hw5]; exact z4.alloc _
    have k5 : KeepM g w w5 := by rw [hw5]; exact k4.alloc _
    have hgz6 : gz < g6 := by rw [← hg6.out]; exact z4.lt
    have hg6g : g < g6 := by omega
    rw [hg6.out, ← hw5]
    clear hw5 r4 z4 k4
    have c1 : w5.cell? ⟨g, 1, none⟩ = some (.int .i64 (m + 1 : Nat)) := BlkIs.cell r5 1
    have hl5 : g < w5.heap.size := BlkIs.lt r5
    have y0 : w5.cell? ⟨gz, 0, none⟩ = some (.int .i64 0) := z5.cell 0
    have y1 : w5.cell? ⟨gz, 1, none⟩ = some (.int .i64 0) := z5.cell 1
    have y2 : w5.cell? ⟨gz, 2, none⟩ = some (.slice none 0 0) := z5.cell 2
    have g0 : w5.frozen? ⟨gz, 0, none⟩ = false := z5.frozen 0
    have g1 : w5.frozen? ⟨gz, 1, none⟩ = false := z5.frozen 1
    have g2 : w5.frozen? ⟨gz, 2, none⟩ = false := z5.frozen 2
    have hlz : gz < w5.heap.size := z5.lt
    have p0 : w5.cell? ⟨g6, 0, none⟩ = some (.int .i64 op) := P5.cell 0
    have p1 : w5.cell? ⟨g6, 1, none⟩ = some (.int .i64 0) := P5.cell 1
    have p2 : w5.cell? ⟨g6, 2, none⟩ = some (.slice none 0 0) := P5.cell 2
    have q0 : w5.frozen? ⟨g6, 0, none⟩ = false := P5.frozen 0
    have q1 : w5.frozen? ⟨g6, 1, none⟩ = false := P5.frozen 1
    have q2 : w5.frozen? ⟨g6, 2, none⟩ = false := P5.frozen 2
    have hlp : g6 < w5.heap.size := P5.lt
    by_cases hop0 : op = 0
    · have hope : (op == 0) = true := by simpa using hop0
      rw [if_pos (.inl hop0)] at hR2
      subst hR2
      clear hop0
      go_wp2_with fail
      refine bodyPost_ret (v := .tuple #[.agg #[.int .i64 op, .int .i64 0, .slice none 0 0], .bool false]) (by simp [results, Tryz.results35, go_sem, (qput3 z5).cell]) rfl ?_
      exact RdPostQ.bad (qkeep3 k5 hgzw)
    · have hope : (op == 0) = false := by simpa using hop0
      by_cases hm8 : 8 < m + 1
      · rw [if_pos (.inr hm8)] at hR2
        subst hR2
        go_wp2_with fail
        refine bodyPost_ret (v := .tuple #[.agg #[.int .i64 op, .int .i64 0, .slice none 0 0], .bool false]) (by simp [results, Tryz.results35, go_sem, (qput3 z5).cell]) rfl ?_
        exact RdPostQ.bad (qkeep3 k5 hgzw)
      · rw [if_neg (by intro h; rcases h with h | h; exact hop0 h; exact hm8 h)] at hR2
        obtain ⟨n, hn⟩ : ∃ x, Hid ((arityOf op).toNat = x) := ⟨_, Lib.hid rfl⟩
        have hkn : kidsOf op = n := by
          rw [← hn.out]
          exact kids_arity2 _ (by omega) (by omega)
        have hn2 : n ≤ 2 := by rw [← hn.out]; exact arity_le2 _
        have ca := fun W => kidsR_any op W
        rw [hkn] at ca
        rw [hn.out] at hR2
        obtain ⟨K, hK0⟩ : ∃ K, Hid (rdQK (rdQ f) n 0 y (m + 1) = K) := ⟨_, Lib.hid rfl⟩
        have hstart := KidsQ.start (rdQ f) n y (m + 1)
        rw [hK0.out] at hR2 hstart
        have HST := Lib.hid hstart
        have HRK := Lib.hid hR2
        clear hR2 hstart hkn hop0
        go_wp2_with fail
        go_loopw [7] (fun i wr => ∃ (k : Nat) (done : List Pat) (sk : List UInt8) (mk : Nat) (v : Value), k ≤ n ∧ i = .int .i64 k ∧ Hid (KidsQ (rdQ f) K done n k sk mk) ∧ done.length = k ∧ sk.length ≤ 1000000 ∧ mk ≤ 8 ∧ m + 1 ≤ mk ∧ RdIs wr g sk mk ∧ BlkIs wr gz 45 #[.int .i64 0, .int .i64 0, .slice none 0 0] ∧ BlkIs wr g6 45 #[.int .i64 op, .int .i64 0, v] ∧ Hid (Own wr (g6 + 1) (fun q => g6 + 1 ≤ q) 45 3 v (done.map encP)) ∧ KeepM g w wr) (fun i _ => n - (intOf i).toNat)
        case atStart => exact ⟨0, [], y, m + 1, .slice none 0 0, by omega, rfl, HST, rfl, hsd, by omega, by omega, r5, z5, P5, Lib.hid (Own.nil _ _ _ _ _), k5⟩
        case round =>
          obtain ⟨k, done, sk, mk, v, hk, rfl, hkq, hdl, hsl, hmk, hmk1, hR1, hZ, hP, hown, hkm⟩ := hrel
          obtain ⟨wo, rfl⟩ : ∃ wo : World, wo = wr := ⟨_, rfl⟩
          clear r5 z5 P5 k5 c1 hl5
          obtain ⟨A0, d0, rfl, _⟩ := hown.out.rep.len
          rw [List.length_map] at hP hown
          have hdlen : (done.map encP).length ≤ 1000000000 := by rw [List.length_map]; omega
          obtain ⟨dl, hdle⟩ : ∃ x, Hid (done.length = x) := ⟨_, Lib.hid rfl⟩
          rw [hdle.out] at hP hown
          clear y0 y1 y2 g0 g1 g2 hlz
          clear p0 p1 p2 q0 q1 q2 hlp
          have y0 : wo.cell? ⟨gz, 0, none⟩ = some (.int .i64 0) := hZ.cell 0
          have y1 : wo.cell? ⟨gz, 1, none⟩ = some (.int .i64 0) := hZ.cell 1
          have y2 : wo.cell? ⟨gz, 2, none⟩ = some (.slice none 0 0) := hZ.cell 2
          have g0 : wo.frozen? ⟨gz, 0, none⟩ = false := hZ.frozen 0
          have g1 : wo.frozen? ⟨gz, 1, none⟩ = false := hZ.frozen 1
          have g2 : wo.frozen? ⟨gz, 2, none⟩ = false := hZ.frozen 2
          have hlz : gz < wo.heap.size := hZ.lt
          have p0 : wo.cell? ⟨g6, 0, none⟩ = some (.int .i64 op) := hP.cell 0
          have p1 : wo.cell? ⟨g6, 1, none⟩ = some (.int .i64 0) := hP.cell 1
          have p2 : wo.cell? ⟨g6, 2, none⟩ = some (.slice A0 dl d0) := hP.cell 2
          have q0 : wo.frozen? ⟨g6, 0, none⟩ = false := hP.frozen 0
          have q1 : wo.frozen? ⟨g6, 1, none⟩ = false := hP.frozen 1
          have q2 : wo.frozen? ⟨g6, 2, none⟩ = false := hP.frozen 2
          have hlp : g6 < wo.heap.size := hP.lt
          by_cases hlt : k < n
          · by_cases hk0 : k = 0
            · subst hk0
              have hby : byT 0 = [40] := by unfold byT; rw [if_pos rfl]
              have hpass := fun W' h => passes_any g sk [40] mk hsl (by decide) W' h
              cases hst : startsB sk [40]
              · rw [hst] at hpass
                simp only [if_neg (by decide : ¬ (false = true))] at hpass
                have hKn := hkq.out.bad hlt (by rw [hby]; exact hst)
                have hR3 := HRK.out
                rw [hKn] at hR3
                simp only at hR3
                subst hR3
                clear hst
                go_wp2_with (go_at_call 46; refine (ca _).mono ?_; rintro e w9 ⟨rfl, rfl⟩)
                refine (hpass _ hR1).mono ?_
                rintro e w6 ⟨rfl, rfl⟩
                go_wp2_with fail
                refine bodyPost_ret (v := .tuple #[.agg #[.int .i64 op, .int .i64 0, .slice A0 dl d0], .bool false]) (by simp [results, Tryz.results35, go_sem, (qput3 hZ).cell]) rfl ?_
                exact RdPostQ.bad (qkeep3 hkm hgzw)
              · rw [hst] at hpass
                simp only [if_true, List.length_cons, List.length_nil, Nat.zero_add] at hpass
                go_wp2_with (go_at_call 46; refine (ca _).mono ?_; rintro e w9 ⟨rfl, rfl⟩)
                refine (hpass _ hR1).mono ?_
                rintro e w6 ⟨rfl, hw6⟩
                have R6 : RdIs w6 g (sk.drop 1) mk := by rw [← hw6]; exact hR1.putS
                have Z6 : BlkIs w6 gz 45 #[.int .i64 0, .int .i64 0, .slice none 0 0] := by rw [← hw6]; exact hZ.far (by simp; omega) _
                have P6 : BlkIs w6 g6 45 #[.int .i64 op, .int .i64 0, .slice A0 dl d0] := by rw [← hw6]; exact hP.far (by simp; omega) _
                have O6 : Hid (Own w6 (g6 + 1) (fun q => g6 + 1 ≤ q) 45 3 (.slice A0 dl d0) (done.map encP)) := Lib.hid (by rw [← hw6]; exact Own.far hown.out (fun q h => h) (fun q hq _ => heap_setCell_other _ _ _ _ (by simp; omega)))
                have K6 : KeepM g w w6 := by rw [← hw6]; exact hkm.own 0 _
                have hcall := ih (sk.drop 1) mk g w6 hmk (by omega) (by rw [List.length_drop]; omega) R6
                unfold RdPostQ at hcall
                clear hw6 hpass
                clear y0 y1 y2 g0 g1 g2 hlz
                clear p0 p1 p2 q0 q1 q2 hlp
                cases hrd : rdQ f (sk.drop 1) mk with
                | none =>
                  have hKn := hkq.out.none hlt (by rw [hby]; exact hst) (by rw [hby]; exact hrd)
                  have hR3 := HRK.out
                  rw [hKn] at hR3
                  simp only at hR3
                  subst hR3
                  rw [hrd] at hcall
                  simp only at hcall
                  clear hst hrd
                  go_wp2_with fail
                  refine hcall.mono ?_
                  rintro e w7 ⟨hk7, a, b, A7, n7, d7, rfl⟩
                  have z7 := Z6.keepM hk7 hgn.symm
                  have P7 := P6.keepM hk7 (by omega)
                  have k7 := K6.trans hk7
                  have zz := (qput3 (a := .int .i64 op) (b := .int .i64 0) (v := .slice A0 dl d0) z7).alloc (.cells #[.int .i64 a, .int .i64 b, .slice A7 n7 d7] 45)
                  have y0 : w7.cell? ⟨gz, 0, none⟩ = some (.int .i64 0) := z7.cell 0
                  have y1 : w7.cell? ⟨gz, 1, none⟩ = some (.int .i64 0) := z7.cell 1
                  have y2 : w7.cell? ⟨gz, 2, none⟩ = some (.slice none 0 0) := z7.cell 2
                  have g0 : w7.frozen? ⟨gz, 0, none⟩ = false := z7.frozen 0
                  have g1 : w7.frozen? ⟨gz, 1, none⟩ = false := z7.frozen 1
                  have g2 : w7.frozen? ⟨gz, 2, none⟩ = false := z7.frozen 2
                  have hlz : gz < w7.heap.size := z7.lt
                  have p0 : w7.cell? ⟨g6, 0, none⟩ = some (.int .i64 op) := P7.cell 0
                  have p1 : w7.cell? ⟨g6, 1, none⟩ = some (.int .i64 0) := P7.cell 1
                  have p2 : w7.cell? ⟨g6, 2, none⟩ = some (.slice A0 dl d0) := P7.cell 2
                  have q0 : w7.frozen? ⟨g6, 0, none⟩ = false := P7.frozen 0
                  have q1 : w7.frozen? ⟨g6, 1, none⟩ = false := P7.frozen 1
                  have q2 : w7.frozen? ⟨g6, 2, none⟩ = false := P7.frozen 2
                  have hlp : g6 < w7.heap.size := P7.lt
                  go_wp2_with fail
                  refine bodyPost_ret (v := .tuple #[.agg #[.int .i64 op, .int .i64 0, .slice A0 dl d0], .bool false]) (by simp [results, Tryz.results35, go_sem, zz.cell]) rfl ?_
                  exact RdPostQ.bad ((qkeep3 k7 hgzw).alloc _)
                | some r =>
                  obtain ⟨p, sa, ma⟩ := r
                  have hdown := rdQ_down f _ _ _ _ _ hmk hrd
                  have HNX := Lib.hid (hkq.out.step hlt (by rw [hby]; exact hst) (by rw [hby]; exact hrd))
                  have hsal : sa.length ≤ 1000000 := by have := hdown.1; rw [List.length_drop] at this; omega
                  have hma := hdown.2
                  rw [hrd] at hcall
                  simp only at hcall
                  clear hst hrd hdown
                  go_wp2_with fail
                  refine hcall.mono ?_
                  rintro e w7 ⟨hk7, A5, d5, rfl, hrep5, R7⟩
                  have Z7 := Z6.keepM hk7 hgn.symm
                  have P7 := P6.keepM hk7 (by omega)
                  have O7 := O6.out.keepM hk7 (by omega) (fun q h => h)
                  have K7 := K6.trans hk7
                  have hz67 := hk7.size
                  have hvf : ∀ q, w6.heap.size ≤ q → some q ≠ (Value.slice A0 dl d0).ownBlock := fun q hq => O6.out.ne_far hq
                  have hzl := P6.lt
                  have HR5 : Hid (Rep w7 (fun q => g6 + 1 ≤ q ∧ some q ≠ (Value.slice A0 dl d0).ownBlock) (encP p) [.int .i64 p.op, .int .i64 p.nt, .slice A5 p.kids.length d5]) := Lib.hid (hrep5.imp (fun q hq _ => ⟨by omega, hvf q hq⟩))
                  have HO7 := Lib.hid O7
                  clear hcall hrep5 O7
                  have p0 : w7.cell? ⟨g6, 0, none⟩ = some (.int .i64 op) := P7.cell 0
                  have p1 : w7.cell? ⟨g6, 1, none⟩ = some (.int .i64 0) := P7.cell 1
                  have p2 : w7.cell? ⟨g6, 2, none⟩ = some (.slice A0 dl d0) := P7.cell 2
                  have q0 : w7.frozen? ⟨g6, 0, none⟩ = false := P7.frozen 0
                  have q1 : w7.frozen? ⟨g6, 1, none⟩ = false := P7.frozen 1
                  have q2 : w7.frozen? ⟨g6, 2, none⟩ = false := P7.frozen 2
                  have hlp : g6 < w7.heap.size := P7.lt
                  go_wp2_with (at_builtin; go_must (refine append_one rfl (.tmp 68) (.tmp 70) 43 45 3 40 _ rfl Tryz.underlying43 pat_info rfl (by decide) (by decide) (g6 + 1) (fun q => g6 + 1 ≤ q) (.slice A0 dl d0) (done.map encP) rfl (w7.heap.size + 1) rfl ((HO7.out.alloc _).alloc _) [.int .i64 p.op, .int .i64 p.nt, .slice A5 p.kids.length d5] (encP p) (BlkIs.fresh1 _ _ _ _) rfl (by simp [Value.oneCell']) ((HR5.out.alloc _).alloc _) hdlen (by simp; omega) ?_); intro v2 w8 hown2 hb2 hk2; obtain ⟨A8, d8, rfl, _⟩ := hown2.rep.len; obtain ⟨L8, hL8⟩ : ∃ x, Hid ((done.map encP ++ [encP p]).length = x) := ⟨_, Lib.hid rfl⟩; rw [hL8.out] at hown2 ⊢; have P8 := ((P7.alloc _).alloc _).below hb2 (by omega); have u2 := P8.cell 2; have u3 := P8.frozen 2; have u4 := P8.lt)
                  go_roundw
                  case rel =>
                    refine ⟨0 + 1, done ++ [p], sa, ma, .slice A8 L8 d8, by omega, by go_num, HNX, by simp [hdl], hsal, by omega, by omega, ?_, ?_, ?_, ?_, ?_⟩
                    · exact BlkIs.far (BlkIs.below ((BlkIs.alloc (BlkIs.alloc R7 _) _)) hb2 (by omega)) (by simp; omega) _
                    · exact (((Z7.alloc _).alloc _).below hb2 (by omega)).far (by simp; omega) _
                    · exact P8.put 2 _
                    · exact Lib.hid (by
                        rw [List.map_append]
                        exact Own.far hown2 (fun q h => h) (fun q hq _ => heap_setCell_other _ _ _ _ (by simp; omega)))
                    · have hsz := hb2.size
                      simp at hsz
                      refine KeepM.setCell ⟨hb2.os.trans K7.os, hb2.tape.trans K7.tape, hb2.output.trans K7.output, by have := K7.size; omega, fun q hq hl => (hb2.block q (by omega)).trans (((K7.alloc _).alloc _).block q hq hl)⟩ (by simp; omega) _
                  case measure => simp [intOf]; omega
            · have hke : ((k : Int) == 0) = false := by simp; omega
              have hby : byT k = [44, 32] := by unfold byT; rw [if_neg hk0]
              have hpass := fun W' h => passes_any g sk [44, 32] mk hsl (by decide) W' h
              cases hst : startsB sk [44, 32]
              · rw [hst] at hpass
                simp only [if_neg (by decide : ¬ (false = true))] at hpass
                have hKn := hkq.out.bad hlt (by rw [hby]; exact hst)
                have hR3 := HRK.out
                rw [hKn] at hR3
                simp only at hR3
                subst hR3
                clear hst
                go_wp2_with (go_at_call 46; refine (ca _).mono ?_; rintro e w9 ⟨rfl, rfl⟩)
                refine (hpass _ hR1).mono ?_
                rintro e w6 ⟨rfl, rfl⟩
                go_wp2_with fail
                refine bodyPost_ret (v := .tuple #[.agg #[.int .i64 op, .int .i64 0, .slice A0 dl d0], .bool false]) (by simp [results, Tryz.results35, go_sem, (qput3 hZ).cell]) rfl ?_
                exact RdPostQ.bad (qkeep3 hkm hgzw)
              · rw [hst] at hpass
                simp only [if_true, List.length_cons, List.length_nil, Nat.zero_add, Nat.reduceAdd] at hpass
                go_wp2_with (go_at_call 46; refine (ca _).mono ?_; rintro e w9 ⟨rfl, rfl⟩)
                refine (hpass _ hR1).mono ?_
                rintro e w6 ⟨rfl, hw6⟩
                have R6 : RdIs w6 g (sk.drop 2) mk := by rw [← hw6]; exact hR1.putS
                have Z6 : BlkIs w6 gz 45 #[.int .i64 0, .int .i64 0, .slice none 0 0] := by rw [← hw6]; exact hZ.far (by simp; omega) _
                have P6 : BlkIs w6 g6 45 #[.int .i64 op, .int .i64 0, .slice A0 dl d0] := by rw [← hw6]; exact hP.far (by simp; omega) _
                have O6 : Hid (Own w6 (g6 + 1) (fun q => g6 + 1 ≤ q) 45 3 (.slice A0 dl d0) (done.map encP)) := Lib.hid (by rw [← hw6]; exact Own.far hown.out (fun q h => h) (fun q hq _ => heap_setCell_other _ _ _ _ (by simp; omega)))
                have K6 : KeepM g w w6 := by rw [← hw6]; exact hkm.own 0 _
                have hcall := ih (sk.drop 2) mk g w6 hmk (by omega) (by rw [List.length_drop]; omega) R6
                unfold RdPostQ at hcall
                clear hw6 hpass
                clear y0 y1 y2 g0 g1 g2 hlz
                clear p0 p1 p2 q0 q1 q2 hlp
                cases hrd : rdQ f (sk.drop 2) mk with
                | none =>
                  have hKn := hkq.out.none hlt (by rw [hby]; exact hst) (by rw [hby]; exact hrd)
                  have hR3 := HRK.out
                  rw [hKn] at hR3
                  simp only at hR3
                  subst hR3
                  rw [hrd] at hcall
                  simp only at hcall
                  clear hst hrd
                  go_wp2_with fail
                  refine hcall.mono ?_
                  rintro e w7 ⟨hk7, a, b, A7, n7, d7, rfl⟩
                  have z7 := Z6.keepM hk7 hgn.symm
                  have P7 := P6.keepM hk7 (by omega)
                  have k7 := K6.trans hk7
                  have zz := (qput3 (a := .int .i64 op) (b := .int .i64 0) (v := .slice A0 dl d0) z7).alloc (.cells #[.int .i64 a, .int .i64 b, .slice A7 n7 d7] 45)
                  have y0 : w7.cell? ⟨gz, 0, none⟩ = some (.int .i64 0) := z7.cell 0
                  have y1 : w7.cell? ⟨gz, 1, none⟩ = some (.int .i64 0) := z7.cell 1
                  have y2 : w7.cell? ⟨gz, 2, none⟩ = some (.slice none 0 0) := z7.cell 2
                  have g0 : w7.frozen? ⟨gz, 0, none⟩ = false := z7.frozen 0
                  have g1 : w7.frozen? ⟨gz, 1, none⟩ = false := z7.frozen 1
                  have g2 : w7.frozen? ⟨gz, 2, none⟩ = false := z7.frozen 2
                  have hlz : gz < w7.heap.size := z7.lt
                  have p0 : w7.cell? ⟨g6, 0, none⟩ = some (.int .i64 op) := P7.cell 0
                  have p1 : w7.cell? ⟨g6, 1, none⟩ = some (.int .i64 0) := P7.cell 1
                  have p2 : w7.cell? ⟨g6, 2, none⟩ = some (.slice A0 dl d0) := P7.cell 2
                  have q0 : w7.frozen? ⟨g6, 0, none⟩ = false := P7.frozen 0
                  have q1 : w7.frozen? ⟨g6, 1, none⟩ = false := P7.frozen 1
                  have q2 : w7.frozen? ⟨g6, 2, none⟩ = false := P7.frozen 2
                  have hlp : g6 < w7.heap.size := P7.lt
                  go_wp2_with fail
                  refine bodyPost_ret (v := .tuple #[.agg #[.int .i64 op, .int .i64 0, .slice A0 dl d0], .bool false]) (by simp [results, Tryz.results35, go_sem, zz.cell]) rfl ?_
                  exact RdPostQ.bad ((qkeep3 k7 hgzw).alloc _)
                | some r =>
                  obtain ⟨p, sa, ma⟩ := r
                  have hdown := rdQ_down f _ _ _ _ _ hmk hrd
                  have HNX := Lib.hid (hkq.out.step hlt (by rw [hby]; exact hst) (by rw [hby]; exact hrd))
                  have hsal : sa.length ≤ 1000000 := by have := hdown.1; rw [List.length_drop] at this; omega
                  have hma := hdown.2
                  rw [hrd] at hcall
                  simp only at hcall
                  clear hst hrd hdown
                  go_wp2_with fail
                  refine hcall.mono ?_
                  rintro e w7 ⟨hk7, A5, d5, rfl, hrep5, R7⟩
                  have Z7 := Z6.keepM hk7 hgn.symm
                  have P7 := P6.keepM hk7 (by omega)
                  have O7 := O6.out.keepM hk7 (by omega) (fun q h => h)
                  have K7 := K6.trans hk7
                  have hz67 := hk7.size
                  have hvf : ∀ q, w6.heap.size ≤ q → some q ≠ (Value.slice A0 dl d0).ownBlock := fun q hq => O6.out.ne_far hq
                  have hzl := P6.lt
                  have HR5 : Hid (Rep w7 (fun q => g6 + 1 ≤ q ∧ some q ≠ (Value.slice A0 dl d0).ownBlock) (encP p) [.int .i64 p.op, .int .i64 p.nt, .slice A5 p.kids.length d5]) := Lib.hid (hrep5.imp (fun q hq _ => ⟨by omega, hvf q hq⟩))
                  have HO7 := Lib.hid O7
                  clear hcall hrep5 O7
                  have p0 : w7.cell? ⟨g6, 0, none⟩ = some (.int .i64 op) := P7.cell 0
                  have p1 : w7.cell? ⟨g6, 1, none⟩ = some (.int .i64 0) := P7.cell 1
                  have p2 : w7.cell? ⟨g6, 2, none⟩ = some (.slice A0 dl d0) := P7.cell 2
                  have q0 : w7.frozen? ⟨g6, 0, none⟩ = false := P7.frozen 0
                  have q1 : w7.frozen? ⟨g6, 1, none⟩ = false := P7.frozen 1
                  have q2 : w7.frozen? ⟨g6, 2, none⟩ = false := P7.frozen 2
                  have hlp : g6 < w7.heap.size := P7.lt
                  go_wp2_with (at_builtin; go_must (refine append_one rfl (.tmp 68) (.tmp 70) 43 45 3 40 _ rfl Tryz.underlying43 pat_info rfl (by decide) (by decide) (g6 + 1) (fun q => g6 + 1 ≤ q) (.slice A0 dl d0) (done.map encP) rfl (w7.heap.size + 1) rfl ((HO7.out.alloc _).alloc _) [.int .i64 p.op, .int .i64 p.nt, .slice A5 p.kids.length d5] (encP p) (BlkIs.fresh1 _ _ _ _) rfl (by simp [Value.oneCell']) ((HR5.out.alloc _).alloc _) hdlen (by simp; omega) ?_); intro v2 w8 hown2 hb2 hk2; obtain ⟨A8, d8, rfl, _⟩ := hown2.rep.len; obtain ⟨L8, hL8⟩ : ∃ x, Hid ((done.map encP ++ [encP p]).length = x) := ⟨_, Lib.hid rfl⟩; rw [hL8.out] at hown2 ⊢; have P8 := ((P7.alloc _).alloc _).below hb2 (by omega); have u2 := P8.cell 2; have u3 := P8.frozen 2; have u4 := P8.lt)
                  go_roundw
                  case rel =>
                    refine ⟨k + 1, done ++ [p], sa, ma, .slice A8 L8 d8, by omega, by go_num, HNX, by simp [hdl], hsal, by omega, by omega, ?_, ?_, ?_, ?_, ?_⟩
                    · exact BlkIs.far (BlkIs.below ((BlkIs.alloc (BlkIs.alloc R7 _) _)) hb2 (by omega)) (by simp; omega) _
                    · exact (((Z7.alloc _).alloc _).below hb2 (by omega)).far (by simp; omega) _
                    · exact P8.put 2 _
                    · exact Lib.hid (by
                        rw [List.map_append]
                        exact Own.far hown2 (fun q h => h) (fun q hq _ => heap_setCell_other _ _ _ _ (by simp; omega)))
                    · have hsz := hb2.size
                      simp at hsz
                      refine KeepM.setCell ⟨hb2.os.trans K7.os, hb2.tape.trans K7.tape, hb2.output.trans K7.output, by have := K7.size; omega, fun q hq hl => (hb2.block q (by omega)).trans (((K7.alloc _).alloc _).block q hq hl)⟩ (by simp; omega) _
                  case measure => simp [intOf]; omega
          · obtain rfl : k = n := by omega
            have hlast := hkq.out.last
            have hR3 := HRK.out
            rw [hlast] at hR3
            simp only at hR3
            unfold finQ at hR3
            have hLd : Hid (dl = done.length) := Lib.hid hdle.out.symm
            have hLk : dl = k := by have := hdle.out; omega
            rw [← hLd.out] at hR3
            clear hdle
            have HO := Lib.hid hown.out.rep
            clear hown
            have hfin : ∀ (W : World) (sr : List UInt8), RdIs W g sr mk → KeepM g w W → Rep W (fun q => g6 + 1 ≤ q ∨ g6 + 1 ≤ q) (.lst 3 (done.map encP)) [.slice A0 dl d0] →
                RdPostQ (some (.mk op 0 done, sr, mk)) g w (.returned (.tuple #[.agg #[.int .i64 op, .int .i64 0, .slice A0 dl d0], .bool true])) W := by
              intro W sr h1 h2 h4
              refine ⟨h2, A0, d0, by rw [hLd.out]; rfl, ?_, h1⟩
              rw [hLd.out] at h4
              exact rep_pat_mk (p := .mk op 0 done) (h4.imp (fun q hq _ => by omega))
            by_cases hL0 : dl = 0
            · rw [if_pos hL0] at hR3
              subst hR3
              have hL0' : ((dl : Int) == 0) = true := by simp; omega
              have hk00 : k = 0 := by omega
              go_upto_region 21 with (go_at_call 46; refine (ca _).mono ?_; rintro e w9 ⟨rfl, rfl⟩)
              refine anyJ_begin 10 (fun W => BlkIs W g6 45 #[.int .i64 op, .int .i64 0, .slice A0 dl d0]) (by kernel_rfl) (hP.drew) (fun hHeld => ?_)
              refine take (i := 0) (d := some 73) (v := .agg #[.int .i64 op, .int .i64 0, .slice A0 dl d0]) (by kernel_rfl) rfl rfl rfl (fun _ _ _ h => h) hHeld (fun W hSw => by have x0 : W.cell? ⟨g6, 0, none⟩ = some (.int .i64 op) := BlkIs.cell hSw 0; have x1 : W.cell? ⟨g6, 1, none⟩ = some (.int .i64 0) := BlkIs.cell hSw 1; have x2 : W.cell? ⟨g6, 2, none⟩ = some (.slice A0 dl d0) := BlkIs.cell hSw 2; go_simp) ?_
              simp only [Act.put, List.setIfInBounds_toArray, List.set_cons_zero, List.set_cons_succ]
              refine take (i := 1) (d := some 74) (v := .pointer (some ⟨g6, 2, none⟩)) (by kernel_rfl) rfl rfl rfl (fun _ _ _ h => h) hHeld (fun W hSw => by go_simp) ?_
              simp only [Act.put, List.setIfInBounds_toArray, List.set_cons_zero, List.set_cons_succ]
              refine take (i := 2) (d := some 75) (v := .slice A0 dl d0) (by kernel_rfl) rfl rfl rfl (fun _ _ _ h => h) hHeld (fun W hSw => by have x2 : W.cell? ⟨g6, 2, none⟩ = some (.slice A0 dl d0) := BlkIs.cell hSw 2; go_simp) ?_
              simp only [Act.put, List.setIfInBounds_toArray, List.set_cons_zero, List.set_cons_succ]
              refine take (i := 3) (d := some 76) (v := .int .i64 dl) (by kernel_rfl) rfl rfl rfl (fun _ _ _ h => h) hHeld (fun W hSw => by go_simp) ?_
              simp only [Act.put, List.setIfInBounds_toArray, List.set_cons_zero, List.set_cons_succ]
              refine take (i := 4) (d := some 77) (v := .bool true) (by kernel_rfl) rfl rfl rfl (fun _ _ _ h => h) hHeld (fun W hSw => by go_simp) ?_
              simp only [Act.put, List.setIfInBounds_toArray, List.set_cons_zero, List.set_cons_succ]
              refine take (i := 5) (d := some 78) (v := .bool true) (by kernel_rfl) rfl rfl rfl (fun _ _ _ h => h) hHeld (fun W hSw => by go_simp) ?_
              simp only [Act.put, List.setIfInBounds_toArray, List.set_cons_zero, List.set_cons_succ]
              refine takeSkip (i := 6) (d := some 79) (by kernel_rfl) rfl rfl rfl (fun _ _ _ h => h) hHeld ?_
              simp only [Act.put, List.setIfInBounds_toArray, List.set_cons_zero, List.set_cons_succ]
              refine takeSkip (i := 7) (d := some 80) (by kernel_rfl) rfl rfl rfl (fun _ _ _ h => h) hHeld ?_
              simp only [Act.put, List.setIfInBounds_toArray, List.set_cons_zero, List.set_cons_succ]
              refine take (i := 8) (d := some 81) (v := .bool true) (by kernel_rfl) rfl rfl rfl (fun _ _ _ h => h) hHeld (fun W hSw => by go_simp) ?_
              simp only [Act.put, List.setIfInBounds_toArray, List.set_cons_zero, List.set_cons_succ]
              refine anyJ_only (i := 9) (d := none) (by kernel_rfl) rfl rfl rfl (fun K' hK => ?_)
              refine wp_store_row 45 (.tmp 2) (.tmp 73) rfl gz #[.int .i64 op, .int .i64 0, .slice A0 dl d0] rfl rfl 45 _ (hZ.drew) (by kernel_rfl) rfl (by simp [Value.oneCell']) (hK.out _ _ (fun _ => (setRow_other _ gz g6 _ (by omega)).trans hP) (fun hHeld => ?_))
              have hHeld := hHeld (by decide)
              refine anyJ_only (i := 10) (d := some 3) (by kernel_rfl) rfl rfl rfl (fun K' hK => ?_)
              refine wp_val (w' := wo.drew.setRow gz #[.int .i64 op, .int .i64 0, .slice A0 dl d0]) (v := .bool true) (by go_simp) (hK.out _ _ (fun h => absurd rfl h) (fun _ => ?_))
              simp only [Act.put, List.setIfInBounds_toArray, List.set_cons_zero, List.set_cons_succ]
              refine anyJ_done (by kernel_rfl) ?_ _
              have z6 : BlkIs (wo.drew.setRow gz #[.int .i64 op, .int .i64 0, .slice A0 dl d0]) gz 45 #[.int .i64 op, .int .i64 0, .slice A0 dl d0] := setRow_heap _ _ _ _ _ _ (hZ.drew)
              go_wp2_with fail
              refine bodyPost_ret (v := .tuple #[.agg #[.int .i64 op, .int .i64 0, .slice A0 dl d0], .bool true]) (by simp [results, Tryz.results35, go_sem, z6.cell]) rfl ?_
              refine hfin _ _ ((setRow_other _ gz g _ hgn).trans hR1) (hkm.drew.setRow (by omega) _) ?_
              exact Rep.keep (w := wo.drew) (fun q h _ => h) (fun q hq _ => setRow_other _ gz q _ (by omega)) _ _ HO.out.drew
            · rw [if_neg hL0] at hR3
              have hL0' : ((dl : Int) == 0) = false := by simp; omega
              have hk00 : ¬ k = 0 := by omega
              have hpass := fun W' h => passes_any g sk [41] mk hsl (by decide) W' h
              cases hst : startsB sk [41]
              · rw [hst] at hpass hR3
                simp only [if_neg (by decide : ¬ (false = true))] at hpass hR3
                subst hR3
                go_upto_region 21 with (go_at_call 46; refine (ca _).mono ?_; rintro e w9 ⟨rfl, rfl⟩)
                refine anyJ_begin 10 (fun W => BlkIs W g6 45 #[.int .i64 op, .int .i64 0, .slice A0 dl d0]) (by kernel_rfl) (hP.drew) (fun hHeld => ?_)
                refine take (i := 0) (d := some 73) (v := .agg #[.int .i64 op, .int .i64 0, .slice A0 dl d0]) (by kernel_rfl) rfl rfl rfl (fun _ _ _ h => h) hHeld (fun W hSw => by have x0 : W.cell? ⟨g6, 0, none⟩ = some (.int .i64 op) := BlkIs.cell hSw 0; have x1 : W.cell? ⟨g6, 1, none⟩ = some (.int .i64 0) := BlkIs.cell hSw 1; have x2 : W.cell? ⟨g6, 2, none⟩ = some (.slice A0 dl d0) := BlkIs.cell hSw 2; go_simp) ?_
                simp only [Act.put, List.setIfInBounds_toArray, List.set_cons_zero, List.set_cons_succ]
                refine take (i := 1) (d := some 74) (v := .pointer (some ⟨g6, 2, none⟩)) (by kernel_rfl) rfl rfl rfl (fun _ _ _ h => h) hHeld (fun W hSw => by go_simp) ?_
                simp only [Act.put, List.setIfInBounds_toArray, List.set_cons_zero, List.set_cons_succ]
                refine take (i := 2) (d := some 75) (v := .slice A0 dl d0) (by kernel_rfl) rfl rfl rfl (fun _ _ _ h => h) hHeld (fun W hSw => by have x2 : W.cell? ⟨g6, 2, none⟩ = some (.slice A0 dl d0) := BlkIs.cell hSw 2; go_simp) ?_
                simp only [Act.put, List.setIfInBounds_toArray, List.set_cons_zero, List.set_cons_succ]
                refine take (i := 3) (d := some 76) (v := .int .i64 dl) (by kernel_rfl) rfl rfl rfl (fun _ _ _ h => h) hHeld (fun W hSw => by go_simp) ?_
                simp only [Act.put, List.setIfInBounds_toArray, List.set_cons_zero, List.set_cons_succ]
                refine take (i := 4) (d := some 77) (v := .bool false) (by kernel_rfl) rfl rfl rfl (fun _ _ _ h => h) hHeld (fun W hSw => by go_simp) ?_
                simp only [Act.put, List.setIfInBounds_toArray, List.set_cons_zero, List.set_cons_succ]
                refine take (i := 5) (d := some 78) (v := .bool false) (by kernel_rfl) rfl rfl rfl (fun _ _ _ h => h) hHeld (fun W hSw => by go_simp) ?_
                simp only [Act.put, List.setIfInBounds_toArray, List.set_cons_zero, List.set_cons_succ]
                refine take (i := 6) (d := some 79) (v := .pointer (some ⟨g, 0, none⟩)) (by kernel_rfl) rfl rfl rfl (fun _ _ _ h => h) hHeld (fun W hSw => by go_simp) ?_
                simp only [Act.put, List.setIfInBounds_toArray, List.set_cons_zero, List.set_cons_succ]
                refine anyJ_only (i := 7) (d := some 80) (by kernel_rfl) rfl rfl rfl (fun K' hK => ?_)
                refine wp_go_call 55 _ _ rfl #[.pointer (some ⟨g, 0, none⟩), .string ⟨#[41]⟩] rfl (fun W => by go_simp) (hpass _ (BlkIs.drew hR1)) (fun e w7 he => ?_)
                obtain ⟨rfl, rfl⟩ := he
                refine ⟨_, rfl, hK.out _ _ (fun _ => hP.drew) (fun hHeld => ?_)⟩
                have hHeld := hHeld (by decide)
                simp only [Act.put, List.setIfInBounds_toArray, List.set_cons_zero, List.set_cons_succ]
                refine take (i := 8) (d := some 81) (v := .bool false) (by kernel_rfl) rfl rfl rfl (fun _ _ _ h => h) hHeld (fun W hSw => by go_simp) ?_
                simp only [Act.put, List.setIfInBounds_toArray, List.set_cons_zero, List.set_cons_succ]
                refine anyJ_only (i := 9) (d := none) (by kernel_rfl) rfl rfl rfl (fun K' hK => ?_)
                refine wp_store_row 45 (.tmp 2) (.tmp 73) rfl gz #[.int .i64 op, .int .i64 0, .slice A0 dl d0] rfl rfl 45 _ (hZ.drew) (by kernel_rfl) rfl (by simp [Value.oneCell']) (hK.out _ _ (fun _ => (setRow_other _ gz g6 _ (by omega)).trans hP) (fun hHeld => ?_))
                have hHeld := hHeld (by decide)
                refine anyJ_only (i := 10) (d := some 3) (by kernel_rfl) rfl rfl rfl (fun K' hK => ?_)
                refine wp_val (w' := wo.drew.setRow gz #[.int .i64 op, .int .i64 0, .slice A0 dl d0]) (v := .bool false) (by go_simp) (hK.out _ _ (fun h => absurd rfl h) (fun _ => ?_))
                simp only [Act.put, List.setIfInBounds_toArray, List.set_cons_zero, List.set_cons_succ]
                refine anyJ_done (by kernel_rfl) ?_ _
                have z6 : BlkIs (wo.drew.setRow gz #[.int .i64 op, .int .i64 0, .slice A0 dl d0]) gz 45 #[.int .i64 op, .int .i64 0, .slice A0 dl d0] := setRow_heap _ _ _ _ _ _ (hZ.drew)
                go_wp2_with fail
                refine bodyPost_ret (v := .tuple #[.agg #[.int .i64 op, .int .i64 0, .slice A0 dl d0], .bool false]) (by simp [results, Tryz.results35, go_sem, z6.cell]) rfl ?_
                exact RdPostQ.bad (hkm.drew.setRow (by omega) _)
              · rw [hst] at hpass hR3
                simp only [if_true, List.length_cons, List.length_nil, Nat.zero_add] at hpass
                rw [if_pos rfl] at hR3
                subst hR3
                go_upto_region 21 with (go_at_call 46; refine (ca _).mono ?_; rintro e w9 ⟨rfl, rfl⟩)
                refine anyJ_begin 10 (fun W => BlkIs W g6 45 #[.int .i64 op, .int .i64 0, .slice A0 dl d0]) (by kernel_rfl) (hP.drew) (fun hHeld => ?_)
                refine take (i := 0) (d := some 73) (v := .agg #[.int .i64 op, .int .i64 0, .slice A0 dl d0]) (by kernel_rfl) rfl rfl rfl (fun _ _ _ h => h) hHeld (fun W hSw => by have x0 : W.cell? ⟨g6, 0, none⟩ = some (.int .i64 op) := BlkIs.cell hSw 0; have x1 : W.cell? ⟨g6, 1, none⟩ = some (.int .i64 0) := BlkIs.cell hSw 1; have x2 : W.cell? ⟨g6, 2, none⟩ = some (.slice A0 dl d0) := BlkIs.cell hSw 2; go_simp) ?_
                simp only [Act.put, List.setIfInBounds_toArray, List.set_cons_zero, List.set_cons_succ]
                refine take (i := 1) (d := some 74) (v := .pointer (some ⟨g6, 2, none⟩)) (by kernel_rfl) rfl rfl rfl (fun _ _ _ h => h) hHeld (fun W hSw => by go_simp) ?_
                simp only [Act.put, List.setIfInBounds_toArray, List.set_cons_zero, List.set_cons_succ]
                refine take (i := 2) (d := some 75) (v := .slice A0 dl d0) (by kernel_rfl) rfl rfl rfl (fun _ _ _ h => h) hHeld (fun W hSw => by have x2 : W.cell? ⟨g6, 2, none⟩ = some (.slice A0 dl d0) := BlkIs.cell hSw 2; go_simp) ?_
                simp only [Act.put, List.setIfInBounds_toArray, List.set_cons_zero, List.set_cons_succ]
                refine take (i := 3) (d := some 76) (v := .int .i64 dl) (by kernel_rfl) rfl rfl rfl (fun _ _ _ h => h) hHeld (fun W hSw => by go_simp) ?_
                simp only [Act.put, List.setIfInBounds_toArray, List.set_cons_zero, List.set_cons_succ]
                refine take (i := 4) (d := some 77) (v := .bool false) (by kernel_rfl) rfl rfl rfl (fun _ _ _ h => h) hHeld (fun W hSw => by go_simp) ?_
                simp only [Act.put, List.setIfInBounds_toArray, List.set_cons_zero, List.set_cons_succ]
                refine take (i := 5) (d := some 78) (v := .bool false) (by kernel_rfl) rfl rfl rfl (fun _ _ _ h => h) hHeld (fun W hSw => by go_simp) ?_
                simp only [Act.put, List.setIfInBounds_toArray, List.set_cons_zero, List.set_cons_succ]
                refine take (i := 6) (d := some 79) (v := .pointer (some ⟨g, 0, none⟩)) (by kernel_rfl) rfl rfl rfl (fun _ _ _ h => h) hHeld (fun W hSw => by go_simp) ?_
                simp only [Act.put, List.setIfInBounds_toArray, List.set_cons_zero, List.set_cons_succ]
                refine anyJ_only (i := 7) (d := some 80) (by kernel_rfl) rfl rfl rfl (fun K' hK => ?_)
                refine wp_go_call 55 _ _ rfl #[.pointer (some ⟨g, 0, none⟩), .string ⟨#[41]⟩] rfl (fun W => by go_simp) (hpass _ (BlkIs.drew hR1)) (fun e w7 he => ?_)
                obtain ⟨rfl, hw7⟩ := he
                have R7 : RdIs w7 g (sk.drop 1) mk := by rw [← hw7]; exact RdIs.putS (BlkIs.drew hR1)
                have Z7 : BlkIs w7 gz 45 #[.int .i64 0, .int .i64 0, .slice none 0 0] := by rw [← hw7]; exact (hZ.drew).far (by simp; omega) _
                have P7 : BlkIs w7 g6 45 #[.int .i64 op, .int .i64 0, .slice A0 dl d0] := by rw [← hw7]; exact (hP.drew).far (by simp; omega) _
                have K7 : KeepM g w w7 := by rw [← hw7]; exact hkm.drew.own 0 _
                have H7 : Rep w7 (fun q => g6 + 1 ≤ q ∨ g6 + 1 ≤ q) (.lst 3 (done.map encP)) [.slice A0 dl d0] := by
                  rw [← hw7]
                  exact Rep.setCell HO.out.drew (fun q hq => by simp; omega)
                clear hw7
                refine ⟨_, rfl, hK.out _ _ (fun _ => P7) (fun hHeld => ?_)⟩
                have hHeld := hHeld (by decide)
                simp only [Act.put, List.setIfInBounds_toArray, List.set_cons_zero, List.set_cons_succ]
                refine take (i := 8) (d := some 81) (v := .bool true) (by kernel_rfl) rfl rfl rfl (fun _ _ _ h => h) hHeld (fun W hSw => by go_simp) ?_
                simp only [Act.put, List.setIfInBounds_toArray, List.set_cons_zero, List.set_cons_succ]
                refine anyJ_only (i := 9) (d := none) (by kernel_rfl) rfl rfl rfl (fun K' hK => ?_)
                refine wp_store_row 45 (.tmp 2) (.tmp 73) rfl gz #[.int .i64 op, .int .i64 0, .slice A0 dl d0] rfl rfl 45 _ Z7 (by kernel_rfl) rfl (by simp [Value.oneCell']) (hK.out _ _ (fun _ => (setRow_other _ gz g6 _ (by omega)).trans P7) (fun hHeld => ?_))
                have hHeld := hHeld (by decide)
                refine anyJ_only (i := 10) (d := some 3) (by kernel_rfl) rfl rfl rfl (fun K' hK => ?_)
                refine wp_val (w' := w7.setRow gz #[.int .i64 op, .int .i64 0, .slice A0 dl d0]) (v := .bool true) (by go_simp) (hK.out _ _ (fun h => absurd rfl h) (fun _ => ?_))
                simp only [Act.put, List.setIfInBounds_toArray, List.set_cons_zero, List.set_cons_succ]
                refine anyJ_done (by kernel_rfl) ?_ _
                have z6 : BlkIs (w7.setRow gz #[.int .i64 op, .int .i64 0, .slice A0 dl d0]) gz 45 #[.int .i64 op, .int .i64 0, .slice A0 dl d0] := setRow_heap _ _ _ _ _ _ Z7
                go_wp2_with fail
                refine bodyPost_ret (v := .tuple #[.agg #[.int .i64 op, .int .i64 0, .slice A0 dl d0], .bool true]) (by simp [results, Tryz.results35, go_sem, z6.cell]) rfl ?_
                exact hfin _ _ ((setRow_other _ gz g _ hgn).trans R7) (K7.setRow (by omega) _) (Rep.keep (fun q h _ => h) (fun q hq _ => setRow_other _ gz q _ (by omega)) _ _ H7)

theorem rdQ_any : ∀ f, RdOkQ f
  | 0 => fun _ _ _ _ h1 h2 => absurd h2 (by omega)
  | f + 1 => rdQ_step f (rdQ_any f)

end

/- Plain: what the reference makes of a text of rules. -/
section
open Go.RowKit

def cutQ (s b : List UInt8) : List UInt8 × List UInt8 × Bool := match cutT s b with
  | some (x, y) => (x, y, true)
  | none => ([], [], false)
theorem cutQ_len (s b : List UInt8) : (cutQ s b).1.length ≤ s.length ∧ (cutQ s b).2.1.length ≤ s.length := by
  unfold cutQ
  cases h : cutT s b with
  | none => simp
  | some r =>
    obtain ⟨x, y⟩ := r
    exact cutT_len h
theorem cutQ_less {s b : List UInt8} (h : (cutQ s b).2.2 = true) (h1 : 0 < s.length) (h2 : 0 < b.length) : (cutQ s b).2.1.length < s.length := by
  unfold cutQ at *
  cases hc : cutT s b with
  | none => rw [hc] at h; cases h
  | some r =>
    obtain ⟨x, y⟩ := r
    exact cutT_less hc h1 h2
theorem qcut_any (s b : List UInt8) (hs : s.length ≤ 1000000) (hbl : b.length ≤ 1000) (w : World) : Calls Tryz.prog 33 #[.string ⟨s.toArray⟩, .string ⟨b.toArray⟩] w fun e w' => e = .returned (.tuple #[.string ⟨(cutQ s b).1.toArray⟩, .string ⟨(cutQ s b).2.1.toArray⟩, .bool (cutQ s b).2.2]) ∧ ∃ m, w' = w.drewN m := by
  refine (cut_any s b hs hbl w).mono ?_
  rintro e w' ⟨he, hw⟩
  refine ⟨?_, hw⟩
  unfold CutIs at he
  unfold cutQ
  cases hc : cutT s b with
  | none => rw [hc] at he; exact he
  | some r =>
    obtain ⟨x, y⟩ := r
    rw [hc] at he; exact he

/-- a rule of its four parts -/
def readQ (a c e f : List UInt8) : Option Rule := match numT e with
  | none => none
  | some n => match rdQ 9 c 0 with
    | none => none
    | some (p, r, _) => if r = [] ∧ 0 ≤ ntT a then some ⟨ntT a, p, n, f⟩ else none
def rowQ (line : List UInt8) : Option Rule :=
  if (cutQ line arrowT).2.2 = true ∧ (cutQ (cutQ line arrowT).2.1 colonT).2.2 = true ∧ (cutQ (cutQ (cutQ line arrowT).2.1 colonT).2.1 [32]).2.2 = true ∧ (cutQ (cutQ (cutQ line arrowT).2.1 colonT).2.1 [32]).1.length ≤ 6 then
    readQ (cutQ line arrowT).1 (cutQ (cutQ line arrowT).2.1 colonT).1 (cutQ (cutQ (cutQ line arrowT).2.1 colonT).2.1 [32]).1 (cutQ (cutQ (cutQ line arrowT).2.1 colonT).2.1 [32]).2.1 else none
/-- a text's rules, line by line -/
def linesQ : Nat → Nat → List UInt8 → Option (List Rule)
  | 0, _, s => if s = [] then some [] else none
  | f + 1, cnt, s => if s = [] then some [] else if (cutQ s [10]).2.2 = true ∧ cnt ≠ 96 then (match rowQ (cutQ s [10]).1 with
    | none => none
    | some r => (linesQ f (cnt + 1) (cutQ s [10]).2.1).map fun l => r :: l) else none
def parseQ (s : List UInt8) : Option (List Rule) :=
  if 16000 < s.length then none else match linesQ s.length 0 s with
    | none => none
    | some l => if mayRs l = true ∧ rulesT l = s then some l else none
theorem linesQ_nil (f c : Nat) : linesQ f c [] = some [] := by cases f <;> simp [linesQ]
theorem linesQ_cons {f c : Nat} {s : List UInt8} (hs : s ≠ []) (hf : s.length ≤ f) : ∃ g, f = g + 1 ∧ linesQ f c s = if (cutQ s [10]).2.2 = true ∧ c ≠ 96 then (match rowQ (cutQ s [10]).1 with
    | none => none
    | some r => (linesQ g (c + 1) (cutQ s [10]).2.1).map fun l => r :: l) else none := by
  cases f with
  | zero => exact absurd (List.eq_nil_of_length_eq_zero (by omega)) hs
  | succ g => exact ⟨g, rfl, by rw [linesQ, if_neg hs]⟩

def WfQ (rd : List UInt8 → Nat → QRes) : Prop := ∀ s m p s2 m2, rd s m = some (p, s2, m2) → PatWf p
theorem rdQK_wf {rd : List UInt8 → Nat → QRes} (h : WfQ rd) : ∀ (n i : Nat) (s : List UInt8) (m : Nat) (ps : List Pat) (s3 : List UInt8) (m3 : Nat), rdQK rd n i s m = some (ps, s3, m3) → PatsWf ps
  | 0, i, s, m, ps, s3, m3, e => by
    unfold rdQK at e
    injection e with e
    injection e with e1 _
    subst e1
    unfold PatsWf; trivial
  | n + 1, i, s, m, ps, s3, m3, e => by
    unfold rdQK at e
    split at e
    · cases hr : rd (s.drop (byT i).length) m with
      | none => rw [hr] at e; cases e
      | some r =>
        obtain ⟨p, s2, m2⟩ := r
        rw [hr] at e
        simp only at e
        cases hk : rdQK rd n (i + 1) s2 m2 with
        | none => rw [hk] at e; cases e
        | some r =>
          obtain ⟨qs, sa, ma⟩ := r
          rw [hk] at e
          injection e with e
          injection e with e1 _
          subst e1
          unfold PatsWf
          exact ⟨h _ _ _ _ _ hr, rdQK_wf h n (i + 1) s2 m2 _ _ _ hk⟩
    · cases e
theorem ntT_I64 (s : List UInt8) : I64 (ntT s) := by
  unfold ntT
  cases h : idxT ntWords s with
  | none => exact i64D ⟨by decide, by decide⟩
  | some k =>
    have hk : k < ntWords.length := by
      unfold idxT at h
      exact (List.findIdx?_eq_some_iff_findIdx_eq.mp h).1
    have hl : ntWords.length = 4 := rfl
    show I64 ((k : Nat) : Int)
    exact i64D ⟨by omega, by omega⟩
theorem rdQ_wf : ∀ f, WfQ (rdQ f)
  | 0 => fun _ _ _ _ _ h => by cases h
  | f + 1 => by
    intro s m p s2 m2 e
    unfold rdQ at e
    split at e
    · split at e
      · injection e with e
        injection e with e1 _
        subst e1
        unfold PatWf
        exact ⟨i64D ⟨by decide, by decide⟩, ntT_I64 _, by unfold PatsWf; trivial⟩
      · cases e
    · split at e
      · cases e
      · cases hk : rdQK (rdQ f) (arityOf (opT (s.take (wordLen s)))).toNat 0 (s.drop (wordLen s)) (m + 1) with
        | none => rw [hk] at e; cases e
        | some r =>
          obtain ⟨ps, sa, ma⟩ := r
          rw [hk] at e
          simp only at e
          have h3 := rdQK_wf (rdQ_wf f) _ _ _ _ _ _ _ hk
          have hp : PatWf (.mk (opT (s.take (wordLen s))) 0 ps) := by unfold PatWf; exact ⟨opT_I64 _, i64D ⟨by decide, by decide⟩, h3⟩
          unfold finQ at e
          split at e
          · injection e with e; injection e with e1 _; subst e1; exact hp
          · split at e
            · injection e with e; injection e with e1 _; subst e1; exact hp
            · cases e
theorem readQ_wf {a c e f : List UInt8} {r : Rule} (h : readQ a c e f = some r) (hf : f.length ≤ 1000000) : RuleWf r := by
  unfold readQ at h
  rcases atoi_parse e with ⟨v, hv, _, _, hr⟩ | ⟨hv, _⟩
  · rw [hv] at h
    simp only at h
    cases hp : rdQ 9 c 0 with
    | none => rw [hp] at h; cases h
    | some q =>
      obtain ⟨p, rr, m⟩ := q
      rw [hp] at h
      simp only at h
      split at h
      · injection h with h
        subst h
        exact ⟨ntT_I64 _, rdQ_wf 9 _ _ _ _ _ hp, i64D hr, by unfold reachBytes; simp only; omega⟩
      · cases h
  · rw [hv] at h; cases h
theorem rowQ_wf {s : List UInt8} {r : Rule} (h : rowQ s = some r) (hs : s.length ≤ 1000000) : RuleWf r := by
  unfold rowQ at h
  split at h
  · refine readQ_wf h ?_
    have h1 := (cutQ_len (cutQ (cutQ s arrowT).2.1 colonT).2.1 [32]).2
    have h2 := (cutQ_len (cutQ s arrowT).2.1 colonT).2
    have h3 := (cutQ_len s arrowT).2
    omega
  · cases h
theorem linesQ_wf : ∀ (f c : Nat) (s : List UInt8) (l : List Rule), linesQ f c s = some l → s.length ≤ 1000000 → ∀ r ∈ l, RuleWf r
  | 0, c, s, l, h, hs => by
    unfold linesQ at h
    split at h
    · injection h with h; subst h; simp
    · cases h
  | f + 1, c, s, l, h, hs => by
    unfold linesQ at h
    split at h
    · injection h with h; subst h; simp
    · split at h
      · cases h2 : rowQ (cutQ s [10]).1 with
        | none => rw [h2] at h; cases h
        | some r =>
          have e1 := cutQ_len s [10]
          rw [h2] at h
          simp only at h
          cases h3 : linesQ f (c + 1) (cutQ s [10]).2.1 with
          | none => rw [h3] at h; cases h
          | some l2 =>
            rw [h3] at h
            injection h with h
            subst h
            intro q hq
            rcases List.mem_cons.mp hq with rfl | hq
            · exact rowQ_wf h2 (by omega)
            · exact linesQ_wf f (c + 1) _ l2 h3 (by omega) q hq
      · cases h

end

end Go.Proofs.YthdicdkgfmiepaaGreatDoor

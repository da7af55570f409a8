/- Numbers held against each other by their contract; lists held against each other. -/
import Derived.Test.YtjpgogmnabkgnaaGreatWdA
import Derived.Test.YtjpgogmnabkgnaaGreatVz
import Derived.Test.YtjpgogmnabkgnaaGreatVm
import Derived.BigQuiet
import Derived.Deep.QuietTactic
namespace Go.Proofs.YtjpgogmnabkgnaaGreat
open Go.RowKit Go.Proofs.YtjpgogmnabkgnaaGreat.Ev

theorem two25 (a b : Int) : twoF 25 a b = if a = b then 1 else 0 := by
  unfold twoF divF cmpF
  simp
theorem two26 (a b : Int) : twoF 26 a b = if a = b then 0 else 1 := by
  unfold twoF divF cmpF
  simp
theorem two27 (a b : Int) : twoF 27 a b = if a < b then 1 else 0 := by
  unfold twoF divF cmpF
  simp
theorem two29 (a b : Int) : twoF 29 a b = if b < a then 0 else 1 := by
  unfold twoF divF cmpF
  simp
  by_cases h : b < a
  · simp [h]
  · simp [h, Int.not_lt.1 h]

def numB (b : Bool) : AV := match b with
  | true => .int .i64 1
  | false => .int .i64 0
theorem numB_vr [SEnv0] (ι : Io) (b : Bool) : VR ι (numB b) (.int .i64 (if b then 1 else 0)) := by cases b <;> simp [numB, VR]

/-- numbers held against each other -/
def kCmp [SEnv] (args : AV) (h : H) : Option (AV × H) := match args with
  | .cons (.int .i64 (.ofNat op)) (.cons x (.cons y .nil)) => match tmOf x, tmOf y with
    | some (k, a), some (j, b) => match and (and (Nat.beq (kindN k) 3) (Nat.beq (kindN j) 3)) (and (inI64 a) (inI64 b)) with
      | true => match op with
        | 25 => match decEq a b with
          | some r => some (numB r, h)
          | none => none
        | 26 => match decEq a b with
          | some r => some (numB (not r), h)
          | none => none
        | 27 => match decLt a b with
          | some r => some (numB r, h)
          | none => none
        | 29 => match decLt b a with
          | some r => some (numB (not r), h)
          | none => none
        | _ => none
      | false => none
    | _, _ => none
  | _ => none

theorem kCmp_ok [SEnv] {f : FuncId} (hf : TwoOk f) {args : AV} {h : H} {v : AV} {h' : H} (hr : kCmp args h = some (v, h')) : SoundCall Tryz.prog K0 f args h v h' := by
  unfold kCmp at hr
  split at hr
  case h_2 => cases hr
  rename_i op x y
  split at hr
  case h_2 => cases hr
  rename_i k a j b h1 h2
  split at hr
  case h_2 => cases hr
  rename_i hcond
  simp only [Bool.and_eq_true] at hcond
  obtain ⟨⟨hk, hj⟩, ha, hb⟩ := hcond
  have hk : k = .i64 := kindN_inj (j := .i64) hk
  have hj : j = .i64 := kindN_inj (j := .i64) hj
  subst hk hj
  have ha := inI64_ok ha
  have hb := inI64_ok hb
  have key : h' = h ∧ (12 : Int) ≤ op ∧ (op : Int) ≤ 30 ∧ ∃ r, v = numB r ∧ twoF op a.den b.den = if r then 1 else 0 := by
    split at hr
    · split at hr
      case h_2 => cases hr
      rename_i r hd
      injection hr with hr
      injection hr with e1 e2
      refine ⟨e2.symm, by decide, by decide, r, e1.symm, ?_⟩
      have := decEq_ok hd
      rw [show ((25 : Nat) : Int) = 25 from rfl, two25, ← this]
      simp
    · split at hr
      case h_2 => cases hr
      rename_i r hd
      injection hr with hr
      injection hr with e1 e2
      refine ⟨e2.symm, by decide, by decide, !r, e1.symm, ?_⟩
      have := decEq_ok hd
      rw [show ((26 : Nat) : Int) = 26 from rfl, two26, ← this]
      by_cases hab : a.den = b.den <;> simp [hab]
    · split at hr
      case h_2 => cases hr
      rename_i r hd
      injection hr with hr
      injection hr with e1 e2
      refine ⟨e2.symm, by decide, by decide, r, e1.symm, ?_⟩
      have := decLt_ok hd
      rw [show ((27 : Nat) : Int) = 27 from rfl, two27, ← this]
      simp
    · split at hr
      case h_2 => cases hr
      rename_i r hd
      injection hr with hr
      injection hr with e1 e2
      refine ⟨e2.symm, by decide, by decide, !r, e1.symm, ?_⟩
      have := decLt_ok hd
      rw [show ((29 : Nat) : Int) = 29 from rfl, two29, ← this]
      by_cases hab : b.den < a.den <;> simp [hab]
    · cases hr
  obtain ⟨rfl, o1, o2, r, rfl, hv⟩ := key
  intro ι w vs hh _ hvs
  obtain ⟨v1, m1, hl, hv1, v2, m2, rfl, hv2, v3, m3, rfl, hv3, rfl⟩ := hvs
  have hv1 : v1 = .int .i64 (Int.ofNat op) := hv1
  have hv2 := tmOf_spec h1 hv2
  have hv3 := tmOf_spec h2 hv3
  subst hv1 hv2 hv3
  obtain rfl : vs = #[.int .i64 (Int.ofNat op), .int .i64 a.den, .int .i64 b.den] := by rw [← Array.toList_inj, hl]
  refine (hf (Int.ofNat op) a.den b.den w ⟨o1, o2⟩ ha hb).mono fun e w' ⟨he, hbw⟩ => ?_
  obtain ⟨q1, q2⟩ := hh.grown hbw
  refine ⟨ι, _, he, ?_, q1, q2⟩
  have hv : twoF (Int.ofNat op) a.den b.den = if r then 1 else 0 := hv
  rw [hv]
  exact numB_vr ι r

/-- numbers in memory -/
def LongsAt (w : World) (xs : List Int) (v : Value) : Prop := ∃ A c, v = .slice A xs.length c ∧ (xs ≠ [] → ∃ g off, A = some ⟨g, off, none⟩ ∧ ∀ (i : Nat) (x : Int), xs[i]? = some x → w.cell? ⟨g, off + i, none⟩ = some (.int .i64 x))

theorem LongsAt.drewN {w : World} {xs : List Int} {v : Value} (h : LongsAt w xs v) (n : Nat) : LongsAt (w.drewN n) xs v := by
  obtain ⟨A, c, h1, h2⟩ := h
  exact ⟨A, c, h1, fun hn => by
    obtain ⟨g, off, h3, h4⟩ := h2 hn
    exact ⟨g, off, h3, fun i x hx => h4 i x hx⟩⟩

set_option maxHeartbeats 4000000 in
theorem eqLongs_same (xs : List Int) (u v : Value) (w : World) (hu : LongsAt w xs u) (hv : LongsAt w xs v) (hl : xs.length ≤ 100000) : Calls Tryz.prog 18 #[u, v] w fun e w' => e = .returned (.bool true) ∧ Below w.heap.size w w' := by
  obtain ⟨A, c, rfl, h1⟩ := hu
  obtain ⟨B, d, rfl, h2⟩ := hv
  by_cases hn : xs = []
  · subst hn
    clear h1 h2
    simp only [List.length_nil]
    go_enter Tryz.func18, Tryz.ntmps18
    go_wp2_with fail
    go_loopw [5] (fun i wr => i = .int .i64 (0 : Nat) ∧ w = wr) (fun _ _ => 0)
    case atStart => exact ⟨rfl, rfl⟩
    case round =>
      obtain ⟨rfl, rfl⟩ := hrel
      go_wp2_with fail
      go_ret
      exact ⟨rfl, Below.refl _ _⟩
  · obtain ⟨g, off, rfl, k1⟩ := h1 hn
    obtain ⟨q, of2, rfl, k2⟩ := h2 hn
    obtain ⟨n, hnn⟩ : ∃ n, Hid (xs.length = n) := ⟨_, Lib.hid rfl⟩
    rw [hnn.out] at hl ⊢
    have b0 := Below.refl w.heap.size w
    go_enter Tryz.func18, Tryz.ntmps18
    go_wp2_with fail
    go_loopw [5] (fun i wr => ∃ k m : Nat, k ≤ n ∧ i = .int .i64 k ∧ wr = w.drewN m) (fun i _ => n - (intOf i).toNat)
    case atStart => exact ⟨0, 0, by omega, rfl, rfl⟩
    case round =>
      obtain ⟨k, m, hk, rfl, rfl⟩ := hrel
      by_cases hlt : k < n
      · have hx : xs[k]? = some (xs[k]'(by rw [hnn.out]; exact hlt)) := List.getElem?_eq_getElem _
        have c1 : w.cell? ⟨g, off + k, none⟩ = some (.int .i64 (xs[k]'(by rw [hnn.out]; exact hlt))) := k1 k _ hx
        have c2 : w.cell? ⟨q, of2 + k, none⟩ = some (.int .i64 (xs[k]'(by rw [hnn.out]; exact hlt))) := k2 k _ hx
        obtain ⟨x, hxx⟩ : ∃ x, xs[k]'(by rw [hnn.out]; exact hlt) = x := ⟨_, rfl⟩
        rw [hxx] at c1 c2
        clear hxx hx
        go_wp2_with fail
        go_quiet (fail)
        go_wp2_with fail
        go_roundw
        case rel => exact ⟨k + 1, _, by omega, by go_num, rfl⟩
        case measure => simp [intOf]; omega
      · obtain rfl : k = n := by omega
        go_wp2_with fail
        go_ret
        exact ⟨rfl, below_drewN b0 _⟩

/-- lists held against each other -/
def kEqL (args : AV) (h : H) : Option (AV × H) := match args with
  | .cons (.ssl i b ts) (.cons (.ssl j c us) .nil) => match h.objs.get i, h.objs.get j with
    | some (.spine b' ts'), some (.spine c' us') => match and (and (Nat.beq b b') (eqAV ts ts')) (and (Nat.beq c c') (eqAV us us')) with
      | true => match and (and (Nat.beq b c) (eqAV ts us)) (Nat.blt ts.length 1000) with
        | true => some (.bool true, h)
        | false => none
      | false => none
    | _, _ => none
  | _ => none

theorem longs_at [SEnv] {h : H} {ι : Io} {w : World} (hh : HR h ι w) {i b : Nat} {ts : AV} (ho : h.objs.get i = some (.spine b ts)) {v : Value} (hv : VR ι (.ssl i b ts) v) : ∃ m, denL ts = some m ∧ LongsAt w (SEnv0.lst b ++ m) v := by
  simp only [VR] at hv
  obtain ⟨m, h0, hv⟩ := hv
  refine ⟨m, h0, ?_⟩
  rcases hv with ⟨h1, rfl⟩ | ⟨h1, l, cap, h2, rfl, h3, h4⟩
  · rw [h1]
    exact ⟨none, 0, rfl, fun h => absurd rfl h⟩
  · refine ⟨_, _, rfl, fun _ => ⟨_, _, rfl, fun k x hx => ?_⟩⟩
    obtain ⟨m', e, h5⟩ := hh.obj i _ ho
    rw [h0] at e
    injection e with e
    subst e
    rcases h5 with h5 | ⟨l', arr, t, h6, h7, h8, h9, h10⟩
    · exact absurd h5 h1
    · rw [h2] at h6
      injection h6 with h6
      subst h6
      rw [cell_of_row w l.g _ arr t (0, 0) h7]
      exact h10 k x hx

theorem denL_length [SEnv0] : ∀ {ts : AV} {m : List Int}, denL ts = some m → m.length = ts.length
  | .nil, m, h => by rw [denL_nil h]; rfl
  | .cons a l, m, h => by
    obtain ⟨k, r, rfl, h1, _⟩ := denL_cons h
    simp [AV.length, denL_length h1]
  | .int .., _, h | .sym .., _, h | .sstr .., _, h | .bool .., _, h | .str .., _, h | .nilp, _, h | .ptr .., _, h | .nils, _, h | .sl .., _, h | .slen .., _, h | .any, _, h | .ssl .., _, h | .nilm, _, h | .map .., _, h | .nilf, _, h | .nili, _, h | .fn .., _, h | .agg .., _, h | .tup .., _, h => by simp [denL] at h

theorem kEqL_ok [SEnv] {args : AV} {h : H} {v : AV} {h' : H} (hr : kEqL args h = some (v, h')) : SoundCall Tryz.prog K0 18 args h v h' := by
  unfold kEqL at hr
  split at hr
  case h_2 => cases hr
  rename_i i b ts j c us
  split at hr
  case h_2 => cases hr
  rename_i b' ts' c' us' hi hj
  split at hr
  case h_2 => cases hr
  rename_i h1
  split at hr
  case h_2 => cases hr
  rename_i h2
  simp only [Bool.and_eq_true, Nat.beq_eq, Nat.blt_eq] at h1 h2
  obtain ⟨⟨rfl, e1⟩, rfl, e2⟩ := h1
  obtain ⟨⟨rfl, e3⟩, hlt⟩ := h2
  have e1 := eqAV_eq _ _ e1
  have e2 := eqAV_eq _ _ e2
  have e3 := eqAV_eq _ _ e3
  subst e1 e2 e3
  injection hr with hr
  injection hr with e4 e5
  subst e4 e5
  intro ι w vs hh _ hvs
  obtain ⟨v1, m1, hl, hv1, v2, m2, rfl, hv2, rfl⟩ := hvs
  obtain rfl : vs = #[v1, v2] := by rw [← Array.toList_inj, hl]
  obtain ⟨m, q1, q2⟩ := longs_at hh hi hv1
  obtain ⟨m', q3, q4⟩ := longs_at hh hj hv2
  rw [q1] at q3
  injection q3 with q3
  subst q3
  have hm := denL_length q1
  have hb := SEnv.lst_ok b
  refine (eqLongs_same _ v1 v2 w q2 q4 (by rw [List.length_append]; omega)).mono fun e w' ⟨he, hbw⟩ => ?_
  obtain ⟨q5, q6⟩ := hh.grown hbw
  exact ⟨ι, _, he, by simp only [VR], q5, q6⟩

end Go.Proofs.YtjpgogmnabkgnaaGreat

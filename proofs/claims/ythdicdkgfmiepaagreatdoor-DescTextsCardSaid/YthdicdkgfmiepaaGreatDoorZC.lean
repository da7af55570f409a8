/- The program's description's small functions: desc.Names, named, word. Plain: what the program's reader makes of a pattern's text. desc.read walked. (Printed by gen/gen_dtc.py.) Plain: what the program makes of a rule's line. what desc's readings ask of the world and what they leave Plain: what the program makes of a text of rules. -/
import Derived.Test.YthdicdkgfmiepaaGreatDoorZB
import Derived.Test.YthdicdkgfmiepaaGreatDoorZA
import Derived.Test.YthdicdkgfmiepaaGreatDoorShelfB
import Derived.Lib.IndexMore
namespace Go.Proofs.YthdicdkgfmiepaaGreatDoor

/- The program's description's small functions: desc.Names, named, word. -/
section
open Go.RowKit

theorem names_any (w : World) : Calls Tryz.prog 19 #[] w fun e w' => e = .returned (.slice (some ⟨w.heap.size, 0, none⟩) 4 4) ∧ w.alloc (.cells (strCells ntWords).toArray 9) = w' := by
  simp only [strCells, ntWords, List.map_cons, List.map_nil]
  go_enter Tryz.func19, Tryz.ntmps19
  go_wp2_with fail
  go_ret
  exact ⟨rfl, rfl⟩

def namedN (s : List UInt8) : Int := match idxT ntWords s with | some k => k | none => 0
def namedB (s : List UInt8) : Bool := (idxT ntWords s).isSome
theorem named_nt (s : List UInt8) : (namedB s = true ↔ 0 ≤ ntT s) ∧ (namedB s = true → namedN s = ntT s) := by
  unfold namedB namedN ntT
  cases idxT ntWords s with
  | none => simp
  | some k => simp

set_option maxHeartbeats 2000000 in
theorem named_any (s : List UInt8) (w : World) : Calls Tryz.prog 50 #[.string ⟨s.toArray⟩] w fun e w' => e = .returned (.tuple #[.int .i64 (namedN s), .bool (namedB s)]) ∧ Below w.heap.size w w' := by
  have hn := fun W => names_any W
  go_enter Tryz.func50, Tryz.ntmps50
  go_wp2_with fail
  refine (hn _).mono ?_
  rintro e w1 ⟨rfl, rfl⟩
  have hb := (BlkIs.fresh w 9 (strCells ntWords).toArray)
  have hbl := below_alloc w (.cells (strCells ntWords).toArray 9)
  obtain ⟨w1, hw1⟩ : ∃ W, w.alloc (.cells (strCells ntWords).toArray 9) = W := ⟨_, rfl⟩
  rw [hw1] at hb hbl ⊢
  clear hw1
  go_wp2_with fail
  go_loopw [8] (fun i wr => ∃ k : Nat, k ≤ 4 ∧ i = .int .i64 k ∧ w1 = wr ∧ Hid (∀ j (hj : j < ntWords.length), j < k → ntWords[j] ≠ s)) (fun i _ => 4 - (intOf i).toNat)
  case atStart => exact ⟨0, by omega, rfl, rfl, Lib.hid (by omega)⟩
  case round =>
    obtain ⟨k, hk, rfl, rfl, hno⟩ := hrel
    by_cases hlt : k < 4
    · have hkl : k < ntWords.length := hlt
      have hc : w1.cell? ⟨w.heap.size, k, none⟩ = some (.string ⟨ntWords[k].toArray⟩) := (hb.cell k).trans (by simp [strCells, List.getElem?_eq_getElem hkl])
      have hyes := fun h => Lib.hid (idx_some hkl h hno.out)
      obtain ⟨x, hx⟩ : ∃ x, Hid (ntWords[k] = x) := ⟨_, Lib.hid rfl⟩
      rw [hx.out] at hc hyes
      by_cases hxs : x = s
      · subst hxs
        have hres := hyes rfl
        clear hyes
        go_wp2_with fail
        go_ret2
        exact ⟨by unfold namedN namedB; rw [hres.out]; rfl, hbl⟩
      · have hne : (x == s) = false := by simpa using hxs
        clear hyes
        go_wp2_with fail
        go_roundw
        case rel => exact ⟨k + 1, by omega, by go_num, by first | trivial | rfl, Lib.hid (fun j hj hjk => by
          by_cases e : j = k
          · subst e; rw [hx.out]; exact hxs
          · exact hno.out j hj (by omega))⟩
        case measure => simp [intOf]; omega
    · have hres := Lib.hid (idx_none (s := s) (fun j hj => hno.out j hj (by have : j < 4 := hj; omega)))
      go_wp2_with fail
      go_ret2
      exact ⟨by unfold namedN namedB; rw [hres.out]; rfl, hbl⟩

theorem formB_one (c : UInt8) : formB [c] = isLd c := by unfold formB; simp

set_option maxHeartbeats 2000000 in
theorem dword_any (s : List UInt8) (hs : s.length ≤ 140737488355327) (w : World) : Calls Tryz.prog 66 #[.string ⟨s.toArray⟩] w fun e w' => e = .returned (.string ⟨(s.take (wordLen s)).toArray⟩) ∧ w = w' := by
  obtain ⟨n, hn⟩ : ∃ n, Hid (s.length = n) := ⟨_, Lib.hid rfl⟩
  have hsz : (⟨s.toArray⟩ : ByteArray).size = n := by rw [← hn.out]; simp [ByteArray.size]
  rw [hn.out] at hs
  go_enter Tryz.func66, Tryz.ntmps66
  go_wp2_with fail
  go_loopw [3] (fun i wr => ∃ k : Nat, k ≤ n ∧ i = .int .i64 k ∧ w = wr ∧ Hid (∀ j (h : j < s.length), j < k → isLd s[j] = true)) (fun i _ => n - (intOf i).toNat)
  case atStart => exact ⟨0, by omega, rfl, rfl, Lib.hid (by omega)⟩
  case round =>
    obtain ⟨k, hk, rfl, rfl, hall⟩ := hrel
    have e1 := ext_head s k
    by_cases hlt : k < n
    · have hkl : k < s.length := by rw [hn.out]; exact hlt
      have hfo := fun W => formed_any [s[k]] (by simp) W
      rw [formB_one] at hfo
      have e2 : (ByteArray.mk s.toArray).extract k (k + 1) = ⟨#[s[k]]⟩ := by
        rw [ext_list, show k + 1 - k = 1 by omega, List.drop_eq_getElem_cons hkl]; rfl
      obtain ⟨b, hb⟩ : ∃ b, Hid (s[k] = b) := ⟨_, Lib.hid rfl⟩
      rw [hb.out] at hfo e2
      cases hld : isLd b
      · rw [hld] at hfo
        have hwl : Hid (wordLen s = k) := Lib.hid (wordLen_eq s k (by omega) (fun j h hj => hall.out j h hj) (fun h => by rw [hb.out]; exact hld))
        clear hld
        go_wp2_with (go_at_call 41; refine (hfo _).mono ?_; rintro e w9 ⟨rfl, rfl⟩)
        go_ret
        exact ⟨by rw [hwl.out]; rfl, rfl⟩
      · rw [hld] at hfo
        have HLD := Lib.hid hld
        clear hld
        go_wp2_with (go_at_call 41; refine (hfo _).mono ?_; rintro e w9 ⟨rfl, rfl⟩)
        go_roundw
        case rel => exact ⟨k + 1, by omega, by go_num, by first | trivial | rfl, Lib.hid (fun j hj hjk => by
          by_cases e : j = k
          · subst e; rw [hb.out]; exact HLD.out
          · exact hall.out j hj (by omega))⟩
        case measure => simp [intOf]; omega
    · have hwl : Hid (wordLen s = k) := Lib.hid (wordLen_eq s k (by rw [hn.out]; omega) (fun j h hj => hall.out j h hj) (fun h => by rw [hn.out] at h; omega))
      go_wp2_with fail
      go_ret
      exact ⟨by rw [hwl.out]; rfl, rfl⟩

end

/- Plain: what the program's reader makes of a pattern's text. -/
section
open Go.RowKit

def byT (i : Nat) : List UInt8 := if i = 0 then [40] else [44, 32]
/-- kids one behind the other -/
def rdDK (rd : List UInt8 → Option (Pat × List UInt8)) : Nat → Nat → List UInt8 → Option (List Pat × List UInt8)
  | 0, _, s => some ([], s)
  | n + 1, i, s =>
    if aheadB (byT i) s = true then
      match rd (s.drop (byT i).length) with
      | none => none
      | some (p, s2) =>
        match rdDK rd n (i + 1) s2 with
        | none => none
        | some (ps, s3) => some (p :: ps, s3)
    else none
def finD (op : Int) (ps : List Pat) (s : List UInt8) : Option (Pat × List UInt8) :=
  if ps.length = 0 then some (.mk op 0 ps, s) else if aheadB [41] s = true then some (.mk op 0 ps, s.drop 1) else none
def rdD0 (rd : List UInt8 → Option (Pat × List UInt8)) (z : Bool) (s : List UInt8) : Option (Pat × List UInt8) :=
  if namedB (s.take (wordLen s)) = true then some (.mk 0 (namedN (s.take (wordLen s))) [], s.drop (wordLen s))
  else if opT (s.take (wordLen s)) = 0 ∨ z = true then none
  else match rdDK rd (arityOf (opT (s.take (wordLen s)))).toNat 0 (s.drop (wordLen s)) with
    | none => none
    | some (ps, s2) => finD (opT (s.take (wordLen s))) ps s2
/-- a pattern, at most so deep -/
def rdD : Nat → List UInt8 → Option (Pat × List UInt8)
  | 0 => rdD0 (fun _ => none) true
  | l + 1 => rdD0 (rdD l) false

def DownD (rd : List UInt8 → Option (Pat × List UInt8)) : Prop := ∀ s p s2, rd s = some (p, s2) → s2.length ≤ s.length
theorem rdDK_down {rd : List UInt8 → Option (Pat × List UInt8)} (h : DownD rd) : ∀ (n i : Nat) (s : List UInt8) (ps : List Pat) (s3 : List UInt8), rdDK rd n i s = some (ps, s3) → ps.length = n ∧ s3.length ≤ s.length
  | 0, i, s, ps, s3, e => by
    unfold rdDK at e
    injection e with e
    injection e with e1 e2
    subst e1 e2
    exact ⟨rfl, Nat.le_refl _⟩
  | n + 1, i, s, ps, s3, e => by
    unfold rdDK at e
    split at e
    · cases hr : rd (s.drop (byT i).length) with
      | none => rw [hr] at e; cases e
      | some r =>
        obtain ⟨p, sa⟩ := r
        rw [hr] at e
        simp only at e
        have h1 := h _ _ _ hr
        rw [List.length_drop] at h1
        cases hk : rdDK rd n (i + 1) sa with
        | none => rw [hk] at e; cases e
        | some r =>
          obtain ⟨ps', sb⟩ := r
          rw [hk] at e
          simp only at e
          injection e with e
          injection e with e1 e2
          subst e1 e2
          obtain ⟨h2, h3⟩ := rdDK_down h n (i + 1) sa _ _ hk
          exact ⟨by simp [h2], by omega⟩
    · cases e
theorem rdD0_down {rd : List UInt8 → Option (Pat × List UInt8)} (h : DownD rd) (z : Bool) : DownD (rdD0 rd z) := by
  intro s p s2 e
  unfold rdD0 at e
  split at e
  · injection e with e
    injection e with _ e2
    subst e2
    rw [List.length_drop]; omega
  · split at e
    · cases e
    · cases hk : rdDK rd (arityOf (opT (s.take (wordLen s)))).toNat 0 (s.drop (wordLen s)) with
      | none => rw [hk] at e; cases e
      | some r =>
        obtain ⟨ps, sa⟩ := r
        rw [hk] at e
        simp only at e
        obtain ⟨_, h3⟩ := rdDK_down h _ _ _ _ _ hk
        rw [List.length_drop] at h3
        unfold finD at e
        split at e
        · injection e with e; injection e with _ e2; subst e2; omega
        · split at e
          · injection e with e; injection e with _ e2; subst e2; rw [List.length_drop]; omega
          · cases e
theorem rdD_down : ∀ l, DownD (rdD l)
  | 0 => rdD0_down (fun _ _ _ h => by cases h) true
  | l + 1 => rdD0_down (rdD_down l) false

/-- how the whole of the kids follows from the rest -/
def KidsD (rd : List UInt8 → Option (Pat × List UInt8)) (K : Option (List Pat × List UInt8)) (done : List Pat) (n k : Nat) (s : List UInt8) : Prop := K = (rdDK rd (n - k) k s).map fun r => (done ++ r.1, r.2)
section
variable {rd : List UInt8 → Option (Pat × List UInt8)} {K : Option (List Pat × List UInt8)} {done : List Pat} {n k : Nat} {s : List UInt8}
theorem KidsD.start (rd : List UInt8 → Option (Pat × List UInt8)) (n : Nat) (s : List UInt8) : KidsD rd (rdDK rd n 0 s) [] n 0 s := by
  unfold KidsD
  rw [Nat.sub_zero]
  cases rdDK rd n 0 s with
  | none => rfl
  | some r => rfl
theorem KidsD.step (h : KidsD rd K done n k s) (hk : k < n) {p : Pat} {sa : List UInt8} (h0 : aheadB (byT k) s = true) (hr : rd (s.drop (byT k).length) = some (p, sa)) : KidsD rd K (done ++ [p]) n (k + 1) sa := by
  unfold KidsD at *
  rw [h, show n - k = (n - (k + 1)) + 1 by omega, rdDK, if_pos h0, hr]
  simp only
  cases rdDK rd (n - (k + 1)) (k + 1) sa with
  | none => rfl
  | some r => simp
theorem KidsD.bad (h : KidsD rd K done n k s) (hk : k < n) (h0 : aheadB (byT k) s = false) : K = none := by
  unfold KidsD at *
  rw [h, show n - k = (n - (k + 1)) + 1 by omega, rdDK, if_neg (by rw [h0]; decide)]; rfl
theorem KidsD.none (h : KidsD rd K done n k s) (hk : k < n) (h0 : aheadB (byT k) s = true) (hr : rd (s.drop (byT k).length) = none) : K = none := by
  unfold KidsD at *
  rw [h, show n - k = (n - (k + 1)) + 1 by omega, rdDK, if_pos h0, hr]; rfl
theorem KidsD.last (h : KidsD rd K done n n s) : K = some (done, s) := by
  unfold KidsD at *
  rw [h, Nat.sub_self, rdDK]; simp
end

end

/- desc.read walked. (Printed by gen/gen_dtc.py.) -/
section
open Go.RowKit

def RdPostD (o : Option (Pat × List UInt8)) (w : World) (e : Ending) (w' : World) : Prop := Below w.heap.size w w' ∧ match o with
  | none => ∃ (a b : Int) (A : Option Addr) (n c : Nat) (x : List UInt8), e = .returned (.tuple #[.agg #[.int .i64 a, .int .i64 b, .slice A n c], .string ⟨x.toArray⟩, .bool false])
  | some (p, s2) => ∃ (A : Option Addr) (d : Nat), e = .returned (.tuple #[.agg #[.int .i64 p.op, .int .i64 p.nt, .slice A p.kids.length d], .string ⟨s2.toArray⟩, .bool true]) ∧ Rep w' (fun k => w.heap.size ≤ k) (encP p) [.int .i64 p.op, .int .i64 p.nt, .slice A p.kids.length d]

def RdOkD (l : Nat) : Prop := ∀ (s : List UInt8) (w : World), s.length ≤ 140737488355327 → Tab w → Calls Tryz.prog 51 #[.string ⟨s.toArray⟩, .int .i64 l] w (RdPostD (rdD l s) w)

theorem RdPostD.bad {w w' : World} {a b : Int} {A : Option Addr} {n c : Nat} {x : List UInt8} (h : Below w.heap.size w w') : RdPostD none w (.returned (.tuple #[.agg #[.int .i64 a, .int .i64 b, .slice A n c], .string ⟨x.toArray⟩, .bool false])) w' := ⟨h, a, b, A, n, c, x, rfl⟩
theorem pput3 {w : World} {gz : Nat} {t : TypeId} {a b v x y u : Value} (z : BlkIs w gz t #[x, y, u]) : BlkIs (((w.setCell ⟨gz, 0, none⟩ a).setCell ⟨gz, 1, none⟩ b).setCell ⟨gz, 2, none⟩ v) gz t #[a, b, v] := ((z.put 0 a).put 1 b).put 2 v
theorem pbelow1 {w w1 : World} {gz i : Nat} {a : Value} (h : Below w.heap.size w w1) (hz : w.heap.size ≤ gz) : Below w.heap.size w (w1.setCell ⟨gz, i, none⟩ a) :=
  ⟨h.os, h.tape, h.output, by simp [World.setCell]; exact h.size, fun k hl => (heap_setCell_other _ _ _ _ (by simp; omega)).trans (h.block k hl)⟩
theorem pbelow3 {w w1 : World} {gz : Nat} {a b v : Value} (h : Below w.heap.size w w1) (hz : w.heap.size ≤ gz) : Below w.heap.size w (((w1.setCell ⟨gz, 0, none⟩ a).setCell ⟨gz, 1, none⟩ b).setCell ⟨gz, 2, none⟩ v) := pbelow1 (pbelow1 (pbelow1 h hz) hz) hz
theorem prep3 {w : World} {gz : Nat} {a b v : Value} {d : D} {cs : List Value} (h : Rep w (fun k => gz < k) d cs) : Rep (((w.setCell ⟨gz, 0, none⟩ a).setCell ⟨gz, 1, none⟩ b).setCell ⟨gz, 2, none⟩ v) (fun k => gz < k) d cs :=
  Rep.keep (fun _ h _ => h) (fun q hq _ => ((heap_setCell_other _ _ _ _ (by simp; omega)).trans (heap_setCell_other _ _ _ _ (by simp; omega))).trans (heap_setCell_other _ _ _ _ (by simp; omega))) _ _ h

set_option maxRecDepth 100000 in
set_option maxHeartbeats 8000000 in
theorem rdD_step (l : Nat) (ll : Int) (rd : List UInt8 → Option (Pat × List UInt8)) (z : Bool) (hl : Hid (ll = l)) (hz : z = decide (l = 0)) (hl8 : l ≤ 1000) (hdown : DownD rd) (ih : l ≠ 0 → ∀ (s : List UInt8) (w : World), s.length ≤ 140737488355327 → Tab w → Calls Tryz.prog 51 #[.string ⟨s.toArray⟩, .int .i64 (ll - 1)] w (RdPostD (rd s) w))
    (s : List UInt8) (w : World) (hs : s.length ≤ 140737488355327) (ht : Tab w) : Calls Tryz.prog 51 #[.string ⟨s.toArray⟩, .int .i64 ll] w (RdPostD (rdD0 rd z s) w) := by
  have HT : Hid (∀ W, Below w.heap.size w W → Tab W) := Lib.hid (fun W h => Lib.tabBelow_of_tabIs ht W h)
  clear ht
  have z0 : BlkIs (w.alloc (.cells #[.int .i64 0, .int .i64 0, .slice none 0 0] 45)) w.heap.size 45 #[.int .i64 0, .int .i64 0, .slice none 0 0] := BlkIs.fresh _ _ _
  have b0 := below_alloc w (.cells #[.int .i64 0, .int .i64 0, .slice none 0 0] 45)
  obtain ⟨gz, hgz⟩ : ∃ x, Hid (w.heap.size = x) := ⟨_, Lib.hid rfl⟩
  have hgzw : w.heap.size ≤ gz := Nat.le_of_eq hgz.out
  obtain ⟨R, hR⟩ : ∃ R, Hid (rdD0 rd z s = R) := ⟨_, Lib.hid rfl⟩
  rw [hR.out]
  have hR2 := hR.out
  unfold rdD0 at hR2
  obtain ⟨n, hn⟩ : ∃ n, Hid (s.length = n) := ⟨_, Lib.hid rfl⟩
  have hsz : (⟨s.toArray⟩ : ByteArray).size = n := by rw [← hn.out]; simp [ByteArray.size]
  have hn2 : n ≤ 140737488355327 := by rw [← hn.out]; exact hs
  have hwd := fun W => dword_any s hs W
  have hwl := wordLen_le s
  rw [hn.out] at hwl
  have hnm := fun W => named_any (s.take (wordLen s)) W
  have hop := fun W h => topW_any (s.take (wordLen s)) W h
  have hoi := opT_in (s.take (wordLen s))
  have e2 := ext_tail s (wordLen s) n hn.out
  have hxs : (⟨(s.take (wordLen s)).toArray⟩ : ByteArray).size = wordLen s := by simp [ByteArray.size]; rw [hn.out]; omega
  have hyl : (s.drop (wordLen s)).length ≤ 140737488355327 := by rw [List.length_drop]; omega
  obtain ⟨k0, hk0⟩ : ∃ x, Hid (wordLen s = x) := ⟨_, Lib.hid rfl⟩
  rw [hk0.out] at hwd hwl hnm hop hoi e2 hR2 hxs hyl
  obtain ⟨x, hx⟩ : ∃ x, Hid (s.take k0 = x) := ⟨_, Lib.hid rfl⟩
  obtain ⟨y, hy⟩ : ∃ x, Hid (s.drop k0 = x) := ⟨_, Lib.hid rfl⟩
  rw [hx.out] at hwd hnm hop hoi hR2 hxs
  rw [hy.out] at e2 hR2 hyl
  obtain ⟨op, hope⟩ : ∃ o, Hid (opT x = o) := ⟨_, Lib.hid rfl⟩
  rw [hope.out] at hop hoi hR2
  obtain ⟨nt, hnt⟩ : ∃ o, Hid (namedN x = o) := ⟨_, Lib.hid rfl⟩
  rw [hnt.out] at hnm hR2
  have HR2 := Lib.hid hR2
  clear hR2
  go_enter Tryz.func51, Tryz.ntmps51
  go_upto_region 1 with fail
  obtain ⟨w0, hw0⟩ : ∃ W, w.alloc (.cells #[.int .i64 0, .int .i64 0, .slice none 0 0] 45) = W := ⟨_, rfl⟩
  rw [hw0] at z0 b0 ⊢
  rw [hgz.out] at z0 ⊢
  clear hw0
  go_wp2_with (go_at_call 66; refine (hwd _).mono ?_; rintro e w9 ⟨rfl, rfl⟩)
  refine (hnm _).mono ?_
  rintro e w1 ⟨rfl, hb1⟩
  have z1 := z0.below hb1 z0.lt
  have b1 := b0.trans (hb1.mono b0.size)
  clear hb1 hnm
  have y0 : w1.cell? ⟨gz, 0, none⟩ = some (.int .i64 0) := z1.cell 0
  have y1 : w1.cell? ⟨gz, 1, none⟩ = some (.int .i64 0) := z1.cell 1
  have y2 : w1.cell? ⟨gz, 2, none⟩ = some (.slice none 0 0) := z1.cell 2
  have g0 : w1.frozen? ⟨gz, 0, none⟩ = false := z1.frozen 0
  have g1 : w1.frozen? ⟨gz, 1, none⟩ = false := z1.frozen 1
  have g2 : w1.frozen? ⟨gz, 2, none⟩ = false := z1.frozen 2
  have hlz : gz < w1.heap.size := z1.lt
  cases hnb : namedB x
  case true =>
    have HR3 := HR2.out
    rw [hnb, if_pos rfl] at HR3
    clear hnb
    go_wp2_with fail
    have zz := pput3 (a := .int .i64 0) (b := .int .i64 nt) (v := .slice none 0 0) z1
    refine bodyPost_ret (v := .tuple #[.agg #[.int .i64 0, .int .i64 nt, .slice none 0 0], .string ⟨y.toArray⟩, .bool true]) (by simp [results, Tryz.results51, go_sem, zz.cell]) rfl ?_
    rw [← HR3]
    exact ⟨pbelow3 b1 hgzw, none, 0, rfl, rep_leaf⟩
  case false =>
    have HR3 := HR2.out
    rw [hnb, if_neg (by decide)] at HR3
    clear hnb HR2
    go_wp2_with fail
    refine (hop _ (HT.out _ b1)).mono ?_
    rintro e w2 ⟨rfl, hb2⟩
    have z2 := z1.below hb2 z1.lt
    have b2 := b1.trans (hb2.mono b1.size)
    clear y0 y1 y2 g0 g1 g2 hlz
    clear z1 b1 hb2 hop
    have y0 : w2.cell? ⟨gz, 0, none⟩ = some (.int .i64 0) := z2.cell 0
    have y1 : w2.cell? ⟨gz, 1, none⟩ = some (.int .i64 0) := z2.cell 1
    have y2 : w2.cell? ⟨gz, 2, none⟩ = some (.slice none 0 0) := z2.cell 2
    have g0 : w2.frozen? ⟨gz, 0, none⟩ = false := z2.frozen 0
    have g1 : w2.frozen? ⟨gz, 1, none⟩ = false := z2.frozen 1
    have g2 : w2.frozen? ⟨gz, 2, none⟩ = false := z2.frozen 2
    have hlz : gz < w2.heap.size := z2.lt
    go_upto_region 7 with fail
    obtain ⟨w3, hw3⟩ : ∃ W, w2.setCell ⟨gz, 0, none⟩ (.int .i64 op) = W := ⟨_, rfl⟩
    have z3 : BlkIs w3 gz 45 #[.int .i64 op, .int .i64 0, .slice none 0 0] := by rw [← hw3]; exact z2.put 0 _
    have b3 : Below w.heap.size w w3 := by rw [← hw3]; exact pbelow1 b2 hgzw
    rw [hw3]
    clear hw3 z2 b2
    clear y0 y1 y2 g0 g1 g2 hlz
    have y0 : w3.cell? ⟨gz, 0, none⟩ = some (.int .i64 op) := z3.cell 0
    have y1 : w3.cell? ⟨gz, 1, none⟩ = some (.int .i64 0) := z3.cell 1
    have y2 : w3.cell? ⟨gz, 2, none⟩ = some (.slice none 0 0) := z3.cell 2
    have g0 : w3.frozen? ⟨gz, 0, none⟩ = false := z3.frozen 0
    have g1 : w3.frozen? ⟨gz, 1, none⟩ = false := z3.frozen 1
    have g2 : w3.frozen? ⟨gz, 2, none⟩ = false := z3.frozen 2
    have hlz : gz < w3.heap.size := z3.lt
    by_cases hbad : op = 0 ∨ l = 0
    · obtain rfl : R = none := by
        rw [← HR3, if_pos]
        rcases hbad with h | h
        · exact .inl h
        · right; rw [hz]; simpa using h
      by_cases hop0 : op = 0
      · have hoe : (op == 0) = true := by simpa using hop0
        clear hop0 hbad
        go_wp2_with fail
        have zz := pput3 (a := .int .i64 op) (b := .int .i64 0) (v := .slice none 0 0) z3
        refine bodyPost_ret (v := .tuple #[.agg #[.int .i64 op, .int .i64 0, .slice none 0 0], .string ⟨s.toArray⟩, .bool false]) (by simp [results, Tryz.results51, go_sem, zz.cell]) rfl ?_
        exact RdPostD.bad (pbelow3 b3 hgzw)
      · have hoe : (op == 0) = false := by simpa using hop0
        have hle : decide (ll < 1) = true := by
          have : l = 0 := by rcases hbad with h | h; exact absurd h hop0; exact h
          rw [hl.out]; simp; omega
        clear hop0 hbad
        go_wp2_with fail
        have zz := pput3 (a := .int .i64 op) (b := .int .i64 0) (v := .slice none 0 0) z3
        refine bodyPost_ret (v := .tuple #[.agg #[.int .i64 op, .int .i64 0, .slice none 0 0], .string ⟨s.toArray⟩, .bool false]) (by simp [results, Tryz.results51, go_sem, zz.cell]) rfl ?_
        exact RdPostD.bad (pbelow3 b3 hgzw)
    · have hop0 : ¬ op = 0 := fun h => hbad (.inl h)
      have hl0 : l ≠ 0 := fun h => hbad (.inr h)
      have hoe : (op == 0) = false := by simpa using hop0
      have hle : decide (ll < 1) = false := by rw [hl.out]; simp; omega
      have hl1 : 1 ≤ ll ∧ ll ≤ 1000 := by rw [hl.out]; omega
      rw [if_neg (by rw [hz]; rintro (h | h); exact hop0 h; exact hl0 (by simpa using h))] at HR3
      have hih := Lib.hid (ih hl0)
      have har : 0 ≤ arityOf op ∧ arityOf op ≤ 2 := by unfold arityOf; split <;> (try split) <;> omega
      obtain ⟨N, hN⟩ : ∃ N : Nat, Hid ((arityOf op).toNat = N) := ⟨_, Lib.hid rfl⟩
      have hNa : arityOf op = N := by rw [← hN.out]; omega
      have hN2 : N ≤ 2 := by omega
      have ca := fun W => arity_any op W
      rw [hN.out] at HR3
      rw [hNa] at ca
      obtain ⟨K, hK0⟩ : ∃ K, Hid (rdDK rd N 0 y = K) := ⟨_, Lib.hid rfl⟩
      have hstart := KidsD.start rd N y
      rw [hK0.out] at HR3 hstart
      have HST := Lib.hid hstart
      have HRK := Lib.hid HR3
      clear HR3 hstart har hNa hbad ih
      go_wp2_with (go_at_call 58; refine (ca _).mono ?_; rintro e w9 ⟨rfl, rfl⟩)
      clear y0 y1 y2 g0 g1 g2 hlz
      go_loopw [5, 45] (fun r i wr => ∃ (k : Nat) (done : List Pat) (sk : List UInt8) (v : Value), k ≤ N ∧ i = .int .i64 k ∧ r = .string ⟨sk.toArray⟩ ∧ Hid (KidsD rd K done N k sk) ∧ done.length = k ∧ sk.length ≤ 140737488355327 ∧ BlkIs wr gz 45 #[.int .i64 op, .int .i64 0, v] ∧ Hid (Own wr (gz + 1) (fun q => gz + 1 ≤ q) 45 3 v (done.map encP)) ∧ Below w.heap.size w wr) (fun _ i _ => N - (intOf i).toNat)
      case atStart => exact ⟨0, [], y, .slice none 0 0, by omega, rfl, rfl, HST, rfl, hyl, z3, Lib.hid (Own.nil _ _ _ _ _), b3⟩
      case round =>
        obtain ⟨k, done, sk, v, hk, rfl, rfl, hkf, hdl, hskl, hZ, hown, hb⟩ := hrel
        obtain ⟨wo, rfl⟩ : ∃ wo : World, wo = wr := ⟨_, rfl⟩
        clear z3 b3
        obtain ⟨A0, d0, rfl, _⟩ := hown.out.rep.len
        rw [List.length_map] at hZ hown
        have hdlen : (done.map encP).length ≤ 1000000000 := by rw [List.length_map]; omega
        obtain ⟨dl, hdle⟩ : ∃ x, Hid (done.length = x) := ⟨_, Lib.hid rfl⟩
        rw [hdle.out] at hZ hown
        have hzl := hZ.lt
        have y0 : wo.cell? ⟨gz, 0, none⟩ = some (.int .i64 op) := hZ.cell 0
        have y1 : wo.cell? ⟨gz, 1, none⟩ = some (.int .i64 0) := hZ.cell 1
        have y2 : wo.cell? ⟨gz, 2, none⟩ = some (.slice A0 dl d0) := hZ.cell 2
        have g0 : wo.frozen? ⟨gz, 0, none⟩ = false := hZ.frozen 0
        have g1 : wo.frozen? ⟨gz, 1, none⟩ = false := hZ.frozen 1
        have g2 : wo.frozen? ⟨gz, 2, none⟩ = false := hZ.frozen 2
        have hlz : gz < wo.heap.size := hZ.lt
        by_cases hlt : k < N
        · by_cases hk0 : k = 0
          · subst hk0
            have hbt : byT 0 = [40] := by unfold byT; rw [if_pos rfl]
            have hcp := fun W => (Tryz.strings_CutPrefix ⟨sk.toArray⟩ ⟨#[40]⟩ W).mono (fun _ _ h => And.intro h.1 h.2.symm)
            have hpx : Lib.hasPrefix sk [40] = aheadB [40] sk := prefix_ahead sk [40]
            simp only at hcp
            rw [hpx] at hcp
            cases hah : aheadB [40] sk
            · obtain rfl : R = none := by
                have h1 := hkf.out.bad hlt (by rw [hbt]; exact hah)
                have h2 := HRK.out
                rw [h1] at h2
                exact h2.symm
              rw [hah] at hcp
              obtain ⟨tr, htr⟩ : ∃ x, Hid (Lib.trimPrefix sk [40] = x) := ⟨_, Lib.hid rfl⟩
              rw [htr.out] at hcp
              go_wp2_with (go_at_call 68; refine (hcp _).mono ?_; rintro e w9 ⟨rfl, rfl⟩)
              have zz := pput3 (a := .int .i64 op) (b := .int .i64 0) (v := .slice A0 dl d0) hZ
              refine bodyPost_ret (v := .tuple #[.agg #[.int .i64 op, .int .i64 0, .slice A0 dl d0], .string ⟨s.toArray⟩, .bool false]) (by simp [results, Tryz.results51, go_sem, zz.cell]) rfl ?_
              exact RdPostD.bad (pbelow3 hb hgzw)
            · have htr : Lib.trimPrefix sk [40] = sk.drop 1 := by unfold Lib.trimPrefix; rw [hpx, hah]; rfl
              rw [hah, htr] at hcp
              have hcall := hih.out (sk.drop 1) wo (by rw [List.length_drop]; omega) (HT.out _ hb)
              obtain ⟨sd, hsd⟩ : ∃ x, Hid (sk.drop 1 = x) := ⟨_, Lib.hid rfl⟩
              have hsdl : sd.length ≤ sk.length := by rw [← hsd.out, List.length_drop]; omega
              have hdr : sk.drop (byT 0).length = sd := by rw [hbt]; exact hsd.out
              rw [hsd.out] at hcp hcall
              cases hrd : rd sd with
              | none =>
                obtain rfl : R = none := by
                  have h1 := hkf.out.none hlt (by rw [hbt]; exact hah) (by rw [hdr]; exact hrd)
                  have h2 := HRK.out
                  rw [h1] at h2
                  exact h2.symm
                rw [hrd] at hcall
                clear hdr htr
                go_wp2_with (go_at_call 68; refine (hcp _).mono ?_; rintro e w9 ⟨rfl, rfl⟩)
                refine hcall.mono ?_
                rintro e w7 ⟨hb7, a, b, A7, n7, d7, x7, rfl⟩
                have z7 := hZ.below hb7 hZ.lt
                have bb7 := hb.trans (hb7.mono hb.size)
                have zz0 := (pput3 (a := .int .i64 op) (b := .int .i64 0) (v := .slice A0 dl d0) z7).alloc (.cells #[.int .i64 a, .int .i64 b, .slice A7 n7 d7] 45)
                clear y0 y1 y2 g0 g1 g2 hlz
                have y0 : w7.cell? ⟨gz, 0, none⟩ = some (.int .i64 op) := z7.cell 0
                have y1 : w7.cell? ⟨gz, 1, none⟩ = some (.int .i64 0) := z7.cell 1
                have y2 : w7.cell? ⟨gz, 2, none⟩ = some (.slice A0 dl d0) := z7.cell 2
                have g0 : w7.frozen? ⟨gz, 0, none⟩ = false := z7.frozen 0
                have g1 : w7.frozen? ⟨gz, 1, none⟩ = false := z7.frozen 1
                have g2 : w7.frozen? ⟨gz, 2, none⟩ = false := z7.frozen 2
                have hlz : gz < w7.heap.size := z7.lt
                go_wp2_with fail
                have zz := zz0
                refine bodyPost_ret (v := .tuple #[.agg #[.int .i64 op, .int .i64 0, .slice A0 dl d0], .string ⟨s.toArray⟩, .bool false]) (by simp [results, Tryz.results51, go_sem, zz.cell]) rfl ?_
                exact RdPostD.bad ((pbelow3 bb7 hgzw).alloc (by have := (pbelow3 (a := .int .i64 op) (b := .int .i64 0) (v := .slice A0 dl d0) bb7 hgzw).size; omega) _)
              | some r =>
                obtain ⟨p, sa⟩ := r
                have hnext := hkf.out.step hlt (by rw [hbt]; exact hah) (by rw [hdr]; exact hrd)
                have HNX := Lib.hid hnext
                have hsal := hdown _ _ _ hrd
                rw [hrd] at hcall
                clear hrd hnext hdr htr
                go_wp2_with (go_at_call 68; refine (hcp _).mono ?_; rintro e w9 ⟨rfl, rfl⟩)
                refine hcall.mono ?_
                rintro e w7 ⟨hb7, A5, d5, rfl, hrep5⟩
                have Z7 := hZ.below hb7 hZ.lt
                have O7 := hown.out.below hb7
                have K7 := hb.trans (hb7.mono hb.size)
                have hz67 := hb7.size
                have hvf : ∀ q, wo.heap.size ≤ q → some q ≠ (Value.slice A0 dl d0).ownBlock := fun q hq => hown.out.ne_far hq
                have HR5 : Hid (Rep w7 (fun q => gz + 1 ≤ q ∧ some q ≠ (Value.slice A0 dl d0).ownBlock) (encP p) [.int .i64 p.op, .int .i64 p.nt, .slice A5 p.kids.length d5]) := Lib.hid (hrep5.imp (fun q hq _ => ⟨by omega, hvf q hq⟩))
                have HO7 := Lib.hid O7
                clear y0 y1 y2 g0 g1 g2 hlz
                clear hcall hrep5 O7 hcp
                have y0 : w7.cell? ⟨gz, 0, none⟩ = some (.int .i64 op) := Z7.cell 0
                have y1 : w7.cell? ⟨gz, 1, none⟩ = some (.int .i64 0) := Z7.cell 1
                have y2 : w7.cell? ⟨gz, 2, none⟩ = some (.slice A0 dl d0) := Z7.cell 2
                have g0 : w7.frozen? ⟨gz, 0, none⟩ = false := Z7.frozen 0
                have g1 : w7.frozen? ⟨gz, 1, none⟩ = false := Z7.frozen 1
                have g2 : w7.frozen? ⟨gz, 2, none⟩ = false := Z7.frozen 2
                have hlz : gz < w7.heap.size := Z7.lt
                go_wp2_with (at_builtin; go_must (refine append_one rfl (.tmp 73) (.tmp 75) 43 45 3 40 _ rfl Tryz.underlying43 pat_info rfl (by decide) (by decide) (gz + 1) (fun q => gz + 1 ≤ q) (.slice A0 dl d0) (done.map encP) rfl (w7.heap.size + 1) rfl ((HO7.out.alloc _).alloc _) [.int .i64 p.op, .int .i64 p.nt, .slice A5 p.kids.length d5] (encP p) (BlkIs.fresh1 _ _ _ _) rfl (by simp [Value.oneCell']) ((HR5.out.alloc _).alloc _) hdlen (by simp; omega) ?_); intro v2 w8 hown2 hb2 hk2; obtain ⟨A8, d8, rfl, _⟩ := hown2.rep.len; obtain ⟨L8, hL8⟩ : ∃ x, Hid ((done.map encP ++ [encP p]).length = x) := ⟨_, Lib.hid rfl⟩; rw [hL8.out] at hown2 ⊢; have P8 := ((Z7.alloc _).alloc _).below hb2 (by omega); have u2 := P8.cell 2; have u3 := P8.frozen 2; have u4 := P8.lt)
                go_roundw
                case rel =>
                  refine ⟨0 + 1, done ++ [p], sa, .slice A8 L8 d8, by omega, by go_num, rfl, HNX, by simp [hdl], by omega, ?_, ?_, ?_⟩
                  · exact P8.put 2 _
                  · exact Lib.hid (by
                      rw [List.map_append]
                      exact Own.far hown2 (fun q h => h) (fun q hq _ => heap_setCell_other _ _ _ _ (by simp; omega)))
                  · exact pbelow1 (((K7.alloc K7.size _).alloc (by have := K7.size; simp; omega) _).trans (hb2.mono (by omega))) hgzw
                case measure => simp [intOf]; omega
          · have hk0e : ((k : Int) == 0) = false := by simp; omega
            have hbt : byT k = [44, 32] := by unfold byT; rw [if_neg hk0]
            have hcp := fun W => (Tryz.strings_CutPrefix ⟨sk.toArray⟩ ⟨#[44, 32]⟩ W).mono (fun _ _ h => And.intro h.1 h.2.symm)
            have hpx : Lib.hasPrefix sk [44, 32] = aheadB [44, 32] sk := prefix_ahead sk [44, 32]
            simp only at hcp
            rw [hpx] at hcp
            cases hah : aheadB [44, 32] sk
            · obtain rfl : R = none := by
                have h1 := hkf.out.bad hlt (by rw [hbt]; exact hah)
                have h2 := HRK.out
                rw [h1] at h2
                exact h2.symm
              rw [hah] at hcp
              obtain ⟨tr, htr⟩ : ∃ x, Hid (Lib.trimPrefix sk [44, 32] = x) := ⟨_, Lib.hid rfl⟩
              rw [htr.out] at hcp
              go_wp2_with (go_at_call 68; refine (hcp _).mono ?_; rintro e w9 ⟨rfl, rfl⟩)
              have zz := pput3 (a := .int .i64 op) (b := .int .i64 0) (v := .slice A0 dl d0) hZ
              refine bodyPost_ret (v := .tuple #[.agg #[.int .i64 op, .int .i64 0, .slice A0 dl d0], .string ⟨s.toArray⟩, .bool false]) (by simp [results, Tryz.results51, go_sem, zz.cell]) rfl ?_
              exact RdPostD.bad (pbelow3 hb hgzw)
            · have htr : Lib.trimPrefix sk [44, 32] = sk.drop 2 := by unfold Lib.trimPrefix; rw [hpx, hah]; rfl
              rw [hah, htr] at hcp
              have hcall := hih.out (sk.drop 2) wo (by rw [List.length_drop]; omega) (HT.out _ hb)
              obtain ⟨sd, hsd⟩ : ∃ x, Hid (sk.drop 2 = x) := ⟨_, Lib.hid rfl⟩
              have hsdl : sd.length ≤ sk.length := by rw [← hsd.out, List.length_drop]; omega
              have hdr : sk.drop (byT k).length = sd := by rw [hbt]; exact hsd.out
              rw [hsd.out] at hcp hcall
              cases hrd : rd sd with
              | none =>
                obtain rfl : R = none := by
                  have h1 := hkf.out.none hlt (by rw [hbt]; exact hah) (by rw [hdr]; exact hrd)
                  have h2 := HRK.out
                  rw [h1] at h2
                  exact h2.symm
                rw [hrd] at hcall
                clear hdr htr
                go_wp2_with (go_at_call 68; refine (hcp _).mono ?_; rintro e w9 ⟨rfl, rfl⟩)
                refine hcall.mono ?_
                rintro e w7 ⟨hb7, a, b, A7, n7, d7, x7, rfl⟩
                have z7 := hZ.below hb7 hZ.lt
                have bb7 := hb.trans (hb7.mono hb.size)
                have zz0 := (pput3 (a := .int .i64 op) (b := .int .i64 0) (v := .slice A0 dl d0) z7).alloc (.cells #[.int .i64 a, .int .i64 b, .slice A7 n7 d7] 45)
                clear y0 y1 y2 g0 g1 g2 hlz
                have y0 : w7.cell? ⟨gz, 0, none⟩ = some (.int .i64 op) := z7.cell 0
                have y1 : w7.cell? ⟨gz, 1, none⟩ = some (.int .i64 0) := z7.cell 1
                have y2 : w7.cell? ⟨gz, 2, none⟩ = some (.slice A0 dl d0) := z7.cell 2
                have g0 : w7.frozen? ⟨gz, 0, none⟩ = false := z7.frozen 0
                have g1 : w7.frozen? ⟨gz, 1, none⟩ = false := z7.frozen 1
                have g2 : w7.frozen? ⟨gz, 2, none⟩ = false := z7.frozen 2
                have hlz : gz < w7.heap.size := z7.lt
                go_wp2_with fail
                have zz := zz0
                refine bodyPost_ret (v := .tuple #[.agg #[.int .i64 op, .int .i64 0, .slice A0 dl d0], .string ⟨s.toArray⟩, .bool false]) (by simp [results, Tryz.results51, go_sem, zz.cell]) rfl ?_
                exact RdPostD.bad ((pbelow3 bb7 hgzw).alloc (by have := (pbelow3 (a := .int .i64 op) (b := .int .i64 0) (v := .slice A0 dl d0) bb7 hgzw).size; omega) _)
              | some r =>
                obtain ⟨p, sa⟩ := r
                have hnext := hkf.out.step hlt (by rw [hbt]; exact hah) (by rw [hdr]; exact hrd)
                have HNX := Lib.hid hnext
                have hsal := hdown _ _ _ hrd
                rw [hrd] at hcall
                clear hrd hnext hdr htr
                go_wp2_with (go_at_call 68; refine (hcp _).mono ?_; rintro e w9 ⟨rfl, rfl⟩)
                refine hcall.mono ?_
                rintro e w7 ⟨hb7, A5, d5, rfl, hrep5⟩
                have Z7 := hZ.below hb7 hZ.lt
                have O7 := hown.out.below hb7
                have K7 := hb.trans (hb7.mono hb.size)
                have hz67 := hb7.size
                have hvf : ∀ q, wo.heap.size ≤ q → some q ≠ (Value.slice A0 dl d0).ownBlock := fun q hq => hown.out.ne_far hq
                have HR5 : Hid (Rep w7 (fun q => gz + 1 ≤ q ∧ some q ≠ (Value.slice A0 dl d0).ownBlock) (encP p) [.int .i64 p.op, .int .i64 p.nt, .slice A5 p.kids.length d5]) := Lib.hid (hrep5.imp (fun q hq _ => ⟨by omega, hvf q hq⟩))
                have HO7 := Lib.hid O7
                clear y0 y1 y2 g0 g1 g2 hlz
                clear hcall hrep5 O7 hcp
                have y0 : w7.cell? ⟨gz, 0, none⟩ = some (.int .i64 op) := Z7.cell 0
                have y1 : w7.cell? ⟨gz, 1, none⟩ = some (.int .i64 0) := Z7.cell 1
                have y2 : w7.cell? ⟨gz, 2, none⟩ = some (.slice A0 dl d0) := Z7.cell 2
                have g0 : w7.frozen? ⟨gz, 0, none⟩ = false := Z7.frozen 0
                have g1 : w7.frozen? ⟨gz, 1, none⟩ = false := Z7.frozen 1
                have g2 : w7.frozen? ⟨gz, 2, none⟩ = false := Z7.frozen 2
                have hlz : gz < w7.heap.size := Z7.lt
                go_wp2_with (at_builtin; go_must (refine append_one rfl (.tmp 73) (.tmp 75) 43 45 3 40 _ rfl Tryz.underlying43 pat_info rfl (by decide) (by decide) (gz + 1) (fun q => gz + 1 ≤ q) (.slice A0 dl d0) (done.map encP) rfl (w7.heap.size + 1) rfl ((HO7.out.alloc _).alloc _) [.int .i64 p.op, .int .i64 p.nt, .slice A5 p.kids.length d5] (encP p) (BlkIs.fresh1 _ _ _ _) rfl (by simp [Value.oneCell']) ((HR5.out.alloc _).alloc _) hdlen (by simp; omega) ?_); intro v2 w8 hown2 hb2 hk2; obtain ⟨A8, d8, rfl, _⟩ := hown2.rep.len; obtain ⟨L8, hL8⟩ : ∃ x, Hid ((done.map encP ++ [encP p]).length = x) := ⟨_, Lib.hid rfl⟩; rw [hL8.out] at hown2 ⊢; have P8 := ((Z7.alloc _).alloc _).below hb2 (by omega); have u2 := P8.cell 2; have u3 := P8.frozen 2; have u4 := P8.lt)
                go_roundw
                case rel =>
                  refine ⟨k + 1, done ++ [p], sa, .slice A8 L8 d8, by omega, by go_num, rfl, HNX, by simp [hdl], by omega, ?_, ?_, ?_⟩
                  · exact P8.put 2 _
                  · exact Lib.hid (by
                      rw [List.map_append]
                      exact Own.far hown2 (fun q h => h) (fun q hq _ => heap_setCell_other _ _ _ _ (by simp; omega)))
                  · exact pbelow1 (((K7.alloc K7.size _).alloc (by have := K7.size; simp; omega) _).trans (hb2.mono (by omega))) hgzw
                case measure => simp [intOf]; omega
        · obtain rfl : k = N := by omega
          have hlast := hkf.out.last
          have HR5 := HRK.out
          rw [hlast] at HR5
          simp only at HR5
          have hdd : Hid (dl = done.length) := Lib.hid hdle.out.symm
          have HRD : Hid (Rep wo (fun q => gz < q) (.lst 3 (done.map encP)) [.slice A0 dl d0]) := Lib.hid (hown.out.rep.imp (fun q hq _ => by omega))
          have hfin : ∀ (W : World) (s2 : List UInt8), Below w.heap.size w W → Rep W (fun q => gz < q) (.lst 3 (done.map encP)) [.slice A0 dl d0] → RdPostD (some (.mk op 0 done, s2)) w (.returned (.tuple #[.agg #[.int .i64 op, .int .i64 0, .slice A0 dl d0], .string ⟨s2.toArray⟩, .bool true])) W := by
            intro W s2 h1 h2
            refine ⟨h1, A0, d0, by rw [hdd.out]; rfl, ?_⟩
            have h3 : Rep W (fun q => gz < q) (.lst 3 (done.map encP)) [.slice A0 done.length d0] := by rw [← hdd.out]; exact h2
            exact rep_pat_mk (p := .mk op 0 done) (h3.imp (fun q hq _ => by omega))
          unfold finD at HR5
          by_cases hd0 : done.length = 0
          · rw [if_pos hd0] at HR5
            have hdl0 : dl = 0 := by rw [hdd.out]; exact hd0
            subst hdl0
            go_wp2_with fail
            have zz := pput3 (a := .int .i64 op) (b := .int .i64 0) (v := .slice A0 0 d0) hZ
            refine bodyPost_ret (v := .tuple #[.agg #[.int .i64 op, .int .i64 0, .slice A0 0 d0], .string ⟨sk.toArray⟩, .bool true]) (by simp [results, Tryz.results51, go_sem, zz.cell]) rfl ?_
            rw [← HR5]
            exact hfin _ _ (pbelow3 hb hgzw) (prep3 HRD.out)
          · rw [if_neg hd0] at HR5
            have hdlp : decide (0 < (dl : Int)) = true := by rw [hdd.out]; simp; omega
            have hdlp2 : 0 < dl := by rw [hdd.out]; omega
            have hcp := fun W => (Tryz.strings_CutPrefix ⟨sk.toArray⟩ ⟨#[41]⟩ W).mono (fun _ _ h => And.intro h.1 h.2.symm)
            have hpx : Lib.hasPrefix sk [41] = aheadB [41] sk := prefix_ahead sk [41]
            simp only at hcp
            rw [hpx] at hcp
            cases hah : aheadB [41] sk
            · obtain rfl : R = none := by rw [← HR5, hah]; simp
              rw [hah] at hcp
              obtain ⟨tr, htr⟩ : ∃ x, Hid (Lib.trimPrefix sk [41] = x) := ⟨_, Lib.hid rfl⟩
              rw [htr.out] at hcp
              go_wp2_with (go_at_call 68; refine (hcp _).mono ?_; rintro e w9 ⟨rfl, rfl⟩)
              have zz := pput3 (a := .int .i64 op) (b := .int .i64 0) (v := .slice A0 dl d0) hZ
              refine bodyPost_ret (v := .tuple #[.agg #[.int .i64 op, .int .i64 0, .slice A0 dl d0], .string ⟨tr.toArray⟩, .bool false]) (by simp [results, Tryz.results51, go_sem, zz.cell]) rfl ?_
              exact RdPostD.bad (pbelow3 hb hgzw)
            · have htr : Lib.trimPrefix sk [41] = sk.drop 1 := by unfold Lib.trimPrefix; rw [hpx, hah]; rfl
              obtain ⟨sd, hsd⟩ : ∃ x, Hid (sk.drop 1 = x) := ⟨_, Lib.hid rfl⟩
              rw [hah, htr, hsd.out] at hcp
              obtain rfl : R = some (.mk op 0 done, sd) := by rw [← HR5, hah, hsd.out]; simp
              clear htr
              go_wp2_with (go_at_call 68; refine (hcp _).mono ?_; rintro e w9 ⟨rfl, rfl⟩)
              have zz := pput3 (a := .int .i64 op) (b := .int .i64 0) (v := .slice A0 dl d0) hZ
              refine bodyPost_ret (v := .tuple #[.agg #[.int .i64 op, .int .i64 0, .slice A0 dl d0], .string ⟨sd.toArray⟩, .bool true]) (by simp [results, Tryz.results51, go_sem, zz.cell]) rfl ?_
              exact hfin _ _ (pbelow3 hb hgzw) (prep3 HRD.out)

theorem rdD_any : ∀ l, l ≤ 1000 → RdOkD l
  | 0, _ => fun s w hs ht => rdD_step 0 0 (fun _ => none) true (Lib.hid rfl) rfl (by omega) (fun _ _ _ h => by cases h) (fun h => absurd rfl h) s w hs ht
  | l + 1, h => fun s w hs ht => rdD_step (l + 1) ((l + 1 : Nat) : Int) (rdD l) false (Lib.hid rfl) (by simp) h (rdD_down l) (fun _ s w hs ht => by
      have := rdD_any l (by omega) s w hs ht
      rw [show ((l + 1 : Nat) : Int) - 1 = (l : Int) by omega]
      exact this) s w hs ht

end

/- Plain: what the program makes of a rule's line. -/
section
open Go.RowKit

theorem hit_occ (s b : List UInt8) (j : Nat) (hj : j ≤ s.length) : hitAt s b j = Lib.occAt s b j := by
  unfold hitAt Lib.occAt
  rw [Bool.eq_iff_iff, List.isPrefixOf_iff_prefix, List.prefix_iff_eq_take, Bool.and_eq_true, decide_eq_true_eq, beq_iff_eq]
  constructor
  · rintro ⟨_, h⟩; exact h.symm
  · intro h
    refine ⟨?_, h.symm⟩
    have := congrArg List.length h
    rw [List.length_take, List.length_drop] at this
    omega

def cutP (s b : List UInt8) : List UInt8 × List UInt8 × Bool := match cutT s b with
  | some (x, y) => (x, y, true)
  | none => (s, [], false)
theorem lib_cut (s b : List UInt8) : Lib.cut s b = cutP s b := by
  unfold Lib.cut cutP
  rcases Lib.index_spec s b with ⟨h1, h2⟩ | ⟨i, h1, h2, h3, h4⟩
  · rw [if_neg (by omega), cut_none (fun j => by
      by_cases hj : j ≤ s.length
      · rw [hit_occ s b j hj]; exact h2 j hj
      · unfold hitAt
        rw [Bool.and_eq_false_iff]
        left
        simp; omega)]
  · rw [if_pos (by omega), h1, cut_some (k := i) (by rw [hit_occ s b i h2]; exact h3) (fun j hj => by rw [hit_occ s b j (by omega)]; exact h4 j hj)]
    simp

theorem cutT_len {s b x y : List UInt8} (h : cutT s b = some (x, y)) : x.length ≤ s.length ∧ y.length ≤ s.length := by
  unfold cutT at h
  cases hf : (List.range (s.length + 1)).find? (hitAt s b) with
  | none => rw [hf] at h; cases h
  | some i =>
    rw [hf] at h
    simp only [Option.map_some] at h
    injection h with h
    injection h with h1 h2
    subst h1 h2
    exact ⟨by rw [List.length_take]; omega, by rw [List.length_drop]; omega⟩

def arrowT : List UInt8 := [32, 60, 45, 32]
def colonT : List UInt8 := [32, 58, 32]
def costD (left : List UInt8) (p : Pat) (en : List UInt8) : Option Rule :=
  match cutT en [32] with
  | none => none
  | some (cost, form) => match numT cost with
    | none => none
    | some n => some ⟨namedN left, p, n, form⟩
def patD (left pat en : List UInt8) : Option Rule :=
  match rdD 8 pat with
  | none => none
  | some (p, rest) => if rest = [] then costD left p en else none
/-- a rule of a line -/
def lineD (s : List UInt8) : Option Rule :=
  match cutT s arrowT with
  | none => none
  | some (left, right) => if namedB left = true then (match cutT right colonT with
    | none => none
    | some (pat, en) => patD left pat en) else none

/-- what strconv.Atoi and strconv.Itoa make of a text -/
theorem atoi_parse (s : List UInt8) : (∃ v, numT s = some v ∧ Lib.atoiAll s = .ok v ∧ decT v = s ∧ I64r v) ∨ (numT s = none ∧ ∀ v, Lib.atoiAll s = .ok v → decT v ≠ s ∧ I64r v) := by
  have h := numT_parse s
  rw [Lib.parseIntB_64] at h
  exact h

end

/- what desc's readings ask of the world and what they leave -/
section
open Go.RowKit

/-- the library's own bound, whichever it is -/
def MaxC (w : World) : Prop := ∃ m : Int, w.cell? ⟨Tryz.lays145_ren.g 1, 0, none⟩ = some (.int .i64 m)
theorem MaxC.below {w w' : World} (h : MaxC w) (hb : Below w.heap.size w w') : MaxC w' := by
  obtain ⟨m, hm⟩ := h
  exact ⟨m, cell_later hb hm⟩
theorem dcut_any (s b : List UInt8) (hs : s.length ≤ 1000000) (w : World) (hm : MaxC w) : Calls Tryz.prog 31 #[.string ⟨s.toArray⟩, .string ⟨b.toArray⟩] w fun e w' => e = .returned (.tuple #[.string ⟨(cutP s b).1.toArray⟩, .string ⟨(cutP s b).2.1.toArray⟩, .bool (cutP s b).2.2]) ∧ ∃ n, w' = w.drewN n := by
  obtain ⟨m, hm⟩ := hm
  have h := Tryz.strings_Cut ⟨s.toArray⟩ ⟨b.toArray⟩ m w (by simp [ByteArray.size]; omega) hm
  rw [lib_cut] at h
  exact h

/-- all that desc's reading asks of the world -/
structure DEnv (w : World) : Prop where
  tab : Tab w
  pow : PowIs w
  max : MaxC w
  e1 : ErrVar w "strconv.ErrSyntax"
  e2 : ErrVar w "strconv.ErrRange"
theorem DEnv.below {w w' : World} (h : DEnv w) (hb : Below w.heap.size w w') : DEnv w' := by
  have h2 := Tabs2.below (w := w) (w' := w') ⟨⟨h.tab, h.pow⟩, h.e1, h.e2⟩ hb
  exact ⟨h2.1.1, h2.1.2, h.max.below hb, h2.2.1, h2.2.2⟩

def LineRet (o : Option Rule) (w : World) (e : Ending) (w' : World) : Prop := Below w.heap.size w w' ∧ match o with
  | none => ∃ (a b c : Int) (A : Option Addr) (n d : Nat) (f : Int) (x : ByteArray), e = .returned (.tuple #[.agg #[.int .i64 a, .int .i64 b, .int .i64 c, .slice A n d, .int .i64 f, .string x], .bool false])
  | some r => ∃ (A : Option Addr) (d : Nat), e = .returned (.tuple #[.agg #[.int .i64 r.nt, .int .i64 r.pat.op, .int .i64 r.pat.nt, .slice A r.pat.kids.length d, .int .i64 r.cost, .string ⟨r.form.toArray⟩], .bool true]) ∧ Rep w' (fun k => w.heap.size ≤ k) (encP r.pat) [.int .i64 r.pat.op, .int .i64 r.pat.nt, .slice A r.pat.kids.length d]
theorem LineRet.bad {w w' : World} {a b c : Int} {A : Option Addr} {n d : Nat} {f : Int} {x : ByteArray} (h : Below w.heap.size w w') : LineRet none w (.returned (.tuple #[.agg #[.int .i64 a, .int .i64 b, .int .i64 c, .slice A n d, .int .i64 f, .string x], .bool false])) w' := ⟨h, a, b, c, A, n, d, f, x, rfl⟩
theorem put6 {w : World} {gz : Nat} {t : TypeId} {a b c d e f : Value} (z : BlkIs w gz t #[a, b, c, d, e, f]) : BlkIs ((((((w.setCell ⟨gz, 0, none⟩ a).setCell ⟨gz, 1, none⟩ b).setCell ⟨gz, 2, none⟩ c).setCell ⟨gz, 3, none⟩ d).setCell ⟨gz, 4, none⟩ e).setCell ⟨gz, 5, none⟩ f) gz t #[a, b, c, d, e, f] := (((((z.put 0 a).put 1 b).put 2 c).put 3 d).put 4 e).put 5 f
theorem below6 {w w1 : World} {gz : Nat} {a b c d e f : Value} (h : Below w.heap.size w w1) (hz : w.heap.size ≤ gz) : Below w.heap.size w ((((((w1.setCell ⟨gz, 0, none⟩ a).setCell ⟨gz, 1, none⟩ b).setCell ⟨gz, 2, none⟩ c).setCell ⟨gz, 3, none⟩ d).setCell ⟨gz, 4, none⟩ e).setCell ⟨gz, 5, none⟩ f) := pbelow1 (pbelow1 (pbelow1 (pbelow1 (pbelow1 (pbelow1 h hz) hz) hz) hz) hz) hz
theorem rep_set1 {w : World} {gz i : Nat} {a : Value} {d : D} {cs : List Value} (h : Rep w (fun k => gz < k) d cs) : Rep (w.setCell ⟨gz, i, none⟩ a) (fun k => gz < k) d cs :=
  Rep.keep (fun _ h _ => h) (fun q hq _ => heap_setCell_other _ _ _ _ (by simp; omega)) _ _ h

end

/- Plain: what the program makes of a text of rules. -/
section
open Go.RowKit

/-- a text's rules, line by line -/
def linesD : Nat → List UInt8 → Option (List Rule)
  | 0, s => if s = [] then some [] else none
  | f + 1, s => if s = [] then some [] else match cutT s [10] with
    | none => none
    | some (first, rest) => match lineD first with
      | none => none
      | some r => (linesD f rest).map fun l => r :: l
def parseD (s : List UInt8) : Option (List Rule) :=
  if 16000 < s.length then none else match linesD s.length s with
    | none => none
    | some l => if mayRs l = true then some l else none

theorem linesD_nil (f : Nat) : linesD f [] = some [] := by cases f <;> simp [linesD]
theorem linesD_cons {f : Nat} {s : List UInt8} (hs : s ≠ []) (hf : s.length ≤ f) : ∃ g, f = g + 1 ∧ linesD f s = match cutT s [10] with
    | none => none
    | some (first, rest) => match lineD first with
      | none => none
      | some r => (linesD g rest).map fun l => r :: l := by
  cases f with
  | zero => exact absurd (List.eq_nil_of_length_eq_zero (by omega)) hs
  | succ g => exact ⟨g, rfl, by rw [linesD, if_neg hs]⟩

theorem cutT_less {s b x y : List UInt8} (h : cutT s b = some (x, y)) (h1 : 0 < s.length) (h2 : 0 < b.length) : y.length < s.length := by
  unfold cutT at h
  cases hf : (List.range (s.length + 1)).find? (hitAt s b) with
  | none => rw [hf] at h; cases h
  | some i =>
    rw [hf] at h
    injection h with h
    injection h with h1 h2
    subst h1 h2
    rw [List.length_drop]
    omega

/-! What is read is of the types' width. -/
theorem patsWf_all : ∀ {l : List Pat}, (∀ p ∈ l, PatWf p) → PatsWf l
  | [], _ => by unfold PatsWf; trivial
  | p :: ps, h => by
    unfold PatsWf
    exact ⟨h p (by simp), patsWf_all (fun q hq => h q (by simp [hq]))⟩
theorem patsWf_mem : ∀ {l : List Pat}, PatsWf l → ∀ p ∈ l, PatWf p
  | [], _, p, hp => by cases hp
  | q :: qs, h, p, hp => by
    unfold PatsWf at h
    rcases List.mem_cons.mp hp with rfl | hp
    · exact h.1
    · exact patsWf_mem h.2 p hp
def WfRd (rd : List UInt8 → Option (Pat × List UInt8)) : Prop := ∀ s p s2, rd s = some (p, s2) → PatWf p
theorem rdDK_wf {rd : List UInt8 → Option (Pat × List UInt8)} (h : WfRd rd) : ∀ (n i : Nat) (s : List UInt8) (ps : List Pat) (s3 : List UInt8), rdDK rd n i s = some (ps, s3) → PatsWf ps
  | 0, i, s, ps, s3, e => by
    unfold rdDK at e
    injection e with e
    injection e with e1 _
    subst e1
    unfold PatsWf; trivial
  | n + 1, i, s, ps, s3, e => by
    unfold rdDK at e
    split at e
    · cases hr : rd (s.drop (byT i).length) with
      | none => rw [hr] at e; cases e
      | some r =>
        obtain ⟨p, s2⟩ := r
        rw [hr] at e
        simp only at e
        cases hk : rdDK rd n (i + 1) s2 with
        | none => rw [hk] at e; cases e
        | some r =>
          obtain ⟨qs, sa⟩ := r
          rw [hk] at e
          injection e with e
          injection e with e1 _
          subst e1
          unfold PatsWf
          exact ⟨h _ _ _ hr, rdDK_wf h n (i + 1) s2 _ _ hk⟩
    · cases e
theorem i64D {n : Int} (h : I64r n) : I64 n := by
  unfold I64
  simp only [Lit.wf, Bool.and_eq_true, decide_eq_true_eq]
  exact ⟨h.1, h.2⟩
theorem opT_I64 (s : List UInt8) : I64 (opT s) := by
  have := opT_in s
  exact i64D ⟨by omega, by omega⟩
theorem namedN_I64 (s : List UInt8) : I64 (namedN s) := by
  unfold namedN
  cases h : idxT ntWords s with
  | none => exact i64D ⟨by decide, by decide⟩
  | some k =>
    have hk : k < ntWords.length := by
      unfold idxT at h
      exact (List.findIdx?_eq_some_iff_findIdx_eq.mp h).1
    have hl : ntWords.length = 4 := rfl
    show I64 ((k : Nat) : Int)
    exact i64D ⟨by omega, by omega⟩
theorem rdD0_wf {rd : List UInt8 → Option (Pat × List UInt8)} (h : WfRd rd) (z : Bool) : WfRd (rdD0 rd z) := by
  intro s p s2 e
  unfold rdD0 at e
  split at e
  · injection e with e
    injection e with e1 _
    subst e1
    unfold PatWf
    exact ⟨i64D ⟨by decide, by decide⟩, namedN_I64 _, by unfold PatsWf; trivial⟩
  · split at e
    · cases e
    · cases hk : rdDK rd (arityOf (opT (s.take (wordLen s)))).toNat 0 (s.drop (wordLen s)) with
      | none => rw [hk] at e; cases e
      | some r =>
        obtain ⟨ps, sa⟩ := r
        rw [hk] at e
        simp only at e
        have h3 := rdDK_wf h _ _ _ _ _ hk
        unfold finD at e
        have hp : PatWf (.mk (opT (s.take (wordLen s))) 0 ps) := by unfold PatWf; exact ⟨opT_I64 _, i64D ⟨by decide, by decide⟩, h3⟩
        split at e
        · injection e with e; injection e with e1 _; subst e1; exact hp
        · split at e
          · injection e with e; injection e with e1 _; subst e1; exact hp
          · cases e
theorem rdD_wf : ∀ l, WfRd (rdD l)
  | 0 => rdD0_wf (fun _ _ _ h => by cases h) true
  | l + 1 => rdD0_wf (rdD_wf l) false
theorem lineD_wf {s : List UInt8} {r : Rule} (h : lineD s = some r) (hs : s.length ≤ 1000000) : RuleWf r := by
  unfold lineD at h
  cases h1 : cutT s arrowT with
  | none => rw [h1] at h; cases h
  | some q =>
    obtain ⟨left, right⟩ := q
    have e1 := cutT_len h1
    rw [h1] at h
    simp only at h
    split at h
    · cases h2 : cutT right colonT with
      | none => rw [h2] at h; cases h
      | some q =>
        obtain ⟨pat, en⟩ := q
        have e2 := cutT_len h2
        rw [h2] at h
        simp only at h
        unfold patD at h
        cases h3 : rdD 8 pat with
        | none => rw [h3] at h; cases h
        | some q =>
          obtain ⟨p, rest⟩ := q
          have hp := rdD_wf 8 _ _ _ h3
          rw [h3] at h
          simp only at h
          split at h
          · unfold costD at h
            cases h4 : cutT en [32] with
            | none => rw [h4] at h; cases h
            | some q =>
              obtain ⟨cost, form⟩ := q
              have e4 := cutT_len h4
              rw [h4] at h
              simp only at h
              rcases atoi_parse cost with ⟨v, hv, _, _, hr⟩ | ⟨hv, _⟩
              · rw [hv] at h
                injection h with h
                subst h
                exact ⟨namedN_I64 _, hp, i64D hr, by unfold reachBytes; simp only; omega⟩
              · rw [hv] at h; cases h
          · cases h
    · cases h
theorem linesD_wf : ∀ (f : Nat) (s : List UInt8) (l : List Rule), linesD f s = some l → s.length ≤ 1000000 → ∀ r ∈ l, RuleWf r
  | 0, s, l, h, hs => by
    unfold linesD at h
    split at h
    · injection h with h; subst h; simp
    · cases h
  | f + 1, s, l, h, hs => by
    unfold linesD at h
    split at h
    · injection h with h; subst h; simp
    · cases h1 : cutT s [10] with
      | none => rw [h1] at h; cases h
      | some q =>
        obtain ⟨first, rest⟩ := q
        have e1 := cutT_len h1
        rw [h1] at h
        simp only at h
        cases h2 : lineD first with
        | none => rw [h2] at h; cases h
        | some r =>
          rw [h2] at h
          simp only at h
          cases h3 : linesD f rest with
          | none => rw [h3] at h; cases h
          | some l2 =>
            rw [h3] at h
            injection h with h
            subst h
            intro q hq
            rcases List.mem_cons.mp hq with rfl | hq
            · exact lineD_wf h2 (by omega)
            · exact linesD_wf f rest l2 h3 (by omega) q hq
theorem linesD_count : ∀ (f : Nat) (s : List UInt8) (l : List Rule), linesD f s = some l → l.length ≤ s.length
  | 0, s, l, h => by
    unfold linesD at h
    split at h
    · injection h with h; subst h; simp
    · cases h
  | f + 1, s, l, h => by
    unfold linesD at h
    split at h
    · injection h with h; subst h; simp
    · rename_i hne
      cases h1 : cutT s [10] with
      | none => rw [h1] at h; cases h
      | some q =>
        obtain ⟨first, rest⟩ := q
        have e1 := cutT_less h1 (by cases s with | nil => exact absurd rfl hne | cons _ _ => simp) (by simp)
        rw [h1] at h
        simp only at h
        cases h2 : lineD first with
        | none => rw [h2] at h; cases h
        | some r =>
          rw [h2] at h
          simp only at h
          cases h3 : linesD f rest with
          | none => rw [h3] at h; cases h
          | some l2 =>
            rw [h3] at h
            injection h with h
            subst h
            have := linesD_count f rest l2 h3
            simp; omega

end

end Go.Proofs.YthdicdkgfmiepaaGreatDoor

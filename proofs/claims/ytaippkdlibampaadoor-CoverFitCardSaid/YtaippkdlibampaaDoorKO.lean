/- The reference's reading of rules: its small functions: nt, Op, cut. The reference's reader of patterns: word, passes. The reference's reader of patterns: pat, where it may be. -/
import Derived.Test.YtaippkdlibampaaDoorKD
import Derived.OwnWalk
import Derived.Test.YtaippkdlibampaaDoorK6
import Derived.Test.YtaippkdlibampaaDoorKE
namespace Go.Proofs.YtaippkdlibampaaDoor

/- The reference's reading of rules: its small functions: nt, Op, cut. -/
section
open Go.RowKit

def idxT (l : List (List UInt8)) (s : List UInt8) : Option Nat := l.findIdx? (· == s)
theorem idx_some {l : List (List UInt8)} {s : List UInt8} {k : Nat} (h : k < l.length) (hs : l[k] = s) (hn : ∀ j (hj : j < l.length), j < k → l[j] ≠ s) : idxT l s = some k := by
  unfold idxT
  rw [List.findIdx?_eq_some_iff_getElem]
  exact ⟨h, by simpa using hs, fun j hj => by simpa using hn j (by omega) hj⟩
theorem idx_none {l : List (List UInt8)} {s : List UInt8} (hn : ∀ j (hj : j < l.length), l[j] ≠ s) : idxT l s = none := by
  unfold idxT
  rw [List.findIdx?_eq_none_iff]
  intro x hx
  obtain ⟨j, hj, rfl⟩ := List.getElem_of_mem hx
  simpa using hn j hj

def ntWords : List (List UInt8) := [[114, 101, 103], [97, 110, 121], [105, 109, 109], [97, 100, 100, 114]]
theorem nts_any (w : World) : Calls Tryd.prog 106 #[] w fun e w' => e = .returned (.slice (some ⟨w.heap.size, 0, none⟩) 4 4) ∧ w.alloc (.cells (strCells ntWords).toArray 9) = w' := by
  simp only [strCells, ntWords, List.map_cons, List.map_nil]
  go_enter Tryd.func106, Tryd.ntmps106
  go_wp2_with fail
  go_ret
  exact ⟨rfl, rfl⟩

/-- a word's nonterminal -/
def ntT (s : List UInt8) : Int := match idxT ntWords s with | some k => k | none => -1

set_option maxHeartbeats 2000000 in
theorem ntW_any (s : List UInt8) (w : World) : Calls Tryd.prog 59 #[.string ⟨s.toArray⟩] w fun e w' => e = .returned (.int .i64 (ntT s)) ∧ Below w.heap.size w w' := by
  have hn := fun W => nts_any W
  go_enter Tryd.func59, Tryd.ntmps59
  go_wp2_with fail
  refine (hn _).mono ?_
  rintro e w1 ⟨rfl, rfl⟩
  have hb := (BlkIs.fresh w 9 (strCells ntWords).toArray)
  have hbl := below_alloc w (.cells (strCells ntWords).toArray 9)
  obtain ⟨w1, hw1⟩ : ∃ W, w.alloc (.cells (strCells ntWords).toArray 9) = W := ⟨_, rfl⟩
  rw [hw1] at hb hbl ⊢
  clear hw1
  go_wp2_with fail
  go_loopw [4] (fun i wr => ∃ k : Nat, k ≤ 4 ∧ i = .int .i64 k ∧ w1 = wr ∧ Hid (∀ j (hj : j < ntWords.length), j < k → ntWords[j] ≠ s)) (fun i _ => 4 - (intOf i).toNat)
  case atStart => exact ⟨0, by omega, rfl, rfl, Lib.hid (by omega)⟩
  case round =>
    obtain ⟨k, hk, rfl, rfl, hno⟩ := hrel
    by_cases hlt : k < 4
    · have hkl : k < ntWords.length := hlt
      have hc : w1.cell? ⟨w.heap.size, k, none⟩ = some (.string ⟨ntWords[k].toArray⟩) := (hb.cell k).trans (by simp [strCells, List.getElem?_eq_getElem hkl])
      have hyes := fun h => Lib.hid (idx_some hkl h hno.out)
      obtain ⟨x, hx⟩ : ∃ x, Hid (ntWords[k] = x) := ⟨_, Lib.hid rfl⟩
      rw [hx.out] at hc hyes
      by_cases hxs : x = s
      · subst hxs
        have hres := hyes rfl
        clear hyes
        go_wp2_with fail
        go_ret
        exact ⟨by unfold ntT; rw [hres.out]; rfl, hbl⟩
      · have hne : (x == s) = false := by simpa using hxs
        clear hyes
        go_wp2_with fail
        go_roundw
        case rel => exact ⟨k + 1, by omega, by go_num, by first | trivial | rfl, Lib.hid (fun j hj hjk => by
          by_cases e : j = k
          · subst e; rw [hx.out]; exact hxs
          · exact hno.out j hj (by omega))⟩
        case measure => simp [intOf]; omega
    · have hres := Lib.hid (idx_none (s := s) (fun j hj => hno.out j hj (by have : j < 4 := hj; omega)))
      go_wp2_with fail
      go_ret
      exact ⟨by unfold ntT; rw [hres.out]; rfl, hbl⟩

/-- a word's op; 0: none -/
def opT (s : List UInt8) : Int := match idxT opWords s with | some k => (k + 1 : Nat) | none => 0

set_option maxHeartbeats 2000000 in
theorem opW_any (s : List UInt8) (w : World) : Calls Tryd.prog 103 #[.string ⟨s.toArray⟩] w fun e w' => e = .returned (.int .i64 (opT s)) ∧ Below w.heap.size w w' := by
  go_enter Tryd.func103, Tryd.ntmps103
  go_wp2_with fail
  go_loopw [3] (fun i wr => ∃ k : Nat, 1 ≤ k ∧ k ≤ 37 ∧ i = .int .i64 k ∧ Below w.heap.size w wr ∧ Hid (∀ j (hj : j < opWords.length), j + 1 < k → opWords[j] ≠ s)) (fun i _ => 37 - (intOf i).toNat)
  case atStart => exact ⟨1, by omega, by omega, rfl, Below.refl _ _, Lib.hid (by omega)⟩
  case round =>
    obtain ⟨k, hk1, hk, rfl, hb, hno⟩ := hrel
    obtain ⟨wo, rfl⟩ : ∃ wo : World, wo = wr := ⟨_, rfl⟩
    by_cases hlt : k ≤ 36
    · have hkl : k - 1 < opWords.length := by show k - 1 < 36; omega
      have hW := fun W => refWord_any k hk1 hlt W
      have hyes := fun h => Lib.hid (idx_some hkl h (fun j hj hjk => hno.out j hj (by omega)))
      have hgd : opWords.getD (k - 1) [] = opWords[k - 1] := by rw [List.getD_eq_getElem?_getD, List.getElem?_eq_getElem hkl]; rfl
      obtain ⟨x, hx⟩ : ∃ x, Hid (opWords[k - 1] = x) := ⟨_, Lib.hid rfl⟩
      rw [hgd, hx.out] at hW
      rw [hx.out] at hyes
      go_wp2_with fail
      refine (hW _).mono ?_
      rintro e w1 ⟨rfl, hw1⟩
      have hb1 : Below w.heap.size w w1 := by rw [← hw1]; exact hb.alloc hb.size _
      clear hw1 hW
      by_cases hxs : x = s
      · subst hxs
        have hres := hyes rfl
        clear hyes
        go_wp2_with fail
        go_ret
        refine ⟨?_, hb1⟩
        unfold opT
        rw [hres.out]
        show Ending.returned (Value.int .i64 k) = .returned (.int .i64 ((k - 1 + 1 : Nat) : Int))
        rw [Nat.sub_add_cancel hk1]
      · have hne : (x == s) = false := by simpa using hxs
        clear hyes
        go_wp2_with fail
        go_roundw
        case rel => exact ⟨k + 1, by omega, by omega, by go_num, hb1, Lib.hid (fun j hj hjk => by
          by_cases e : j = k - 1
          · subst e; rw [hx.out]; exact hxs
          · exact hno.out j hj (by omega))⟩
        case measure => simp [intOf]; omega
    · have hres := Lib.hid (idx_none (s := s) (fun j hj => hno.out j hj (by have : j < 36 := hj; omega)))
      go_wp2_with fail
      go_ret
      exact ⟨by unfold opT; rw [hres.out]; rfl, hb⟩

/-- where a text stands in another -/
def hitAt (s by_ : List UInt8) (i : Nat) : Bool := decide (i + by_.length ≤ s.length) && ((s.drop i).take by_.length == by_)
def cutT (s by_ : List UInt8) : Option (List UInt8 × List UInt8) := ((List.range (s.length + 1)).find? (hitAt s by_)).map fun i => (s.take i, s.drop (i + by_.length))
theorem cut_some {s b : List UInt8} {k : Nat} (h : hitAt s b k = true) (hn : ∀ j, j < k → hitAt s b j = false) : cutT s b = some (s.take k, s.drop (k + b.length)) := by
  unfold cutT
  have hk : k < s.length + 1 := by unfold hitAt at h; rw [Bool.and_eq_true, decide_eq_true_eq] at h; omega
  rw [show (List.range (s.length + 1)).find? (hitAt s b) = some k from by
    rw [List.find?_range_eq_some]
    exact ⟨h, by simpa using hk, fun j hj => by rw [hn j hj]; rfl⟩]
  rfl
theorem cut_none {s b : List UInt8} (hn : ∀ j, hitAt s b j = false) : cutT s b = none := by
  unfold cutT
  rw [show (List.range (s.length + 1)).find? (hitAt s b) = none from by
    rw [List.find?_eq_none]
    intro j _
    rw [hn j]; simp]
  rfl

theorem ext_list (s : List UInt8) (a b : Nat) : (ByteArray.mk s.toArray).extract a b = ⟨((s.drop a).take (b - a)).toArray⟩ := by
  apply ByteArray.ext
  simp [ByteArray.data_extract]
theorem ext_hit (s b : List UInt8) (k : Nat) (h : k + b.length ≤ s.length) : (((ByteArray.mk s.toArray).extract k (k + b.length)).toList == b) = hitAt s b k := by
  unfold hitAt
  rw [ext_list, ByteArray.toList_eq, Nat.add_sub_cancel_left, decide_eq_true h, Bool.true_and]

def CutIs (s b : List UInt8) (e : Ending) : Prop := match cutT s b with
  | some (x, y) => e = .returned (.tuple #[.string ⟨x.toArray⟩, .string ⟨y.toArray⟩, .bool true])
  | none => e = .returned (.tuple #[.string ⟨#[]⟩, .string ⟨#[]⟩, .bool false])

set_option maxHeartbeats 2000000 in
theorem cut_any (s b : List UInt8) (hs : s.length ≤ 1000000) (hbl : b.length ≤ 1000) (w : World) : Calls Tryd.prog 56 #[.string ⟨s.toArray⟩, .string ⟨b.toArray⟩] w fun e w' => CutIs s b e ∧ ∃ m, w' = w.drewN m := by
  go_enter Tryd.func56, Tryd.ntmps56
  go_wp2_with fail
  go_loopw [7] (fun i wr => ∃ k : Nat, k ≤ s.length + 1 ∧ i = .int .i64 k ∧ w = wr ∧ Hid (∀ j, j < k → hitAt s b j = false)) (fun i _ => s.length + 1 - (intOf i).toNat)
  case atStart => exact ⟨0, by omega, rfl, rfl, Lib.hid (by omega)⟩
  case round =>
    obtain ⟨k, hk, rfl, rfl, hno⟩ := hrel
    by_cases hlt : k + b.length ≤ s.length
    · have hx := ext_hit s b k hlt
      have hyes := fun h => Lib.hid (cut_some h hno.out)
      obtain ⟨h, hh⟩ : ∃ x, Hid (hitAt s b k = x) := ⟨_, Lib.hid rfl⟩
      rw [hh.out] at hx hyes
      cases h
      · go_wp2_with fail
        go_roundw
        case rel => exact ⟨k + 1, by omega, by go_num, by first | trivial | rfl, Lib.hid (fun j hj => by
          by_cases e : j = k
          · subst e; exact hh.out
          · exact hno.out j (by omega))⟩
        case measure => simp [intOf]; omega
      · have hres := hyes rfl
        clear hyes
        go_wp2_with fail
        go_quiet (fail)
        go_wp2_with fail
        go_ret3
        refine ⟨?_, _, rfl⟩
        unfold CutIs
        rw [hres.out]
        show Ending.returned (.tuple #[.string ((ByteArray.mk s.toArray).extract 0 k), .string ((ByteArray.mk s.toArray).extract (k + b.length) s.length), .bool true]) = .returned (.tuple #[.string ⟨(s.take k).toArray⟩, .string ⟨(s.drop (k + b.length)).toArray⟩, .bool true])
        rw [ext_list, ext_list, List.drop_zero, Nat.sub_zero, List.take_of_length_le (l := s.drop (k + b.length)) (by rw [List.length_drop]; omega)]
    · have hres := Lib.hid (cut_none (s := s) (b := b) (fun j => by
        by_cases hj : j < k
        · exact hno.out j hj
        · unfold hitAt; rw [decide_eq_false (by omega)]; rfl))
      go_wp2_with fail
      go_ret3
      refine ⟨?_, 0, rfl⟩
      unfold CutIs
      rw [hres.out]
      rfl

end

/- The reference's reader of patterns: word, passes. -/
section
open Go.RowKit

/-- a reader's two cells -/
def RdIs (w : World) (g : Nat) (s : List UInt8) (m : Int) : Prop := BlkIs w g 99 #[.string ⟨s.toArray⟩, .int .i64 m]

def wordLen (s : List UInt8) : Nat := (s.takeWhile isLd).length
theorem wordLen_eq : ∀ (s : List UInt8) (k : Nat), k ≤ s.length → (∀ j (h : j < s.length), j < k → isLd s[j] = true) → (∀ h : k < s.length, isLd s[k] = false) → wordLen s = k
  | [], k, hk, _, _ => by simp at hk; subst hk; rfl
  | c :: s, 0, _, _, hf => by
    have := hf (by simp)
    simp at this
    unfold wordLen
    rw [List.takeWhile_cons, this]; rfl
  | c :: s, k + 1, hk, ht, hf => by
    have h0 := ht 0 (by simp) (by omega)
    simp at h0
    have ih := wordLen_eq s k (by simpa using hk) (fun j h hj => by have := ht (j + 1) (by simpa using h) (by omega); simpa using this) (fun h => by have := hf (by simpa using h); simpa using this)
    unfold wordLen at ih ⊢
    rw [List.takeWhile_cons, h0]
    simp [ih]
theorem wordLen_le (s : List UInt8) : wordLen s ≤ s.length := by unfold wordLen; exact (List.takeWhile_sublist _).length_le
theorem ret_take {s x : List UInt8} {k : Nat} (h : x = s.take k) : Ending.returned (.string ((ByteArray.mk s.toArray).extract 0 k)) = .returned (.string ⟨x.toArray⟩) := by
  rw [ext_list, h, List.drop_zero, Nat.sub_zero]
theorem ext_rest (s : List UInt8) (k n : Nat) (hn : s.length = n) : (ByteArray.mk s.toArray).extract k n = ⟨(s.drop k).toArray⟩ := by
  rw [ext_list, List.take_of_length_le (by rw [List.length_drop]; omega)]

set_option maxHeartbeats 4000000 in
theorem word_any (g : Nat) (s : List UInt8) (m : Int) (hs : s.length ≤ 1000000) (w : World) (hr : RdIs w g s m) : Calls Tryd.prog 102 #[.pointer (some ⟨g, 0, none⟩)] w fun e w' => e = .returned (.string ⟨(s.take (wordLen s)).toArray⟩) ∧ w.setCell ⟨g, 0, none⟩ (.string ⟨(s.drop (wordLen s)).toArray⟩) = w' := by
  have c0 : w.cell? ⟨g, 0, none⟩ = some (.string ⟨s.toArray⟩) := hr.cell 0
  have f0 := hr.frozen 0
  have hl := hr.lt
  obtain ⟨n, hn⟩ : ∃ n, Hid (s.length = n) := ⟨_, Lib.hid rfl⟩
  have hsz : (⟨s.toArray⟩ : ByteArray).size = n := by rw [← hn.out]; simp [ByteArray.size]
  rw [hn.out] at hs
  go_enter Tryd.func102, Tryd.ntmps102
  go_wp2_with fail
  go_loopw [3] (fun i wr => ∃ k : Nat, k ≤ n ∧ i = .int .i64 k ∧ w = wr ∧ Hid (∀ j (h : j < s.length), j < k → isLd s[j] = true)) (fun i _ => n - (intOf i).toNat)
  case atStart => exact ⟨0, by omega, rfl, rfl, Lib.hid (by omega)⟩
  case round =>
    obtain ⟨k, hk, rfl, rfl, hall⟩ := hrel
    by_cases hlt : k < n
    · have hkl : k < s.length := by rw [hn.out]; exact hlt
      obtain ⟨b, hb⟩ : ∃ b, Hid (s[k] = b) := ⟨_, Lib.hid rfl⟩
      have hget : ((⟨s.toArray⟩ : ByteArray)[k]'(by rw [hsz]; exact hlt)) = b := hb.out
      have hld := Lib.hid (isLd_iff b)
      go_wp2_with fail
      all_goals
        first
          | (exfalso; omega)
          | (go_roundw
             case rel =>
               refine ⟨k + 1, by omega, by go_num, by first | trivial | rfl, Lib.hid (fun j hj hjk => ?_)⟩
               by_cases e : j = k
               · subst e; rw [hb.out, hld.out]; first | omega | grind
               · exact hall.out j hj (by omega)
             case measure => simp [intOf]; omega)
          | (go_ret
             have hwl : wordLen s = k := wordLen_eq s k (by omega) (fun j h hj => hall.out j h hj) (fun h => by rw [hb.out, ← Bool.not_eq_true, hld.out]; first | omega | grind)
             rw [hwl]
             exact ⟨ret_take rfl, by rw [ext_rest s k n hn.out]⟩)
    · have hwl : wordLen s = k := wordLen_eq s k (by rw [hn.out]; omega) (fun j h hj => hall.out j h hj) (fun h => by rw [hn.out] at h; omega)
      go_wp2_with fail
      go_ret
      rw [hwl]
      exact ⟨ret_take rfl, by rw [ext_rest s k n hn.out]⟩

/-- does a text begin so? -/
def startsB (s b : List UInt8) : Bool := decide (b.length ≤ s.length) && (s.take b.length == b)

set_option maxHeartbeats 4000000 in
theorem passes_any (g : Nat) (s b : List UInt8) (m : Int) (hs : s.length ≤ 1000000) (hbl : b.length ≤ 1000) (w : World) (hr : RdIs w g s m) : Calls Tryd.prog 105 #[.pointer (some ⟨g, 0, none⟩), .string ⟨b.toArray⟩] w fun e w' => e = .returned (.bool (startsB s b)) ∧ (if startsB s b then w.setCell ⟨g, 0, none⟩ (.string ⟨(s.drop b.length).toArray⟩) else w) = w' := by
  have c0 : w.cell? ⟨g, 0, none⟩ = some (.string ⟨s.toArray⟩) := hr.cell 0
  have f0 := hr.frozen 0
  have hl := hr.lt
  by_cases hle : b.length ≤ s.length
  · have hx : (((ByteArray.mk s.toArray).extract 0 b.length).toList == b) = startsB s b := by
      unfold startsB
      rw [ext_list, ByteArray.toList_eq, decide_eq_true hle, Bool.true_and, List.drop_zero, Nat.sub_zero]
    obtain ⟨h, hh⟩ : ∃ x, Hid (startsB s b = x) := ⟨_, Lib.hid rfl⟩
    rw [hh.out] at hx ⊢
    cases h
    · go_enter Tryd.func105, Tryd.ntmps105
      go_wp2_with fail
      go_ret
      exact ⟨rfl, rfl⟩
    · go_enter Tryd.func105, Tryd.ntmps105
      go_wp2_with fail
      go_ret
      exact ⟨rfl, by rw [ext_rest s b.length s.length rfl]⟩
  · have hx : startsB s b = false := by unfold startsB; rw [decide_eq_false hle]; rfl
    rw [hx]
    have hlt : s.length < b.length := by omega
    clear hle
    go_enter Tryd.func105, Tryd.ntmps105
    go_wp2_with fail
    go_ret
    exact ⟨rfl, rfl⟩

end

/- The reference's reader of patterns: pat, where it may be. -/
section
open Go.RowKit

/-- kids one behind the other -/
def rdKids (rd : List UInt8 → Nat → Option (Pat × List UInt8 × Nat)) : Nat → Nat → List UInt8 → Nat → Option (List Pat × List UInt8 × Nat)
  | 0, _, s, m => some ([], s, m)
  | n + 1, i, s, m =>
    if startsB s (if i = 0 then [40] else [44, 32]) = true then
      match rd (s.drop (if i = 0 then 1 else 2)) m with
      | none => none
      | some (p, s2, m2) =>
        match rdKids rd n (i + 1) s2 m2 with
        | none => none
        | some (ps, s3, m3) => some (p :: ps, s3, m3)
    else none

/-- what a pattern's reader makes of a text: the pattern, what is left, how many it has met -/
def rdPat : Nat → List UInt8 → Nat → Option (Pat × List UInt8 × Nat)
  | 0, _, _ => none
  | f + 1, s, m =>
    if 0 ≤ ntT (s.take (wordLen s)) then (if m + 1 ≤ 8 then some (.mk 0 (ntT (s.take (wordLen s))) [], s.drop (wordLen s), m + 1) else none)
    else if opT (s.take (wordLen s)) = 0 ∨ 8 < m + 1 then none
    else
      match rdKids (rdPat f) (arityOf (opT (s.take (wordLen s)))).toNat 0 (s.drop (wordLen s)) (m + 1) with
      | none => none
      | some (ps, s2, m2) => if ps.length = 0 then some (.mk (opT (s.take (wordLen s))) 0 ps, s2, m2) else if startsB s2 [41] = true then some (.mk (opT (s.take (wordLen s))) 0 ps, s2.drop 1, m2) else none

def RdOk (rd : List UInt8 → Nat → Option (Pat × List UInt8 × Nat)) : Prop := ∀ (s : List UInt8) (m : Nat) (p : Pat) (s2 : List UInt8) (m2 : Nat), rd s m = some (p, s2, m2) → s.length ≤ 1000000 → m ≤ 1000 → s2.length ≤ s.length ∧ m2 ≤ 1000 ∧
  ∀ (g : Nat) (w : World), RdIs w g s m → Calls Tryd.prog 58 #[.pointer (some ⟨g, 0, none⟩)] w fun e w' =>
    ∃ A d, e = .returned (.tuple #[.agg #[.int .i64 p.op, .int .i64 p.nt, .slice A p.kids.length d], .bool true]) ∧ Rep w' (fun k => w.heap.size ≤ k) (encP p) [.int .i64 p.op, .int .i64 p.nt, .slice A p.kids.length d] ∧ KeepM g w w' ∧ RdIs w' g s2 m2

theorem opT_in (s : List UInt8) : 0 ≤ opT s ∧ opT s ≤ 36 := by
  unfold opT
  cases h : idxT opWords s with
  | none => simp
  | some k =>
    unfold idxT at h
    have := (List.findIdx?_eq_some_iff_getElem.1 h).1
    have h2 : opWords.length = 36 := rfl
    simp only
    omega

theorem rdKids_step {rd : List UInt8 → Nat → Option (Pat × List UInt8 × Nat)} {j k : Nat} {s s3 : List UInt8} {m m3 : Nat} {todo : List Pat} (h : rdKids rd (j + 1) k s m = some (todo, s3, m3)) :
    ∃ p sa ma ps', startsB s (if k = 0 then [40] else [44, 32]) = true ∧ rd (s.drop (if k = 0 then 1 else 2)) m = some (p, sa, ma) ∧ rdKids rd j (k + 1) sa ma = some (ps', s3, m3) ∧ todo = p :: ps' := by
  unfold rdKids at h
  by_cases hst : startsB s (if k = 0 then [40] else [44, 32]) = true
  · rw [if_pos hst] at h
    cases hp : rd (s.drop (if k = 0 then 1 else 2)) m with
    | none => rw [hp] at h; cases h
    | some r =>
      obtain ⟨p, sa, ma⟩ := r
      rw [hp] at h
      simp only at h
      cases hq : rdKids rd j (k + 1) sa ma with
      | none => rw [hq] at h; cases h
      | some r =>
        obtain ⟨ps', sb, mb⟩ := r
        rw [hq] at h
        simp only at h
        injection h with h
        injection h with h1 h
        injection h with h2 h3
        subst h1 h2 h3
        exact ⟨p, sa, ma, ps', hst, rfl, hq, rfl⟩
  · rw [if_neg hst] at h; cases h

theorem rdKids_in {rd : List UInt8 → Nat → Option (Pat × List UInt8 × Nat)} (ih : RdOk rd) : ∀ (n i : Nat) (s : List UInt8) (m : Nat) (ps : List Pat) (s3 : List UInt8) (m3 : Nat), rdKids rd n i s m = some (ps, s3, m3) → s.length ≤ 1000000 → m ≤ 1000 → ps.length = n ∧ s3.length ≤ s.length ∧ m3 ≤ 1000
  | 0, i, s, m, ps, s3, m3, h, hs, hm => by
    unfold rdKids at h
    injection h with h
    injection h with h1 h
    injection h with h2 h3
    subst h1 h2 h3
    exact ⟨rfl, Nat.le_refl _, hm⟩
  | n + 1, i, s, m, ps, s3, m3, h, hs, hm => by
    obtain ⟨p, sa, ma, ps', _, hp, hq, rfl⟩ := rdKids_step h
    obtain ⟨h1, h2, _⟩ := ih _ _ _ _ _ hp (by rw [List.length_drop]; omega) hm
    rw [List.length_drop] at h1
    obtain ⟨h3, h4, h5⟩ := rdKids_in ih n (i + 1) sa ma ps' s3 m3 hq (by omega) h2
    exact ⟨by simp [h3], by omega, h5⟩

theorem arity_le2 (n : Int) : (arityOf n).toNat ≤ 2 := by unfold arityOf; split <;> (try split) <;> omega
theorem kids_arity2 (n : Int) (h1 : 1 ≤ n) (h2 : n ≤ 36) : kidsOf n = ((arityOf n).toNat : Nat) := by
  have h3 : 0 ≤ arityOf n := by unfold arityOf; split <;> (try split) <;> omega
  unfold kidsOf
  rw [if_pos (by unfold isOp; simp; omega), Int.toNat_of_nonneg h3]

theorem KeepM.ownRow {gm : Nat} {w w' : World} (h : KeepM gm w w') (cs : Array Value) : KeepM gm w (w'.setRow gm cs) :=
  ⟨h.os, h.tape, h.output, by simp; exact h.size, fun k hk hl => (setRow_other w' gm k cs hk).trans (h.block k hk hl)⟩
theorem KeepM.own {gm : Nat} {w w' : World} (h : KeepM gm w w') (i : Nat) (u : Value) : KeepM gm w (w'.setCell ⟨gm, i, none⟩ u) :=
  ⟨h.os, h.tape, h.output, by simp [World.setCell]; exact h.size, fun k hk hl => (heap_setCell_other _ _ _ _ (by simpa using hk)).trans (h.block k hk hl)⟩
theorem RdIs.putS {w : World} {g : Nat} {s y : List UInt8} {m : Int} (h : RdIs w g s m) : RdIs (w.setCell ⟨g, 0, none⟩ (.string ⟨y.toArray⟩)) g y m := BlkIs.put h 0 _
theorem RdIs.putM {w : World} {g : Nat} {s : List UInt8} {m m' : Int} (h : RdIs w g s m) : RdIs (w.setCell ⟨g, 1, none⟩ (.int .i64 m')) g s m' := BlkIs.put h 1 _

section
variable {P : Program} {ops : Array Oper} {Q : Exit → Act → World → Prop} {md : Region.Mode} {S : World → Prop} {last : Nat}
/-- a taking of what its guard passes over -/
theorem takeSkip {i : Nat} {oi : Oper} {d : Option Tmp} {fuel : Nat} {listed : Array Bool} {a : Act} {w : World} (hk : takeOk md ops listed last i = true) (hi : ops[i]? = some oi) (hd : oi.dst = d) (hwt : Region.wanted oi (yielded ops a.tmps) = false)
    (hQ : ∀ c a w, Q (.panic c) (a.put d undef) w → Q (.panic c) a w) (hS : S w) (h : AnyJ P md ops Q S last fuel (listed.setIfInBounds i true) (a.put d undef) w) : AnyJ P md ops Q S last (fuel + 1) listed a w := by
  unfold takeOk at hk
  simp only [Bool.and_eq_true, Bool.not_eq_true'] at hk
  obtain ⟨⟨⟨⟨h1, h2⟩, h3⟩, h4⟩, h5⟩ := hk
  subst hd
  exact anyJ_first h1 hi (by simpa using h2) (Region.noSelect_spec h3) hQ fuel listed a w (Region.free_spec hi h4) (by simpa using h5) (.inr ⟨hwt, rfl⟩) hS h
end

set_option maxRecDepth 100000 in
set_option maxHeartbeats 8000000 in
theorem pat_step (rd : List UInt8 → Nat → Option (Pat × List UInt8 × Nat)) (ih : RdOk rd) (f : Nat) (hrd : rdPat f = rd) : RdOk (rdPat (f + 1)) := by
  intro s m p s2 m2 h hs hm
  unfold rdPat at h
  rw [hrd] at h
  have hwl := wordLen_le s
  by_cases hnt : 0 ≤ ntT (s.take (wordLen s))
  · rw [if_pos hnt] at h
    by_cases hm8 : m + 1 ≤ 8
    · rw [if_pos hm8] at h
      injection h with h
      injection h with h1 h
      injection h with h2 h3
      subst h1 h2 h3
      refine ⟨by rw [List.length_drop]; omega, by omega, fun g w hr => ?_⟩
      have hw := fun W => word_any g s (m + 1 : Nat) hs W
      have hn := fun W => ntW_any (s.take (wordLen s)) W
      obtain ⟨k, hk⟩ : ∃ x, Hid (ntT (s.take (wordLen s)) = x) := ⟨_, Lib.hid rfl⟩
      rw [hk.out] at hn hnt ⊢
      obtain ⟨x, hx⟩ : ∃ x, Hid (s.take (wordLen s) = x) := ⟨_, Lib.hid rfl⟩
      obtain ⟨y, hy⟩ : ∃ x, Hid (s.drop (wordLen s) = x) := ⟨_, Lib.hid rfl⟩
      rw [hx.out] at hn
      rw [hx.out, hy.out] at hw
      rw [hy.out]
      have c1 : w.cell? ⟨g, 1, none⟩ = some (.int .i64 m) := BlkIs.cell hr 1
      have f1 := BlkIs.frozen hr 1
      have hl : g < w.heap.size := BlkIs.lt hr
      go_enter Tryd.func58, Tryd.ntmps58
      go_wp2_with fail
      have r1 : RdIs ((w.setCell ⟨g, 1, none⟩ (.int .i64 (m + 1 : Nat))).alloc (.cells #[.int .i64 0, .int .i64 0, .slice none 0 0] 31)) g s (m + 1 : Nat) := BlkIs.alloc (RdIs.putM hr) _
      have z1 : BlkIs ((w.setCell ⟨g, 1, none⟩ (.int .i64 (m + 1 : Nat))).alloc (.cells #[.int .i64 0, .int .i64 0, .slice none 0 0] 31)) w.heap.size 31 #[.int .i64 0, .int .i64 0, .slice none 0 0] := BlkIs.fresh_at (by simp [World.setCell])
      have k1 : KeepM g w ((w.setCell ⟨g, 1, none⟩ (.int .i64 (m + 1 : Nat))).alloc (.cells #[.int .i64 0, .int .i64 0, .slice none 0 0] 31)) := ((KeepM.refl g w).own 1 _).alloc _
      refine (hw _ r1).mono ?_
      rintro e w2 ⟨rfl, hw2⟩
      have r2 : RdIs w2 g y (m + 1 : Nat) := by rw [← hw2]; exact r1.putS
      have z2 : BlkIs w2 w.heap.size 31 #[.int .i64 0, .int .i64 0, .slice none 0 0] := by rw [← hw2]; exact z1.far (by simp; omega) _
      have k2 : KeepM g w w2 := by rw [← hw2]; exact k1.own 0 _
      clear hw2 r1 z1 k1 hw c1 f1
      go_wp2_with fail
      refine (hn w2).mono ?_
      rintro e w3 ⟨rfl, hb3⟩
      have r3 : RdIs w3 g y (m + 1 : Nat) := BlkIs.below r2 hb3 (BlkIs.lt r2)
      have z3 : BlkIs w3 w.heap.size 31 #[.int .i64 0, .int .i64 0, .slice none 0 0] := z2.below hb3 z2.lt
      have k3 : KeepM g w w3 := k2.trans (KeepM.of hb3)
      clear r2 z2 k2 hb3 hn
      have c1 : w3.cell? ⟨g, 1, none⟩ = some (.int .i64 (m + 1 : Nat)) := BlkIs.cell r3 1
      have hl3 : g < w3.heap.size := BlkIs.lt r3
      obtain ⟨gz, hgz⟩ : ∃ x, Hid (w.heap.size = x) := ⟨_, Lib.hid rfl⟩
      rw [hgz.out] at z3 ⊢
      have hgn : g ≠ gz := by rw [← hgz.out]; omega
      go_upto_region 5 with fail
      refine anyJ_begin 8 (fun W => KeepM gz w3 W) (by kernel_rfl) ((KeepM.refl _ _).drew) (fun hHeld => ?_)
      refine take (i := 0) (d := some 24) (v := .int .i64 k) (by kernel_rfl) rfl rfl rfl (fun _ _ _ h => h) hHeld (fun W hSw => by go_simp) ?_
      simp only [Act.put, List.setIfInBounds_toArray, List.set_cons_zero, List.set_cons_succ]
      refine take (i := 1) (d := some 25) (v := .agg #[.int .i64 0, .int .i64 k, .slice none 0 0]) (by kernel_rfl) rfl rfl rfl (fun _ _ _ h => h) hHeld (fun W hSw => by go_simp) ?_
      simp only [Act.put, List.setIfInBounds_toArray, List.set_cons_zero, List.set_cons_succ]
      refine take (i := 2) (d := some 26) (v := .pointer (some ⟨g, 0, none⟩)) (by kernel_rfl) rfl rfl rfl (fun _ _ _ h => h) hHeld (fun W hSw => by go_simp) ?_
      simp only [Act.put, List.setIfInBounds_toArray, List.set_cons_zero, List.set_cons_succ]
      refine take (i := 3) (d := some 27) (v := .pointer (some ⟨g, 0, none⟩)) (by kernel_rfl) rfl rfl rfl (fun _ _ _ h => h) hHeld (fun W hSw => by go_simp) ?_
      simp only [Act.put, List.setIfInBounds_toArray, List.set_cons_zero, List.set_cons_succ]
      refine take (i := 4) (d := some 28) (v := .pointer (some ⟨g, 1, none⟩)) (by kernel_rfl) rfl rfl rfl (fun _ _ _ h => h) hHeld (fun W hSw => by go_simp) ?_
      simp only [Act.put, List.setIfInBounds_toArray, List.set_cons_zero, List.set_cons_succ]
      refine take (i := 5) (d := some 29) (v := .int .i64 (m + 1 : Nat)) (by kernel_rfl) rfl rfl rfl (fun _ _ _ h => h) hHeld (fun W hSw => by have x := cell_keepM c1 hSw hgn; go_simp) ?_
      simp only [Act.put, List.setIfInBounds_toArray, List.set_cons_zero, List.set_cons_succ]
      refine take (i := 6) (d := some 30) (v := .bool true) (by kernel_rfl) rfl rfl rfl (fun _ _ _ h => h) hHeld (fun W hSw => by go_simp; omega) ?_
      simp only [Act.put, List.setIfInBounds_toArray, List.set_cons_zero, List.set_cons_succ]
      refine anyJ_only (i := 7) (d := none) (by kernel_rfl) rfl rfl rfl (fun K' hK => ?_)
      refine wp_store_row 31 (.tmp 2) (.tmp 25) rfl gz #[.int .i64 0, .int .i64 k, .slice none 0 0] rfl rfl 31 _ (z3.drew) (by kernel_rfl) rfl (by simp [Value.oneCell']) (hK.out _ _ (fun _ => (KeepM.refl gz w3).drew.ownRow _) (fun hHeld => ?_))
      have hHeld := hHeld (by decide)
      refine anyJ_only (i := 8) (d := some 3) (by kernel_rfl) rfl rfl rfl (fun K' hK => ?_)
      refine wp_val (w' := w3.drew.setRow gz #[.int .i64 0, .int .i64 k, .slice none 0 0]) (v := .bool true) (by go_simp) (hK.out _ _ (fun h => absurd rfl h) (fun _ => ?_))
      simp only [Act.put, List.setIfInBounds_toArray, List.set_cons_zero, List.set_cons_succ]
      refine anyJ_done (by kernel_rfl) ?_ _
      have z4 : BlkIs (w3.drew.setRow gz #[.int .i64 0, .int .i64 k, .slice none 0 0]) gz 31 #[.int .i64 0, .int .i64 k, .slice none 0 0] := setRow_heap _ _ _ _ _ _ z3.drew
      go_wp2_with fail
      refine bodyPost_ret (v := .tuple #[.agg #[.int .i64 0, .int .i64 k, .slice none 0 0], .bool true]) (by simp [results, Tryd.results58, go_sem, z4.cell]) rfl ?_
      refine ⟨none, 0, rfl, rep_leaf, ?_, ?_⟩
      · exact k3.drew.setRow (Nat.le_of_eq hgz.out) _
      · exact (setRow_other _ gz g _ hgn).trans r3
    · rw [if_neg hm8] at h; cases h
  · skip
    rw [if_neg hnt] at h
    by_cases hbad : opT (s.take (wordLen s)) = 0 ∨ 8 < m + 1
    · rw [if_pos hbad] at h; cases h
    rw [if_neg hbad] at h
    have hop1 := opT_in (s.take (wordLen s))
    cases hks : rdKids rd (arityOf (opT (s.take (wordLen s)))).toNat 0 (s.drop (wordLen s)) (m + 1) with
    | none => rw [hks] at h; cases h
    | some r =>
      obtain ⟨ps, s3, m3⟩ := r
      rw [hks] at h
      have hsd : (s.drop (wordLen s)).length ≤ s.length := by rw [List.length_drop]; omega
      have hbnd := rdKids_in ih _ _ _ _ _ _ _ hks (by omega) (by omega)
      obtain ⟨hpl, hs3, hm3⟩ := hbnd
      obtain ⟨n, hn⟩ : ∃ x, Hid ((arityOf (opT (s.take (wordLen s)))).toNat = x) := ⟨_, Lib.hid rfl⟩
      have hkn : kidsOf (opT (s.take (wordLen s))) = n := by
        rw [← hn.out]
        exact kids_arity2 _ (by omega) (by omega)
      have hn2 : n ≤ 2 := by rw [← hn.out]; exact arity_le2 _
      have hend : s2.length ≤ s3.length ∧ m2 = m3 := by
        simp only at h
        split at h
        · injection h with h; injection h with _ h; injection h with h1 h2; subst h1 h2; exact ⟨Nat.le_refl _, rfl⟩
        · split at h
          · injection h with h; injection h with _ h; injection h with h1 h2; subst h1 h2; exact ⟨by rw [List.length_drop]; omega, rfl⟩
          · cases h
      refine ⟨by omega, by omega, fun g w hr => ?_⟩
      have hw := fun W => word_any g s (m + 1 : Nat) hs W
      have hnw := fun W => ntW_any (s.take (wordLen s)) W
      have how := fun W => opW_any (s.take (wordLen s)) W
      obtain ⟨nv, hnv⟩ : ∃ x, Hid (ntT (s.take (wordLen s)) = x) := ⟨_, Lib.hid rfl⟩
      obtain ⟨op, hop⟩ : ∃ x, Hid (opT (s.take (wordLen s)) = x) := ⟨_, Lib.hid rfl⟩
      obtain ⟨x, hx⟩ : ∃ x, Hid (s.take (wordLen s) = x) := ⟨_, Lib.hid rfl⟩
      obtain ⟨y, hy⟩ : ∃ x, Hid (s.drop (wordLen s) = x) := ⟨_, Lib.hid rfl⟩
      rw [hnv.out] at hnw hnt
      rw [hop.out] at how hop1 hkn hbad h
      rw [hx.out] at hnw how hw
      rw [hy.out] at hw hks hsd
      rw [hn.out] at hks hpl
      have c4 := kidsR_any op
      rw [hkn] at c4
      have HKS := Lib.hid hks
      have HH := Lib.hid h
      have c1 : w.cell? ⟨g, 1, none⟩ = some (.int .i64 m) := BlkIs.cell hr 1
      have f1 := BlkIs.frozen hr 1
      have hl : g < w.heap.size := BlkIs.lt hr
      have hop0 : (op == 0) = false := by simp; omega
      have hm8 : ¬ 8 < m + 1 := by omega
      clear hks h
      go_enter Tryd.func58, Tryd.ntmps58
      go_wp2_with fail
      have r1 : RdIs ((w.setCell ⟨g, 1, none⟩ (.int .i64 (m + 1 : Nat))).alloc (.cells #[.int .i64 0, .int .i64 0, .slice none 0 0] 31)) g s (m + 1 : Nat) := BlkIs.alloc (RdIs.putM hr) _
      have z1 : BlkIs ((w.setCell ⟨g, 1, none⟩ (.int .i64 (m + 1 : Nat))).alloc (.cells #[.int .i64 0, .int .i64 0, .slice none 0 0] 31)) w.heap.size 31 #[.int .i64 0, .int .i64 0, .slice none 0 0] := BlkIs.fresh_at (by simp [World.setCell])
      have k1 : KeepM g w ((w.setCell ⟨g, 1, none⟩ (.int .i64 (m + 1 : Nat))).alloc (.cells #[.int .i64 0, .int .i64 0, .slice none 0 0] 31)) := ((KeepM.refl g w).own 1 _).alloc _
      refine (hw _ r1).mono ?_
      rintro e w2 ⟨rfl, hw2⟩
      have r2 : RdIs w2 g y (m + 1 : Nat) := by rw [← hw2]; exact r1.putS
      have z2 : BlkIs w2 w.heap.size 31 #[.int .i64 0, .int .i64 0, .slice none 0 0] := by rw [← hw2]; exact z1.far (by simp; omega) _
      have k2 : KeepM g w w2 := by rw [← hw2]; exact k1.own 0 _
      clear hw2 r1 z1 k1 hw c1 f1
      go_wp2_with fail
      refine (hnw w2).mono ?_
      rintro e w3 ⟨rfl, hb3⟩
      have r3 : RdIs w3 g y (m + 1 : Nat) := BlkIs.below r2 hb3 (BlkIs.lt r2)
      have z3 : BlkIs w3 w.heap.size 31 #[.int .i64 0, .int .i64 0, .slice none 0 0] := z2.below hb3 z2.lt
      have k3 : KeepM g w w3 := k2.trans (KeepM.of hb3)
      clear r2 z2 k2 hb3 hnw
      go_wp2_with fail
      refine (how w3).mono ?_
      rintro e w4 ⟨rfl, hb4⟩
      have r4 : RdIs w4 g y (m + 1 : Nat) := BlkIs.below r3 hb4 (BlkIs.lt r3)
      have z4 : BlkIs w4 w.heap.size 31 #[.int .i64 0, .int .i64 0, .slice none 0 0] := z3.below hb4 z3.lt
      have k4 : KeepM g w w4 := k3.trans (KeepM.of hb4)
      clear r3 z3 k3 hb4 how
      obtain ⟨gz, hgz⟩ : ∃ x, Hid (w.heap.size = x) := ⟨_, Lib.hid rfl⟩
      have hzw := hgz.out
      rw [hzw] at z4 ⊢
      have hgn : g ≠ gz := by omega
      have hl4 : g < w4.heap.size := BlkIs.lt r4
      go_upto_region 7 with fail
      obtain ⟨g6, hg6⟩ : ∃ x, Hid (w4.heap.size = x) := ⟨_, Lib.hid rfl⟩
      obtain ⟨w5, hw5⟩ : ∃ W, W = w4.alloc (.cells #[.int .i64 op, .int .i64 0, .slice none 0 0] 31) := ⟨_, rfl⟩
      have p5 : BlkIs w5 g6 31 #[.int .i64 op, .int .i64 0, .slice none 0 0] := by rw [hw5]; exact BlkIs.fresh_at hg6.out.symm
      have r5 : RdIs w5 g y (m + 1 : Nat) := by rw [hw5]; exact BlkIs.alloc r4 _
      have z5 : BlkIs w5 gz 31 #[.int .i64 0, .int .i64 0, .slice none 0 0] := by rw [hw5]; exact z4.alloc _
      have k5 : KeepM g w w5 := by rw [hw5]; exact k4.alloc _
      have hgz6 : gz < g6 := by rw [← hg6.out]; exact z4.lt
      have hg6g : g < g6 := by omega
      rw [hg6.out, ← hw5]
      clear hw5 r4 z4 k4
      have c1 : w5.cell? ⟨g, 1, none⟩ = some (.int .i64 (m + 1 : Nat)) := BlkIs.cell r5 1
      have p0 : w5.cell? ⟨g6, 0, none⟩ = some (.int .i64 op) := p5.cell 0
      go_wp2_with fail
      go_loopw [7] (fun i wr => ∃ (k : Nat) (done todo : List Pat) (sk : List UInt8) (mk : Nat) (v : Value), k ≤ n ∧ i = .int .i64 k ∧ Hid (ps = done ++ todo) ∧ done.length = k ∧ Hid (rdKids rd (n - k) k sk mk = some (todo, s3, m3)) ∧ sk.length ≤ 1000000 ∧ mk ≤ 1000 ∧ RdIs wr g sk mk ∧ BlkIs wr gz 31 #[.int .i64 0, .int .i64 0, .slice none 0 0] ∧ BlkIs wr g6 31 #[.int .i64 op, .int .i64 0, v] ∧ Hid (Own wr (g6 + 1) (fun q => g6 + 1 ≤ q) 31 3 v (done.map encP)) ∧ KeepM g w wr) (fun i _ => n - (intOf i).toNat)
      case atStart => exact ⟨0, [], ps, y, m + 1, .slice none 0 0, by omega, rfl, Lib.hid rfl, rfl, HKS, by omega, by omega, r5, z5, p5, Lib.hid (Own.nil _ _ _ _ _), k5⟩
      case round =>
        obtain ⟨k, done, todo, sk, mk, v, hk, rfl, hps, hdl, hrk, hsl, hml, hR, hZ, hP6, hown, hkm⟩ := hrel
        obtain ⟨wo, rfl⟩ : ∃ wo : World, wo = wr := ⟨_, rfl⟩
        clear r5 z5 p5 k5 c1 p0
        have p0 : wo.cell? ⟨g6, 0, none⟩ = some (.int .i64 op) := hP6.cell 0
        have p1 : wo.cell? ⟨g6, 1, none⟩ = some (.int .i64 0) := hP6.cell 1
        have p2 : wo.cell? ⟨g6, 2, none⟩ = some v := hP6.cell 2
        have hlz : gz < wo.heap.size := hZ.lt
        have hl6 : g6 < wo.heap.size := hP6.lt
        by_cases hlt : k < n
        · obtain ⟨j, hj⟩ : ∃ j, n - k = j + 1 := ⟨n - k - 1, by omega⟩
          have h1 := hrk.out
          rw [hj] at h1
          obtain ⟨p, sa, ma, ps', hst, hp, hq, htd⟩ := rdKids_step h1
          obtain ⟨hsa, hma, hcall⟩ := ih _ _ _ _ _ hp (by rw [List.length_drop]; omega) hml
          have HQ : Hid (rdKids rd (n - (k + 1)) (k + 1) sa ma = some (ps', s3, m3)) := Lib.hid (by rw [show n - (k + 1) = j by omega]; exact hq)
          have hdlen : (done.map encP).length ≤ 1000000000 := by rw [List.length_map]; omega
          rw [List.length_drop] at hsa
          subst htd
          clear h1 hp hq
          by_cases hk0 : k = 0
          · subst hk0
            rw [if_pos rfl] at hst hcall hsa
            have hpass := fun W' h => passes_any g sk [40] mk hsl (by decide) W' h
            rw [hst] at hpass
            simp only [if_true, List.length_cons, List.length_nil, Nat.zero_add] at hpass
            go_wp2_with (go_at_call 104; refine (c4 _).mono ?_; rintro e w' ⟨rfl, rfl⟩)
            refine (hpass _ hR).mono ?_
            rintro e w6 ⟨rfl, hw6⟩
            have R6 : RdIs w6 g (sk.drop 1) mk := by rw [← hw6]; exact hR.putS
            have Z6 : BlkIs w6 gz 31 #[.int .i64 0, .int .i64 0, .slice none 0 0] := by rw [← hw6]; exact hZ.far (by simp; omega) _
            have P6 : BlkIs w6 g6 31 #[.int .i64 op, .int .i64 0, v] := by rw [← hw6]; exact hP6.far (by simp; omega) _
            have O6 : Hid (Own w6 (g6 + 1) (fun q => g6 + 1 ≤ q) 31 3 v (done.map encP)) := Lib.hid (by rw [← hw6]; exact Own.far hown.out (fun q h => h) (fun q hq _ => heap_setCell_other _ _ _ _ (by simp; omega)))
            have K6 : KeepM g w w6 := by rw [← hw6]; exact hkm.own 0 _
            have hl6 : g6 < w6.heap.size := P6.lt
            clear hw6 p0 p1 p2 hpass
            go_wp2_with fail
            refine (hcall g w6 R6).mono ?_
            rintro e w7 ⟨A5, d5, rfl, hrep5, hk5, R7⟩
            have Z7 := Z6.keepM hk5 (by omega)
            have P7 := P6.keepM hk5 (by omega)
            have O7 := O6.out.keepM hk5 (by omega) (fun q h => h)
            have K7 := K6.trans hk5
            have hz67 := hk5.size
            have hvf : ∀ q, w6.heap.size ≤ q → some q ≠ v.ownBlock := fun q hq => O6.out.ne_far hq
            have HR5 : Hid (Rep w7 (fun q => g6 + 1 ≤ q ∧ some q ≠ v.ownBlock) (encP p) [.int .i64 p.op, .int .i64 p.nt, .slice A5 p.kids.length d5]) := Lib.hid (hrep5.imp (fun q hq _ => ⟨by omega, hvf q hq⟩))
            have HO7 := Lib.hid O7
            have p2 : w7.cell? ⟨g6, 2, none⟩ = some v := P7.cell 2
            have hl7 : g6 < w7.heap.size := P7.lt
            clear hcall hrep5 O7
            go_wp2_with (at_builtin; go_must (refine append_one rfl (.tmp 68) (.tmp 70) 29 31 3 40 _ rfl Tryd.underlying29 pat_info rfl (by decide) (by decide) (g6 + 1) (fun q => g6 + 1 ≤ q) v (done.map encP) rfl (w7.heap.size + 1) rfl ((HO7.out.alloc _).alloc _) [.int .i64 p.op, .int .i64 p.nt, .slice A5 p.kids.length d5] (encP p) (BlkIs.fresh1 _ _ _ _) rfl (by simp [Value.oneCell']) ((HR5.out.alloc _).alloc _) hdlen (by simp; omega) ?_); intro v2 w8 hown2 hb2 hk2; obtain ⟨A8, d8, rfl, _⟩ := hown2.rep.len; obtain ⟨L8, hL8⟩ : ∃ x, Hid ((done.map encP ++ [encP p]).length = x) := ⟨_, Lib.hid rfl⟩; rw [hL8.out] at hown2 ⊢; have P8 := ((P7.alloc _).alloc _).below hb2 (by omega); have q2 := P8.cell 2; have q3 := P8.frozen 2; have q4 := P8.lt)
            go_roundw
            case rel =>
              refine ⟨0 + 1, done ++ [p], ps', sa, ma, .slice A8 L8 d8, by omega, by go_num, Lib.hid (by rw [hps.out]; simp), by simp [hdl], HQ, by omega, hma, ?_, ?_, ?_, ?_, ?_⟩
              · exact BlkIs.far (BlkIs.below ((BlkIs.alloc (BlkIs.alloc R7 _) _)) hb2 (by omega)) (by simp; omega) _
              · exact (((Z7.alloc _).alloc _).below hb2 (by omega)).far (by simp; omega) _
              · exact P8.put 2 _
              · exact Lib.hid (by
                  rw [List.map_append]
                  exact Own.far hown2 (fun q h => h) (fun q hq _ => heap_setCell_other _ _ _ _ (by simp; omega)))
              · have hsz := hb2.size
                simp at hsz
                refine KeepM.setCell ⟨hb2.os.trans K7.os, hb2.tape.trans K7.tape, hb2.output.trans K7.output, by have := K7.size; omega, fun q hq hl => (hb2.block q (by omega)).trans (((K7.alloc _).alloc _).block q hq hl)⟩ (by simp; omega) _
            case measure => simp [intOf]; omega
          · have hk0e : ((k : Int) == 0) = false := by simp; omega
            rw [if_neg hk0] at hst hcall hsa
            have hpass := fun W' h => passes_any g sk [44, 32] mk hsl (by decide) W' h
            rw [hst] at hpass
            simp only [if_true, List.length_cons, List.length_nil, Nat.zero_add, Nat.reduceAdd] at hpass
            go_wp2_with (go_at_call 104; refine (c4 _).mono ?_; rintro e w' ⟨rfl, rfl⟩)
            refine (hpass _ hR).mono ?_
            rintro e w6 ⟨rfl, hw6⟩
            have R6 : RdIs w6 g (sk.drop 2) mk := by rw [← hw6]; exact hR.putS
            have Z6 : BlkIs w6 gz 31 #[.int .i64 0, .int .i64 0, .slice none 0 0] := by rw [← hw6]; exact hZ.far (by simp; omega) _
            have P6 : BlkIs w6 g6 31 #[.int .i64 op, .int .i64 0, v] := by rw [← hw6]; exact hP6.far (by simp; omega) _
            have O6 : Hid (Own w6 (g6 + 1) (fun q => g6 + 1 ≤ q) 31 3 v (done.map encP)) := Lib.hid (by rw [← hw6]; exact Own.far hown.out (fun q h => h) (fun q hq _ => heap_setCell_other _ _ _ _ (by simp; omega)))
            have K6 : KeepM g w w6 := by rw [← hw6]; exact hkm.own 0 _
            have hl6 : g6 < w6.heap.size := P6.lt
            clear hw6 p0 p1 p2 hpass
            go_wp2_with fail
            refine (hcall g w6 R6).mono ?_
            rintro e w7 ⟨A5, d5, rfl, hrep5, hk5, R7⟩
            have Z7 := Z6.keepM hk5 (by omega)
            have P7 := P6.keepM hk5 (by omega)
            have O7 := O6.out.keepM hk5 (by omega) (fun q h => h)
            have K7 := K6.trans hk5
            have hz67 := hk5.size
            have hvf : ∀ q, w6.heap.size ≤ q → some q ≠ v.ownBlock := fun q hq => O6.out.ne_far hq
            have HR5 : Hid (Rep w7 (fun q => g6 + 1 ≤ q ∧ some q ≠ v.ownBlock) (encP p) [.int .i64 p.op, .int .i64 p.nt, .slice A5 p.kids.length d5]) := Lib.hid (hrep5.imp (fun q hq _ => ⟨by omega, hvf q hq⟩))
            have HO7 := Lib.hid O7
            have p2 : w7.cell? ⟨g6, 2, none⟩ = some v := P7.cell 2
            have hl7 : g6 < w7.heap.size := P7.lt
            clear hcall hrep5 O7
            go_wp2_with (at_builtin; go_must (refine append_one rfl (.tmp 68) (.tmp 70) 29 31 3 40 _ rfl Tryd.underlying29 pat_info rfl (by decide) (by decide) (g6 + 1) (fun q => g6 + 1 ≤ q) v (done.map encP) rfl (w7.heap.size + 1) rfl ((HO7.out.alloc _).alloc _) [.int .i64 p.op, .int .i64 p.nt, .slice A5 p.kids.length d5] (encP p) (BlkIs.fresh1 _ _ _ _) rfl (by simp [Value.oneCell']) ((HR5.out.alloc _).alloc _) hdlen (by simp; omega) ?_); intro v2 w8 hown2 hb2 hk2; obtain ⟨A8, d8, rfl, _⟩ := hown2.rep.len; obtain ⟨L8, hL8⟩ : ∃ x, Hid ((done.map encP ++ [encP p]).length = x) := ⟨_, Lib.hid rfl⟩; rw [hL8.out] at hown2 ⊢; have P8 := ((P7.alloc _).alloc _).below hb2 (by omega); have q2 := P8.cell 2; have q3 := P8.frozen 2; have q4 := P8.lt)
            go_roundw
            case rel =>
              refine ⟨k + 1, done ++ [p], ps', sa, ma, .slice A8 L8 d8, by omega, by go_num, Lib.hid (by rw [hps.out]; simp), by simp [hdl], HQ, by omega, hma, ?_, ?_, ?_, ?_, ?_⟩
              · exact BlkIs.far (BlkIs.below ((BlkIs.alloc (BlkIs.alloc R7 _) _)) hb2 (by omega)) (by simp; omega) _
              · exact (((Z7.alloc _).alloc _).below hb2 (by omega)).far (by simp; omega) _
              · exact P8.put 2 _
              · exact Lib.hid (by
                  rw [List.map_append]
                  exact Own.far hown2 (fun q h => h) (fun q hq _ => heap_setCell_other _ _ _ _ (by simp; omega)))
              · have hsz := hb2.size
                simp at hsz
                refine KeepM.setCell ⟨hb2.os.trans K7.os, hb2.tape.trans K7.tape, hb2.output.trans K7.output, by have := K7.size; omega, fun q hq hl => (hb2.block q (by omega)).trans (((K7.alloc _).alloc _).block q hq hl)⟩ (by simp; omega) _
            case measure => simp [intOf]; omega
        · have hkn2 : k = n := by omega
          have h1 := hrk.out
          rw [show n - k = 0 by omega] at h1
          unfold rdKids at h1
          injection h1 with h1
          injection h1 with h2 h1
          injection h1 with h3 h4
          subst h2 h3 h4
          have hps2 := hps.out
          rw [List.append_nil] at hps2
          subst hps2
          obtain ⟨A6, d6, rfl, _⟩ := hown.out.rep.len
          rw [List.length_map] at p2 hP6 hown
          have HO := Lib.hid hown.out.rep
          have hhh := HH.out
          obtain ⟨L, hL⟩ : ∃ x, Hid (ps.length = x) := ⟨_, Lib.hid rfl⟩
          rw [hL.out] at p2 hP6
          have hLn : L = n := by rw [← hL.out]; exact hpl
          clear hown
          have hfin : ∀ (W : World), RdIs W g s2 m2 → KeepM g w W → BlkIs W gz 31 #[.int .i64 op, .int .i64 0, .slice A6 L d6] → Rep W (fun q => g6 + 1 ≤ q ∨ g6 + 1 ≤ q) (.lst 3 (ps.map encP)) [.slice A6 L d6] → p = .mk op 0 ps →
              ∃ A d, Ending.returned (.tuple #[.agg #[.int .i64 op, .int .i64 0, .slice A6 L d6], .bool true]) = .returned (.tuple #[.agg #[.int .i64 p.op, .int .i64 p.nt, .slice A p.kids.length d], .bool true]) ∧ Rep W (fun k => w.heap.size ≤ k) (encP p) [.int .i64 p.op, .int .i64 p.nt, .slice A p.kids.length d] ∧ KeepM g w W ∧ RdIs W g s2 m2 := by
            rintro W h1 h2 h3 h4 rfl
            refine ⟨A6, d6, by rw [← hL.out]; rfl, ?_, h2, h1⟩
            rw [← hL.out] at h4
            exact rep_pat_mk (p := .mk op 0 ps) (h4.imp (fun q hq _ => by omega))
          by_cases hL0 : L = 0
          · rw [if_pos (by rw [hL.out]; exact hL0)] at hhh
            injection hhh with hhh
            injection hhh with hh1 hhh
            injection hhh with hh2 hh3
            subst hh2 hh3
            have hL0' : ((L : Int) == 0) = true := by simp; omega
            have hn0 : n = 0 := by omega
            go_upto_region 21 with (go_at_call 104; refine (c4 _).mono ?_; rintro e w' ⟨rfl, rfl⟩)
            refine anyJ_begin 10 (fun W => BlkIs W g6 31 #[.int .i64 op, .int .i64 0, .slice A6 L d6]) (by kernel_rfl) (hP6.drew) (fun hHeld => ?_)
            refine take (i := 0) (d := some 73) (v := .agg #[.int .i64 op, .int .i64 0, .slice A6 L d6]) (by kernel_rfl) rfl rfl rfl (fun _ _ _ h => h) hHeld (fun W hSw => by have x0 : W.cell? ⟨g6, 0, none⟩ = some (.int .i64 op) := BlkIs.cell hSw 0; have x1 : W.cell? ⟨g6, 1, none⟩ = some (.int .i64 0) := BlkIs.cell hSw 1; have x2 : W.cell? ⟨g6, 2, none⟩ = some (.slice A6 L d6) := BlkIs.cell hSw 2; go_simp) ?_
            simp only [Act.put, List.setIfInBounds_toArray, List.set_cons_zero, List.set_cons_succ]
            refine take (i := 1) (d := some 74) (v := .pointer (some ⟨g6, 2, none⟩)) (by kernel_rfl) rfl rfl rfl (fun _ _ _ h => h) hHeld (fun W hSw => by go_simp) ?_
            simp only [Act.put, List.setIfInBounds_toArray, List.set_cons_zero, List.set_cons_succ]
            refine take (i := 2) (d := some 75) (v := .slice A6 L d6) (by kernel_rfl) rfl rfl rfl (fun _ _ _ h => h) hHeld (fun W hSw => by have x2 : W.cell? ⟨g6, 2, none⟩ = some (.slice A6 L d6) := BlkIs.cell hSw 2; go_simp) ?_
            simp only [Act.put, List.setIfInBounds_toArray, List.set_cons_zero, List.set_cons_succ]
            refine take (i := 3) (d := some 76) (v := .int .i64 L) (by kernel_rfl) rfl rfl rfl (fun _ _ _ h => h) hHeld (fun W hSw => by go_simp) ?_
            simp only [Act.put, List.setIfInBounds_toArray, List.set_cons_zero, List.set_cons_succ]
            refine take (i := 4) (d := some 77) (v := .bool true) (by kernel_rfl) rfl rfl rfl (fun _ _ _ h => h) hHeld (fun W hSw => by go_simp) ?_
            simp only [Act.put, List.setIfInBounds_toArray, List.set_cons_zero, List.set_cons_succ]
            refine take (i := 5) (d := some 78) (v := .bool true) (by kernel_rfl) rfl rfl rfl (fun _ _ _ h => h) hHeld (fun W hSw => by go_simp) ?_
            simp only [Act.put, List.setIfInBounds_toArray, List.set_cons_zero, List.set_cons_succ]
            refine takeSkip (i := 6) (d := some 79) (by kernel_rfl) rfl rfl rfl (fun _ _ _ h => h) hHeld ?_
            simp only [Act.put, List.setIfInBounds_toArray, List.set_cons_zero, List.set_cons_succ]
            refine takeSkip (i := 7) (d := some 80) (by kernel_rfl) rfl rfl rfl (fun _ _ _ h => h) hHeld ?_
            simp only [Act.put, List.setIfInBounds_toArray, List.set_cons_zero, List.set_cons_succ]
            refine take (i := 8) (d := some 81) (v := .bool true) (by kernel_rfl) rfl rfl rfl (fun _ _ _ h => h) hHeld (fun W hSw => by go_simp) ?_
            simp only [Act.put, List.setIfInBounds_toArray, List.set_cons_zero, List.set_cons_succ]
            refine anyJ_only (i := 9) (d := none) (by kernel_rfl) rfl rfl rfl (fun K' hK => ?_)
            refine wp_store_row 31 (.tmp 2) (.tmp 73) rfl gz #[.int .i64 op, .int .i64 0, .slice A6 L d6] rfl rfl 31 _ (hZ.drew) (by kernel_rfl) rfl (by simp [Value.oneCell']) (hK.out _ _ (fun _ => (setRow_other _ gz g6 _ (by omega)).trans hP6) (fun hHeld => ?_))
            have hHeld := hHeld (by decide)
            refine anyJ_only (i := 10) (d := some 3) (by kernel_rfl) rfl rfl rfl (fun K' hK => ?_)
            refine wp_val (w' := wo.drew.setRow gz #[.int .i64 op, .int .i64 0, .slice A6 L d6]) (v := .bool true) (by go_simp) (hK.out _ _ (fun h => absurd rfl h) (fun _ => ?_))
            simp only [Act.put, List.setIfInBounds_toArray, List.set_cons_zero, List.set_cons_succ]
            refine anyJ_done (by kernel_rfl) ?_ _
            have z6 : BlkIs (wo.drew.setRow gz #[.int .i64 op, .int .i64 0, .slice A6 L d6]) gz 31 #[.int .i64 op, .int .i64 0, .slice A6 L d6] := setRow_heap _ _ _ _ _ _ hZ.drew
            go_wp2_with fail
            refine bodyPost_ret (v := .tuple #[.agg #[.int .i64 op, .int .i64 0, .slice A6 L d6], .bool true]) (by simp [results, Tryd.results58, go_sem, z6.cell]) rfl ?_
            refine hfin _ ((setRow_other _ gz g _ hgn).trans hR) (hkm.drew.setRow (by omega) _) z6 ?_ hh1.symm
            have HO2 := HO.out
            rw [hL.out] at HO2
            exact Rep.keep (w := wo.drew) (fun q h _ => h) (fun q hq _ => setRow_other _ gz q _ (by omega)) _ _ HO2.drew
          · rw [if_neg (by rw [hL.out]; exact hL0)] at hhh
            by_cases hst : startsB sk [41] = true
            · rw [if_pos hst] at hhh
              injection hhh with hhh
              injection hhh with hh1 hhh
              injection hhh with hh2 hh3
              subst hh2 hh3
              have hL0' : ((L : Int) == 0) = false := by simp; omega
              have hn0 : ¬ n = 0 := by omega
              have hpass := fun W' h => passes_any g sk [41] mk hsl (by decide) W' h
              rw [hst] at hpass
              simp only [if_true, List.length_cons, List.length_nil, Nat.zero_add] at hpass
              go_upto_region 21 with (go_at_call 104; refine (c4 _).mono ?_; rintro e w' ⟨rfl, rfl⟩)
              refine anyJ_begin 10 (fun W => BlkIs W g6 31 #[.int .i64 op, .int .i64 0, .slice A6 L d6]) (by kernel_rfl) (hP6.drew) (fun hHeld => ?_)
              refine take (i := 0) (d := some 73) (v := .agg #[.int .i64 op, .int .i64 0, .slice A6 L d6]) (by kernel_rfl) rfl rfl rfl (fun _ _ _ h => h) hHeld (fun W hSw => by have x0 : W.cell? ⟨g6, 0, none⟩ = some (.int .i64 op) := BlkIs.cell hSw 0; have x1 : W.cell? ⟨g6, 1, none⟩ = some (.int .i64 0) := BlkIs.cell hSw 1; have x2 : W.cell? ⟨g6, 2, none⟩ = some (.slice A6 L d6) := BlkIs.cell hSw 2; go_simp) ?_
              simp only [Act.put, List.setIfInBounds_toArray, List.set_cons_zero, List.set_cons_succ]
              refine take (i := 1) (d := some 74) (v := .pointer (some ⟨g6, 2, none⟩)) (by kernel_rfl) rfl rfl rfl (fun _ _ _ h => h) hHeld (fun W hSw => by go_simp) ?_
              simp only [Act.put, List.setIfInBounds_toArray, List.set_cons_zero, List.set_cons_succ]
              refine take (i := 2) (d := some 75) (v := .slice A6 L d6) (by kernel_rfl) rfl rfl rfl (fun _ _ _ h => h) hHeld (fun W hSw => by have x2 : W.cell? ⟨g6, 2, none⟩ = some (.slice A6 L d6) := BlkIs.cell hSw 2; go_simp) ?_
              simp only [Act.put, List.setIfInBounds_toArray, List.set_cons_zero, List.set_cons_succ]
              refine take (i := 3) (d := some 76) (v := .int .i64 L) (by kernel_rfl) rfl rfl rfl (fun _ _ _ h => h) hHeld (fun W hSw => by go_simp) ?_
              simp only [Act.put, List.setIfInBounds_toArray, List.set_cons_zero, List.set_cons_succ]
              refine take (i := 4) (d := some 77) (v := .bool false) (by kernel_rfl) rfl rfl rfl (fun _ _ _ h => h) hHeld (fun W hSw => by go_simp) ?_
              simp only [Act.put, List.setIfInBounds_toArray, List.set_cons_zero, List.set_cons_succ]
              refine take (i := 5) (d := some 78) (v := .bool false) (by kernel_rfl) rfl rfl rfl (fun _ _ _ h => h) hHeld (fun W hSw => by go_simp) ?_
              simp only [Act.put, List.setIfInBounds_toArray, List.set_cons_zero, List.set_cons_succ]
              refine take (i := 6) (d := some 79) (v := .pointer (some ⟨g, 0, none⟩)) (by kernel_rfl) rfl rfl rfl (fun _ _ _ h => h) hHeld (fun W hSw => by go_simp) ?_
              simp only [Act.put, List.setIfInBounds_toArray, List.set_cons_zero, List.set_cons_succ]
              refine anyJ_only (i := 7) (d := some 80) (by kernel_rfl) rfl rfl rfl (fun K' hK => ?_)
              refine wp_go_call 105 _ _ rfl #[.pointer (some ⟨g, 0, none⟩), .string ⟨#[41]⟩] rfl (fun W => by go_simp) (hpass _ (BlkIs.drew hR)) (fun e w7 he => ?_)
              obtain ⟨rfl, hw7⟩ := he
              have R7 : RdIs w7 g (sk.drop 1) mk := by rw [← hw7]; exact RdIs.putS (BlkIs.drew hR)
              have Z7 : BlkIs w7 gz 31 #[.int .i64 0, .int .i64 0, .slice none 0 0] := by rw [← hw7]; exact (hZ.drew).far (by simp; omega) _
              have P7 : BlkIs w7 g6 31 #[.int .i64 op, .int .i64 0, .slice A6 L d6] := by rw [← hw7]; exact (hP6.drew).far (by simp; omega) _
              have K7 : KeepM g w w7 := by rw [← hw7]; exact hkm.drew.own 0 _
              have H7 : Rep w7 (fun q => g6 + 1 ≤ q ∨ g6 + 1 ≤ q) (.lst 3 (ps.map encP)) [.slice A6 L d6] := by
                have HO2 := HO.out
                rw [hL.out] at HO2
                rw [← hw7]
                exact Rep.setCell HO2.drew (fun q hq => by simp; omega)
              clear hw7
              refine ⟨_, rfl, hK.out _ _ (fun _ => P7) (fun hHeld => ?_)⟩
              have hHeld := hHeld (by decide)
              simp only [Act.put, List.setIfInBounds_toArray, List.set_cons_zero, List.set_cons_succ]
              refine take (i := 8) (d := some 81) (v := .bool true) (by kernel_rfl) rfl rfl rfl (fun _ _ _ h => h) hHeld (fun W hSw => by go_simp) ?_
              simp only [Act.put, List.setIfInBounds_toArray, List.set_cons_zero, List.set_cons_succ]
              refine anyJ_only (i := 9) (d := none) (by kernel_rfl) rfl rfl rfl (fun K' hK => ?_)
              refine wp_store_row 31 (.tmp 2) (.tmp 73) rfl gz #[.int .i64 op, .int .i64 0, .slice A6 L d6] rfl rfl 31 _ Z7 (by kernel_rfl) rfl (by simp [Value.oneCell']) (hK.out _ _ (fun _ => (setRow_other _ gz g6 _ (by omega)).trans P7) (fun hHeld => ?_))
              have hHeld := hHeld (by decide)
              refine anyJ_only (i := 10) (d := some 3) (by kernel_rfl) rfl rfl rfl (fun K' hK => ?_)
              refine wp_val (w' := w7.setRow gz #[.int .i64 op, .int .i64 0, .slice A6 L d6]) (v := .bool true) (by go_simp) (hK.out _ _ (fun h => absurd rfl h) (fun _ => ?_))
              simp only [Act.put, List.setIfInBounds_toArray, List.set_cons_zero, List.set_cons_succ]
              refine anyJ_done (by kernel_rfl) ?_ _
              have z6 : BlkIs (w7.setRow gz #[.int .i64 op, .int .i64 0, .slice A6 L d6]) gz 31 #[.int .i64 op, .int .i64 0, .slice A6 L d6] := setRow_heap _ _ _ _ _ _ Z7
              go_wp2_with fail
              refine bodyPost_ret (v := .tuple #[.agg #[.int .i64 op, .int .i64 0, .slice A6 L d6], .bool true]) (by simp [results, Tryd.results58, go_sem, z6.cell]) rfl ?_
              exact hfin _ ((setRow_other _ gz g _ hgn).trans R7) (K7.setRow (by omega) _) z6 (Rep.keep (fun q h _ => h) (fun q hq _ => setRow_other _ gz q _ (by omega)) _ _ H7) hh1.symm
            · rw [if_neg hst] at hhh; cases hhh

end

end Go.Proofs.YtaippkdlibampaaDoor

/- The reference's reading of rules: its small functions: nt, Op, cut. The reference's reader of patterns: word, passes. The text of a pattern that may be. The text of any rules that may be. -/
import Derived.Test.YthdicdkgfmiepaaGreatDoorRcA
import Derived.Test.YthdicdkgfmiepaaGreatDoorOrdH
import Derived.Test.YthdicdkgfmiepaaGreatDoorZA
import Derived.OwnWalk
namespace Go.Proofs.YthdicdkgfmiepaaGreatDoor

/- The reference's reading of rules: its small functions: nt, Op, cut. -/
section
open Go.RowKit


def ntWords : List (List UInt8) := [[114, 101, 103], [97, 110, 121], [105, 109, 109], [97, 100, 100, 114]]
theorem nts_any (w : World) : Calls Tryz.prog 27 #[] w fun e w' => e = .returned (.slice (some ⟨w.heap.size, 0, none⟩) 4 4) ∧ w.alloc (.cells (strCells ntWords).toArray 9) = w' := by
  simp only [strCells, ntWords, List.map_cons, List.map_nil]
  go_enter Tryz.func27, Tryz.ntmps27
  go_wp2_with fail
  go_ret
  exact ⟨rfl, rfl⟩

/-- a word's nonterminal -/
def ntT (s : List UInt8) : Int := match idxT ntWords s with | some k => k | none => -1

set_option maxHeartbeats 2000000 in
theorem ntW_any (s : List UInt8) (w : World) : Calls Tryz.prog 36 #[.string ⟨s.toArray⟩] w fun e w' => e = .returned (.int .i64 (ntT s)) ∧ Below w.heap.size w w' := by
  have hn := fun W => nts_any W
  go_enter Tryz.func36, Tryz.ntmps36
  go_wp2_with fail
  refine (hn _).mono ?_
  rintro e w1 ⟨rfl, rfl⟩
  have hb := (BlkIs.fresh w 9 (strCells ntWords).toArray)
  have hbl := below_alloc w (.cells (strCells ntWords).toArray 9)
  obtain ⟨w1, hw1⟩ : ∃ W, w.alloc (.cells (strCells ntWords).toArray 9) = W := ⟨_, rfl⟩
  rw [hw1] at hb hbl ⊢
  clear hw1
  go_wp2_with fail
  go_loopw [4] (fun i wr => ∃ k : Nat, k ≤ 4 ∧ i = .int .i64 k ∧ w1 = wr ∧ Hid (∀ j (hj : j < ntWords.length), j < k → ntWords[j] ≠ s)) (fun i _ => 4 - (intOf i).toNat)
  case atStart => exact ⟨0, by omega, rfl, rfl, Lib.hid (by omega)⟩
  case round =>
    obtain ⟨k, hk, rfl, rfl, hno⟩ := hrel
    by_cases hlt : k < 4
    · have hkl : k < ntWords.length := hlt
      have hc : w1.cell? ⟨w.heap.size, k, none⟩ = some (.string ⟨ntWords[k].toArray⟩) := (hb.cell k).trans (by simp [strCells, List.getElem?_eq_getElem hkl])
      have hyes := fun h => Lib.hid (idx_some hkl h hno.out)
      obtain ⟨x, hx⟩ : ∃ x, Hid (ntWords[k] = x) := ⟨_, Lib.hid rfl⟩
      rw [hx.out] at hc hyes
      by_cases hxs : x = s
      · subst hxs
        have hres := hyes rfl
        clear hyes
        go_wp2_with fail
        go_ret
        exact ⟨by unfold ntT; rw [hres.out]; rfl, hbl⟩
      · have hne : (x == s) = false := by simpa using hxs
        clear hyes
        go_wp2_with fail
        go_roundw
        case rel => exact ⟨k + 1, by omega, by go_num, by first | trivial | rfl, Lib.hid (fun j hj hjk => by
          by_cases e : j = k
          · subst e; rw [hx.out]; exact hxs
          · exact hno.out j hj (by omega))⟩
        case measure => simp [intOf]; omega
    · have hres := Lib.hid (idx_none (s := s) (fun j hj => hno.out j hj (by have : j < 4 := hj; omega)))
      go_wp2_with fail
      go_ret
      exact ⟨by unfold ntT; rw [hres.out]; rfl, hbl⟩



/-- where a text stands in another -/
def hitAt (s by_ : List UInt8) (i : Nat) : Bool := decide (i + by_.length ≤ s.length) && ((s.drop i).take by_.length == by_)
def cutT (s by_ : List UInt8) : Option (List UInt8 × List UInt8) := ((List.range (s.length + 1)).find? (hitAt s by_)).map fun i => (s.take i, s.drop (i + by_.length))
theorem cut_some {s b : List UInt8} {k : Nat} (h : hitAt s b k = true) (hn : ∀ j, j < k → hitAt s b j = false) : cutT s b = some (s.take k, s.drop (k + b.length)) := by
  unfold cutT
  have hk : k < s.length + 1 := by unfold hitAt at h; rw [Bool.and_eq_true, decide_eq_true_eq] at h; omega
  rw [show (List.range (s.length + 1)).find? (hitAt s b) = some k from by
    rw [List.find?_range_eq_some]
    exact ⟨h, by simpa using hk, fun j hj => by rw [hn j hj]; rfl⟩]
  rfl
theorem cut_none {s b : List UInt8} (hn : ∀ j, hitAt s b j = false) : cutT s b = none := by
  unfold cutT
  rw [show (List.range (s.length + 1)).find? (hitAt s b) = none from by
    rw [List.find?_eq_none]
    intro j _
    rw [hn j]; simp]
  rfl

theorem ext_hit (s b : List UInt8) (k : Nat) (h : k + b.length ≤ s.length) : (((ByteArray.mk s.toArray).extract k (k + b.length)).toList == b) = hitAt s b k := by
  unfold hitAt
  rw [ext_list, ByteArray.toList_eq, Nat.add_sub_cancel_left, decide_eq_true h, Bool.true_and]

def CutIs (s b : List UInt8) (e : Ending) : Prop := match cutT s b with
  | some (x, y) => e = .returned (.tuple #[.string ⟨x.toArray⟩, .string ⟨y.toArray⟩, .bool true])
  | none => e = .returned (.tuple #[.string ⟨#[]⟩, .string ⟨#[]⟩, .bool false])

set_option maxHeartbeats 2000000 in
theorem cut_any (s b : List UInt8) (hs : s.length ≤ 1000000) (hbl : b.length ≤ 1000) (w : World) : Calls Tryz.prog 33 #[.string ⟨s.toArray⟩, .string ⟨b.toArray⟩] w fun e w' => CutIs s b e ∧ ∃ m, w' = w.drewN m := by
  go_enter Tryz.func33, Tryz.ntmps33
  go_wp2_with fail
  go_loopw [7] (fun i wr => ∃ k : Nat, k ≤ s.length + 1 ∧ i = .int .i64 k ∧ w = wr ∧ Hid (∀ j, j < k → hitAt s b j = false)) (fun i _ => s.length + 1 - (intOf i).toNat)
  case atStart => exact ⟨0, by omega, rfl, rfl, Lib.hid (by omega)⟩
  case round =>
    obtain ⟨k, hk, rfl, rfl, hno⟩ := hrel
    by_cases hlt : k + b.length ≤ s.length
    · have hx := ext_hit s b k hlt
      have hyes := fun h => Lib.hid (cut_some h hno.out)
      obtain ⟨h, hh⟩ : ∃ x, Hid (hitAt s b k = x) := ⟨_, Lib.hid rfl⟩
      rw [hh.out] at hx hyes
      cases h
      · go_wp2_with fail
        go_roundw
        case rel => exact ⟨k + 1, by omega, by go_num, by first | trivial | rfl, Lib.hid (fun j hj => by
          by_cases e : j = k
          · subst e; exact hh.out
          · exact hno.out j (by omega))⟩
        case measure => simp [intOf]; omega
      · have hres := hyes rfl
        clear hyes
        go_wp2_with fail
        go_quiet (fail)
        go_wp2_with fail
        go_ret3
        refine ⟨?_, _, rfl⟩
        unfold CutIs
        rw [hres.out]
        show Ending.returned (.tuple #[.string ((ByteArray.mk s.toArray).extract 0 k), .string ((ByteArray.mk s.toArray).extract (k + b.length) s.length), .bool true]) = .returned (.tuple #[.string ⟨(s.take k).toArray⟩, .string ⟨(s.drop (k + b.length)).toArray⟩, .bool true])
        rw [ext_list, ext_list, List.drop_zero, Nat.sub_zero, List.take_of_length_le (l := s.drop (k + b.length)) (by rw [List.length_drop]; omega)]
    · have hres := Lib.hid (cut_none (s := s) (b := b) (fun j => by
        by_cases hj : j < k
        · exact hno.out j hj
        · unfold hitAt; rw [decide_eq_false (by omega)]; rfl))
      go_wp2_with fail
      go_ret3
      refine ⟨?_, 0, rfl⟩
      unfold CutIs
      rw [hres.out]
      rfl

end

/- The reference's reader of patterns: word, passes. -/
section
open Go.RowKit

/-- a reader's two cells -/
def RdIs (w : World) (g : Nat) (s : List UInt8) (m : Int) : Prop := BlkIs w g 76 #[.string ⟨s.toArray⟩, .int .i64 m]

def wordLen (s : List UInt8) : Nat := (s.takeWhile isLd).length
theorem wordLen_eq : ∀ (s : List UInt8) (k : Nat), k ≤ s.length → (∀ j (h : j < s.length), j < k → isLd s[j] = true) → (∀ h : k < s.length, isLd s[k] = false) → wordLen s = k
  | [], k, hk, _, _ => by simp at hk; subst hk; rfl
  | c :: s, 0, _, _, hf => by
    have := hf (by simp)
    simp at this
    unfold wordLen
    rw [List.takeWhile_cons, this]; rfl
  | c :: s, k + 1, hk, ht, hf => by
    have h0 := ht 0 (by simp) (by omega)
    simp at h0
    have ih := wordLen_eq s k (by simpa using hk) (fun j h hj => by have := ht (j + 1) (by simpa using h) (by omega); simpa using this) (fun h => by have := hf (by simpa using h); simpa using this)
    unfold wordLen at ih ⊢
    rw [List.takeWhile_cons, h0]
    simp [ih]
theorem wordLen_le (s : List UInt8) : wordLen s ≤ s.length := by unfold wordLen; exact (List.takeWhile_sublist _).length_le
theorem ret_take {s x : List UInt8} {k : Nat} (h : x = s.take k) : Ending.returned (.string ((ByteArray.mk s.toArray).extract 0 k)) = .returned (.string ⟨x.toArray⟩) := by
  rw [ext_list, h, List.drop_zero, Nat.sub_zero]
theorem ext_rest (s : List UInt8) (k n : Nat) (hn : s.length = n) : (ByteArray.mk s.toArray).extract k n = ⟨(s.drop k).toArray⟩ := by
  rw [ext_list, List.take_of_length_le (by rw [List.length_drop]; omega)]

set_option maxHeartbeats 4000000 in
theorem word_any (g : Nat) (s : List UInt8) (m : Int) (hs : s.length ≤ 1000000) (w : World) (hr : RdIs w g s m) : Calls Tryz.prog 53 #[.pointer (some ⟨g, 0, none⟩)] w fun e w' => e = .returned (.string ⟨(s.take (wordLen s)).toArray⟩) ∧ w.setCell ⟨g, 0, none⟩ (.string ⟨(s.drop (wordLen s)).toArray⟩) = w' := by
  have c0 : w.cell? ⟨g, 0, none⟩ = some (.string ⟨s.toArray⟩) := hr.cell 0
  have f0 := hr.frozen 0
  have hl := hr.lt
  obtain ⟨n, hn⟩ : ∃ n, Hid (s.length = n) := ⟨_, Lib.hid rfl⟩
  have hsz : (⟨s.toArray⟩ : ByteArray).size = n := by rw [← hn.out]; simp [ByteArray.size]
  rw [hn.out] at hs
  go_enter Tryz.func53, Tryz.ntmps53
  go_wp2_with fail
  go_loopw [3] (fun i wr => ∃ k : Nat, k ≤ n ∧ i = .int .i64 k ∧ w = wr ∧ Hid (∀ j (h : j < s.length), j < k → isLd s[j] = true)) (fun i _ => n - (intOf i).toNat)
  case atStart => exact ⟨0, by omega, rfl, rfl, Lib.hid (by omega)⟩
  case round =>
    obtain ⟨k, hk, rfl, rfl, hall⟩ := hrel
    by_cases hlt : k < n
    · have hkl : k < s.length := by rw [hn.out]; exact hlt
      obtain ⟨b, hb⟩ : ∃ b, Hid (s[k] = b) := ⟨_, Lib.hid rfl⟩
      have hget : ((⟨s.toArray⟩ : ByteArray)[k]'(by rw [hsz]; exact hlt)) = b := hb.out
      have hld := Lib.hid (isLd_iff b)
      go_wp2_with fail
      all_goals
        first
          | (exfalso; omega)
          | (go_roundw
             case rel =>
               refine ⟨k + 1, by omega, by go_num, by first | trivial | rfl, Lib.hid (fun j hj hjk => ?_)⟩
               by_cases e : j = k
               · subst e; rw [hb.out, hld.out]; first | omega | grind
               · exact hall.out j hj (by omega)
             case measure => simp [intOf]; omega)
          | (go_ret
             have hwl : wordLen s = k := wordLen_eq s k (by omega) (fun j h hj => hall.out j h hj) (fun h => by rw [hb.out, ← Bool.not_eq_true, hld.out]; first | omega | grind)
             rw [hwl]
             exact ⟨ret_take rfl, by rw [ext_rest s k n hn.out]⟩)
    · have hwl : wordLen s = k := wordLen_eq s k (by rw [hn.out]; omega) (fun j h hj => hall.out j h hj) (fun h => by rw [hn.out] at h; omega)
      go_wp2_with fail
      go_ret
      rw [hwl]
      exact ⟨ret_take rfl, by rw [ext_rest s k n hn.out]⟩

/-- does a text begin so? -/
def startsB (s b : List UInt8) : Bool := decide (b.length ≤ s.length) && (s.take b.length == b)

set_option maxHeartbeats 4000000 in
theorem passes_any (g : Nat) (s b : List UInt8) (m : Int) (_hs : s.length ≤ 1000000) (_hbl : b.length ≤ 1000) (w : World) (hr : RdIs w g s m) : Calls Tryz.prog 55 #[.pointer (some ⟨g, 0, none⟩), .string ⟨b.toArray⟩] w fun e w' => e = .returned (.bool (startsB s b)) ∧ (if startsB s b then w.setCell ⟨g, 0, none⟩ (.string ⟨(s.drop b.length).toArray⟩) else w) = w' := by
  have c0 : w.cell? ⟨g, 0, none⟩ = some (.string ⟨s.toArray⟩) := hr.cell 0
  have f0 := hr.frozen 0
  have hl := hr.lt
  by_cases hle : b.length ≤ s.length
  · have hx : (((ByteArray.mk s.toArray).extract 0 b.length).toList == b) = startsB s b := by
      unfold startsB
      rw [ext_list, ByteArray.toList_eq, decide_eq_true hle, Bool.true_and, List.drop_zero, Nat.sub_zero]
    obtain ⟨h, hh⟩ : ∃ x, Hid (startsB s b = x) := ⟨_, Lib.hid rfl⟩
    rw [hh.out] at hx ⊢
    cases h
    · go_enter Tryz.func55, Tryz.ntmps55
      go_wp2_with fail
      go_ret
      exact ⟨rfl, rfl⟩
    · go_enter Tryz.func55, Tryz.ntmps55
      go_wp2_with fail
      go_ret
      exact ⟨rfl, by rw [ext_rest s b.length s.length rfl]⟩
  · have hx : startsB s b = false := by unfold startsB; rw [decide_eq_false hle]; rfl
    rw [hx]
    have hlt : s.length < b.length := by omega
    clear hle
    go_enter Tryz.func55, Tryz.ntmps55
    go_wp2_with fail
    go_ret
    exact ⟨rfl, rfl⟩

end

/- The text of a pattern that may be. -/
section
open Go.RowKit

mutual
def patText : Pat → List UInt8
  | .mk op nt ks => if op = 0 then ntWords.getD nt.toNat [] else opWords.getD (op.toNat - 1) [] ++ (kidsText ks 0 ++ (if ks.length = 0 then [] else [41]))
def kidsText : List Pat → Nat → List UInt8
  | [], _ => []
  | p :: ps, i => (if i = 0 then [40] else [44, 32]) ++ (patText p ++ kidsText ps (i + 1))
end
theorem patText_eq (p : Pat) : patText p = if p.op = 0 then ntWords.getD p.nt.toNat [] else opWords.getD (p.op.toNat - 1) [] ++ (kidsText p.kids 0 ++ (if p.kids.length = 0 then [] else [41])) := by
  cases p; unfold patText; rfl
theorem kidsText_take : ∀ (ps : List Pat) (i k : Nat) (h : k < ps.length), kidsText (ps.take (k + 1)) i = kidsText (ps.take k) i ++ ((if i + k = 0 then [40] else [44, 32]) ++ patText ps[k])
  | p :: ps, i, 0, _ => by simp [kidsText]
  | p :: ps, i, k + 1, h => by
    have ih := kidsText_take ps (i + 1) k (by simpa using h)
    simp only [List.take_succ_cons, kidsText, List.getElem_cons_succ]
    rw [ih, show i + 1 + k = i + (k + 1) by omega]
    simp only [List.append_assoc]

theorem ntWord_le (k : Nat) : (ntWords.getD k []).length ≤ 4 := by
  rw [List.getD_eq_getElem?_getD]
  cases h : ntWords[k]? with
  | none => simp
  | some x =>
    have hx := List.mem_of_getElem? h
    have : ∀ y ∈ ntWords, y.length ≤ 4 := by decide
    exact this x hx

mutual
theorem patText_len : ∀ p : Pat, (patText p).length + 2 ≤ 1100 * patN p
  | .mk op nt ks => by
    unfold patText patN
    split
    · have := ntWord_le nt.toNat
      omega
    · have h1 := opWords_le (op.toNat - 1)
      have h2 := kidsText_len ks 0
      rw [List.length_append, List.length_append]
      have h3 : (if ks.length = 0 then ([] : List UInt8) else [41]).length ≤ 1 := by split <;> simp
      omega
theorem kidsText_len : ∀ (ps : List Pat) (i : Nat), (kidsText ps i).length ≤ 1100 * patsN ps
  | [], _ => by simp [kidsText, patsN]
  | p :: ps, i => by
    unfold kidsText patsN
    have h1 := patText_len p
    have h2 := kidsText_len ps (i + 1)
    rw [List.length_append, List.length_append]
    have h3 : (if i = 0 then ([40] : List UInt8) else [44, 32]).length ≤ 2 := by split <;> simp
    omega
end


def PatTextOk (p : Pat) : Prop := patOk p = true → patN p ≤ 1000 → ∀ (A : Option Addr) (d : Nat) (w : World), PatIn w A d p → Calls Tryz.prog 28 #[.agg #[.int .i64 p.op, .int .i64 p.nt, .slice A p.kids.length d]] w fun e w' => e = .returned (.string ⟨(patText p).toArray⟩) ∧ Below w.heap.size w w'

theorem app_arr (a b : List UInt8) (x : Array UInt8) (hx : x = b.toArray) : ByteArray.mk a.toArray ++ ByteArray.mk x = ⟨(a ++ b).toArray⟩ := by rw [hx]; exact app_list a b

set_option maxRecDepth 100000 in
set_option maxHeartbeats 4000000 in
theorem patText_of (p : Pat) (ih : ∀ i (h : i < p.kids.length), PatTextOk p.kids[i]) : PatTextOk p := by
  intro hok hpn A d w hp
  rw [patN_eq] at hpn
  rw [patOk_eq] at hok
  have hte := Lib.hid (patText_eq p)
  obtain ⟨op, hop⟩ : ∃ x, Hid (p.op = x) := ⟨_, Lib.hid rfl⟩
  obtain ⟨nt, hnt⟩ : ∃ x, Hid (p.nt = x) := ⟨_, Lib.hid rfl⟩
  obtain ⟨ks, hks⟩ : ∃ x, Hid (p.kids = x) := ⟨_, Lib.hid rfl⟩
  obtain ⟨n, hn⟩ : ∃ x, Hid (ks.length = x) := ⟨_, Lib.hid rfl⟩
  have HK : Hid (PatsIn w A d ks) := Lib.hid (by rw [← hks.out]; exact hp.kids)
  have IH : Hid (∀ i (h : i < ks.length), PatTextOk ks[i]) := Lib.hid (by rw [← hks.out]; exact ih)
  rw [hks.out] at hpn
  rw [hop.out, hnt.out, hks.out, hn.out] at hok hte ⊢
  clear hp ih
  by_cases h0 : op = 0
  · subst h0
    rw [if_pos rfl, Bool.and_eq_true] at hok
    obtain ⟨k, hk4, rfl⟩ : ∃ k : Nat, k < 4 ∧ nt = k := by
      have := hok.1
      unfold isNt at this
      simp at this
      exact ⟨nt.toNat, by omega, by omega⟩
    have hkl : k < ntWords.length := hk4
    have hres : Hid (patText p = ntWords[k]) := Lib.hid (by rw [hte.out, if_pos rfl, Int.toNat_natCast, List.getD_eq_getElem?_getD, List.getElem?_eq_getElem hkl]; rfl)
    obtain ⟨x, hx⟩ : ∃ x, Hid (ntWords[k] = x) := ⟨_, Lib.hid rfl⟩
    rw [hres.out, hx.out]
    have hns := fun W => nts_any W
    go_enter Tryz.func28, Tryz.ntmps28
    go_upto_region 2 with fail
    obtain ⟨w1, hw1⟩ : ∃ W, W = w.alloc (.cells #[.int .i64 0, .int .i64 k, .slice A n d] 45) := ⟨_, rfl⟩
    have hb1 : Below w.heap.size w w1 := by rw [hw1]; exact below_alloc _ _
    have b1 : BlkIs w1 w.heap.size 45 #[.int .i64 0, .int .i64 k, .slice A n d] := by rw [hw1]; exact BlkIs.fresh _ _ _
    have c1 : w1.cell? ⟨w.heap.size, 1, none⟩ = some (.int .i64 k) := b1.cell 1
    have hz1 : w.heap.size < w1.heap.size := b1.lt
    rw [← hw1]
    clear hw1
    refine anyJ_begin 5 (fun W => Below w1.heap.size w1 W) (by kernel_rfl) ((Below.refl _ _).drew) (fun hHeld => ?_)
    refine take (i := 1) (d := some 9) (v := .pointer (some ⟨w.heap.size, 1, none⟩)) (by kernel_rfl) rfl rfl rfl (fun _ _ _ h => h) hHeld (fun W hSw => by go_simp) ?_
    simp only [Act.put, List.setIfInBounds_toArray, List.set_cons_zero, List.set_cons_succ]
    refine take (i := 2) (d := some 10) (v := .int .i64 k) (by kernel_rfl) rfl rfl rfl (fun _ _ _ h => h) hHeld (fun W hSw => by have x := cell_later hSw c1; go_simp) ?_
    simp only [Act.put, List.setIfInBounds_toArray, List.set_cons_zero, List.set_cons_succ]
    refine anyJ_only (i := 0) (d := some 8) (by kernel_rfl) rfl rfl rfl (fun K' hK => ?_)
    refine wp_go_call 27 _ _ rfl #[] rfl (fun W => by go_simp) (hns _) (fun e w2 he => ?_)
    obtain ⟨rfl, hw2⟩ := he
    obtain ⟨gn, hgn⟩ : ∃ x, Hid (w1.drew.heap.size = x) := ⟨_, Lib.hid rfl⟩
    have hgnw : w1.heap.size = gn := hgn.out
    have hb2 : Below w1.heap.size w1 w2 := by rw [← hw2]; exact hHeld.alloc (Nat.le_refl _) _
    have bn : BlkIs w2 gn 9 (strCells ntWords).toArray := by rw [← hw2]; exact BlkIs.fresh_at hgn.out.symm
    have cn : w2.cell? ⟨gn, k, none⟩ = some (.string ⟨x.toArray⟩) := (bn.cell k).trans (by rw [← hx.out]; simp [strCells, List.getElem?_eq_getElem hkl])
    rw [hgn.out]
    clear hw2 hns
    refine ⟨_, rfl, hK.out _ _ (fun _ => hb2) (fun hHeld => ?_)⟩
    have hHeld := hHeld (by decide)
    simp only [Act.put, List.setIfInBounds_toArray, List.set_cons_zero, List.set_cons_succ]
    have hz2 : gn < w2.heap.size := bn.lt
    refine anyJ_only (i := 3) (d := some 11) (by kernel_rfl) rfl rfl rfl (fun K' hK => ?_)
    refine wp_val (w' := w2) (v := .pointer (some ⟨gn, k, none⟩)) (by go_simp; omega) (hK.out _ _ (fun _ => hHeld) (fun _ => ?_))
    simp only [Act.put, List.setIfInBounds_toArray, List.set_cons_zero, List.set_cons_succ]
    refine anyJ_only (i := 4) (d := some 12) (by kernel_rfl) rfl rfl rfl (fun K' hK => ?_)
    refine wp_val (w' := w2) (v := .string ⟨x.toArray⟩) (by go_simp) (hK.out _ _ (fun _ => hHeld) (fun _ => ?_))
    simp only [Act.put, List.setIfInBounds_toArray, List.set_cons_zero, List.set_cons_succ]
    refine anyJ_only (i := 5) (d := some 2) (by kernel_rfl) rfl rfl rfl (fun K' hK => ?_)
    refine wp_val (w' := w2) (v := .string ⟨x.toArray⟩) (by go_simp) (hK.out _ _ (fun h => absurd rfl h) (fun _ => ?_))
    simp only [Act.put, List.setIfInBounds_toArray, List.set_cons_zero, List.set_cons_succ]
    refine anyJ_done (by kernel_rfl) ?_ _
    go_wp2_with fail
    go_ret
    exact ⟨rfl, hb1.trans (hb2.mono (by omega))⟩
  · rw [if_neg h0, Bool.and_eq_true, Bool.and_eq_true, Bool.and_eq_true] at hok
    obtain ⟨⟨⟨hi1, _⟩, hi3⟩, ho4⟩ := hok
    have hle : n ≤ 2 := by
      rw [decide_eq_true_eq] at hi3
      have := arity_le2 op
      omega
    clear hi3
    obtain ⟨o, ho1, ho36, rfl⟩ : ∃ o : Nat, 1 ≤ o ∧ o ≤ 36 ∧ op = o := by
      unfold isOp at hi1
      simp at hi1
      exact ⟨op.toNat, by omega, by omega, by omega⟩
    clear hi1
    have HOK := Lib.hid ((patsOk_iff ks).1 ho4)
    have hW := fun W => refWord_any o ho1 ho36 W
    have hoe : ((o : Int) == 0) = false := by simp; omega
    rw [Int.toNat_natCast, if_neg h0] at hte
    obtain ⟨x, hx⟩ : ∃ x, Hid (opWords.getD (o - 1) [] = x) := ⟨_, Lib.hid rfl⟩
    have hxl := opWords_le (o - 1)
    rw [hx.out] at hW hte hxl
    go_enter Tryz.func28, Tryz.ntmps28
    go_wp2_with fail
    refine (hW _).mono ?_
    rintro e w2 ⟨rfl, hw2⟩
    have hb2 : Below w.heap.size w w2 := by rw [← hw2]; exact (below_alloc _ _).alloc (by simp) _
    have b2 : BlkIs w2 w.heap.size 45 #[.int .i64 o, .int .i64 nt, .slice A n d] := by rw [← hw2]; exact (BlkIs.fresh _ _ _).alloc _
    clear hw2 hW
    go_wp2_with fail
    go_loopw [3, 4] (fun s i wr => ∃ k : Nat, k ≤ n ∧ i = .int .i64 k ∧ s = .string ⟨(x ++ kidsText (ks.take k) 0).toArray⟩ ∧ Below w.heap.size w wr ∧ BlkIs wr w.heap.size 45 #[.int .i64 o, .int .i64 nt, .slice A n d]) (fun _ i _ => n - (intOf i).toNat)
    case atStart => exact ⟨0, by omega, rfl, by simp [kidsText], hb2, b2⟩
    case round =>
      obtain ⟨k, hk, rfl, rfl, hb, hbk⟩ := hrel
      obtain ⟨wo, rfl⟩ : ∃ wo : World, wo = wr := ⟨_, rfl⟩
      clear hb2 b2
      have c2 : wo.cell? ⟨w.heap.size, 2, none⟩ = some (.slice A n d) := hbk.cell 2
      have hlz := hbk.lt
      obtain ⟨t, ht⟩ : ∃ t, Hid (x ++ kidsText (ks.take k) 0 = t) := ⟨_, Lib.hid rfl⟩
      have htl : t.length ≤ 2000000 := by
        rw [← ht.out, List.length_append]
        have h1 := kidsText_len (ks.take k) 0
        have h2 := patsN_take_le ks k
        omega
      rw [ht.out]
      by_cases hlt : k < n
      · have hkl : k < ks.length := by rw [hn.out]; exact hlt
        obtain ⟨ok, hps⟩ := HK.out.below hb
        obtain ⟨g, off, B, d2, hA, _, hg, ⟨a0, a1, a2⟩, hq⟩ := pats_at hps k hkl
        cases hA
        have hkn2 : patN ks[k] ≤ 1000 := by
          have h1 := patsN_take ks k hkl
          have h2 := patsN_take_le ks (k + 1)
          omega
        have hyl := patText_len ks[k]
        have hcall := fun W => IH.out k hkl (HOK.out k hkl) hkn2 B d2 W
        have hnext := Lib.hid (kidsText_take ks 0 k hkl)
        obtain ⟨q, hqe⟩ : ∃ x, Hid (ks[k] = x) := ⟨_, Lib.hid rfl⟩
        obtain ⟨y, hy⟩ : ∃ x, Hid (patText ks[k] = x) := ⟨_, Lib.hid rfl⟩
        rw [hy.out] at hcall hnext hyl
        rw [hqe.out] at a0 a1 a2 hq hcall
        have HQ : Hid (PatIn wo B d2 q) := Lib.hid ⟨_, hq⟩
        clear hps hq
        by_cases hk0 : k = 0
        · subst hk0
          simp only [Nat.zero_mul, Nat.add_zero] at a0 a1 a2
          obtain ⟨t2, ht2⟩ : ∃ x, Hid (t ++ [40] = x) := ⟨_, Lib.hid rfl⟩
          obtain ⟨t3, ht3⟩ : ∃ x, Hid (t2 ++ y = x) := ⟨_, Lib.hid rfl⟩
          have ht2l : t2.length ≤ 2000002 := by rw [← ht2.out, List.length_append]; simp; omega
          have add1 := fun W => add_str t [40] t2 ht2.out (by simp; omega) W
          have add2 := fun W => add_str t2 y t3 ht3.out (by omega) W
          go_wp2_with fail
          refine (hcall _ (HQ.out.below (Below.refl _ _))).mono ?_
          rintro e w3 ⟨rfl, hb3⟩
          go_wp2_with fail
          go_roundw
          case rel =>
            refine ⟨0 + 1, by omega, by go_num, ?_, hb.trans (hb3.mono hb.size), hbk.below hb3 hbk.lt⟩
            rw [← ht3.out, ← ht2.out, hnext.out]
            simp only [if_true]
            rw [← List.append_assoc x, ht.out, List.append_assoc t]
          case measure => simp [intOf]; omega
        · have hk0e : ((k : Int) == 0) = false := by simp; omega
          obtain ⟨t2, ht2⟩ : ∃ x, Hid (t ++ [44, 32] = x) := ⟨_, Lib.hid rfl⟩
          obtain ⟨t3, ht3⟩ : ∃ x, Hid (t2 ++ y = x) := ⟨_, Lib.hid rfl⟩
          have ht2l : t2.length ≤ 2000002 := by rw [← ht2.out, List.length_append]; simp; omega
          have add1 := fun W => add_str t [44, 32] t2 ht2.out (by simp; omega) W
          have add2 := fun W => add_str t2 y t3 ht3.out (by omega) W
          go_wp2_with fail
          refine (hcall _ (HQ.out.below (Below.refl _ _))).mono ?_
          rintro e w3 ⟨rfl, hb3⟩
          go_wp2_with fail
          go_roundw
          case rel =>
            refine ⟨k + 1, by omega, by go_num, ?_, hb.trans (hb3.mono hb.size), hbk.below hb3 hbk.lt⟩
            rw [← ht3.out, ← ht2.out, hnext.out, Nat.zero_add, if_neg hk0, ← List.append_assoc x, ht.out, List.append_assoc t]
          case measure => simp [intOf]; omega
      · have hkn : k = n := by omega
        have hall : ks.take k = ks := List.take_of_length_le (by rw [hn.out]; omega)
        rw [hall] at ht
        by_cases hn0 : n = 0
        · have hk00 : k = 0 := by omega
          subst hn0
          go_wp2_with fail
          go_ret
          refine ⟨?_, hb⟩
          have h1 := hte.out
          simp only [if_true, List.append_nil] at h1
          rw [h1, ht.out]
          rfl
        · have hn0' : (0 : Int) < n := by omega
          have add1 := fun W => add_str t [41] (t ++ [41]) rfl (by simp; omega) W
          obtain ⟨t2, ht2⟩ : ∃ x, Hid (t ++ [41] = x) := ⟨_, Lib.hid rfl⟩
          rw [ht2.out] at add1
          go_wp2_with fail
          go_ret
          refine ⟨?_, hb⟩
          rw [hte.out, if_neg hn0, ← List.append_assoc, ht.out, ht2.out]
          rfl

theorem patText_any : ∀ p : Pat, PatTextOk p
  | .mk op nt kids => patText_of _ fun i h => patText_any kids[i]
termination_by p => SizeOf.sizeOf p
decreasing_by
  have := List.sizeOf_lt_of_mem (List.getElem_mem h)
  simp only [Pat.kids] at this
  simp only [Pat.mk.sizeOf_spec]
  omega

end

/- The text of any rules that may be. -/
section
open Go.RowKit

def lineT (r : Rule) : List UInt8 := ntWords.getD r.nt.toNat [] ++ ([32, 60, 45, 32] ++ (patText r.pat ++ ([32, 58, 32] ++ (decT r.cost ++ ([32] ++ (r.form ++ [10]))))))
def rulesT : List Rule → List UInt8
  | [] => []
  | r :: rs => lineT r ++ rulesT rs
theorem rulesT_take : ∀ (rs : List Rule) (k : Nat) (h : k < rs.length), rulesT (rs.take (k + 1)) = rulesT (rs.take k) ++ lineT rs[k]
  | r :: rs, 0, _ => by simp [rulesT]
  | r :: rs, k + 1, h => by
    have ih := rulesT_take rs k (by simpa using h)
    simp only [List.take_succ_cons, rulesT, List.getElem_cons_succ]
    rw [ih, List.append_assoc]

/-- rules that the text is told of here -/
def RuleTxt (r : Rule) : Prop := 0 ≤ r.nt ∧ r.nt ≤ 3 ∧ patOk r.pat = true ∧ patN r.pat ≤ 8 ∧ 0 ≤ r.cost ∧ r.cost ≤ 65535 ∧ r.form.length ≤ 12

set_option maxRecDepth 100000 in
set_option maxHeartbeats 8000000 in
theorem textR_any (rs : List Rule) (hrs : ∀ r ∈ rs, RuleTxt r) (hlen : rs.length ≤ 96) (A : Option Addr) (d : Nat) (w : World) (hp : RulesIn w A d rs) : Calls Tryz.prog 9 #[.slice A rs.length d] w fun e w' => e = .returned (.string ⟨(rulesT rs).toArray⟩) ∧ Below w.heap.size w w' := by
  have HP := Lib.hid hp
  have HO := Lib.hid hrs
  obtain ⟨n, hn⟩ : ∃ x, Hid (rs.length = x) := ⟨_, Lib.hid rfl⟩
  rw [hn.out] at hlen ⊢
  clear hp hrs
  go_enter Tryz.func9, Tryz.ntmps9
  go_wp2_with fail
  go_loopw [3, 4] (fun s i wr => ∃ (k : Nat) (t : List UInt8), k ≤ n ∧ i = .int .i64 k ∧ s = .string ⟨t.toArray⟩ ∧ Hid (t = rulesT (rs.take k)) ∧ t.length ≤ 10000 * k ∧ Below w.heap.size w wr) (fun _ i _ => n - (intOf i).toNat)
  case atStart => exact ⟨0, [], by omega, rfl, rfl, Lib.hid rfl, by simp, Below.refl _ _⟩
  case round =>
    obtain ⟨k, t, hk, rfl, rfl, hte, htl, hb⟩ := hrel
    obtain ⟨wo, rfl⟩ : ∃ wo : World, wo = wr := ⟨_, rfl⟩
    by_cases hlt : k < n
    · have hkl : k < rs.length := by rw [hn.out]; exact hlt
      obtain ⟨ok, hps⟩ := HP.out.below hb
      obtain ⟨g, off, B, d2, hA, _, hg, ⟨a0, a1, a2, a3, a4, a5⟩, _, hq⟩ := rules_at hps k hkl
      cases hA
      have hok := HO.out rs[k] (List.getElem_mem hkl)
      have hnext := Lib.hid (rulesT_take rs k hkl)
      obtain ⟨r, hr⟩ : ∃ x, Hid (rs[k] = x) := ⟨_, Lib.hid rfl⟩
      rw [hr.out] at a0 a1 a2 a3 a4 a5 hq hok hnext
      obtain ⟨h1, h2, h3, h4, h5, h6, h7⟩ := hok
      obtain ⟨nt, hnt⟩ : ∃ m : Nat, r.nt = m := ⟨r.nt.toNat, by omega⟩
      obtain ⟨c, hc⟩ : ∃ m : Nat, r.cost = m := ⟨r.cost.toNat, by omega⟩
      have hnt4 : nt < 4 := by omega
      have hc10 : c ≤ 65535 := by omega
      have hdl := digs_len 5 c (by omega) (by omega)
      have hll : Hid (lineT r = ntWords.getD nt [] ++ ([32, 60, 45, 32] ++ (patText r.pat ++ ([32, 58, 32] ++ (digs c ++ ([32] ++ (r.form ++ [10]))))))) := Lib.hid (by unfold lineT; rw [hnt, hc, Int.toNat_natCast, decT_nat])
      have hcp := fun W hx => patText_any r.pat h3 (by omega) B d2 W hx
      have hyl := patText_len r.pat
      have hcd := fun W => dec_any (c : Int) (by omega) W
      rw [decT_nat] at hcd
      have hns := fun W => nts_any W
      have hntl : nt < ntWords.length := hnt4
      have hgd : ntWords.getD nt [] = ntWords[nt] := by rw [List.getD_eq_getElem?_getD, List.getElem?_eq_getElem hntl]; rfl
      have hxl := ntWord_le nt
      rw [hgd] at hll hxl
      rw [hnt] at a0
      rw [hc] at a4
      obtain ⟨x, hx⟩ : ∃ x, Hid (ntWords[nt] = x) := ⟨_, Lib.hid rfl⟩
      obtain ⟨q, hqe⟩ : ∃ x, Hid (r.pat = x) := ⟨_, Lib.hid rfl⟩
      obtain ⟨y, hy⟩ : ∃ x, Hid (patText r.pat = x) := ⟨_, Lib.hid rfl⟩
      obtain ⟨f, hf⟩ : ∃ x, Hid (r.form = x) := ⟨_, Lib.hid rfl⟩
      obtain ⟨b, hb0⟩ : ∃ x, Hid (digs c = x) := ⟨_, Lib.hid rfl⟩
      rw [hx.out, hy.out, hf.out, hb0.out] at hll
      rw [hx.out] at hxl
      rw [hy.out] at hyl hcp
      rw [hqe.out] at hcp a1 a2 a3 hq h4 hyl
      rw [hf.out] at a5 h7
      rw [hb0.out] at hcd hdl
      have HQ : Hid (PatIn wo B d2 q) := Lib.hid ⟨_, hq⟩
      have hyl2 : y.length ≤ 8800 := by omega
      have hz0 := hb.size
      have hd0 : Below wo.heap.size wo wo.drew := (Below.refl _ _).drew
      clear hps hq h1 h2 h3 hnt hc hgd
      obtain ⟨t1, s1⟩ : ∃ z, Hid (t ++ x = z) := ⟨_, Lib.hid rfl⟩
      have l1 : t1.length ≤ 10000 * k + 4 := by rw [← s1.out, List.length_append]; (try simp only [List.length_cons, List.length_nil]); omega
      have d1a := fun W => add_str t x t1 s1.out (by (try simp only [List.length_cons, List.length_nil]); omega) W
      obtain ⟨t2, s2⟩ : ∃ z, Hid (t1 ++ [32, 60, 45, 32] = z) := ⟨_, Lib.hid rfl⟩
      have l2 : t2.length ≤ 10000 * k + 8 := by rw [← s2.out, List.length_append]; (try simp only [List.length_cons, List.length_nil]); omega
      have d2a := fun W => add_str t1 [32, 60, 45, 32] t2 s2.out (by (try simp only [List.length_cons, List.length_nil]); omega) W
      obtain ⟨t3, s3⟩ : ∃ z, Hid (t2 ++ y = z) := ⟨_, Lib.hid rfl⟩
      have l3 : t3.length ≤ 10000 * k + 8808 := by rw [← s3.out, List.length_append]; (try simp only [List.length_cons, List.length_nil]); omega
      have d3a := fun W => add_str t2 y t3 s3.out (by (try simp only [List.length_cons, List.length_nil]); omega) W
      obtain ⟨t4, s4⟩ : ∃ z, Hid (t3 ++ [32, 58, 32] = z) := ⟨_, Lib.hid rfl⟩
      have l4 : t4.length ≤ 10000 * k + 8811 := by rw [← s4.out, List.length_append]; (try simp only [List.length_cons, List.length_nil]); omega
      have d4a := fun W => add_str t3 [32, 58, 32] t4 s4.out (by (try simp only [List.length_cons, List.length_nil]); omega) W
      obtain ⟨t5, s5⟩ : ∃ z, Hid (t4 ++ b = z) := ⟨_, Lib.hid rfl⟩
      have l5 : t5.length ≤ 10000 * k + 8816 := by rw [← s5.out, List.length_append]; (try simp only [List.length_cons, List.length_nil]); omega
      have d5a := fun W => add_str t4 b t5 s5.out (by (try simp only [List.length_cons, List.length_nil]); omega) W
      obtain ⟨t6, s6⟩ : ∃ z, Hid (t5 ++ [32] = z) := ⟨_, Lib.hid rfl⟩
      have l6 : t6.length ≤ 10000 * k + 8817 := by rw [← s6.out, List.length_append]; (try simp only [List.length_cons, List.length_nil]); omega
      have d6a := fun W => add_str t5 [32] t6 s6.out (by (try simp only [List.length_cons, List.length_nil]); omega) W
      obtain ⟨t7, s7⟩ : ∃ z, Hid (t6 ++ f = z) := ⟨_, Lib.hid rfl⟩
      have l7 : t7.length ≤ 10000 * k + 8829 := by rw [← s7.out, List.length_append]; (try simp only [List.length_cons, List.length_nil]); omega
      have d7a := fun W => add_str t6 f t7 s7.out (by (try simp only [List.length_cons, List.length_nil]); omega) W
      obtain ⟨t8, s8⟩ : ∃ z, Hid (t7 ++ [10] = z) := ⟨_, Lib.hid rfl⟩
      have l8 : t8.length ≤ 10000 * k + 8830 := by rw [← s8.out, List.length_append]; (try simp only [List.length_cons, List.length_nil]); omega
      have d8a := fun W => add_str t7 [10] t8 s8.out (by (try simp only [List.length_cons, List.length_nil]); omega) W
      go_wp2_with fail
      refine anyJ_begin 34 (fun W => Below wo.heap.size wo W) (by kernel_rfl) ((Below.refl _ _).drew) (fun hHeld => ?_)
      refine take (i := 0) (d := some 11) (v := .string ⟨t.toArray⟩) (by kernel_rfl) rfl rfl rfl (fun _ _ _ h => h) hHeld (fun W hSw => by go_simp) ?_
      simp only [Act.put, List.setIfInBounds_toArray, List.set_cons_zero, List.set_cons_succ]
      refine take (i := 2) (d := some 13) (v := .slice (some ⟨g, off, none⟩) n d) (by kernel_rfl) rfl rfl rfl (fun _ _ _ h => h) hHeld (fun W hSw => by go_simp) ?_
      simp only [Act.put, List.setIfInBounds_toArray, List.set_cons_zero, List.set_cons_succ]
      refine take (i := 3) (d := some 14) (v := .int .i64 k) (by kernel_rfl) rfl rfl rfl (fun _ _ _ h => h) hHeld (fun W hSw => by go_simp) ?_
      simp only [Act.put, List.setIfInBounds_toArray, List.set_cons_zero, List.set_cons_succ]
      refine take (i := 4) (d := some 15) (v := .pointer (some ⟨g, off + k * 6, none⟩)) (by kernel_rfl) rfl rfl rfl (fun _ _ _ h => h) hHeld (fun W hSw => by go_simp) ?_
      simp only [Act.put, List.setIfInBounds_toArray, List.set_cons_zero, List.set_cons_succ]
      refine take (i := 5) (d := some 16) (v := .pointer (some ⟨g, off + k * 6, none⟩)) (by kernel_rfl) rfl rfl rfl (fun _ _ _ h => h) hHeld (fun W hSw => by go_simp) ?_
      simp only [Act.put, List.setIfInBounds_toArray, List.set_cons_zero, List.set_cons_succ]
      refine take (i := 6) (d := some 17) (v := .int .i64 nt) (by kernel_rfl) rfl rfl rfl (fun _ _ _ h => h) hHeld (fun W hSw => by have x0 := cell_later hSw a0; go_simp) ?_
      simp only [Act.put, List.setIfInBounds_toArray, List.set_cons_zero, List.set_cons_succ]
      refine take (i := 11) (d := some 22) (v := .slice (some ⟨g, off, none⟩) n d) (by kernel_rfl) rfl rfl rfl (fun _ _ _ h => h) hHeld (fun W hSw => by go_simp) ?_
      simp only [Act.put, List.setIfInBounds_toArray, List.set_cons_zero, List.set_cons_succ]
      refine take (i := 12) (d := some 23) (v := .int .i64 k) (by kernel_rfl) rfl rfl rfl (fun _ _ _ h => h) hHeld (fun W hSw => by go_simp) ?_
      simp only [Act.put, List.setIfInBounds_toArray, List.set_cons_zero, List.set_cons_succ]
      refine take (i := 13) (d := some 24) (v := .pointer (some ⟨g, off + k * 6, none⟩)) (by kernel_rfl) rfl rfl rfl (fun _ _ _ h => h) hHeld (fun W hSw => by go_simp) ?_
      simp only [Act.put, List.setIfInBounds_toArray, List.set_cons_zero, List.set_cons_succ]
      refine take (i := 14) (d := some 25) (v := .pointer (some ⟨g, off + k * 6 + 1, none⟩)) (by kernel_rfl) rfl rfl rfl (fun _ _ _ h => h) hHeld (fun W hSw => by go_simp) ?_
      simp only [Act.put, List.setIfInBounds_toArray, List.set_cons_zero, List.set_cons_succ]
      refine take (i := 15) (d := some 26) (v := .agg #[.int .i64 q.op, .int .i64 q.nt, .slice B q.kids.length d2]) (by kernel_rfl) rfl rfl rfl (fun _ _ _ h => h) hHeld (fun W hSw => by have x1 := cell_later hSw a1; have x2 := cell_later hSw a2; have x3 := cell_later hSw a3; go_simp) ?_
      simp only [Act.put, List.setIfInBounds_toArray, List.set_cons_zero, List.set_cons_succ]
      refine take (i := 19) (d := some 30) (v := .slice (some ⟨g, off, none⟩) n d) (by kernel_rfl) rfl rfl rfl (fun _ _ _ h => h) hHeld (fun W hSw => by go_simp) ?_
      simp only [Act.put, List.setIfInBounds_toArray, List.set_cons_zero, List.set_cons_succ]
      refine take (i := 20) (d := some 31) (v := .int .i64 k) (by kernel_rfl) rfl rfl rfl (fun _ _ _ h => h) hHeld (fun W hSw => by go_simp) ?_
      simp only [Act.put, List.setIfInBounds_toArray, List.set_cons_zero, List.set_cons_succ]
      refine take (i := 21) (d := some 32) (v := .pointer (some ⟨g, off + k * 6, none⟩)) (by kernel_rfl) rfl rfl rfl (fun _ _ _ h => h) hHeld (fun W hSw => by go_simp) ?_
      simp only [Act.put, List.setIfInBounds_toArray, List.set_cons_zero, List.set_cons_succ]
      refine take (i := 22) (d := some 33) (v := .pointer (some ⟨g, off + k * 6 + 4, none⟩)) (by kernel_rfl) rfl rfl rfl (fun _ _ _ h => h) hHeld (fun W hSw => by go_simp) ?_
      simp only [Act.put, List.setIfInBounds_toArray, List.set_cons_zero, List.set_cons_succ]
      refine take (i := 23) (d := some 34) (v := .int .i64 c) (by kernel_rfl) rfl rfl rfl (fun _ _ _ h => h) hHeld (fun W hSw => by have x4 := cell_later hSw a4; go_simp) ?_
      simp only [Act.put, List.setIfInBounds_toArray, List.set_cons_zero, List.set_cons_succ]
      refine take (i := 27) (d := some 38) (v := .slice (some ⟨g, off, none⟩) n d) (by kernel_rfl) rfl rfl rfl (fun _ _ _ h => h) hHeld (fun W hSw => by go_simp) ?_
      simp only [Act.put, List.setIfInBounds_toArray, List.set_cons_zero, List.set_cons_succ]
      refine take (i := 28) (d := some 39) (v := .int .i64 k) (by kernel_rfl) rfl rfl rfl (fun _ _ _ h => h) hHeld (fun W hSw => by go_simp) ?_
      simp only [Act.put, List.setIfInBounds_toArray, List.set_cons_zero, List.set_cons_succ]
      refine take (i := 29) (d := some 40) (v := .pointer (some ⟨g, off + k * 6, none⟩)) (by kernel_rfl) rfl rfl rfl (fun _ _ _ h => h) hHeld (fun W hSw => by go_simp) ?_
      simp only [Act.put, List.setIfInBounds_toArray, List.set_cons_zero, List.set_cons_succ]
      refine take (i := 30) (d := some 41) (v := .pointer (some ⟨g, off + k * 6 + 5, none⟩)) (by kernel_rfl) rfl rfl rfl (fun _ _ _ h => h) hHeld (fun W hSw => by go_simp) ?_
      simp only [Act.put, List.setIfInBounds_toArray, List.set_cons_zero, List.set_cons_succ]
      refine take (i := 31) (d := some 42) (v := .string ⟨f.toArray⟩) (by kernel_rfl) rfl rfl rfl (fun _ _ _ h => h) hHeld (fun W hSw => by have x5 := cell_later hSw a5; go_simp) ?_
      simp only [Act.put, List.setIfInBounds_toArray, List.set_cons_zero, List.set_cons_succ]
      refine anyJ_only (i := 1) (d := some 12) (by kernel_rfl) rfl rfl rfl (fun K' hK => ?_)
      refine wp_go_call 27 _ _ rfl #[] rfl (fun W => by go_simp) (hns _) (fun e w1 he => ?_)
      obtain ⟨rfl, hw1⟩ := he
      obtain ⟨gn, hgn⟩ : ∃ x, Hid (wo.drew.heap.size = x) := ⟨_, Lib.hid rfl⟩
      have hb1 : Below wo.heap.size wo w1 := by rw [← hw1]; exact hd0.alloc (Nat.le_refl _) _
      have bn : BlkIs w1 gn 9 (strCells ntWords).toArray := by rw [← hw1]; exact BlkIs.fresh_at hgn.out.symm
      have cn : w1.cell? ⟨gn, nt, none⟩ = some (.string ⟨x.toArray⟩) := (bn.cell nt).trans (by rw [← hx.out]; simp [strCells, List.getElem?_eq_getElem hntl])
      have hgnw : wo.heap.size = gn := hgn.out
      rw [hgn.out]
      clear hw1
      refine ⟨_, rfl, hK.out _ _ (fun _ => hb1) (fun hHeld => ?_)⟩
      have hHeld := hHeld (by decide)
      simp only [Act.put, List.setIfInBounds_toArray, List.set_cons_zero, List.set_cons_succ]
      refine take (i := 7) (d := some 18) (v := .pointer (some ⟨gn, nt, none⟩)) (by kernel_rfl) rfl rfl rfl (fun _ _ _ h => h) hHeld (fun W hSw => by go_simp; omega) ?_
      simp only [Act.put, List.setIfInBounds_toArray, List.set_cons_zero, List.set_cons_succ]
      have hgl : gn < w1.heap.size := bn.lt
      refine anyJ_two (i := 8) (j := 16) (d := some 19) (d2 := some 27) (by kernel_rfl) rfl rfl rfl rfl rfl rfl (fun K' hK => ?_) (fun K' hK => ?_)
      · skip
        refine wp_val (w' := w1) (v := .string ⟨x.toArray⟩) (by go_simp) (hK.out _ _ (fun _ => hHeld) (fun hHeld => ?_))
        have hHeld := hHeld (by decide)
        simp only [Act.put, List.setIfInBounds_toArray, List.set_cons_zero, List.set_cons_succ]
        refine take (i := 9) (d := some 20) (v := .string ⟨t1.toArray⟩) (by kernel_rfl) rfl rfl rfl (fun _ _ _ h => h) hHeld (fun W hSw => by have x := d1a W; go_simp) ?_
        simp only [Act.put, List.setIfInBounds_toArray, List.set_cons_zero, List.set_cons_succ]
        refine take (i := 10) (d := some 21) (v := .string ⟨t2.toArray⟩) (by kernel_rfl) rfl rfl rfl (fun _ _ _ h => h) hHeld (fun W hSw => by have x := d2a W; go_simp) ?_
        simp only [Act.put, List.setIfInBounds_toArray, List.set_cons_zero, List.set_cons_succ]
        refine anyJ_only (i := 16) (d := some 27) (by kernel_rfl) rfl rfl rfl (fun K' hK => ?_)
        refine wp_go_call 28 _ _ rfl #[.agg #[.int .i64 q.op, .int .i64 q.nt, .slice B q.kids.length d2]] rfl (fun W => by go_simp) (hcp _ (HQ.out.below hb1)) (fun e w2 he => ?_)
        obtain ⟨rfl, hw2⟩ := he
        have hb2 : Below wo.heap.size wo w2 := hb1.trans (hw2.mono hb1.size)
        have bn := bn.below hw2 bn.lt
        have cn := cell_later hw2 cn
        refine ⟨_, rfl, hK.out _ _ (fun _ => hb2) (fun hHeld => ?_)⟩
        have hHeld := hHeld (by decide)
        simp only [Act.put, List.setIfInBounds_toArray, List.set_cons_zero, List.set_cons_succ]
        refine take (i := 17) (d := some 28) (v := .string ⟨t3.toArray⟩) (by kernel_rfl) rfl rfl rfl (fun _ _ _ h => h) hHeld (fun W hSw => by have x := d3a W; go_simp) ?_
        simp only [Act.put, List.setIfInBounds_toArray, List.set_cons_zero, List.set_cons_succ]
        refine take (i := 18) (d := some 29) (v := .string ⟨t4.toArray⟩) (by kernel_rfl) rfl rfl rfl (fun _ _ _ h => h) hHeld (fun W hSw => by have x := d4a W; go_simp) ?_
        simp only [Act.put, List.setIfInBounds_toArray, List.set_cons_zero, List.set_cons_succ]
        refine anyJ_only (i := 24) (d := some 35) (by kernel_rfl) rfl rfl rfl (fun K' hK => ?_)
        refine wp_go_call 29 _ _ rfl #[.int .i64 c] rfl (fun W => by go_simp) (hcd _) (fun e w3 he => ?_)
        obtain ⟨rfl, hw3⟩ := he
        have hb3 : Below wo.heap.size wo w3 := hb2.trans (hw3.mono hb2.size)
        have cn := cell_later hw3 cn
        refine ⟨_, rfl, hK.out _ _ (fun _ => hb3) (fun hHeld => ?_)⟩
        have hHeld := hHeld (by decide)
        simp only [Act.put, List.setIfInBounds_toArray, List.set_cons_zero, List.set_cons_succ]
        refine take (i := 25) (d := some 36) (v := .string ⟨t5.toArray⟩) (by kernel_rfl) rfl rfl rfl (fun _ _ _ h => h) hHeld (fun W hSw => by have x := d5a W; go_simp) ?_
        simp only [Act.put, List.setIfInBounds_toArray, List.set_cons_zero, List.set_cons_succ]
        refine take (i := 26) (d := some 37) (v := .string ⟨t6.toArray⟩) (by kernel_rfl) rfl rfl rfl (fun _ _ _ h => h) hHeld (fun W hSw => by have x := d6a W; go_simp) ?_
        simp only [Act.put, List.setIfInBounds_toArray, List.set_cons_zero, List.set_cons_succ]
        refine take (i := 32) (d := some 43) (v := .string ⟨t7.toArray⟩) (by kernel_rfl) rfl rfl rfl (fun _ _ _ h => h) hHeld (fun W hSw => by have x := d7a W; go_simp) ?_
        simp only [Act.put, List.setIfInBounds_toArray, List.set_cons_zero, List.set_cons_succ]
        refine take (i := 33) (d := some 44) (v := .string ⟨t8.toArray⟩) (by kernel_rfl) rfl rfl rfl (fun _ _ _ h => h) hHeld (fun W hSw => by have x := d8a W; go_simp) ?_
        simp only [Act.put, List.setIfInBounds_toArray, List.set_cons_zero, List.set_cons_succ]
        refine anyJ_only (i := 34) (d := some 3) (by kernel_rfl) rfl rfl rfl (fun K' hK => ?_)
        refine wp_val (w' := w3) (v := .string ⟨t8.toArray⟩) (by go_simp) (hK.out _ _ (fun h => absurd rfl h) (fun _ => ?_))
        simp only [Act.put, List.setIfInBounds_toArray, List.set_cons_zero, List.set_cons_succ]
        refine anyJ_done (by kernel_rfl) ?_ _
        go_wp2_with fail
        go_roundw
        case rel => exact ⟨k + 1, t8, by omega, by go_num, rfl, Lib.hid (by
          rw [hnext.out, hll.out, ← hte.out, ← s8.out, ← s7.out, ← s6.out, ← s5.out, ← s4.out, ← s3.out, ← s2.out, ← s1.out]
          simp only [List.append_assoc]), by omega, hb.trans (hb3.mono hz0)⟩
        case measure => simp [intOf]; omega
      · skip
        refine wp_go_call 28 _ _ rfl #[.agg #[.int .i64 q.op, .int .i64 q.nt, .slice B q.kids.length d2]] rfl (fun W => by go_simp) (hcp _ (HQ.out.below hb1)) (fun e w2 he => ?_)
        obtain ⟨rfl, hw2⟩ := he
        have hb2 : Below wo.heap.size wo w2 := hb1.trans (hw2.mono hb1.size)
        have bn := bn.below hw2 bn.lt
        have cn := cell_later hw2 cn
        refine ⟨_, rfl, hK.out _ _ (fun _ => hb2) (fun hHeld => ?_)⟩
        have hHeld := hHeld (by decide)
        simp only [Act.put, List.setIfInBounds_toArray, List.set_cons_zero, List.set_cons_succ]
        refine anyJ_two (i := 8) (j := 24) (d := some 19) (d2 := some 35) (by kernel_rfl) rfl rfl rfl rfl rfl rfl (fun K' hK => ?_) (fun K' hK => ?_)
        · skip
          refine wp_val (w' := w2) (v := .string ⟨x.toArray⟩) (by go_simp) (hK.out _ _ (fun _ => hHeld) (fun hHeld => ?_))
          have hHeld := hHeld (by decide)
          simp only [Act.put, List.setIfInBounds_toArray, List.set_cons_zero, List.set_cons_succ]
          refine take (i := 9) (d := some 20) (v := .string ⟨t1.toArray⟩) (by kernel_rfl) rfl rfl rfl (fun _ _ _ h => h) hHeld (fun W hSw => by have x := d1a W; go_simp) ?_
          simp only [Act.put, List.setIfInBounds_toArray, List.set_cons_zero, List.set_cons_succ]
          refine take (i := 10) (d := some 21) (v := .string ⟨t2.toArray⟩) (by kernel_rfl) rfl rfl rfl (fun _ _ _ h => h) hHeld (fun W hSw => by have x := d2a W; go_simp) ?_
          simp only [Act.put, List.setIfInBounds_toArray, List.set_cons_zero, List.set_cons_succ]
          refine take (i := 17) (d := some 28) (v := .string ⟨t3.toArray⟩) (by kernel_rfl) rfl rfl rfl (fun _ _ _ h => h) hHeld (fun W hSw => by have x := d3a W; go_simp) ?_
          simp only [Act.put, List.setIfInBounds_toArray, List.set_cons_zero, List.set_cons_succ]
          refine take (i := 18) (d := some 29) (v := .string ⟨t4.toArray⟩) (by kernel_rfl) rfl rfl rfl (fun _ _ _ h => h) hHeld (fun W hSw => by have x := d4a W; go_simp) ?_
          simp only [Act.put, List.setIfInBounds_toArray, List.set_cons_zero, List.set_cons_succ]
          refine anyJ_only (i := 24) (d := some 35) (by kernel_rfl) rfl rfl rfl (fun K' hK => ?_)
          refine wp_go_call 29 _ _ rfl #[.int .i64 c] rfl (fun W => by go_simp) (hcd _) (fun e w3 he => ?_)
          obtain ⟨rfl, hw3⟩ := he
          have hb3 : Below wo.heap.size wo w3 := hb2.trans (hw3.mono hb2.size)
          have cn := cell_later hw3 cn
          refine ⟨_, rfl, hK.out _ _ (fun _ => hb3) (fun hHeld => ?_)⟩
          have hHeld := hHeld (by decide)
          simp only [Act.put, List.setIfInBounds_toArray, List.set_cons_zero, List.set_cons_succ]
          refine take (i := 25) (d := some 36) (v := .string ⟨t5.toArray⟩) (by kernel_rfl) rfl rfl rfl (fun _ _ _ h => h) hHeld (fun W hSw => by have x := d5a W; go_simp) ?_
          simp only [Act.put, List.setIfInBounds_toArray, List.set_cons_zero, List.set_cons_succ]
          refine take (i := 26) (d := some 37) (v := .string ⟨t6.toArray⟩) (by kernel_rfl) rfl rfl rfl (fun _ _ _ h => h) hHeld (fun W hSw => by have x := d6a W; go_simp) ?_
          simp only [Act.put, List.setIfInBounds_toArray, List.set_cons_zero, List.set_cons_succ]
          refine take (i := 32) (d := some 43) (v := .string ⟨t7.toArray⟩) (by kernel_rfl) rfl rfl rfl (fun _ _ _ h => h) hHeld (fun W hSw => by have x := d7a W; go_simp) ?_
          simp only [Act.put, List.setIfInBounds_toArray, List.set_cons_zero, List.set_cons_succ]
          refine take (i := 33) (d := some 44) (v := .string ⟨t8.toArray⟩) (by kernel_rfl) rfl rfl rfl (fun _ _ _ h => h) hHeld (fun W hSw => by have x := d8a W; go_simp) ?_
          simp only [Act.put, List.setIfInBounds_toArray, List.set_cons_zero, List.set_cons_succ]
          refine anyJ_only (i := 34) (d := some 3) (by kernel_rfl) rfl rfl rfl (fun K' hK => ?_)
          refine wp_val (w' := w3) (v := .string ⟨t8.toArray⟩) (by go_simp) (hK.out _ _ (fun h => absurd rfl h) (fun _ => ?_))
          simp only [Act.put, List.setIfInBounds_toArray, List.set_cons_zero, List.set_cons_succ]
          refine anyJ_done (by kernel_rfl) ?_ _
          go_wp2_with fail
          go_roundw
          case rel => exact ⟨k + 1, t8, by omega, by go_num, rfl, Lib.hid (by
            rw [hnext.out, hll.out, ← hte.out, ← s8.out, ← s7.out, ← s6.out, ← s5.out, ← s4.out, ← s3.out, ← s2.out, ← s1.out]
            simp only [List.append_assoc]), by omega, hb.trans (hb3.mono hz0)⟩
          case measure => simp [intOf]; omega
        · skip
          refine wp_go_call 29 _ _ rfl #[.int .i64 c] rfl (fun W => by go_simp) (hcd _) (fun e w3 he => ?_)
          obtain ⟨rfl, hw3⟩ := he
          have hb3 : Below wo.heap.size wo w3 := hb2.trans (hw3.mono hb2.size)
          have cn := cell_later hw3 cn
          refine ⟨_, rfl, hK.out _ _ (fun _ => hb3) (fun hHeld => ?_)⟩
          have hHeld := hHeld (by decide)
          simp only [Act.put, List.setIfInBounds_toArray, List.set_cons_zero, List.set_cons_succ]
          refine anyJ_only (i := 8) (d := some 19) (by kernel_rfl) rfl rfl rfl (fun K' hK => ?_)
          refine wp_val (w' := w3) (v := .string ⟨x.toArray⟩) (by go_simp) (hK.out _ _ (fun _ => hHeld) (fun hHeld => ?_))
          have hHeld := hHeld (by decide)
          simp only [Act.put, List.setIfInBounds_toArray, List.set_cons_zero, List.set_cons_succ]
          refine take (i := 9) (d := some 20) (v := .string ⟨t1.toArray⟩) (by kernel_rfl) rfl rfl rfl (fun _ _ _ h => h) hHeld (fun W hSw => by have x := d1a W; go_simp) ?_
          simp only [Act.put, List.setIfInBounds_toArray, List.set_cons_zero, List.set_cons_succ]
          refine take (i := 10) (d := some 21) (v := .string ⟨t2.toArray⟩) (by kernel_rfl) rfl rfl rfl (fun _ _ _ h => h) hHeld (fun W hSw => by have x := d2a W; go_simp) ?_
          simp only [Act.put, List.setIfInBounds_toArray, List.set_cons_zero, List.set_cons_succ]
          refine take (i := 17) (d := some 28) (v := .string ⟨t3.toArray⟩) (by kernel_rfl) rfl rfl rfl (fun _ _ _ h => h) hHeld (fun W hSw => by have x := d3a W; go_simp) ?_
          simp only [Act.put, List.setIfInBounds_toArray, List.set_cons_zero, List.set_cons_succ]
          refine take (i := 18) (d := some 29) (v := .string ⟨t4.toArray⟩) (by kernel_rfl) rfl rfl rfl (fun _ _ _ h => h) hHeld (fun W hSw => by have x := d4a W; go_simp) ?_
          simp only [Act.put, List.setIfInBounds_toArray, List.set_cons_zero, List.set_cons_succ]
          refine take (i := 25) (d := some 36) (v := .string ⟨t5.toArray⟩) (by kernel_rfl) rfl rfl rfl (fun _ _ _ h => h) hHeld (fun W hSw => by have x := d5a W; go_simp) ?_
          simp only [Act.put, List.setIfInBounds_toArray, List.set_cons_zero, List.set_cons_succ]
          refine take (i := 26) (d := some 37) (v := .string ⟨t6.toArray⟩) (by kernel_rfl) rfl rfl rfl (fun _ _ _ h => h) hHeld (fun W hSw => by have x := d6a W; go_simp) ?_
          simp only [Act.put, List.setIfInBounds_toArray, List.set_cons_zero, List.set_cons_succ]
          refine take (i := 32) (d := some 43) (v := .string ⟨t7.toArray⟩) (by kernel_rfl) rfl rfl rfl (fun _ _ _ h => h) hHeld (fun W hSw => by have x := d7a W; go_simp) ?_
          simp only [Act.put, List.setIfInBounds_toArray, List.set_cons_zero, List.set_cons_succ]
          refine take (i := 33) (d := some 44) (v := .string ⟨t8.toArray⟩) (by kernel_rfl) rfl rfl rfl (fun _ _ _ h => h) hHeld (fun W hSw => by have x := d8a W; go_simp) ?_
          simp only [Act.put, List.setIfInBounds_toArray, List.set_cons_zero, List.set_cons_succ]
          refine anyJ_only (i := 34) (d := some 3) (by kernel_rfl) rfl rfl rfl (fun K' hK => ?_)
          refine wp_val (w' := w3) (v := .string ⟨t8.toArray⟩) (by go_simp) (hK.out _ _ (fun h => absurd rfl h) (fun _ => ?_))
          simp only [Act.put, List.setIfInBounds_toArray, List.set_cons_zero, List.set_cons_succ]
          refine anyJ_done (by kernel_rfl) ?_ _
          go_wp2_with fail
          go_roundw
          case rel => exact ⟨k + 1, t8, by omega, by go_num, rfl, Lib.hid (by
            rw [hnext.out, hll.out, ← hte.out, ← s8.out, ← s7.out, ← s6.out, ← s5.out, ← s4.out, ← s3.out, ← s2.out, ← s1.out]
            simp only [List.append_assoc]), by omega, hb.trans (hb3.mono hz0)⟩
          case measure => simp [intOf]; omega
    · have hkn : k = n := by omega
      have hall : rs.take k = rs := List.take_of_length_le (by rw [hn.out]; omega)
      have hte2 := hte.out
      rw [hall] at hte2
      go_wp2_with fail
      go_ret
      exact ⟨by rw [← hte2]; rfl, hb⟩

end

end Go.Proofs.YthdicdkgfmiepaaGreatDoor

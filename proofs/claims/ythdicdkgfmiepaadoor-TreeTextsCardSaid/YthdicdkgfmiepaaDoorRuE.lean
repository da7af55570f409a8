/- rule.by: the rules of the ops that are so. -/
import Derived.Test.YthdicdkgfmiepaaDoorRuD
namespace Go.Proofs.YthdicdkgfmiepaaDoor
open Go.RowKit

def byTo (is_ : Int → Bool) (rules : Int → List UInt8 → List Rule) (k : Nat) : List Rule := (List.range k).flatMap fun (i : Nat) => if is_ (1 + (i : Int)) then rules (1 + (i : Int)) (opWords.getD i []) else []

theorem byTo_succ (is_ : Int → Bool) (rules : Int → List UInt8 → List Rule) (k : Nat) : byTo is_ rules (k + 1) = byTo is_ rules k ++ (if is_ (1 + (k : Int)) then rules (1 + (k : Int)) (opWords.getD k []) else []) := by
  simp [byTo, List.range_succ]

theorem opWords_at (k : Nat) (h : k < 36) : (strCells opWords).toArray[k]? = some (.string ⟨(opWords.getD k []).toArray⟩) := by
  have h1 : k < opWords.length := h
  simp [strCells, List.getD_eq_getElem?_getD, h1]

theorem opWords_le (k : Nat) : (opWords.getD k []).length ≤ 1000 := by
  have h1 : (opWords.all fun x => decide (x.length ≤ 1000)) = true := by kernel_rfl
  rw [List.getD_eq_getElem?_getD]
  by_cases h : k < opWords.length
  · rw [List.getElem?_eq_getElem h]
    simpa using List.all_eq_true.1 h1 _ (List.getElem_mem h)
  · rw [List.getElem?_eq_none (by omega)]; simp

theorem rule_info : (Tryd.prog.info? 33).map (fun i => (i.zero, i.size, i.bytes)) = some (some (.agg #[.int .i64 0, .int .i64 0, .int .i64 0, .slice none 0 0, .int .i64 0, .string ⟨#[]⟩]), 6, 72) := by kernel_rfl

set_option maxRecDepth 100000 in
set_option maxHeartbeats 1000000 in
theorem byTwo_any (w : World) (ht : Tab w) : Calls Tryd.prog 75 #[.func (.func 76) #[] #[], .func (.func 68) #[] #[]] w (Rules w.heap.size w (byTo isBin twoR 36)) := by
  go_enter Tryd.func75, Tryd.ntmps75
  go_wp2_with (go_at_call 64; refine (opWords_any _ ht).mono ?_; rintro e w1 ⟨rfl, rfl⟩)
  go_loopw [4, 10] (fun v i wr => ∃ k : Nat, k ≤ 36 ∧ i = .int .i64 k ∧ Own wr w.heap.size (fun g => w.heap.size ≤ g) 33 6 v ((byTo isBin twoR k).map encR) ∧ (byTo isBin twoR k).length ≤ 2 * k ∧ Below w.heap.size w wr ∧ BlkIs wr w.heap.size 9 (strCells opWords).toArray) (fun _ i _ => 36 - (intOf i).toNat)
  case atStart => exact ⟨0, by omega, rfl, Own.nil _ _ _ _ _, by simp [byTo], below_alloc _ _, BlkIs.fresh _ _ _⟩
  case round =>
    obtain ⟨k, hk, rfl, hown, hlen, hb, hbk⟩ := hrel
    obtain ⟨wo, rfl⟩ : ∃ wo : World, wo = wr := ⟨_, rfl⟩
    have hbz := hbk.lt
    by_cases hlt : k < 36
    · have hc : wo.cell? ⟨w.heap.size, k, none⟩ = some (.string ⟨(opWords.getD k []).toArray⟩) := by rw [hbk.cell, opWords_at k hlt]
      obtain ⟨x, hx⟩ : ∃ x, Hid (opWords.getD k [] = x) := ⟨_, Lib.hid rfl⟩
      have hxl : x.length ≤ 1000 := by rw [← hx.out]; exact opWords_le k
      rw [hx.out] at hc
      have hs := Lib.hid (byTo_succ isBin twoR k)
      by_cases hi : isBin (1 + (k : Int)) = true
      · go_wp2_with (first | (go_at_call 76; refine (binary_any _ _).mono ?_; rintro e w1 ⟨rfl, rfl⟩) | (go_at_call 68; refine (two_any _ ⟨x.toArray⟩ (by simp [ByteArray.size]; omega) _).mono ?_; rintro e w1 ⟨v1, rfl, hown1, hb1⟩) | (at_builtin; go_must (refine append_all rfl (.tmp 20) (.tmp 24) 26 33 6 72 _ rfl Tryd.underlying26 rule_info rfl (by decide) (by decide) w.heap.size (fun g => w.heap.size ≤ g) _ _ rfl v1 rfl (hown.below hb1) wo.heap.size (fun g => wo.heap.size ≤ g) _ hown1 (fun g hg => ⟨by omega, hown.ne_far hg⟩) (by simp [twoR]; omega) (by have := hb1.size; omega) ?_); intro v2 w2 hown2 hb2 hk2))
        have hbk1 := hbk.below hb1 hbz
        have hbk2 : BlkIs w2 w.heap.size 9 (strCells opWords).toArray := (hk2 _ (hown.ne_blk hbk (by decide)) hbk1.lt).trans hbk1
        go_roundw
        case rel => exact ⟨k + 1, by omega, by go_num, by rw [hs.out, if_pos hi, hx.out, List.map_append]; exact hown2, by rw [hs.out, if_pos hi]; simp [twoR]; omega, (hb.trans (hb1.mono (by omega))).trans hb2, hbk2⟩
        case measure => simp [intOf]; omega
      · have hi : isBin (1 + (k : Int)) = false := by simpa using hi
        go_wp2_with (go_at_call 76; refine (binary_any _ _).mono ?_; rintro e w1 ⟨rfl, rfl⟩)
        go_roundw
        case rel => exact ⟨k + 1, by omega, by go_num, by rw [hs.out, hi]; simpa using hown, by rw [hs.out, hi]; simp; omega, hb, hbk⟩
        case measure => simp [intOf]; omega
    · obtain rfl : k = 36 := by omega
      go_wp2_with fail
      go_ret
      exact ⟨_, rfl, hown, hb⟩

set_option maxRecDepth 100000 in
set_option maxHeartbeats 1000000 in
theorem byOne_any (w : World) (ht : Tab w) : Calls Tryd.prog 75 #[.func (.func 77) #[] #[], .func (.func 71) #[] #[]] w (Rules w.heap.size w (byTo isUn oneR 36)) := by
  go_enter Tryd.func75, Tryd.ntmps75
  go_wp2_with (go_at_call 64; refine (opWords_any _ ht).mono ?_; rintro e w1 ⟨rfl, rfl⟩)
  go_loopw [4, 10] (fun v i wr => ∃ k : Nat, k ≤ 36 ∧ i = .int .i64 k ∧ Own wr w.heap.size (fun g => w.heap.size ≤ g) 33 6 v ((byTo isUn oneR k).map encR) ∧ (byTo isUn oneR k).length ≤ 2 * k ∧ Below w.heap.size w wr ∧ BlkIs wr w.heap.size 9 (strCells opWords).toArray) (fun _ i _ => 36 - (intOf i).toNat)
  case atStart => exact ⟨0, by omega, rfl, Own.nil _ _ _ _ _, by simp [byTo], below_alloc _ _, BlkIs.fresh _ _ _⟩
  case round =>
    obtain ⟨k, hk, rfl, hown, hlen, hb, hbk⟩ := hrel
    obtain ⟨wo, rfl⟩ : ∃ wo : World, wo = wr := ⟨_, rfl⟩
    have hbz := hbk.lt
    by_cases hlt : k < 36
    · have hc : wo.cell? ⟨w.heap.size, k, none⟩ = some (.string ⟨(opWords.getD k []).toArray⟩) := by rw [hbk.cell, opWords_at k hlt]
      obtain ⟨x, hx⟩ : ∃ x, Hid (opWords.getD k [] = x) := ⟨_, Lib.hid rfl⟩
      have hxl : x.length ≤ 1000 := by rw [← hx.out]; exact opWords_le k
      rw [hx.out] at hc
      have hs := Lib.hid (byTo_succ isUn oneR k)
      by_cases hi : isUn (1 + (k : Int)) = true
      · go_wp2_with (first | (go_at_call 77; refine (unary_any _ _).mono ?_; rintro e w1 ⟨rfl, rfl⟩) | (go_at_call 71; refine (one_any _ ⟨x.toArray⟩ _).mono ?_; rintro e w1 ⟨v1, rfl, hown1, hb1⟩) | (at_builtin; go_must (refine append_all rfl (.tmp 20) (.tmp 24) 26 33 6 72 _ rfl Tryd.underlying26 rule_info rfl (by decide) (by decide) w.heap.size (fun g => w.heap.size ≤ g) _ _ rfl v1 rfl (hown.below hb1) wo.heap.size (fun g => wo.heap.size ≤ g) _ hown1 (fun g hg => ⟨by omega, hown.ne_far hg⟩) (by simp [oneR]; omega) (by have := hb1.size; omega) ?_); intro v2 w2 hown2 hb2 hk2))
        have hbk1 := hbk.below hb1 hbz
        have hbk2 : BlkIs w2 w.heap.size 9 (strCells opWords).toArray := (hk2 _ (hown.ne_blk hbk (by decide)) hbk1.lt).trans hbk1
        go_roundw
        case rel => exact ⟨k + 1, by omega, by go_num, by rw [hs.out, if_pos hi, hx.out, List.map_append]; exact hown2, by rw [hs.out, if_pos hi]; simp [oneR]; omega, (hb.trans (hb1.mono (by omega))).trans hb2, hbk2⟩
        case measure => simp [intOf]; omega
      · have hi : isUn (1 + (k : Int)) = false := by simpa using hi
        go_wp2_with (go_at_call 77; refine (unary_any _ _).mono ?_; rintro e w1 ⟨rfl, rfl⟩)
        go_roundw
        case rel => exact ⟨k + 1, by omega, by go_num, by rw [hs.out, hi]; simpa using hown, by rw [hs.out, hi]; simp; omega, hb, hbk⟩
        case measure => simp [intOf]; omega
    · obtain rfl : k = 36 := by omega
      go_wp2_with fail
      go_ret
      exact ⟨_, rfl, hown, hb⟩

set_option maxRecDepth 100000 in
set_option maxHeartbeats 1000000 in
theorem byLoad_any (w : World) (ht : Tab w) : Calls Tryd.prog 75 #[.func (.func 78) #[] #[], .func (.func 72) #[] #[]] w (Rules w.heap.size w (byTo isLoad loadR 36)) := by
  go_enter Tryd.func75, Tryd.ntmps75
  go_wp2_with (go_at_call 64; refine (opWords_any _ ht).mono ?_; rintro e w1 ⟨rfl, rfl⟩)
  go_loopw [4, 10] (fun v i wr => ∃ k : Nat, k ≤ 36 ∧ i = .int .i64 k ∧ Own wr w.heap.size (fun g => w.heap.size ≤ g) 33 6 v ((byTo isLoad loadR k).map encR) ∧ (byTo isLoad loadR k).length ≤ 2 * k ∧ Below w.heap.size w wr ∧ BlkIs wr w.heap.size 9 (strCells opWords).toArray) (fun _ i _ => 36 - (intOf i).toNat)
  case atStart => exact ⟨0, by omega, rfl, Own.nil _ _ _ _ _, by simp [byTo], below_alloc _ _, BlkIs.fresh _ _ _⟩
  case round =>
    obtain ⟨k, hk, rfl, hown, hlen, hb, hbk⟩ := hrel
    obtain ⟨wo, rfl⟩ : ∃ wo : World, wo = wr := ⟨_, rfl⟩
    have hbz := hbk.lt
    by_cases hlt : k < 36
    · have hc : wo.cell? ⟨w.heap.size, k, none⟩ = some (.string ⟨(opWords.getD k []).toArray⟩) := by rw [hbk.cell, opWords_at k hlt]
      obtain ⟨x, hx⟩ : ∃ x, Hid (opWords.getD k [] = x) := ⟨_, Lib.hid rfl⟩
      have hxl : x.length ≤ 1000 := by rw [← hx.out]; exact opWords_le k
      rw [hx.out] at hc
      have hs := Lib.hid (byTo_succ isLoad loadR k)
      by_cases hi : isLoad (1 + (k : Int)) = true
      · go_wp2_with (first | (go_at_call 78; refine (loadp_any _ _).mono ?_; rintro e w1 ⟨rfl, rfl⟩) | (go_at_call 72; refine (load_any _ ⟨x.toArray⟩ _).mono ?_; rintro e w1 ⟨v1, rfl, hown1, hb1⟩) | (at_builtin; go_must (refine append_all rfl (.tmp 20) (.tmp 24) 26 33 6 72 _ rfl Tryd.underlying26 rule_info rfl (by decide) (by decide) w.heap.size (fun g => w.heap.size ≤ g) _ _ rfl v1 rfl (hown.below hb1) wo.heap.size (fun g => wo.heap.size ≤ g) _ hown1 (fun g hg => ⟨by omega, hown.ne_far hg⟩) (by simp [loadR]; omega) (by have := hb1.size; omega) ?_); intro v2 w2 hown2 hb2 hk2))
        have hbk1 := hbk.below hb1 hbz
        have hbk2 : BlkIs w2 w.heap.size 9 (strCells opWords).toArray := (hk2 _ (hown.ne_blk hbk (by decide)) hbk1.lt).trans hbk1
        go_roundw
        case rel => exact ⟨k + 1, by omega, by go_num, by rw [hs.out, if_pos hi, hx.out, List.map_append]; exact hown2, by rw [hs.out, if_pos hi]; simp [loadR]; omega, (hb.trans (hb1.mono (by omega))).trans hb2, hbk2⟩
        case measure => simp [intOf]; omega
      · have hi : isLoad (1 + (k : Int)) = false := by simpa using hi
        go_wp2_with (go_at_call 78; refine (loadp_any _ _).mono ?_; rintro e w1 ⟨rfl, rfl⟩)
        go_roundw
        case rel => exact ⟨k + 1, by omega, by go_num, by rw [hs.out, hi]; simpa using hown, by rw [hs.out, hi]; simp; omega, hb, hbk⟩
        case measure => simp [intOf]; omega
    · obtain rfl : k = 36 := by omega
      go_wp2_with fail
      go_ret
      exact ⟨_, rfl, hown, hb⟩

end Go.Proofs.YthdicdkgfmiepaaDoor

/- LexSigns walked. -/
import Derived.Test.YtfkoginkafmcpaaLexI
import Derived.BigQuiet
import Derived.Deep.QuietTactic
import Derived.Deep.RegionHeld3
import Derived.Deep.CutBlock
import Derived.Deep.DeepCutAuto
namespace Go.Proofs.Ytfkoginkafmcpaa
open Go.RowKit

def allS : List (List UInt8) := [[60, 60, 61], [62, 62, 61], [43, 43], [45, 45], [60, 60], [62, 62], [60, 61], [62, 61], [61, 61], [33, 61], [38, 38], [124, 124], [43, 61], [45, 61], [42, 61], [47, 61], [37, 61], [38, 61], [94, 61], [124, 61], [43], [45], [42], [47], [37], [38], [124], [94], [126], [33], [60], [62], [61], [63], [58], [59], [44], [40], [41], [91], [93], [123], [125], [118, 111, 105, 100], [99, 104, 97, 114], [115, 104, 111, 114, 116], [105, 110, 116], [108, 111, 110, 103], [117, 110, 115, 105, 103, 110, 101, 100], [105, 102], [101, 108, 115, 101], [119, 104, 105, 108, 101], [100, 111], [102, 111, 114], [115, 119, 105, 116, 99, 104], [99, 97, 115, 101], [100, 101, 102, 97, 117, 108, 116], [98, 114, 101, 97, 107], [99, 111, 110, 116, 105, 110, 117, 101], [114, 101, 116, 117, 114, 110], [103, 111, 116, 111], [115, 105, 122, 101, 111, 102], [86, 111, 105, 100], [95], [120, 49]]

def signOk (x : List UInt8) : Bool := match tokensT x with
  | ([a, b], e, p) => e == 0 && p == 0 && a.text == x && b.pos == x.length
  | _ => false
theorem allS_ok : (allS.all signOk) = true := by kernel_rfl

theorem sign_toks (k : Nat) (h : k < allS.length) : ∃ a b : Tok, tokensT allS[k] = ([a, b], 0, 0) ∧ a.text = allS[k] ∧ b.pos = (allS[k]).length := by
  have h1 := List.all_eq_true.1 allS_ok _ (List.getElem_mem h)
  generalize allS[k] = x at h1
  unfold signOk at h1
  split at h1
  · rename_i a b e p he
    simp only [Bool.and_eq_true, beq_iff_eq] at h1
    obtain ⟨⟨⟨h2, h3⟩, h4⟩, h5⟩ := h1
    exact ⟨a, b, by rw [he, h2, h3], h4, h5⟩
  · cases h1

def SomeIdx (w : World) (e : Ending) (w' : World) : Prop := ∃ r : Nat, e = .returned (.int .i64 r) ∧ r < 65 ∧ w = w'

theorem allS_le (k : Nat) (h : k < allS.length) : (allS[k]).length ≤ 8 := by
  have h1 : (allS.all fun x => decide (x.length ≤ 8)) = true := by kernel_rfl
  simpa using List.all_eq_true.1 h1 _ (List.getElem_mem h)

set_option maxHeartbeats 1000000 in
theorem within_any (i : Int) (h : 0 ≤ i) (h2 : i ≤ 9223372036854775807) (w : World) :
    Calls Try.prog 12 #[.int .i64 i, .int .i64 65] w (SomeIdx w) := by
  go_enter Try.func12, Try.ntmps12
  go_wp2_with fail
  go_ret
  exact ⟨(i % 65).toNat, ret_int (by omega), by omega, rfl⟩

theorem Room.far {w : World} {B n : Nat} {A : Option Addr} (h : Room B w A n) {p : Addr} (hp : p.block < B) (u : Value) : Room B (w.setCell p u) A n := by
  intro hn
  obtain ⟨g, cs, h1, h2, h3, h4⟩ := h hn
  exact ⟨g, cs, h1, h2, h3.far (by omega) u, h4⟩
theorem Toks.far {w : World} {B : Nat} {A : Option Addr} {ts : List Tok} (h : Toks w A ts) (hR : Room B w A ts.length) {p : Addr} (hp : p.block < B) (u : Value) : Toks (w.setCell p u) A ts := by
  intro hn
  obtain ⟨g, cs, h1, h2, h3⟩ := h hn
  obtain ⟨g', _, h1', h2', _⟩ := hR hn
  rw [h1'] at h1
  injection h1 with h1
  injection h1 with h1
  exact ⟨g, cs, by rw [h1', h1], h2.far (by omega) u, h3⟩

theorem cell_alloc {w : World} {a : Addr} {v : Value} (h : w.cell? a = some v) (o : Obj) : (w.alloc o).cell? a = some v := by
  rw [World.cell?_alloc_lt _ _ _ (World.block_lt_of_cell? _ _ h)]; exact h
theorem cell_drew {w : World} {a : Addr} {v : Value} (h : w.cell? a = some v) : w.drew.cell? a = some v := h
theorem cell_set {w : World} {a b : Addr} {v : Value} (h : w.cell? a = some v) (hne : b.block ≠ a.block) (u : Value) : (w.setCell b u).cell? a = some v := by
  rw [World.cell?_setCell_other w b a u (fun e => hne (by rw [e]))]; exact h
theorem cell_drewN {w : World} {a : Addr} {v : Value} (h : w.cell? a = some v) (n : Nat) : (w.drewN n).cell? a = some v := h

theorem tokens_as (X : ByteArray) (l : List UInt8) (hX : X.data.toList = l) (q : List Tok × Int × Int) (hq : Hid (tokensT l = q)) (hs : l.length ≤ 100000) (w : World) (m : Int) (hm : w.cell? ⟨0, 0, none⟩ = some (.int .i64 m)) (h0 : 0 < w.heap.size) :
    Calls Try.prog 7 #[.string X] w (TokensPost w.heap.size w q) := by
  rw [← hq.out, ← hX]
  have : X.size = l.length := by rw [← hX]; simp
  exact tokens_all X (by omega) w m hm h0

theorem tokensR_as (X : ByteArray) (l : List UInt8) (hX : X.data.toList = l) (q : List Tok × Int × Int) (hq : Hid (tokensT l = q)) (hs : l.length ≤ 100000) (w : World) :
    Calls Try.prog 8 #[.string X] w (TokensPost w.heap.size w q) := by
  rw [← hq.out, ← hX]
  have : X.size = l.length := by rw [← hX]; simp
  exact tokensR_all X (by omega) w

set_option maxRecDepth 100000 in
set_option maxHeartbeats 4000000 in
theorem lexSigns_any (n : Nat) (A : Option Addr) (c : Nat) (w : World) (hl : n ≤ 9223372036854775807) (m : Int) (hm : w.cell? ⟨0, 0, none⟩ = some (.int .i64 m)) (h0 : 0 < w.heap.size) :
    Calls Try.prog 5 #[.slice A n c] w fun e w' => e = .returned (.bool true) ∧ Below w.heap.size w w' := by
  go_enter Try.func5, Try.ntmps5
  go_wp2_with (go_at_call 12; refine (within_any _ (by omega) (by omega) _).mono ?_; rintro e w' ⟨r, rfl, hr65, rfl⟩)
  go_loopw [5] (fun i wr => ∃ k : Nat, k ≤ 65 ∧ i = .int .i64 k ∧ Below w.heap.size w wr ∧ BlkIs wr w.heap.size 9 (strCells allS).toArray) (fun i _ => 65 - (intOf i).toNat)
  case atStart => exact ⟨0, by omega, rfl, below_alloc _ _, BlkIs.fresh _ _ _⟩
  case round =>
    obtain ⟨k, hk, rfl, hb, hbs⟩ := hrel
    obtain ⟨wo, rfl⟩ : ∃ wo : World, wo = wr := ⟨_, rfl⟩
    have hbz := hbs.lt
    by_cases hlt : k < 65
    · obtain ⟨a, b, hab, hat, hbp⟩ := sign_toks k hlt
      obtain ⟨x, hx⟩ : ∃ x, Hid (allS[k] = x) := ⟨_, Lib.hid rfl⟩
      obtain ⟨y, hy⟩ : ∃ y, Hid (allS[r] = y) := ⟨_, Lib.hid rfl⟩
      have hxl : x.length ≤ 8 := by rw [← hx.out]; exact allS_le k hlt
      have hyl : y.length ≤ 8 := by rw [← hy.out]; exact allS_le r hr65
      have hcx : wo.cell? ⟨w.heap.size, k, none⟩ = some (.string ⟨x.toArray⟩) := by rw [hbs.cell, strCells_at allS k hlt, hx.out]
      have hcy : wo.cell? ⟨w.heap.size, r, none⟩ = some (.string ⟨y.toArray⟩) := by rw [hbs.cell, strCells_at allS r hr65, hy.out]
      rw [hx.out] at hab hat hbp
      have HAB := Lib.hid hab
      clear hab hx hy
      obtain ⟨⟨ts, er, ps⟩, hxy⟩ : ∃ q, Hid (tokensT (x ++ y) = q) := ⟨_, Lib.hid rfl⟩
      have hlen := tokensT_len (x ++ y)
      rw [hxy.out] at hlen
      go_wp2_with fail
      refine (tokens_all ⟨x.toArray⟩ (by simp [ByteArray.size]; omega) _ m (by rw [hb.cell (by exact h0)]; exact hm) (by omega)).mono ?_
      rintro e w1 ⟨v1, rfl, hrow1, hb1⟩
      rw [show tokensT (ByteArray.mk x.toArray).data.toList = _ from HAB.out]
      rw [show tokensT (ByteArray.mk x.toArray).data.toList = _ from HAB.out] at hrow1
      obtain ⟨A1, c1, rfl, hT1, _⟩ := hrow1.open_
      obtain ⟨g, rfl, hgl, _, a1, _, _⟩ := hT1.at_ (k := 0) (by simp)
      obtain ⟨g', hgg, _, _, _, _, b3⟩ := hT1.at_ (k := 1) (by simp)
      simp at hgg
      subst hgg
      simp only [List.getElem_cons_zero, List.getElem_cons_succ] at a1 b3
      rw [hat] at a1
      rw [hbp] at b3
      obtain ⟨x1, hx1⟩ : ∃ x1 : Nat, x.length = x1 := ⟨_, rfl⟩
      clear hrow1 hT1 hat hbp HAB
      have hz1 := hb1.size
      have hbs1 := hbs.below hb1 hbz
      have hcx1 : w1.cell? ⟨w.heap.size, k, none⟩ = some (.string ⟨x.toArray⟩) := by rw [hb1.cell (by exact hbz)]; exact hcx
      have hcy1 : w1.cell? ⟨w.heap.size, r, none⟩ = some (.string ⟨y.toArray⟩) := by rw [hb1.cell (by exact hbz)]; exact hcy
      have hbz1 : w.heap.size < w1.heap.size := by omega
      have hm1 : w1.cell? ⟨0, 0, none⟩ = some (.int .i64 m) := by rw [hb1.cell (by show 0 < wo.heap.size; omega), hb.cell (by exact h0)]; exact hm
      have h01 : 0 < w1.heap.size := by omega
      have hxy2 : (x ++ y).length ≤ 100000 := by simp; omega
      clear hcx hcy
      have hri : (r : Int) < 65 := by omega
      have hcat : ∀ W : World, (Op.stringOp .add ⟨x.toArray⟩ ⟨y.toArray⟩).run Try.prog W = .ok (.string (⟨x.toArray⟩ ++ ⟨y.toArray⟩)) W := by
        intro W
        unfold Op.stringOp
        have h1 : ¬ ((((⟨x.toArray⟩ : ByteArray).size + (⟨y.toArray⟩ : ByteArray).size : Nat) : Int) > IntKind.i64.max) := by
          have e : IntKind.i64.max = 9223372036854775807 := rfl
          simp only [ByteArray.size, List.size_toArray]
          omega
        simp only [if_neg h1]
        rfl
      have hri0 : (0 : Int) ≤ (r : Int) := by omega
      go_wp2_with fail
      go_quiet (fail)
      go_upto_region 9 with fail
      go_cut [8, 9] (fun s8 s9 wx => ∃ (p9 : Nat) (A8 : Option Addr) (c8 : Nat), s8 = .slice A8 ts.length c8 ∧ s9 = .pointer (some ⟨p9, 0, none⟩) ∧ BlkIs wx p9 26 #[.int .i64 er, .int .i64 ps] ∧ Toks wx A8 ts ∧ Below w1.heap.size w1 wx)
      case first =>
        go_region_held3 (fun W => W.cell? ⟨w.heap.size, k, none⟩ = some (.string ⟨x.toArray⟩) ∧ W.cell? ⟨w.heap.size, r, none⟩ = some (.string ⟨y.toArray⟩)) ((refine ⟨?_, ?_⟩ <;> (repeat (first | assumption | refine cell_alloc ?_ _ | refine cell_drewN ?_ _ | refine cell_drew ?_ | refine cell_set ?_ (by simp; omega) _))))
          ((go_at_call 7; refine (tokens_as _ (x ++ y) (by simp) _ hxy hxy2 _ m (by repeat (first | exact hm1 | refine cell_alloc ?_ _ | refine cell_drewN ?_ _)) (by simp)).mono ?_; rintro e w3 ⟨v3, rfl, hrow3, hb3⟩; obtain ⟨A3, c3, rfl, hT3, hR3⟩ := hrow3.open_; obtain ⟨hc3, hf3⟩ := bcell hb3; have hz3 := hb3.size; have hk3 := cell_later hb3 (show World.cell? _ ⟨w.heap.size, k, none⟩ = some (.string ⟨x.toArray⟩) from by repeat (first | exact hcx1 | refine cell_alloc ?_ _ | refine cell_drewN ?_ _)); have hr3 := cell_later hb3 (show World.cell? _ ⟨w.heap.size, r, none⟩ = some (.string ⟨y.toArray⟩) from by repeat (first | exact hcy1 | refine cell_alloc ?_ _ | refine cell_drewN ?_ _))))
        · go_wp2_with fail
          go_meet
          have hbA : Below w1.heap.size w1 w3 := (below_drewN (below_alloc w1 (.cells #[.int .i64 0, .int .i64 0] 26)) _).trans (hb3.mono (by simp))
          have hzA := hbA.size
          exact ⟨_, _, _, rfl, rfl, BlkIs.fresh _ _ _, hT3.alloc _, hbA.alloc (by omega) _⟩
        · go_wp2_with fail
          go_meet
          have hbA : Below w1.heap.size w1 w3 := by
            refine Below.trans ?_ (hb3.mono (B' := w1.heap.size) (by simp; omega))
            repeat (first | exact Below.refl _ _ | refine Below.alloc ?_ (by simp) _ | refine below_drewN ?_ _)
          have hk4 : BlkIs w3 (w1.heap.size + 1) 26 #[.int .i64 0, .int .i64 0] := by
            have h1 := (hb3.block (w1.heap.size + 1) (by simp))
            refine h1.trans ?_
            exact BlkIs.fresh1 w1 (.cells #[.int .i64 0, .int .i64 0] 26) 26 #[.int .i64 0, .int .i64 0]
          have hR4 : Room (w1.heap.size + 2) w3 A3 ts.length := hR3.base (by simp)
          exact ⟨_, _, _, rfl, rfl, (hk4.put 0 _).put 1 _, (hT3.far hR4 (by exact Nat.lt_succ_self _) _).far (hR4.far (by exact Nat.lt_succ_self _) _) (by exact Nat.lt_succ_self _) _, (hbA.setCell (by exact Nat.le_succ _) _).setCell (by exact Nat.le_succ _) _⟩
      case rest =>
        obtain ⟨p9, A8, c8, rfl, rfl, hk9, hT8, hb9⟩ := hcut
        obtain ⟨wd, rfl⟩ : ∃ wd : World, wd = wc := ⟨_, rfl⟩
        have hz9 := hb9.size
        have hcx9 : wd.cell? ⟨w.heap.size, k, none⟩ = some (.string ⟨x.toArray⟩) := by rw [hb9.cell (by exact hbz1)]; exact hcx1
        have hcy9 : wd.cell? ⟨w.heap.size, r, none⟩ = some (.string ⟨y.toArray⟩) := by rw [hb9.cell (by exact hbz1)]; exact hcy1
        have hbw9 : Below w.heap.size w wd := (hb.trans (hb1.mono (by omega))).trans (hb9.mono (by omega))
        have hbs9 := hbs1.below hb9 hbz1
        have hzd := hbs9.lt
        clear hcx1 hcy1 hm1 h01 a1 b3 hgl
        go_upto_region 10 with fail
        go_cut [10, 11] (fun s10 s11 wx => ∃ (p11 : Nat) (A10 : Option Addr) (c10 : Nat), s10 = .slice A10 ts.length c10 ∧ s11 = .pointer (some ⟨p11, 0, none⟩) ∧ BlkIs wx p11 26 #[.int .i64 er, .int .i64 ps] ∧ Toks wx A10 ts ∧ Below wd.heap.size wd wx)
        case first =>
          go_region_held3 (fun W => W.cell? ⟨w.heap.size, k, none⟩ = some (.string ⟨x.toArray⟩) ∧ W.cell? ⟨w.heap.size, r, none⟩ = some (.string ⟨y.toArray⟩)) ((refine ⟨?_, ?_⟩ <;> (repeat (first | assumption | refine cell_alloc ?_ _ | refine cell_drewN ?_ _ | refine cell_drew ?_ | refine cell_set ?_ (by simp; omega) _))))
            ((go_at_call 8; refine (tokensR_as _ (x ++ y) (by simp) _ hxy hxy2 _).mono ?_; rintro e w3 ⟨v3, rfl, hrow3, hb3⟩; obtain ⟨A3, c3, rfl, hT3, hR3⟩ := hrow3.open_; obtain ⟨hc3, hf3⟩ := bcell hb3; have hz3 := hb3.size; have hk3 := cell_later hb3 (show World.cell? _ ⟨w.heap.size, k, none⟩ = some (.string ⟨x.toArray⟩) from by repeat (first | exact hcx9 | refine cell_alloc ?_ _ | refine cell_drewN ?_ _ | refine cell_drew ?_)); have hr3 := cell_later hb3 (show World.cell? _ ⟨w.heap.size, r, none⟩ = some (.string ⟨y.toArray⟩) from by repeat (first | exact hcy9 | refine cell_alloc ?_ _ | refine cell_drewN ?_ _ | refine cell_drew ?_))))
          · go_wp2_with fail
            go_meet
            have hbA : Below wd.heap.size wd w3 := by
              refine Below.trans ?_ (hb3.mono (B' := wd.heap.size) (by first | exact Nat.le_refl _ | (simp; omega)))
              repeat (first | exact Below.refl _ _ | refine Below.alloc ?_ (by simp) _ | refine below_drewN ?_ _ | refine Below.drew ?_)
            have hzA := hbA.size
            exact ⟨_, _, _, rfl, rfl, BlkIs.fresh _ _ _, hT3.alloc _, hbA.alloc (by omega) _⟩
          · go_wp2_with fail
            go_meet
            have hbA : Below wd.heap.size wd w3 := by
              refine Below.trans ?_ (hb3.mono (B' := wd.heap.size) (by simp))
              repeat (first | exact Below.refl _ _ | refine Below.alloc ?_ (by simp) _ | refine below_drewN ?_ _ | refine Below.drew ?_)
            have hk4 : BlkIs w3 wd.heap.size 26 #[.int .i64 0, .int .i64 0] := by
              have h1 := (hb3.block wd.heap.size (by simp))
              refine h1.trans ?_
              exact BlkIs.fresh wd 26 #[.int .i64 0, .int .i64 0]
            have hR4 : Room (wd.heap.size + 1) w3 A3 ts.length := hR3.base (by simp)
            exact ⟨_, _, _, rfl, rfl, (hk4.put 0 _).put 1 _, (hT3.far hR4 (by exact Nat.lt_succ_self _) _).far (hR4.far (by exact Nat.lt_succ_self _) _) (by exact Nat.lt_succ_self _) _, (hbA.setCell (by exact Nat.le_refl _) _).setCell (by exact Nat.le_refl _) _⟩
        case rest =>
          obtain ⟨p11, A10, c10, rfl, rfl, hk11, hT10, hb11⟩ := hcut
          obtain ⟨we, rfl⟩ : ∃ we : World, we = wc := ⟨_, rfl⟩
          have hk9' := hk9.below hb11 hk9.lt
          have hT8' := hT8.below hb11
          have hbs11 := hbs9.below hb11 hzd
          have hbw11 : Below w.heap.size w we := hbw9.trans (hb11.mono (by omega))
          have c90 := hk9'.cell 0
          have c91 := hk9'.cell 1
          have c110 := hk11.cell 0
          have c111 := hk11.cell 1
          simp at c90 c91 c110 c111
          clear hk9 hT8 hk9' hk11 hbs9 hbs1 hbs hcx9 hcy9
          go_wp2_with fail
          refine (eqTokens_any ts A8 A10 c8 c10 _ (by omega) hT8' hT10).mono ?_
          rintro e w5 ⟨rfl, nd, rfl⟩
          go_wp2_with fail
          go_roundw
          case rel => exact ⟨k + 1, by omega, by go_num, below_drewN hbw11 _, hbs11.drewN _⟩
          case measure => simp [intOf]; omega
    · obtain rfl : k = 65 := by omega
      go_wp2_with fail
      refine (wakes_any _ m (by rw [hb.cell (by exact h0)]; exact hm) (by have := hb.size; omega)).mono ?_
      rintro e w4 ⟨rfl, hb4⟩
      go_wp2_with fail
      go_ret
      exact ⟨rfl, hb.trans (hb4.mono hb.size)⟩

end Go.Proofs.Ytfkoginkafmcpaa

/- LexBlanks walked. -/
import Derived.Test.YtfkoginkafmcpaaLexI
import Derived.Test.YtfkoginkafmcpaaLexM
import Derived.BigRegion
import Derived.RegionTactic
namespace Go.Proofs.Ytfkoginkafmcpaa
open Go.RowKit

theorem around (s : ByteArray) : (⟨#[32, 10]⟩ ++ s ++ ⟨#[9, 32]⟩ : ByteArray).data.toList = 32 :: 10 :: (s.data.toList ++ [9, 32]) := by
  simp

theorem shiftAll_at (ts : List Tok) (k : Nat) (h : k < ts.length) (h' : k < (shiftAll ts).length) : (shiftAll ts)[k] = shiftTok (if (ts[k]).kind = 0 then 4 else 2) ts[k] := by
  simp [shiftAll]

theorem shiftAll_len (ts : List Tok) : (shiftAll ts).length = ts.length := by simp [shiftAll]

theorem around_size (s : ByteArray) : (⟨#[32, 10]⟩ ++ s ++ ⟨#[9, 32]⟩ : ByteArray).size = s.size + 4 := by
  have h1 : ∀ x : ByteArray, x.size = x.data.toList.length := fun x => by simp
  rw [h1, around, h1 s]
  simp

set_option maxRecDepth 100000 in
set_option maxHeartbeats 2000000 in
theorem lexBlanks_any (n : Nat) (A : Option Addr) (c : Nat) (ss : List ByteArray) (w : World) (hl : n ≤ 9223372036854775807) (hA : Texts w A n ss) (m : Int) (hm : w.cell? ⟨0, 0, none⟩ = some (.int .i64 m)) (h0 : 0 < w.heap.size) :
    Calls Try.prog 4 #[.slice A n c] w fun e w' => e = .returned (.bool true) ∧ Below w.heap.size w w' := by
  go_enter Try.func4, Try.ntmps4
  go_wp2_with fail
  refine (heavy_any n A c ss _ hl hA).mono ?_
  rintro e w' ⟨b, rfl, rfl⟩
  cases b
  · go_wp2_with fail
    go_loopw [3] (fun i wr => ∃ k : Nat, k ≤ n ∧ i = .int .i64 k ∧ Below w.heap.size w wr) (fun i _ => n - (intOf i).toNat)
    case atStart => exact ⟨0, by omega, rfl, Below.refl _ _⟩
    case round =>
      obtain ⟨k, hk, rfl, hb⟩ := hrel
      obtain ⟨wo, rfl⟩ : ∃ wo : World, wo = wr := ⟨_, rfl⟩
      by_cases hgo : k < n ∧ k < 10
      · obtain ⟨hlt, h10⟩ := hgo
        obtain ⟨b, off, rfl, hbl, hc⟩ := hA (by omega)
        obtain ⟨hck, hsk⟩ := hc k hlt
        have hck2 : wo.cell? ⟨b, off + k, none⟩ = some (.string (ss.getD k ByteArray.empty)) := by rw [hb.cell (by exact hbl)]; exact hck
        clear hc hck
        generalize ss.getD k ByteArray.empty = s at *
        have hbz := hb.size
        have hlen := tokensT_len s.data.toList
        by_cases hbig : 1000 < s.size
        · go_wp2_with fail
          go_roundw
          case rel => exact ⟨k + 1, by omega, by go_num, hb⟩
          case measure => simp [intOf]; omega
        · have hsl : s.size ≤ 1000 := by omega
          clear hbig
          have hpos := Lib.hid (tokens_pos s.data.toList (by simp; omega))
          have hbk := Lib.hid (tokens_blanks s.data.toList (by simpa using hsl))
          have herr := Lib.hid (tokens_err s.data.toList)
          go_wp2_with fail
          refine (tokens_all s hsk _ m (by rw [hb.cell (by exact h0)]; exact hm) (by omega)).mono ?_
          rintro e w1 ⟨v1, rfl, hrow1, hb1⟩
          obtain ⟨⟨ts, er, ps⟩, hr⟩ : ∃ r, Hid (tokensT s.data.toList = r) := ⟨_, Lib.hid rfl⟩
          rw [hr.out] at hrow1 hlen
          have hpos := Lib.hid (show (∀ t ∈ ts, 0 ≤ t.pos ∧ t.pos ≤ 2000) ∧ 0 ≤ ps ∧ ps ≤ 2000 by have := hpos.out; rw [hr.out] at this; exact this)
          have herr := Lib.hid (show er ≠ 0 → ts = [] by have := herr.out; rw [hr.out] at this; exact this)
          have hbk := Lib.hid (show tokensT (32 :: 10 :: (s.data.toList ++ [9, 32])) = (shiftAll ts, er, if er = 0 then 0 else ps + 2) by have := hbk.out; rw [hr.out] at this; exact this)
          rw [hr.out]
          obtain ⟨A1, c1, rfl, hT1, hR1⟩ := hrow1.open_
          clear hrow1 hR1
          have hz1 := hb1.size
          have hck3 : w1.cell? ⟨b, off + k, none⟩ = some (.string s) := by rw [hb1.cell (by show b < wo.heap.size; omega)]; exact hck2
          have hbl1 : b < w1.heap.size := by omega
          go_wp2_with fail
          refine (tokens_all _ (by rw [around_size]; omega) _ m (by rw [World.cell?_alloc_lt _ _ _ (by show 0 < w1.heap.size; omega), hb1.cell (by show 0 < wo.heap.size; omega), hb.cell (by exact h0)]; exact hm) (by simp)).mono ?_
          rw [around, hbk.out]
          rintro e w2 ⟨v2, rfl, hrow2, hb2⟩
          obtain ⟨A2, c2, rfl, hT2, hR2⟩ := hrow2.open_
          clear hrow2 hR2
          have hT3 := (hT1.alloc (.cells #[.int .i64 er, .int .i64 ps] 26)).below hb2
          have hz2 := hb2.size
          simp at hz2
          have hz3 : w1.heap.size < w2.heap.size := by omega
          have hf := (BlkIs.fresh w1 26 #[.int .i64 er, .int .i64 ps]).below hb2 (by simp)
          have d0 := hf.cell 0
          have d1 := hf.cell 1
          simp at d0 d1
          have hbw2 : Below w.heap.size w w2 := (hb.trans (hb1.mono (by omega))).trans (Below.trans ((Below.refl _ _).alloc (by omega) _) (hb2.mono (by simp; omega)))
          have hnn : (shiftAll ts).length = ts.length := shiftAll_len ts
          rw [hnn]
          clear hck2 hck3 hbl1 hf hT1 hb2 hb1 hb hnn
          by_cases he : er = 0
          · subst he
            go_wp2_with fail
            have hT4 := hT3.alloc (.cells #[.int .i64 0, .int .i64 0] 26)
            have hT5 := hT2.alloc (.cells #[.int .i64 0, .int .i64 0] 26)
            go_loopw [8] (fun i wr => ∃ j : Nat, j ≤ ts.length ∧ i = .int .i64 j ∧ Below (w2.heap.size + 1) (w2.alloc (.cells #[.int .i64 0, .int .i64 0] 26)) wr) (fun i _ => ts.length - (intOf i).toNat)
            case atStart => exact ⟨0, by omega, rfl, Below.refl _ _⟩
            case round =>
              obtain ⟨j, hj, rfl, hbj⟩ := hrel
              obtain ⟨wj, rfl⟩ : ∃ wj : World, wj = wr := ⟨_, rfl⟩
              have hbj' : Below (w2.alloc (.cells #[.int .i64 0, .int .i64 0] 26)).heap.size (w2.alloc (.cells #[.int .i64 0, .int .i64 0] 26)) wj := by simpa using hbj
              have hzj := hbj.size
              simp at hzj
              by_cases hjt : j < ts.length
              · obtain ⟨g, rfl, hgl, a0, a1, a2, a3⟩ := (hT4.below hbj').at_ hjt
                obtain ⟨g', rfl, hgl', b0, b1, b2, b3⟩ := (hT5.below hbj').at_ (k := j) (by rw [shiftAll_len]; exact hjt)
                rw [shiftAll_at _ _ hjt] at b0 b1 b2 b3
                have hps := hpos.out.1 (ts[j]) (List.getElem_mem hjt)
                obtain ⟨hp0, hp1⟩ := hps
                simp only [shiftTok] at b0 b1 b2 b3
                generalize ts[j] = t at *
                obtain ⟨kd, tx, nn, po⟩ := t
                simp only [] at *
                clear hT3 hT4 hT5 hT2 hbj'
                by_cases hk0 : kd = 0
                · subst hk0
                  simp only [if_true] at b3
                  go_wp2_with fail
                  go_region
                  all_goals
                    go_wp2_with fail
                    go_roundw
                    case rel => exact ⟨j + 1, by omega, by go_num, by repeat (first | exact hbj | refine Below.drew ?_ | refine Below.setCell ?_ (by simp; omega) _ | refine Below.alloc ?_ (by (try simp); omega) _)⟩
                    case measure => simp [intOf]; omega
                · have hkb : (kd == 0) = false := by simpa using hk0
                  rw [if_neg hk0] at b3
                  clear hk0
                  go_wp2_with fail
                  go_region
                  all_goals
                    go_wp2_with fail
                    go_roundw
                    case rel => exact ⟨j + 1, by omega, by go_num, by repeat (first | exact hbj | refine Below.drew ?_ | refine Below.setCell ?_ (by simp; omega) _ | refine Below.alloc ?_ (by (try simp); omega) _)⟩
                    case measure => simp [intOf]; omega
              · obtain rfl : j = ts.length := by omega
                have hbw3 : Below w.heap.size w wj := (hbw2.alloc (by omega) _).trans (hbj.mono (by omega))
                go_wp2_with fail
                go_roundw
                case rel => exact ⟨k + 1, by omega, by go_num, hbw3⟩
                case measure => simp [intOf]; omega
          · have ht0 : ts = [] := herr.out he
            subst ht0
            have hps := hpos.out.2
            obtain ⟨hp0, hp1⟩ := hps
            have he1 : (er == 0) = false := by simpa using he
            have he2 : (er != 0) = true := by simpa using he
            rw [if_neg he]
            clear he hT2 hT3
            go_wp2_with fail
            go_loopw [8] (fun i wr => i = .int .i64 0 ∧ Below (w2.heap.size + 1) (w2.alloc (.cells #[.int .i64 er, .int .i64 (ps + 2)] 26)) wr) (fun _ _ => 0)
            case atStart => exact ⟨rfl, Below.refl _ _⟩
            case round =>
              obtain ⟨rfl, hbj⟩ := hrel
              obtain ⟨wj, rfl⟩ : ∃ wj : World, wj = wr := ⟨_, rfl⟩
              have hbw3 : Below w.heap.size w wj := (hbw2.alloc (by omega) _).trans (hbj.mono (by omega))
              go_wp2_with fail
              go_roundw
              case rel => exact ⟨k + 1, by omega, by go_num, hbw3⟩
              case measure => simp [intOf]; omega
      · have hd : n ≤ k ∨ (k < n ∧ 10 ≤ k) := by omega
        clear hgo hA
        rcases hd with hd | ⟨hd, hd2⟩
        all_goals
          go_wp2_with fail
          refine (wakes_any _ m (by rw [hb.cell (by exact h0)]; exact hm) (by have := hb.size; omega)).mono ?_
          rintro e w4 ⟨rfl, hb4⟩
          go_wp2_with fail
          go_ret
          exact ⟨rfl, hb.trans (hb4.mono hb.size)⟩
  · go_wp2_with fail
    go_ret
    exact ⟨rfl, Below.refl _ _⟩

end Go.Proofs.Ytfkoginkafmcpaa

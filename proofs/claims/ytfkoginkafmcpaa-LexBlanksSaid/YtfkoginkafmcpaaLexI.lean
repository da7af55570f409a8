/- LexTokens, wakes walked. -/
import Derived.Test.YtfkoginkafmcpaaLexH
import Derived.Test.YtfkoginkafmcpaaLexG
import Derived.Test.YtfkoginkafmcpaaLexL
namespace Go.Proofs.Ytfkoginkafmcpaa
open Go.RowKit

theorem scanL_len : ∀ (f : Nat) (l : List UInt8) (p : Nat) (acc : List Tok), l.length < f → (scanL f l p acc).1.length ≤ acc.length + l.length + 1
  | 0, _, _, _, h => by omega
  | f + 1, [], p, acc, _ => by simp [scanL]
  | f + 1, b :: r, p, acc, h => by
    simp only [List.length_cons] at h ⊢
    unfold scanL
    split
    · rename_i he
      have h1 := tokenT_pos b r he
      refine Nat.le_trans (scanL_len f _ _ _ (by simp; omega)) ?_
      simp only [List.length_append, List.length_drop, List.length_cons, List.length_nil]
      omega
    · simp

theorem tokensT_len (l : List UInt8) : (tokensT l).1.length ≤ 2001 := by
  unfold tokensT
  split
  · simp
  · have := scanL_len (l.length + 1) (l.drop (rl isBlank l)) (rl isBlank l) [] (by simp; omega)
    simp at this ⊢
    omega

theorem tokens_all (s : ByteArray) (hs : s.size ≤ 9223372036854775807) (w : World) (m : Int) (hm : w.cell? ⟨0, 0, none⟩ = some (.int .i64 m)) (h0 : 0 < w.heap.size) :
    Calls Try.prog 7 #[.string s] w (TokensPost w.heap.size w (tokensT s.data.toList)) := by
  by_cases h : s.size ≤ 2000
  · exact tokens_any s h w m hm h0
  · have : tokensT s.data.toList = ([], 2, 0) := by unfold tokensT; rw [if_pos (by simp; omega)]
    rw [this]
    exact tokens_long s (by omega) w hs

theorem tokensR_all (s : ByteArray) (hs : s.size ≤ 9223372036854775807) (w : World) :
    Calls Try.prog 8 #[.string s] w (TokensPost w.heap.size w (tokensT s.data.toList)) := by
  rw [tokens_same]
  by_cases h : s.size ≤ 2000
  · exact tokensR_any s h w
  · have : tokensR s.data.toList = ([], 2, 0) := by unfold tokensR; rw [if_pos (by simp; omega)]
    rw [this]
    exact tokensR_long s (by omega) w hs

section
variable {w w' : World} {B : Nat} {A : Option Addr} {ts : List Tok} {n : Nat}
theorem Toks.below (h : Toks w A ts) (hb : Below w.heap.size w w') : Toks w' A ts := by
  intro hn
  obtain ⟨g, cs, hA, hk, hc⟩ := h hn
  exact ⟨g, cs, hA, hk.below hb hk.lt, hc⟩
theorem Toks.alloc (h : Toks w A ts) (o : Obj) : Toks (w.alloc o) A ts := h.below (below_alloc _ _)
theorem Room.below (h : Room B w A n) (hb : Below w.heap.size w w') : Room B w' A n := by
  intro hn
  obtain ⟨g, cs, hA, hg, hk, hc⟩ := h hn
  exact ⟨g, cs, hA, hg, hk.below hb hk.lt, hc⟩
theorem Room.alloc (h : Room B w A n) (o : Obj) : Room B (w.alloc o) A n := h.below (below_alloc _ _)
theorem Room.drewN (h : Room B w A n) (k : Nat) : Room B (w.drewN k) A n := h
theorem Room.base {B' : Nat} (h : Room B w A n) (hB : B' ≤ B) : Room B' w A n := by
  intro hn
  obtain ⟨g, cs, hA, hg, hk, hc⟩ := h hn
  exact ⟨g, cs, hA, by omega, hk, hc⟩
theorem TokRow.open_ {v : Value} (h : TokRow w B v ts) : ∃ (A : Option Addr) (c : Nat), v = .slice A ts.length c ∧ Toks w A ts ∧ Room B w A ts.length := by
  obtain ⟨A, c, hv, hA⟩ := h.form
  refine ⟨A, c, hv, fun hn => ?_, fun hn => ?_⟩
  · obtain ⟨g, cs, h1, _, h3, _, h5⟩ := hA hn
    exact ⟨g, cs, h1, h3, h5⟩
  · obtain ⟨g, cs, h1, h2, h3, h4, _⟩ := hA hn
    exact ⟨g, cs, h1, h2, h3, h4⟩
end

theorem wakes_toks : tokensT [97, 43, 61, 49] = ([⟨1, [97], 0, 0⟩, ⟨3, [43, 61], 0, 1⟩, ⟨2, [], 1, 3⟩, ⟨0, [], 0, 4⟩], 0, 0) := by kernel_rfl

set_option maxHeartbeats 1000000 in
theorem wakes_any (w : World) (m : Int) (hm : w.cell? ⟨0, 0, none⟩ = some (.int .i64 m)) (h0 : 0 < w.heap.size) :
    Calls Try.prog 11 #[] w fun e w' => e = .returned (.bool true) ∧ Below w.heap.size w w' := by
  go_enter Try.func11, Try.ntmps11
  go_wp2_with fail
  refine (tokens_all _ (by decide) _ m hm h0).mono ?_
  have HT := Lib.hid wakes_toks
  rintro e w1 ⟨v, rfl, hrow, hb⟩
  have hrow : TokRow w1 w.heap.size v [⟨1, [97], 0, 0⟩, ⟨3, [43, 61], 0, 1⟩, ⟨2, [], 1, 3⟩, ⟨0, [], 0, 4⟩] := by
    have := hrow; rw [show tokensT _ = _ from HT.out] at this; exact this
  rw [show tokensT _ = _ from HT.out]
  obtain ⟨A, c, rfl, hT, hR⟩ := hrow.open_
  obtain ⟨g, rfl, hgl, _, a1, _, _⟩ := hT.at_ (k := 1) (by decide)
  have a1' : w1.cell? ⟨g, 5, none⟩ = some (.string ⟨#[43, 61]⟩) := a1
  clear a1 hT hrow HT hR hm
  go_wp2_with fail
  go_ret
  exact ⟨rfl, hb.alloc (by have := hb.size; omega) _⟩

def zeroCells (n : Nat) : Array Value := madeCells #[.int .u8 0] n
def zeroStr (n : Nat) : ByteArray := ⟨(List.replicate n (0 : UInt8)).toArray⟩
theorem zeroStr_size (n : Nat) : (zeroStr n).size = n := by simp [zeroStr, ByteArray.size]

theorem u8_info : (Try.prog.info? 5).map (fun i => (i.zero, i.size, i.bytes)) = some (some (.int .u8 0), 1, 1) := by kernel_rfl

theorem made_zeros (n : Nat) (z : Int) (hz : z = n) (hn : n ≤ 100000) (w : World) : (Instr.makeSlice 31 (.int .i64 z) (.int .i64 z)).run Try.prog w = .ok (.slice (some ⟨w.heap.size, 0, none⟩) n n) (w.alloc (.cells (zeroCells n) 5)) := by
  obtain ⟨i0, hi0, hz0, hz1, hz2⟩ := info_parts u8_info
  have h := run_make (P := Try.prog) w 31 5 i0 (.int .u8 0) Try.underlying31 hi0 hz0 .i64 .i64 z z (by omega) (by omega) (by rw [hz2]; omega) (by omega)
  rw [h, hz1, Nat.mul_one, show z.toNat = n from by omega]
  rfl

theorem zeros_string (n : Nat) (w : World) : (convert 31 9 (.slice (some ⟨w.heap.size, 0, none⟩) n n)).run Try.prog (w.alloc (.cells (zeroCells n) 5)) = .ok (.string (zeroStr n)) (w.alloc (.cells (zeroCells n) 5)) := by
  have h := run_convert_bytes_back (P := Try.prog) (w.alloc (.cells (zeroCells n) 5)) 31 9 5 ⟨w.heap.size, 0, none⟩ n (List.replicate n (0 : UInt8)) Try.underlying31 Try.underlying5 Try.underlying9 (fun j hj => by
    have hb := (BlkIs.fresh w 5 (zeroCells n))
    have hj' : j < n := by simpa using hj
    have e : (⟨w.heap.size, 0, none⟩ : Addr).add j = ⟨w.heap.size, j, none⟩ := by
      unfold Addr.add
      split
      · rename_i h0; rw [h0]
      · simp
    rw [e, hb.cell]
    simp [zeroCells, madeCells, hj', Nat.mod_one])
  rw [List.length_replicate] at h
  exact h

set_option maxHeartbeats 2000000 in
theorem lexTokens_any (n : Nat) (A : Option Addr) (c : Nat) (ss : List ByteArray) (w : World) (hl : n ≤ 9223372036854775807) (hA : Texts w A n ss) (m : Int) (hm : w.cell? ⟨0, 0, none⟩ = some (.int .i64 m)) (h0 : 0 < w.heap.size) :
    Calls Try.prog 3 #[.slice A n c] w fun e w' => e = .returned (.bool true) ∧ Below w.heap.size w w' := by
  go_enter Try.func3, Try.ntmps3
  go_wp2_with fail
  refine (heavy_any n A c ss _ hl hA).mono ?_
  rintro e w' ⟨b, rfl, rfl⟩
  cases b
  · go_wp2_with fail
    go_loopw [3] (fun i wr => ∃ k : Nat, k ≤ n ∧ i = .int .i64 k ∧ Below w.heap.size w wr) (fun i _ => n - (intOf i).toNat)
    case atStart => exact ⟨0, by omega, rfl, Below.refl _ _⟩
    case round =>
      obtain ⟨k, hk, rfl, hb⟩ := hrel
      obtain ⟨wo, rfl⟩ : ∃ wo : World, wo = wr := ⟨_, rfl⟩
      by_cases hgo : k < n ∧ k < 10
      · obtain ⟨hlt, h10⟩ := hgo
        obtain ⟨b, off, rfl, hbl, hc⟩ := hA (by omega)
        obtain ⟨hck, hsk⟩ := hc k hlt
        have hck2 : wo.cell? ⟨b, off + k, none⟩ = some (.string (ss.getD k ByteArray.empty)) := by rw [hb.cell (by exact hbl)]; exact hck
        clear hc hck
        generalize ss.getD k ByteArray.empty = s at *
        have hbz := hb.size
        have hlen := tokensT_len s.data.toList
        go_wp2_with fail
        refine (tokens_all s hsk _ m (by rw [hb.cell (by exact h0)]; exact hm) (by omega)).mono ?_
        rintro e w1 ⟨v1, rfl, hrow1, hb1⟩
        obtain ⟨⟨ts, er, ps⟩, hr⟩ : ∃ r, Hid (tokensT s.data.toList = r) := ⟨_, Lib.hid rfl⟩
        rw [hr.out] at hrow1 hlen
        rw [hr.out]
        obtain ⟨A1, c1, rfl, hT1, hR1⟩ := hrow1.open_
        clear hrow1
        have hz1 := hb1.size
        have hck3 : w1.cell? ⟨b, off + k, none⟩ = some (.string s) := by rw [hb1.cell (by show b < wo.heap.size; omega)]; exact hck2
        have hbl1 : b < w1.heap.size := by omega
        go_wp2_with fail
        refine (tokensR_all s hsk _).mono ?_
        rintro e w2 ⟨v2, rfl, hrow2, hb2⟩
        rw [hr.out] at hrow2
        rw [hr.out]
        obtain ⟨A2, c2, rfl, hT2, hR2⟩ := hrow2.open_
        clear hrow2
        have hT3 := (hT1.alloc (.cells #[.int .i64 er, .int .i64 ps] 26)).below hb2
        have hR3 := (hR1.alloc (.cells #[.int .i64 er, .int .i64 ps] 26)).below hb2
        have hz2 := hb2.size
        simp at hz2
        have hz3 : w1.heap.size < w2.heap.size := by omega
        have hf := (BlkIs.fresh w1 26 #[.int .i64 er, .int .i64 ps]).below hb2 (by simp)
        have d0 := hf.cell 0
        have d1 := hf.cell 1
        simp at d0 d1
        have hbw2 : Below w.heap.size w w2 := (hb.trans (hb1.mono (by omega))).trans (Below.trans ((Below.refl _ _).alloc (by omega) _) (hb2.mono (by simp; omega)))
        clear hck2 hck3 hbl1 hf hT1 hR1 hR2 hb2 hb1 hb
        go_wp2_with fail
        refine (eqTokens_any ts A1 A2 c1 c2 _ (by omega) (hT3.alloc _) (hT2.alloc _)).mono ?_
        rintro e w3 ⟨rfl, nd, rfl⟩
        go_wp2_with fail
        refine (spoil_any wo.heap.size ts.length A1 c1 _ (by omega) ((hR3.alloc _).drewN _)).mono ?_
        rintro e w4 ⟨rfl, hb4⟩
        go_wp2_with fail
        go_roundw
        case rel => exact ⟨k + 1, by omega, by go_num, (below_drewN (hbw2.alloc (by omega) _) _).trans (hb4.mono (by omega))⟩
        case measure => simp [intOf]; omega
      · have hb0 := hb.size
        have hb2 : Below w.heap.size w (wo.alloc (.cells (zeroCells 2001) 5)) := hb.alloc (by omega) _
        have hd : n ≤ k ∨ (k < n ∧ 10 ≤ k) := by omega
        clear hgo hA
        rcases hd with hd | ⟨hd, hd2⟩
        all_goals
          have hmk := made_zeros 2001 2001 rfl (by omega)
          have hcv := zeros_string 2001
          go_wp2_with fail
          refine (tokens_long (zeroStr 2001) (by rw [zeroStr_size]; omega) _ (by rw [zeroStr_size]; omega)).mono ?_
          rintro e w1 ⟨v1, rfl, hrow1, hb1⟩
          clear hrow1 hmk hcv
          have hb3 : Below w.heap.size w w1 := hb2.trans (hb1.mono (by simp; omega))
          have hz1 := hb1.size
          simp at hz1
          go_wp2_with fail
          refine (wakes_any _ m (by
            rw [World.cell?_alloc_lt _ _ _ (by show 0 < w1.heap.size; omega), hb3.cell (by exact h0)]; exact hm) (by simp)).mono ?_
          rintro e w4 ⟨rfl, hb4⟩
          go_wp2_with fail
          go_ret
          exact ⟨rfl, (hb3.alloc (by omega) _).trans (hb4.mono (by simp; omega))⟩
  · go_wp2_with fail
    go_ret
    exact ⟨rfl, Below.refl _ _⟩

end Go.Proofs.Ytfkoginkafmcpaa

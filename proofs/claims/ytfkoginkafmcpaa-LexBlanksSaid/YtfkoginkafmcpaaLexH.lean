/- The statements' own helpers walked: EqTokens, what writes over tokens, Heavy. -/
import Derived.Test.YtfkoginkafmcpaaTok
import Derived.Outline
import Derived.BigQuiet
import Derived.Deep.QuietTactic
import Derived.Deep.LoopGhost
namespace Go.Proofs.Ytfkoginkafmcpaa
open Go.RowKit

/-- a slice that reads as these tokens, nil let in -/
def Toks (w : World) (A : Option Addr) (ts : List Tok) : Prop :=
  0 < ts.length → ∃ (g : Nat) (cs : Array Value), A = some ⟨g, 0, none⟩ ∧ BlkIs w g 34 cs ∧ ∀ j, j < ts.length * 4 → cs[j]? = (flat ts)[j]?

theorem Toks.at_ {w : World} {A : Option Addr} {ts : List Tok} (h : Toks w A ts) {k : Nat} (hk : k < ts.length) : ∃ g : Nat, A = some ⟨g, 0, none⟩ ∧ g < w.heap.size ∧
    w.cell? ⟨g, k * 4, none⟩ = some (.int .i64 (ts[k]).kind) ∧ w.cell? ⟨g, k * 4 + 1, none⟩ = some (.string ⟨(ts[k]).text.toArray⟩) ∧ w.cell? ⟨g, k * 4 + 2, none⟩ = some (.int .i64 (ts[k]).n) ∧ w.cell? ⟨g, k * 4 + 3, none⟩ = some (.int .i64 (ts[k]).pos) := by
  obtain ⟨g, cs, hA, hb, hc⟩ := h (by omega)
  obtain ⟨a0, a1, a2, a3⟩ := flat_at ts k hk
  exact ⟨g, hA, hb.lt, by rw [hb.cell, hc _ (by omega), a0], by rw [hb.cell, hc _ (by omega), a1], by rw [hb.cell, hc _ (by omega), a2], by rw [hb.cell, hc _ (by omega), a3]⟩

theorem Toks.drewN {w : World} {A : Option Addr} {ts : List Tok} (h : Toks w A ts) (n : Nat) : Toks (w.drewN n) A ts := h

set_option maxHeartbeats 1000000 in
theorem eqTokens_any (ts : List Tok) (A B : Option Addr) (c d : Nat) (w : World) (hl : ts.length ≤ 100000) (ha : Toks w A ts) (hb : Toks w B ts) :
    Calls Try.prog 9 #[.slice A ts.length c, .slice B ts.length d] w fun e w' => e = .returned (.bool true) ∧ ∃ n, w' = w.drewN n := by
  obtain ⟨n, hn⟩ : ∃ n, Hid (ts.length = n) := ⟨_, Lib.hid rfl⟩
  have hl2 : n ≤ 100000 := by rw [← hn.out]; exact hl
  rw [hn.out]
  go_enter Try.func9, Try.ntmps9
  go_wp2_with fail
  go_loopw [5] (fun i wr => ∃ k m : Nat, k ≤ n ∧ i = .int .i64 k ∧ wr = w.drewN m) (fun i _ => n - (intOf i).toNat)
  case atStart => exact ⟨0, 0, by omega, rfl, rfl⟩
  case round =>
    obtain ⟨k, m, hk, rfl, rfl⟩ := hrel
    by_cases hlt : k < n
    · have hkt : k < ts.length := by rw [hn.out]; exact hlt
      obtain ⟨g, rfl, _, a0, a1, a2, a3⟩ := ha.at_ hkt
      obtain ⟨g', rfl, _, b0, b1, b2, b3⟩ := hb.at_ hkt
      go_wp2_with fail
      go_quiet (fail)
      go_wp2_with fail
      go_roundw
      case rel => exact ⟨k + 1, _, by omega, by go_num, rfl⟩
      case measure => simp [intOf]; omega
    · obtain rfl : k = n := by omega
      go_wp2_with fail
      go_ret
      exact ⟨rfl, m, rfl⟩

/-- a slice of tokens of the call's own, whatever they are -/
def Room (B : Nat) (w : World) (A : Option Addr) (n : Nat) : Prop :=
  0 < n → ∃ (g : Nat) (cs : Array Value), A = some ⟨g, 0, none⟩ ∧ B ≤ g ∧ BlkIs w g 34 cs ∧ n * 4 ≤ cs.size

set_option maxHeartbeats 1000000 in
theorem spoil_any (B n : Nat) (A : Option Addr) (c : Nat) (w : World) (hl : n ≤ 100000) (hA : Room B w A n) :
    Calls Try.prog 10 #[.slice A n c] w fun e w' => e = .returned (.tuple #[]) ∧ Below B w w' := by
  go_enter Try.func10, Try.ntmps10
  go_wp2_with fail
  go_loopw [2] (fun i wr => ∃ k : Nat, k ≤ n ∧ i = .int .i64 k ∧ Below B w wr ∧ Room B wr A n) (fun i _ => n - (intOf i).toNat)
  case atStart => exact ⟨0, by omega, rfl, Below.refl _ _, hA⟩
  case round =>
    obtain ⟨k, hk, rfl, hb, hR⟩ := hrel
    by_cases hlt : k < n
    · obtain ⟨g, cs, rfl, hBg, hblk, hsz⟩ := hR (by omega)
      clear hA hR
      have at_ : ∀ j, k * 4 + j < cs.size → wr.cell? ⟨g, k * 4 + j, none⟩ = some (cs.getD (k * 4 + j) undef) := by
        intro j hj
        rw [hblk.cell, Array.getElem?_eq_getElem hj]
        simp [hj]
      have c0 := at_ 0 (by omega)
      have c1 := at_ 1 (by omega)
      have c2 := at_ 2 (by omega)
      have c3 := at_ 3 (by omega)
      rw [Nat.add_zero] at c0
      have f0 := hblk.frozen (k * 4)
      have f1 := hblk.frozen (k * 4 + 1)
      have f2 := hblk.frozen (k * 4 + 2)
      have f3 := hblk.frozen (k * 4 + 3)
      obtain ⟨v0, h0⟩ : ∃ v, wr.cell? ⟨g, k * 4, none⟩ = some v := ⟨_, c0⟩
      obtain ⟨v1, h1⟩ : ∃ v, wr.cell? ⟨g, k * 4 + 1, none⟩ = some v := ⟨_, c1⟩
      obtain ⟨v2, h2⟩ : ∃ v, wr.cell? ⟨g, k * 4 + 2, none⟩ = some v := ⟨_, c2⟩
      obtain ⟨v3, h3⟩ : ∃ v, wr.cell? ⟨g, k * 4 + 3, none⟩ = some v := ⟨_, c3⟩
      clear at_ c0 c1 c2 c3
      go_wp2_with fail
      go_roundw
      case rel =>
        refine ⟨k + 1, by omega, by go_num, ((((hb.setCell (by exact hBg) _).setCell (by exact hBg) _).setCell (by exact hBg) _).setCell (by exact hBg) _), fun _ => ⟨g, _, rfl, hBg, ((((hblk.put _ _).put _ _).put _ _).put _ _), by simpa using hsz⟩⟩
      case measure => simp [intOf]; omega
    · obtain rfl : k = n := by omega
      go_wp2_with fail
      go_end0
      exact ⟨rfl, hb⟩

/-- a slice of texts that came in -/
def Texts (w : World) (A : Option Addr) (n : Nat) (ss : List ByteArray) : Prop :=
  0 < n → ∃ b off, A = some ⟨b, off, none⟩ ∧ b < w.heap.size ∧ ∀ j, j < n → w.cell? ⟨b, off + j, none⟩ = some (.string (ss.getD j ByteArray.empty)) ∧ (ss.getD j ByteArray.empty).size ≤ 9223372036854775807

theorem Texts.below {w w' : World} {A : Option Addr} {n : Nat} {ss : List ByteArray} (h : Texts w A n ss) (hb : Below w.heap.size w w') : Texts w' A n ss := by
  intro hn
  obtain ⟨b, off, hA, hlt, hc⟩ := h hn
  exact ⟨b, off, hA, Nat.lt_of_lt_of_le hlt hb.size, fun j hj => ⟨by rw [hb.cell (by exact hlt)]; exact (hc j hj).1, (hc j hj).2⟩⟩

def SomeBool (w : World) (e : Ending) (w' : World) : Prop := ∃ b : Bool, e = .returned (.bool b) ∧ w = w'

set_option maxHeartbeats 1000000 in
theorem heavy_any (n : Nat) (A : Option Addr) (c : Nat) (ss : List ByteArray) (w : World) (hl : n ≤ 9223372036854775807) (hA : Texts w A n ss) :
    Calls Try.prog 6 #[.slice A n c] w (SomeBool w) := by
  go_enter Try.func6, Try.ntmps6
  go_wp2_with fail
  go_loop [3, 4] (fun x i => ∃ (k : Nat) (y : Int), k ≤ n ∧ i = .int .i64 k ∧ x = .int .i64 y) (fun _ i => n - (intOf i).toNat)
  case atStart => exact ⟨0, _, by omega, rfl, rfl⟩
  case round =>
    obtain ⟨k, y, hk, rfl, rfl⟩ := hrel
    by_cases hlt : k < n
    · obtain ⟨b, off, rfl, hbl, hc⟩ := hA (by omega)
      have hck := (hc k hlt).1
      clear hc hA
      by_cases hy : y < 1048576
      · go_wp2_with fail
        go_round
        case rel => exact ⟨k + 1, _, by omega, by go_num, rfl⟩
        case measure => simp [intOf]; omega
      · go_wp2_with fail
        go_ret
        exact ⟨_, rfl, rfl⟩
    · obtain rfl : k = n := by omega
      go_wp2_with fail
      go_ret
      exact ⟨_, rfl, rfl⟩

end Go.Proofs.Ytfkoginkafmcpaa

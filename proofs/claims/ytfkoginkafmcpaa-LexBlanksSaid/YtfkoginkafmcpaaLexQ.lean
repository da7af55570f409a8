/- Plain facts on the lexer: lengths. -/
import Derived.Test.YtfkoginkafmcpaaLexP
namespace Go.Proofs.Ytfkoginkafmcpaa
open Go.RowKit

theorem rl_pos {p : Int → Bool} {b : UInt8} {l : List UInt8} (h : p b.toNat = true) : 0 < rl p (b :: l) := by rw [rl_cons, if_pos h]; omega

theorem signL_le (l : List UInt8) : (signL l).length ≤ l.length := by
  unfold signL
  split
  · simp; omega
  · split
    · simp; omega
    · split <;> simp; omega

theorem numberT_le (l : List UInt8) : (numberT l).2.1 ≤ l.length := by
  unfold numberT
  split
  · simp
  · split
    · simp
    · exact rl_le _ _

theorem tokenT_le (l : List UInt8) : (tokenT l).2.1 ≤ l.length := by
  unfold tokenT
  split
  · exact rl_le _ _
  · split
    · exact numberT_le l
    · split
      · simp
      · exact signL_le l

theorem numberT_pos (b : UInt8) (l : List UInt8) (hd : isDigit b.toNat = true) (h : (numberT (b :: l)).2.2 = 0) : 0 < (numberT (b :: l)).2.1 := by
  revert h
  unfold numberT
  split
  · simp
  · split
    · simp
    · intro _; exact rl_pos hd

theorem tokenT_pos (b : UInt8) (l : List UInt8) (h : (tokenT (b :: l)).2.2 = 0) : 0 < (tokenT (b :: l)).2.1 := by
  revert h
  unfold tokenT
  rw [List.getD_cons_zero]
  split
  · rename_i hl; intro _; exact rl_pos (p := isBoth) (by simp [isBoth, hl])
  · split
    · rename_i hd; exact numberT_pos b l hd
    · split
      · simp
      · rename_i hs; intro _; exact List.length_pos_iff.2 hs

theorem tokenT_err (l : List UInt8) : 0 ≤ (tokenT l).2.2 ∧ (tokenT l).2.2 ≤ 12 := by
  unfold tokenT numberT
  repeat' split
  all_goals simp

end Go.Proofs.Ytfkoginkafmcpaa

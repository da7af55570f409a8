/- How many bytes at a text's begin are such: lex.run. -/
import Derived.Test.YtfkoginkafmcpaaLexA
import Derived.Lib.Hide
namespace Go.Proofs.Ytfkoginkafmcpaa
open Go.RowKit

theorem ret_int {k : IntKind} {a b : Int} (h : a = b) : Ending.returned (.int k a) = .returned (.int k b) := by rw [h]

/-- how many at the begin are such -/
def rl (p : Int → Bool) (l : List UInt8) : Nat := (l.takeWhile fun b => p b.toNat).length
theorem rl_le (p : Int → Bool) (l : List UInt8) : rl p l ≤ l.length := by
  induction l with
  | nil => simp [rl]
  | cons b l ih => simp only [rl, List.takeWhile_cons] at ih ⊢; split <;> simp; omega
theorem rl_nil (p : Int → Bool) : rl p [] = 0 := rfl
theorem rl_cons (p : Int → Bool) (b : UInt8) (l : List UInt8) : rl p (b :: l) = if p b.toNat then rl p l + 1 else 0 := by
  unfold rl; rw [List.takeWhile_cons]; split <;> simp

theorem drop_at (s : ByteArray) (k : Nat) (h : k < s.size) : s.data.toList.drop k = s[k] :: s.data.toList.drop (k + 1) := by
  rw [List.drop_eq_getElem_cons (by simpa using h)]; rfl

set_option maxHeartbeats 400000 in
theorem runBlank (s : ByteArray) (hs : s.size ≤ 9223372036854775807) (w : World) :
    Calls Try.prog 13 #[.string s, .func (.func 14) #[] #[]] w fun e w' => e = .returned (.int .i64 (rl isBlank s.data.toList)) ∧ w = w' := by
  go_enter Try.func13, Try.ntmps13
  go_wp2_with fail
  go_loop [5] (fun n => ∃ k : Nat, k ≤ s.size ∧ n = .int .i64 k ∧ Hid (k + rl isBlank (s.data.toList.drop k) = rl isBlank s.data.toList)) (fun n => s.size - (intOf n).toNat)
  case atStart => exact ⟨0, Nat.zero_le _, rfl, Lib.hid (by simp)⟩
  case round =>
    obtain ⟨k, hk, rfl, hr⟩ := hrel
    by_cases hlt : k < s.size
    · go_wp2_with fail
      refine (blank_any _ _).mono ?_
      rintro e w' ⟨rfl, rfl⟩
      have hd := Lib.hid (drop_at s k hlt)
      by_cases hp : isBlank (s[k].toNat) = true
      · go_wp2_with fail
        go_round
        case rel => exact ⟨k + 1, by omega, by go_num, Lib.hid (by have := hr.out; rw [hd.out, rl_cons, if_pos hp] at this; omega)⟩
        case measure => simp [intOf]; omega
      · have hp : isBlank (s[k].toNat) = false := by simpa using hp
        go_wp2_with fail
        go_ret
        refine ⟨ret_int ?_, rfl⟩
        have := hr.out; rw [hd.out, rl_cons, hp] at this; simp at this; omega
    · obtain rfl : k = s.size := by omega
      go_wp2_with fail
      go_ret
      refine ⟨ret_int ?_, rfl⟩
      have := hr.out; rw [List.drop_of_length_le (by simp)] at this; simp [rl_nil] at this; omega

set_option maxHeartbeats 400000 in
theorem runDigit (s : ByteArray) (hs : s.size ≤ 9223372036854775807) (w : World) :
    Calls Try.prog 13 #[.string s, .func (.func 23) #[] #[]] w fun e w' => e = .returned (.int .i64 (rl isDigit s.data.toList)) ∧ w = w' := by
  go_enter Try.func13, Try.ntmps13
  go_wp2_with fail
  go_loop [5] (fun n => ∃ k : Nat, k ≤ s.size ∧ n = .int .i64 k ∧ Hid (k + rl isDigit (s.data.toList.drop k) = rl isDigit s.data.toList)) (fun n => s.size - (intOf n).toNat)
  case atStart => exact ⟨0, Nat.zero_le _, rfl, Lib.hid (by simp)⟩
  case round =>
    obtain ⟨k, hk, rfl, hr⟩ := hrel
    by_cases hlt : k < s.size
    · go_wp2_with fail
      refine (digitL_any _ _).mono ?_
      rintro e w' ⟨rfl, rfl⟩
      have hd := Lib.hid (drop_at s k hlt)
      by_cases hp : isDigit (s[k].toNat) = true
      · go_wp2_with fail
        go_round
        case rel => exact ⟨k + 1, by omega, by go_num, Lib.hid (by have := hr.out; rw [hd.out, rl_cons, if_pos hp] at this; omega)⟩
        case measure => simp [intOf]; omega
      · have hp : isDigit (s[k].toNat) = false := by simpa using hp
        go_wp2_with fail
        go_ret
        refine ⟨ret_int ?_, rfl⟩
        have := hr.out; rw [hd.out, rl_cons, hp] at this; simp at this; omega
    · obtain rfl : k = s.size := by omega
      go_wp2_with fail
      go_ret
      refine ⟨ret_int ?_, rfl⟩
      have := hr.out; rw [List.drop_of_length_le (by simp)] at this; simp [rl_nil] at this; omega

set_option maxHeartbeats 400000 in
theorem runBoth (s : ByteArray) (hs : s.size ≤ 9223372036854775807) (w : World) :
    Calls Try.prog 13 #[.string s, .func (.func 26) #[] #[]] w fun e w' => e = .returned (.int .i64 (rl (fun c => isLetter c || isDigit c) s.data.toList)) ∧ w = w' := by
  go_enter Try.func13, Try.ntmps13
  go_wp2_with fail
  go_loop [5] (fun n => ∃ k : Nat, k ≤ s.size ∧ n = .int .i64 k ∧ Hid (k + rl (fun c => isLetter c || isDigit c) (s.data.toList.drop k) = rl (fun c => isLetter c || isDigit c) s.data.toList)) (fun n => s.size - (intOf n).toNat)
  case atStart => exact ⟨0, Nat.zero_le _, rfl, Lib.hid (by simp)⟩
  case round =>
    obtain ⟨k, hk, rfl, hr⟩ := hrel
    by_cases hlt : k < s.size
    · go_wp2_with fail
      refine (both_any _ _).mono ?_
      rintro e w' ⟨rfl, rfl⟩
      have hd := Lib.hid (drop_at s k hlt)
      by_cases hp : (fun c => isLetter c || isDigit c) (s[k].toNat) = true
      · go_wp2_with fail
        go_round
        case rel => exact ⟨k + 1, by omega, by go_num, Lib.hid (by have := hr.out; rw [hd.out, rl_cons, if_pos hp] at this; omega)⟩
        case measure => simp [intOf]; omega
      · have hp : (fun c => isLetter c || isDigit c) (s[k].toNat) = false := by simpa using hp
        go_wp2_with fail
        go_ret
        refine ⟨ret_int ?_, rfl⟩
        have := hr.out; rw [hd.out, rl_cons, hp] at this; simp at this; omega
    · obtain rfl : k = s.size := by omega
      go_wp2_with fail
      go_ret
      refine ⟨ret_int ?_, rfl⟩
      have := hr.out; rw [List.drop_of_length_le (by simp)] at this; simp [rl_nil] at this; omega

end Go.Proofs.Ytfkoginkafmcpaa

/- lex.number walked. -/
import Derived.Test.YtfkoginkafmcpaaLexP
namespace Go.Proofs.Ytfkoginkafmcpaa
open Go.RowKit

set_option maxHeartbeats 400000 in
theorem number_any (s : ByteArray) (hs : s.size ≤ 100000) (w : World) :
    Calls Try.prog 24 #[.string s] w fun e w' => e = .returned (.tuple #[(numberL s.data.toList).1, .int .i64 (numberL s.data.toList).2.1, .int .i64 (numberL s.data.toList).2.2]) ∧ Below w.heap.size w w' := by
  have hle : rl isDigit s.data.toList ≤ s.size := by have := rl_le isDigit s.data.toList; simpa using this
  go_enter Try.func24, Try.ntmps24
  go_wp2_with (go_at_call 13; refine (runDigit _ (by omega) _).mono ?_; rintro e w' ⟨rfl, rfl⟩)
  go_loop [6, 7, 8, 12] (fun x i d c => ∃ (k : Nat) (y : Int), k ≤ rl isDigit s.data.toList ∧ 0 ≤ y ∧ y ≤ 9223372036854775807 ∧ c = .int .i64 k ∧ x = .int .i64 y ∧ Hid (numFold ((digits s.data.toList).drop k) y = numFold (digits s.data.toList) 0)) (fun _ _ _ c => rl isDigit s.data.toList - (intOf c).toNat)
  case atStart => exact ⟨0, 0, by omega, by omega, by omega, rfl, rfl, Lib.hid (by simp)⟩
  case round =>
    obtain ⟨k, y, hk, hy0, hy1, rfl, rfl, hr⟩ := hrel
    by_cases hlt : k < rl isDigit s.data.toList
    · have hks : k < s.size := by omega
      have hd := Lib.hid (digits_drop s.data.toList k hlt (by simpa using hks))
      have hp := rl_at isDigit s.data.toList k hlt (by simpa using hks)
      have h48 : 48 ≤ (s[k].toNat : Int) ∧ (s[k].toNat : Int) ≤ 57 := by
        have : isDigit (s[k].toNat) = true := hp
        simp [isDigit] at this; omega
      obtain ⟨h48, h57⟩ := h48
      clear hp
      have hN : numFold ((digits s.data.toList).drop k) y = if (9223372036854775807 - ((s[k].toNat : Int) - 48)) / 10 < y then none else numFold ((digits s.data.toList).drop (k + 1)) (10 * y + ((s[k].toNat : Int) - 48)) := by rw [hd.out]; rfl
      have hN := Lib.hid hN
      by_cases hb : (9223372036854775807 - ((s[k].toNat : Int) - 48)) / 10 < y
      · have HE : Hid (numFold (digits s.data.toList) 0 = none) := by
          have := hN.out; rw [if_pos hb] at this; exact Lib.hid (hr.out.symm.trans this)
        go_wp2_with fail
        refine bodyPost_ret (v := .tuple #[noTok, .int .i64 0, .int .i64 10]) (by simp [results, Try.results24, go_sem, noTok, tokVal]) rfl ⟨?_, (Below.refl _ _).alloc (Nat.le_refl _) _⟩
        have : numberL s.data.toList = (noTok, 0, 10) := by unfold numberL numberT; rw [HE.out]; rfl
        rw [this]
      · have hb' : y ≤ (9223372036854775807 - ((s[k].toNat : Int) - 48)) / 10 := by omega
        go_wp2_with fail
        go_round
        case rel => exact ⟨k + 1, _, by omega, by omega, by omega, by go_num, rfl, Lib.hid (by have := hN.out; rw [if_neg hb] at this; exact this.symm.trans hr.out)⟩
        case measure => simp [intOf]; omega
    · obtain rfl : k = rl isDigit s.data.toList := by omega
      have HE : Hid (numFold (digits s.data.toList) 0 = some y) := by
        have := hr.out; rw [digits_end] at this; exact Lib.hid (this.symm.trans rfl)
      by_cases hm : rl isDigit s.data.toList < s.size
      · have hg : Hid (s.data.toList.getD (rl isDigit s.data.toList) 0 = s[rl isDigit s.data.toList]) := by
          refine Lib.hid ?_
          rw [List.getD_eq_getElem?_getD, List.getElem?_eq_getElem (by simpa using hm)]; rfl
        go_wp2_with (go_at_call 21; refine (letterL_any _ _).mono ?_; rintro e w' ⟨rfl, rfl⟩)
        · have hL : isLetter (s[rl isDigit s.data.toList].toNat) = true := by assumption
          have HN : numberL s.data.toList = (noTok, 0, 3) := by
            unfold numberL numberT; rw [HE.out]; simp only []; rw [hg.out, hL, if_pos (by simp; simpa using hm)]; rfl
          refine bodyPost_ret (v := .tuple #[noTok, .int .i64 0, .int .i64 3]) (by simp [results, Try.results24, go_sem, noTok, tokVal]) rfl ⟨?_, (Below.refl _ _).alloc (Nat.le_refl _) _⟩
          rw [HN]
        · have hL : isLetter (s[rl isDigit s.data.toList].toNat) = false := by assumption
          have HN : numberL s.data.toList = (tokVal 2 [] y 0, (rl isDigit s.data.toList : Int), 0) := by
            unfold numberL numberT; rw [HE.out]; simp only []; rw [hg.out, hL, if_neg (by simp)]; rfl
          refine bodyPost_ret (v := .tuple #[tokVal 2 [] y 0, .int .i64 (rl isDigit s.data.toList), .int .i64 0]) (by simp [results, Try.results24, go_sem, tokVal]) rfl ⟨?_, (Below.refl _ _).alloc (Nat.le_refl _) _⟩
          rw [HN]
      · have HN : Hid (numberL s.data.toList = (tokVal 2 [] y 0, (rl isDigit s.data.toList : Int), 0)) := by
          refine Lib.hid ?_
          unfold numberL numberT; rw [HE.out]; simp only []; rw [if_neg (by simp; intro h; exact absurd (by simpa using h) hm)]; rfl
        go_wp2_with fail
        refine bodyPost_ret (v := .tuple #[tokVal 2 [] y 0, .int .i64 (rl isDigit s.data.toList), .int .i64 0]) (by simp [results, Try.results24, go_sem, tokVal]) rfl ⟨?_, (Below.refl _ _).alloc (Nat.le_refl _) _⟩
        rw [HN.out]

end Go.Proofs.Ytfkoginkafmcpaa

/- lex.name walked. -/
import Derived.Test.YtfkoginkafmcpaaLexC
import Derived.Test.YtfkoginkafmcpaaShelf
import Derived.Test.YtfkoginkafmcpaaMem
namespace Go.Proofs.Ytfkoginkafmcpaa
open Go.RowKit

set_option maxHeartbeats 400000 in
theorem name_any (s : ByteArray) (hs : s.size ≤ 100000) (w : World) (m : Int) (hm : w.cell? ⟨0, 0, none⟩ = some (.int .i64 m)) (h0 : 0 < w.heap.size) :
    Calls Try.prog 22 #[.string s] w fun e w' => e = .returned (nameL s.data.toList) ∧ Below w.heap.size w w' := by
  have hle : rl (fun c => isLetter c || isDigit c) s.data.toList ≤ s.size := by have := rl_le (fun c => isLetter c || isDigit c) s.data.toList; simpa using this
  go_enter Try.func22, Try.ntmps22
  go_wp2_with (go_at_call 13; refine (runBoth _ (by omega) _).mono ?_; rintro e w' ⟨rfl, rfl⟩)
  refine (Try.strings_Contains _ _ m _ (by decide) (by rw [World.cell?_alloc_lt _ _ _ (by exact h0)]; exact hm)).mono ?_
  rintro e w' ⟨rfl, rfl⟩
  go_wp2_with fail
  · have hb : amid wordsB (s.data.toList.take (rl isBoth s.data.toList)) = true := by assumption
    refine bodyPost_ret (v := nameL s.data.toList) (by simp only [nameL, nameT, Tok.val, hb, tokVal, ← ext_take]; simp [results, Try.results22, go_sem]; rfl) rfl ⟨rfl, below_alloc _ _⟩
  · have hb : amid wordsB (s.data.toList.take (rl isBoth s.data.toList)) = false := by assumption
    refine bodyPost_ret (v := nameL s.data.toList) (by simp only [nameL, nameT, Tok.val, hb, tokVal, ← ext_take]; simp [results, Try.results22, go_sem]; rfl) rfl ⟨rfl, below_alloc _ _⟩

theorem ret_ext {s : ByteArray} {k : Nat} {x : List UInt8} (h : x = s.data.toList.take k) : Ending.returned (.string (s.extract 0 k)) = .returned (.string ⟨x.toArray⟩) := by rw [h, ext_take]
theorem ret_none {x : List UInt8} (h : x = []) : Ending.returned (.string ⟨#[]⟩) = .returned (.string ⟨x.toArray⟩) := by rw [h]
theorem get0 (s : ByteArray) (h : 0 < s.size) : s.data.toList.getD 0 0 = s[0] := by
  rw [List.getD_eq_getElem?_getD, List.getElem?_eq_getElem (by simpa using h)]; rfl

set_option maxHeartbeats 400000 in
theorem sign_any (s : ByteArray) (hs : s.size ≤ 100000) (h1 : 0 < s.size) (w : World) (m : Int) (hm : w.cell? ⟨0, 0, none⟩ = some (.int .i64 m)) :
    Calls Try.prog 25 #[.string s] w fun e w' => e = .returned (.string ⟨(signL s.data.toList).toArray⟩) ∧ w = w' := by
  have hg := Lib.hid (get0 s h1)
  have hl : Hid (s.data.toList.length = s.size) := Lib.hid (by simp)
  by_cases h3 : 3 ≤ s.size
  · have h2 : 2 ≤ s.size := by omega
    go_enter Try.func25, Try.ntmps25
    go_wp2_with (first | (go_at_call 27; refine (Try.strings_Contains _ _ m _ (by decide) hm).mono ?_; rintro e w' ⟨rfl, rfl⟩) | (go_at_call 28; refine (Try.strings_IndexByte _ _ _).mono ?_; rintro e w' ⟨rfl, rfl⟩))
    all_goals
      go_ret
      refine ⟨?_, rfl⟩
      first | refine ret_ext ?_ | refine ret_none ?_
      unfold signL amid threeB twoB oneB
      rw [hg.out, hl.out]
      simp [*]
      try omega
  · by_cases h2 : 2 ≤ s.size
    · go_enter Try.func25, Try.ntmps25
      go_wp2_with (first | (go_at_call 27; refine (Try.strings_Contains _ _ m _ (by decide) hm).mono ?_; rintro e w' ⟨rfl, rfl⟩) | (go_at_call 28; refine (Try.strings_IndexByte _ _ _).mono ?_; rintro e w' ⟨rfl, rfl⟩))
      all_goals
        go_ret
        refine ⟨?_, rfl⟩
        first | refine ret_ext ?_ | refine ret_none ?_
        unfold signL amid threeB twoB oneB
        rw [hg.out, hl.out]
        simp [*]
        try omega
    · have d3 : decide ((3 : Int) ≤ (s.size : Int)) = false := by simp; omega
      have d2 : decide ((2 : Int) ≤ (s.size : Int)) = false := by simp; omega
      go_enter Try.func25, Try.ntmps25
      go_wp2_with (first | (go_at_call 27; refine (Try.strings_Contains _ _ m _ (by decide) hm).mono ?_; rintro e w' ⟨rfl, rfl⟩) | (go_at_call 28; refine (Try.strings_IndexByte _ _ _).mono ?_; rintro e w' ⟨rfl, rfl⟩))
      all_goals
        go_ret
        refine ⟨?_, rfl⟩
        first | refine ret_ext ?_ | refine ret_none ?_
        unfold signL amid threeB twoB oneB
        rw [hg.out, hl.out]
        simp [*]
        try omega

end Go.Proofs.Ytfkoginkafmcpaa

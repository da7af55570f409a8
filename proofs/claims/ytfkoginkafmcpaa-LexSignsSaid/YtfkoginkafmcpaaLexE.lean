/- lex.token walked. -/
import Derived.Test.YtfkoginkafmcpaaLexD
import Derived.Test.YtfkoginkafmcpaaMem
import Derived.BigRegion
import Derived.RegionTactic
namespace Go.Proofs.Ytfkoginkafmcpaa
open Go.RowKit

set_option maxHeartbeats 1000000 in
theorem token_any (s : ByteArray) (hs : s.size ≤ 100000) (h1 : 0 < s.size) (w : World) (m : Int) (hm : w.cell? ⟨0, 0, none⟩ = some (.int .i64 m)) (h0 : 0 < w.heap.size) :
    Calls Try.prog 15 #[.string s] w fun e w' => e = .returned (.tuple #[(tokenL s.data.toList).1, .int .i64 (tokenL s.data.toList).2.1, .int .i64 (tokenL s.data.toList).2.2]) ∧ Below w.heap.size w w' := by
  have hg := Lib.hid (get0 s h1)
  by_cases hl : isLetter s[0].toNat = true
  · have HT : Hid (tokenL s.data.toList = (nameL s.data.toList, (rl isBoth s.data.toList : Int), 0)) := by
      unfold tokenL tokenT; rw [hg.out, if_pos hl]; exact Lib.hid rfl
    obtain ⟨kd, hkd⟩ : ∃ kd, nameL s.data.toList = tokVal kd (s.data.toList.take (rl isBoth s.data.toList)) 0 0 := ⟨_, rfl⟩
    go_enter Try.func15, Try.ntmps15
    go_wp2_with (go_at_call 21; refine (letterL_any _ _).mono ?_; rintro e w' ⟨rfl, rfl⟩)
    refine (name_any s hs _ m (by rw [World.cell?_alloc_lt _ _ _ (by exact h0)]; exact hm) (by simp)).mono ?_
    rintro e w1 ⟨rfl, hb⟩
    have hz : w.heap.size < w1.heap.size := by have := hb.size; simp at this; omega
    have c0 : w1.cell? ⟨w.heap.size, 0, none⟩ = some (.int .i64 0) := by rw [(bcell hb).1 _ _ (by simp)]; simp
    have c1 : w1.cell? ⟨w.heap.size, 1, none⟩ = some (.string ⟨#[]⟩) := by rw [(bcell hb).1 _ _ (by simp)]; simp
    have c2 : w1.cell? ⟨w.heap.size, 2, none⟩ = some (.int .i64 0) := by rw [(bcell hb).1 _ _ (by simp)]; simp
    have c3 : w1.cell? ⟨w.heap.size, 3, none⟩ = some (.int .i64 0) := by rw [(bcell hb).1 _ _ (by simp)]; simp
    have f0 : w1.frozen? ⟨w.heap.size, 0, none⟩ = false := by rw [(bcell hb).2 _ _ (by simp)]; simp
    have f1 : w1.frozen? ⟨w.heap.size, 1, none⟩ = false := by rw [(bcell hb).2 _ _ (by simp)]; simp
    have f2 : w1.frozen? ⟨w.heap.size, 2, none⟩ = false := by rw [(bcell hb).2 _ _ (by simp)]; simp
    have f3 : w1.frozen? ⟨w.heap.size, 3, none⟩ = false := by rw [(bcell hb).2 _ _ (by simp)]; simp
    rw [hkd, tokVal]
    go_wp2_with fail
    go_region
    have hle : rl isBoth s.data.toList ≤ s.size := by have := rl_le isBoth s.data.toList; simpa using this
    go_wp2_with fail
    refine bodyPost_ret (v := .tuple #[nameL s.data.toList, .int .i64 (rl isBoth s.data.toList), .int .i64 0]) (by rw [hkd, tokVal]; simp [results, Try.results15, go_sem, hz, c0, c1, c2, c3, Nat.min_eq_left hle]) rfl ⟨by rw [HT.out], ?_⟩
    have hb0 : Below w.heap.size w w1 := (below_alloc w _).trans (hb.mono (by simp))
    repeat (first | exact hb0 | refine Below.drew ?_ | refine Below.setCell ?_ (by simp) _ | refine Below.alloc ?_ (by simp; omega) _)
  · have hl' : isLetter s[0].toNat = false := by simpa using hl
    by_cases hd : isDigit s[0].toNat = true
    · have HT : Hid (tokenL s.data.toList = numberL s.data.toList) := by
        unfold tokenL tokenT; rw [hg.out, if_neg hl, if_pos hd]; exact Lib.hid rfl
      obtain ⟨kd, y, hkd⟩ : ∃ kd y, (numberL s.data.toList).1 = tokVal kd [] y 0 := by
        unfold numberL numberT
        split
        · exact ⟨_, _, rfl⟩
        · split <;> exact ⟨_, _, rfl⟩
      clear hl
      go_enter Try.func15, Try.ntmps15
      go_wp2_with (first | (go_at_call 21; refine (letterL_any _ _).mono ?_; rintro e w' ⟨rfl, rfl⟩) | (go_at_call 23; refine (digitL_any _ _).mono ?_; rintro e w' ⟨rfl, rfl⟩))
      refine (number_any s hs _).mono ?_
      rintro e w1 ⟨rfl, hb⟩
      have hz : w.heap.size < w1.heap.size := by have := hb.size; simp at this; omega
      have c0 : w1.cell? ⟨w.heap.size, 0, none⟩ = some (.int .i64 0) := by rw [(bcell hb).1 _ _ (by simp)]; simp
      have c1 : w1.cell? ⟨w.heap.size, 1, none⟩ = some (.string ⟨#[]⟩) := by rw [(bcell hb).1 _ _ (by simp)]; simp
      have c2 : w1.cell? ⟨w.heap.size, 2, none⟩ = some (.int .i64 0) := by rw [(bcell hb).1 _ _ (by simp)]; simp
      have c3 : w1.cell? ⟨w.heap.size, 3, none⟩ = some (.int .i64 0) := by rw [(bcell hb).1 _ _ (by simp)]; simp
      have f0 : w1.frozen? ⟨w.heap.size, 0, none⟩ = false := by rw [(bcell hb).2 _ _ (by simp)]; simp
      have f1 : w1.frozen? ⟨w.heap.size, 1, none⟩ = false := by rw [(bcell hb).2 _ _ (by simp)]; simp
      have f2 : w1.frozen? ⟨w.heap.size, 2, none⟩ = false := by rw [(bcell hb).2 _ _ (by simp)]; simp
      have f3 : w1.frozen? ⟨w.heap.size, 3, none⟩ = false := by rw [(bcell hb).2 _ _ (by simp)]; simp
      rw [hkd, tokVal]
      go_wp2_with fail
      refine bodyPost_ret (v := .tuple #[(numberL s.data.toList).1, .int .i64 (numberL s.data.toList).2.1, .int .i64 (numberL s.data.toList).2.2]) (by rw [hkd, tokVal]; simp [results, Try.results15, go_sem, c0, c1, c2, c3]) rfl ⟨by rw [HT.out], ?_⟩
      have hb0 : Below w.heap.size w w1 := (below_alloc w _).trans (hb.mono (by simp))
      repeat (first | exact hb0 | refine Below.drew ?_ | refine Below.setCell ?_ (by simp) _ | refine Below.alloc ?_ (by simp; omega) _)
    · have hd' : isDigit s[0].toNat = false := by simpa using hd
      have HT : Hid (tokenL s.data.toList = if signL s.data.toList = [] then (noTok, 0, 3) else (tokVal 3 (signL s.data.toList) 0 0, ((signL s.data.toList).length : Int), 0)) := by
        unfold tokenL tokenT; rw [hg.out, if_neg hl, if_neg hd]; refine Lib.hid ?_; split <;> rfl
      clear hl hd
      by_cases hs0 : signL s.data.toList = []
      · have H0 : (signL s.data.toList).isEmpty = true := by rw [hs0]; rfl
        have HT' : Hid (tokenL s.data.toList = (noTok, 0, 3)) := Lib.hid (HT.out.trans (if_pos hs0))
        clear hs0
        go_enter Try.func15, Try.ntmps15
        go_wp2_with (first | (go_at_call 21; refine (letterL_any _ _).mono ?_; rintro e w' ⟨rfl, rfl⟩) | (go_at_call 23; refine (digitL_any _ _).mono ?_; rintro e w' ⟨rfl, rfl⟩))
        refine (sign_any s hs h1 _ m (by rw [World.cell?_alloc_lt _ _ _ (by exact h0)]; exact hm)).mono ?_
        rintro e w1 ⟨rfl, rfl⟩
        go_wp2_with fail
        refine bodyPost_ret (v := .tuple #[noTok, .int .i64 0, .int .i64 3]) (by simp [results, Try.results15, go_sem, noTok, tokVal]) rfl ⟨by rw [HT'.out], below_alloc _ _⟩
      · have H0 : (signL s.data.toList).isEmpty = false := by simpa using hs0
        have HT' : Hid (tokenL s.data.toList = (tokVal 3 (signL s.data.toList) 0 0, ((signL s.data.toList).length : Int), 0)) := Lib.hid (HT.out.trans (if_neg hs0))
        clear hs0
        go_enter Try.func15, Try.ntmps15
        go_wp2_with (first | (go_at_call 21; refine (letterL_any _ _).mono ?_; rintro e w' ⟨rfl, rfl⟩) | (go_at_call 23; refine (digitL_any _ _).mono ?_; rintro e w' ⟨rfl, rfl⟩))
        refine (sign_any s hs h1 _ m (by rw [World.cell?_alloc_lt _ _ _ (by exact h0)]; exact hm)).mono ?_
        rintro e w1 ⟨rfl, rfl⟩
        go_wp2_with fail
        refine bodyPost_ret (v := .tuple #[tokVal 3 (signL s.data.toList) 0 0, .int .i64 (signL s.data.toList).length, .int .i64 0]) (by simp [results, Try.results15, go_sem, tokVal]) rfl ⟨by rw [HT'.out], below_alloc _ _⟩

end Go.Proofs.Ytfkoginkafmcpaa

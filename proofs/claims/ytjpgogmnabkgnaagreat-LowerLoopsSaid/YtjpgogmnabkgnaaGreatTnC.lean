/- gantletref1.Bin walked: an op of two, as num.Two has it. -/
import Derived.Test.YtjpgogmnabkgnaaGreatTnB
namespace Go.Proofs.YtjpgogmnabkgnaaGreat
open Go.RowKit

theorem truth_any (c : Bool) (w : World) : Calls Tryz.prog 263 #[.bool c] w fun e w' => e = .returned (.int .i64 (if c then 1 else 0)) ∧ w = w' := by
  cases c
  · go_enter Tryz.func263, Tryz.ntmps263
    go_wp2_with fail
    go_ret
    exact ⟨rfl, rfl⟩
  · go_enter Tryz.func263, Tryz.ntmps263
    go_wp2_with fail
    go_ret
    exact ⟨rfl, rfl⟩

theorem u64_zero {b : Int} (hb : I64r b) : IntKind.u64.wrap b = 0 ↔ b = 0 := by
  have h : IntKind.u64.wrap b = b % 18446744073709551616 := by simp [IntKind.wrap, IntKind.bits, IntKind.signed]
  unfold I64r at hb
  omega
theorem u64_back {a : Int} (ha : I64r a) : wrap64 (IntKind.u64.wrap a) = a := by
  have h : IntKind.u64.wrap a = a % 18446744073709551616 := by simp [IntKind.wrap, IntKind.bits, IntKind.signed]
  unfold I64r at ha
  rw [h]
  unfold wrap64
  omega

set_option maxRecDepth 100000 in
set_option maxHeartbeats 16000000 in
theorem bin_any (op a b : Int) (hop : 12 ≤ op ∧ op ≤ 30) (ha : I64r a) (hb : I64r b) (w : World) : Calls Tryz.prog 218 #[.int .i64 op, .int .i64 a, .int .i64 b] w (TwoRet (twoF op a b) w) := by
  have hsr := shN_rng b
  have hby := and63 b
  have hz := u64_zero hb
  have hback := u64_back ha
  have htr := fun c W => truth_any c W
  have hqr := fun h0 hm => tdiv_rng (a := a) (b := b) ha h0 hm
  have hrr := fun h0 => tmod_rng (a := a) (b := b) hb h0
  have hur := u64_rng a
  have hvr := u64_rng b
  have Fd : Hid (∀ k, twoF k a b = twoF k a b) := Lib.hid (fun _ => rfl)
  unfold I64r at ha hb hqr hrr
  obtain ⟨s, hs⟩ : ∃ x, shN b = x := ⟨_, rfl⟩
  obtain ⟨ua, hua⟩ : ∃ x, IntKind.u64.wrap a = x := ⟨_, rfl⟩
  obtain ⟨ub, hub⟩ : ∃ x, IntKind.u64.wrap b = x := ⟨_, rfl⟩
  rw [hua] at hur hback
  rw [hub] at hvr hz hby
  rw [hs] at hsr hby
  by_cases h12 : op = 12
  · subst h12
    have e : twoF 12 a b = wrap64 (a + b) := by rw [show twoF 12 a b = twoF 12 a b from rfl]; rfl
    rw [e]
    go_enter Tryz.func218, Tryz.ntmps218
    go_wp2_with fail
    go_ret
    exact ⟨rfl, 0, rfl⟩
  have h12e : (op == 12) = false := by simpa using h12
  by_cases h13 : op = 13
  · subst h13
    have e : twoF 13 a b = wrap64 (a - b) := by rw [show twoF 13 a b = twoF 13 a b from rfl]; rfl
    rw [e]
    go_enter Tryz.func218, Tryz.ntmps218
    go_wp2_with fail
    go_ret
    exact ⟨rfl, 0, rfl⟩
  have h13e : (op == 13) = false := by simpa using h13
  by_cases h14 : op = 14
  · subst h14
    have e : twoF 14 a b = wrap64 (a * b) := by rw [show twoF 14 a b = twoF 14 a b from rfl]; rfl
    rw [e]
    go_enter Tryz.func218, Tryz.ntmps218
    go_wp2_with fail
    go_ret
    exact ⟨rfl, 0, rfl⟩
  have h14e : (op == 14) = false := by simpa using h14
  by_cases h15 : op = 15
  · subst h15
    have e : twoF 15 a b = quoF a b := rfl
    rw [e]
    unfold quoF
    by_cases h0 : b = 0
    · rw [if_pos h0]
      subst h0
      go_enter Tryz.func218, Tryz.ntmps218
      go_wp2_with fail
      go_ret
      exact ⟨rfl, 0, rfl⟩
    · have h0e : (b == 0) = false := by simpa using h0
      rw [if_neg h0]
      by_cases hm : a = -9223372036854775808 ∧ b = -1
      · rw [if_pos hm]
        obtain ⟨rfl, rfl⟩ := hm
        go_enter Tryz.func218, Tryz.ntmps218
        go_wp2_with fail
        go_ret
        exact ⟨rfl, 0, rfl⟩
      · rw [if_neg hm]
        have hr := hqr h0 hm
        have hw1 : IntKind.i64.wrap (a.tdiv b) = a.tdiv b := IntWalk.i64_in _ hr
        by_cases h1 : b = -1
        · have ham : (a == -9223372036854775808) = false := by
            simp
            intro h2
            exact hm ⟨h2, h1⟩
          subst h1
          clear hr
          go_enter Tryz.func218, Tryz.ntmps218
          go_wp2_with fail
          all_goals (go_ret; exact ⟨rfl, 0, rfl⟩)
        · have h1e : (b == -1) = false := by simpa using h1
          clear hr
          go_enter Tryz.func218, Tryz.ntmps218
          go_wp2_with fail
          all_goals (go_ret; exact ⟨rfl, 0, rfl⟩)
  have h15e : (op == 15) = false := by simpa using h15
  by_cases h16 : op = 16
  · subst h16
    have e : twoF 16 a b = uquoF ua ub := by rw [← hua, ← hub]; rfl
    rw [e]
    unfold uquoF
    by_cases h0 : b = 0
    · rw [if_pos (hz.2 h0)]
      subst h0
      go_enter Tryz.func218, Tryz.ntmps218
      go_wp2_with fail
      go_ret
      exact ⟨rfl, 0, rfl⟩
    · have h0e : (b == 0) = false := by simpa using h0
      have hub0 : ub ≠ 0 := fun h => h0 (hz.1 h)
      rw [if_neg hub0]
      have e1 : ua.tdiv ub = ua / ub := Int.tdiv_eq_ediv_of_nonneg hur.1
      have e2 : ua.tmod ub = ua % ub := Int.tmod_eq_emod_of_nonneg hur.1
      have b1 : 0 ≤ ua / ub ∧ ua / ub ≤ ua := ⟨Int.ediv_nonneg hur.1 hvr.1, Int.ediv_le_self _ hur.1⟩
      have b2 : 0 ≤ ua % ub ∧ ua % ub < ub := ⟨Int.emod_nonneg _ hub0, Int.emod_lt_of_pos _ (by omega)⟩
      go_enter Tryz.func218, Tryz.ntmps218
      go_wp2_with fail
      all_goals (go_ret; exact ⟨rfl, 0, rfl⟩)
  have h16e : (op == 16) = false := by simpa using h16
  by_cases h17 : op = 17
  · subst h17
    have e : twoF 17 a b = remF a b := rfl
    rw [e]
    unfold remF
    by_cases h0 : b = 0
    · rw [if_pos h0]
      subst h0
      go_enter Tryz.func218, Tryz.ntmps218
      go_wp2_with fail
      go_ret
      exact ⟨rfl, 0, rfl⟩
    · have h0e : (b == 0) = false := by simpa using h0
      rw [if_neg h0]
      by_cases h1 : b = -1
      · subst h1
        have e2 : (if a = -9223372036854775808 ∧ (-1 : Int) = -1 then 0 else a.tmod (-1)) = 0 := by
          rw [Int.tmod_neg, Int.tmod_one]
          split <;> rfl
        rw [e2]
        go_enter Tryz.func218, Tryz.ntmps218
        go_wp2_with fail
        go_ret
        exact ⟨rfl, 0, rfl⟩
      · have h1e : (b == -1) = false := by simpa using h1
        rw [if_neg (fun h => h1 h.2)]
        have hw1 : IntKind.i64.wrap (a.tmod b) = a.tmod b := IntWalk.i64_in _ (hrr h0)
        go_enter Tryz.func218, Tryz.ntmps218
        go_wp2_with fail
        all_goals (go_ret; exact ⟨rfl, 0, rfl⟩)
  have h17e : (op == 17) = false := by simpa using h17
  by_cases h18 : op = 18
  · subst h18
    have e : twoF 18 a b = uremF ua ub := by rw [← hua, ← hub]; rfl
    rw [e]
    unfold uremF
    by_cases h0 : b = 0
    · rw [if_pos (hz.2 h0)]
      subst h0
      rw [hback]
      go_enter Tryz.func218, Tryz.ntmps218
      go_wp2_with fail
      go_ret
      exact ⟨rfl, 0, rfl⟩
    · have h0e : (b == 0) = false := by simpa using h0
      have hub0 : ub ≠ 0 := fun h => h0 (hz.1 h)
      rw [if_neg hub0]
      have e1 : ua.tdiv ub = ua / ub := Int.tdiv_eq_ediv_of_nonneg hur.1
      have e2 : ua.tmod ub = ua % ub := Int.tmod_eq_emod_of_nonneg hur.1
      have b1 : 0 ≤ ua / ub ∧ ua / ub ≤ ua := ⟨Int.ediv_nonneg hur.1 hvr.1, Int.ediv_le_self _ hur.1⟩
      have b2 : 0 ≤ ua % ub ∧ ua % ub < ub := ⟨Int.emod_nonneg _ hub0, Int.emod_lt_of_pos _ (by omega)⟩
      go_enter Tryz.func218, Tryz.ntmps218
      go_wp2_with fail
      all_goals (go_ret; exact ⟨rfl, 0, rfl⟩)
  have h18e : (op == 18) = false := by simpa using h18
  by_cases h19 : op = 19
  · subst h19
    have e : twoF 19 a b = bits .and .i64 a b := by rw [show twoF 19 a b = twoF 19 a b from rfl]; rfl
    rw [e]
    go_enter Tryz.func218, Tryz.ntmps218
    go_wp2_with fail
    go_ret
    exact ⟨rfl, 0, rfl⟩
  have h19e : (op == 19) = false := by simpa using h19
  by_cases h20 : op = 20
  · subst h20
    have e : twoF 20 a b = bits .or .i64 a b := by rw [show twoF 20 a b = twoF 20 a b from rfl]; rfl
    rw [e]
    go_enter Tryz.func218, Tryz.ntmps218
    go_wp2_with fail
    go_ret
    exact ⟨rfl, 0, rfl⟩
  have h20e : (op == 20) = false := by simpa using h20
  by_cases h21 : op = 21
  · subst h21
    have e : twoF 21 a b = bits .xor .i64 a b := by rw [show twoF 21 a b = twoF 21 a b from rfl]; rfl
    rw [e]
    go_enter Tryz.func218, Tryz.ntmps218
    go_wp2_with fail
    go_ret
    exact ⟨rfl, 0, rfl⟩
  have h21e : (op == 21) = false := by simpa using h21
  by_cases h22 : op = 22
  · subst h22
    have e : twoF 22 a b = wrap64 (a * 2 ^ s.toNat) := by rw [← hs]; rfl
    rw [e]
    go_enter Tryz.func218, Tryz.ntmps218
    go_wp2_with fail
    go_ret
    exact ⟨rfl, 0, rfl⟩
  have h22e : (op == 22) = false := by simpa using h22
  by_cases h23 : op = 23
  · subst h23
    have e : twoF 23 a b = wrap64 (ua / 2 ^ s.toNat) := by rw [← hs, ← hua]; rfl
    rw [e]
    go_enter Tryz.func218, Tryz.ntmps218
    go_wp2_with fail
    go_ret
    exact ⟨rfl, 0, rfl⟩
  have h23e : (op == 23) = false := by simpa using h23
  by_cases h24 : op = 24
  · subst h24
    have e : twoF 24 a b = a / 2 ^ s.toNat := by rw [← hs]; rfl
    rw [e]
    go_enter Tryz.func218, Tryz.ntmps218
    go_wp2_with fail
    go_ret
    exact ⟨rfl, 0, rfl⟩
  have h24e : (op == 24) = false := by simpa using h24
  by_cases h25 : op = 25
  · subst h25
    by_cases hp : a = b
    · have e : twoF 25 a b = 1 := by
        have e1 : twoF 25 a b = if decide (a = b) then 1 else 0 := by rw [show (decide (a = b)) = decide (a = b) from rfl]; rfl
        rw [e1, decide_eq_true hp]; rfl
      rw [e]
      have hf : (a == b) = true := by simpa using hp
      go_enter Tryz.func218, Tryz.ntmps218
      go_wp2_with fail
      refine (htr _ _).mono ?_
      rintro e w' ⟨rfl, rfl⟩
      go_wp2_with fail
      go_ret
      exact ⟨rfl, 0, rfl⟩
    · have e : twoF 25 a b = 0 := by
        have e1 : twoF 25 a b = if decide (a = b) then 1 else 0 := by rw [show (decide (a = b)) = decide (a = b) from rfl]; rfl
        rw [e1, decide_eq_false hp]; rfl
      rw [e]
      have hf : (a == b) = false := by simpa using hp
      go_enter Tryz.func218, Tryz.ntmps218
      go_wp2_with fail
      refine (htr _ _).mono ?_
      rintro e w' ⟨rfl, rfl⟩
      go_wp2_with fail
      go_ret
      exact ⟨rfl, 0, rfl⟩
  have h25e : (op == 25) = false := by simpa using h25
  by_cases h26 : op = 26
  · subst h26
    by_cases hp : a ≠ b
    · have e : twoF 26 a b = 1 := by
        have e1 : twoF 26 a b = if decide (a ≠ b) then 1 else 0 := by rw [show (decide (a ≠ b)) = decide (a ≠ b) from rfl]; rfl
        rw [e1, decide_eq_true hp]; rfl
      rw [e]
      have hf : (a != b) = true := by simpa using hp
      go_enter Tryz.func218, Tryz.ntmps218
      go_wp2_with fail
      refine (htr _ _).mono ?_
      rintro e w' ⟨rfl, rfl⟩
      go_wp2_with fail
      go_ret
      exact ⟨rfl, 0, rfl⟩
    · have e : twoF 26 a b = 0 := by
        have e1 : twoF 26 a b = if decide (a ≠ b) then 1 else 0 := by rw [show (decide (a ≠ b)) = decide (a ≠ b) from rfl]; rfl
        rw [e1, decide_eq_false hp]; rfl
      rw [e]
      have hf : (a != b) = false := by simpa using hp
      go_enter Tryz.func218, Tryz.ntmps218
      go_wp2_with fail
      refine (htr _ _).mono ?_
      rintro e w' ⟨rfl, rfl⟩
      go_wp2_with fail
      go_ret
      exact ⟨rfl, 0, rfl⟩
  have h26e : (op == 26) = false := by simpa using h26
  by_cases h27 : op = 27
  · subst h27
    by_cases hp : a < b
    · have e : twoF 27 a b = 1 := by
        have e1 : twoF 27 a b = if decide (a < b) then 1 else 0 := by rw [show (decide (a < b)) = decide (a < b) from rfl]; rfl
        rw [e1, decide_eq_true hp]; rfl
      rw [e]
      have hf : decide (a < b) = true := decide_eq_true hp
      go_enter Tryz.func218, Tryz.ntmps218
      go_wp2_with fail
      refine (htr _ _).mono ?_
      rintro e w' ⟨rfl, rfl⟩
      go_wp2_with fail
      go_ret
      exact ⟨rfl, 0, rfl⟩
    · have e : twoF 27 a b = 0 := by
        have e1 : twoF 27 a b = if decide (a < b) then 1 else 0 := by rw [show (decide (a < b)) = decide (a < b) from rfl]; rfl
        rw [e1, decide_eq_false hp]; rfl
      rw [e]
      have hf : decide (a < b) = false := decide_eq_false hp
      go_enter Tryz.func218, Tryz.ntmps218
      go_wp2_with fail
      refine (htr _ _).mono ?_
      rintro e w' ⟨rfl, rfl⟩
      go_wp2_with fail
      go_ret
      exact ⟨rfl, 0, rfl⟩
  have h27e : (op == 27) = false := by simpa using h27
  by_cases h28 : op = 28
  · subst h28
    by_cases hp : ua < ub
    · have e : twoF 28 a b = 1 := by
        have e1 : twoF 28 a b = if decide (ua < ub) then 1 else 0 := by rw [show (decide (ua < ub)) = decide (ua < ub) from rfl, ← hua, ← hub]; rfl
        rw [e1, decide_eq_true hp]; rfl
      rw [e]
      have hf : decide (ua < ub) = true := decide_eq_true hp
      go_enter Tryz.func218, Tryz.ntmps218
      go_wp2_with fail
      refine (htr _ _).mono ?_
      rintro e w' ⟨rfl, rfl⟩
      go_wp2_with fail
      go_ret
      exact ⟨rfl, 0, rfl⟩
    · have e : twoF 28 a b = 0 := by
        have e1 : twoF 28 a b = if decide (ua < ub) then 1 else 0 := by rw [show (decide (ua < ub)) = decide (ua < ub) from rfl, ← hua, ← hub]; rfl
        rw [e1, decide_eq_false hp]; rfl
      rw [e]
      have hf : decide (ua < ub) = false := decide_eq_false hp
      go_enter Tryz.func218, Tryz.ntmps218
      go_wp2_with fail
      refine (htr _ _).mono ?_
      rintro e w' ⟨rfl, rfl⟩
      go_wp2_with fail
      go_ret
      exact ⟨rfl, 0, rfl⟩
  have h28e : (op == 28) = false := by simpa using h28
  by_cases h29 : op = 29
  · subst h29
    by_cases hp : a ≤ b
    · have e : twoF 29 a b = 1 := by
        have e1 : twoF 29 a b = if decide (a ≤ b) then 1 else 0 := by rw [show (decide (a ≤ b)) = decide (a ≤ b) from rfl]; rfl
        rw [e1, decide_eq_true hp]; rfl
      rw [e]
      have hf : decide (a ≤ b) = true := decide_eq_true hp
      go_enter Tryz.func218, Tryz.ntmps218
      go_wp2_with fail
      refine (htr _ _).mono ?_
      rintro e w' ⟨rfl, rfl⟩
      go_wp2_with fail
      go_ret
      exact ⟨rfl, 0, rfl⟩
    · have e : twoF 29 a b = 0 := by
        have e1 : twoF 29 a b = if decide (a ≤ b) then 1 else 0 := by rw [show (decide (a ≤ b)) = decide (a ≤ b) from rfl]; rfl
        rw [e1, decide_eq_false hp]; rfl
      rw [e]
      have hf : decide (a ≤ b) = false := decide_eq_false hp
      go_enter Tryz.func218, Tryz.ntmps218
      go_wp2_with fail
      refine (htr _ _).mono ?_
      rintro e w' ⟨rfl, rfl⟩
      go_wp2_with fail
      go_ret
      exact ⟨rfl, 0, rfl⟩
  have h29e : (op == 29) = false := by simpa using h29
  by_cases h30 : op = 30
  · subst h30
    by_cases hp : ua ≤ ub
    · have e : twoF 30 a b = 1 := by
        have e1 : twoF 30 a b = if decide (ua ≤ ub) then 1 else 0 := by rw [show (decide (ua ≤ ub)) = decide (ua ≤ ub) from rfl, ← hua, ← hub]; rfl
        rw [e1, decide_eq_true hp]; rfl
      rw [e]
      have hf : decide (ua ≤ ub) = true := decide_eq_true hp
      go_enter Tryz.func218, Tryz.ntmps218
      go_wp2_with fail
      refine (htr _ _).mono ?_
      rintro e w' ⟨rfl, rfl⟩
      go_wp2_with fail
      go_ret
      exact ⟨rfl, 0, rfl⟩
    · have e : twoF 30 a b = 0 := by
        have e1 : twoF 30 a b = if decide (ua ≤ ub) then 1 else 0 := by rw [show (decide (ua ≤ ub)) = decide (ua ≤ ub) from rfl, ← hua, ← hub]; rfl
        rw [e1, decide_eq_false hp]; rfl
      rw [e]
      have hf : decide (ua ≤ ub) = false := decide_eq_false hp
      go_enter Tryz.func218, Tryz.ntmps218
      go_wp2_with fail
      refine (htr _ _).mono ?_
      rintro e w' ⟨rfl, rfl⟩
      go_wp2_with fail
      go_ret
      exact ⟨rfl, 0, rfl⟩
  have h30e : (op == 30) = false := by simpa using h30
  omega

end Go.Proofs.YtjpgogmnabkgnaaGreat

/- num's divisions walked. -/
import Derived.Test.YtjpgogmnabkgnaaGreatMem
import Derived.Outline
import Derived.BigQuiet
namespace Go.Proofs.YtjpgogmnabkgnaaGreat
open Go.RowKit

def I64r (x : Int) : Prop := -9223372036854775808 ≤ x ∧ x ≤ 9223372036854775807
def u64F (x : Int) : Int := IntKind.u64.wrap x
def quoF (a b : Int) : Int := if b = 0 then -1 else if a = -9223372036854775808 ∧ b = -1 then a else a.tdiv b
def remF (a b : Int) : Int := if b = 0 then a else if a = -9223372036854775808 ∧ b = -1 then 0 else a.tmod b
def uquoF (u v : Int) : Int := if v = 0 then -1 else wrap64 (u / v)
def uremF (u v : Int) : Int := if v = 0 then wrap64 u else wrap64 (u % v)

theorem tdiv_rng {a b : Int} (ha : I64r a) (h0 : b ≠ 0) (hm : ¬ (a = -9223372036854775808 ∧ b = -1)) : I64r (a.tdiv b) := by
  unfold I64r at *
  by_cases h1 : b = 1
  · subst h1; rw [Int.tdiv_one]; exact ha
  · by_cases h2 : b = -1
    · subst h2
      rw [Int.tdiv_neg, Int.tdiv_one]
      omega
    · have h : (a.tdiv b).natAbs = a.natAbs / b.natAbs := Int.natAbs_tdiv a b
      have h3 : a.natAbs / b.natAbs ≤ a.natAbs / 2 := Nat.div_le_div_left (by omega) (by omega)
      rw [← h] at h3
      generalize a.tdiv b = x at h3 ⊢
      omega
theorem tmod_rng {a b : Int} (hb : I64r b) (h0 : b ≠ 0) : I64r (a.tmod b) := by
  unfold I64r at *
  have h : (a.tmod b).natAbs = a.natAbs % b.natAbs := Int.natAbs_tmod a b
  have h3 : a.natAbs % b.natAbs < b.natAbs := Nat.mod_lt _ (by omega)
  rw [← h] at h3
  generalize a.tmod b = x at h3 ⊢
  omega

theorem round_any (a b : Int) (w : World) : Calls Tryz.prog 341 #[.int .i64 a, .int .i64 b] w fun e w' => e = .returned (.bool (decide (a = -9223372036854775808) && decide (b = -1))) ∧ w = w' := by
  by_cases h : a = -9223372036854775808
  · subst h
    by_cases hb : b = -1
    · subst hb
      go_enter Tryz.func341, Tryz.ntmps341
      go_wp2_with fail
      go_ret
      exact ⟨rfl, rfl⟩
    · have hbe : (b == -1) = false := by simpa using hb
      go_enter Tryz.func341, Tryz.ntmps341
      go_wp2_with fail
      go_ret
      exact ⟨by simp [hb], rfl⟩
  · have hae : (a == -9223372036854775808) = false := by simpa using h
    go_enter Tryz.func341, Tryz.ntmps341
    go_wp2_with fail
    go_ret
    exact ⟨by simp [h], rfl⟩

set_option maxHeartbeats 2000000 in
theorem parts_any (a b : Int) (ha : I64r a) (hb : I64r b) (w : World) : Calls Tryz.prog 310 #[.int .i64 a, .int .i64 b] w fun e w' => e = .returned (.tuple #[.int .i64 (quoF a b), .int .i64 (remF a b)]) ∧ ∃ m, w' = w.drewN m := by
  have hr := fun W => round_any a b W
  by_cases h0 : b = 0
  · subst h0
    go_enter Tryz.func310, Tryz.ntmps310
    go_wp2_with fail
    go_ret2
    exact ⟨by unfold quoF remF; rfl, 0, rfl⟩
  · have h0e : (b == 0) = false := by simpa using h0
    by_cases hm : a = -9223372036854775808 ∧ b = -1
    · obtain ⟨rfl, rfl⟩ := hm
      go_enter Tryz.func310, Tryz.ntmps310
      go_wp2_with fail
      refine (hr _).mono ?_
      rintro e w' ⟨rfl, rfl⟩
      go_wp2_with fail
      go_ret2
      exact ⟨by unfold quoF remF; rfl, 0, rfl⟩
    · have hf : (decide (a = -9223372036854775808) && decide (b = -1)) = false := by
        by_cases h1 : a = -9223372036854775808
        · simp [h1]; intro h2; exact hm ⟨h1, h2⟩
        · simp [h1]
      rw [hf] at hr
      have hq : quoF a b = a.tdiv b := by unfold quoF; rw [if_neg h0, if_neg hm]
      have hre : remF a b = a.tmod b := by unfold remF; rw [if_neg h0, if_neg hm]
      rw [hq, hre]
      go_enter Tryz.func310, Tryz.ntmps310
      go_wp2_with fail
      refine (hr _).mono ?_
      rintro e w' ⟨rfl, rfl⟩
      have hr1 := tdiv_rng ha h0 hm
      have hr2 := tmod_rng (a := a) hb h0
      unfold I64r at hr1 hr2
      have hw1 : IntKind.i64.wrap (a.tdiv b) = a.tdiv b := IntWalk.i64_in _ hr1
      have hw2 : IntKind.i64.wrap (a.tmod b) = a.tmod b := IntWalk.i64_in _ hr2
      clear hr1 hr2
      go_wp2_with fail
      go_quiet (fail)
      go_wp2_with fail
      go_ret2
      exact ⟨rfl, _, rfl⟩

set_option maxHeartbeats 2000000 in
theorem wholes_any (u v : Int) (hu : 0 ≤ u ∧ u ≤ 18446744073709551615) (hv : 0 ≤ v ∧ v ≤ 18446744073709551615) (w : World) : Calls Tryz.prog 311 #[.int .u64 u, .int .u64 v] w fun e w' => e = .returned (.tuple #[.int .i64 (uquoF u v), .int .i64 (uremF u v)]) ∧ ∃ m, w' = w.drewN m := by
  by_cases h0 : v = 0
  · subst h0
    go_enter Tryz.func311, Tryz.ntmps311
    go_wp2_with fail
    go_ret2
    exact ⟨by unfold uquoF uremF; rfl, 0, rfl⟩
  · have h0e : (v == 0) = false := by simpa using h0
    have hq : uquoF u v = wrap64 (u / v) := by unfold uquoF; rw [if_neg h0]
    have hre : uremF u v = wrap64 (u % v) := by unfold uremF; rw [if_neg h0]
    have e1 : u.tdiv v = u / v := Int.tdiv_eq_ediv_of_nonneg hu.1
    have e2 : u.tmod v = u % v := Int.tmod_eq_emod_of_nonneg hu.1
    have b1 : 0 ≤ u / v ∧ u / v ≤ u := ⟨Int.ediv_nonneg hu.1 hv.1, Int.ediv_le_self _ hu.1⟩
    have b2 : 0 ≤ u % v ∧ u % v < v := ⟨Int.emod_nonneg _ h0, Int.emod_lt_of_pos _ (by omega)⟩
    rw [hq, hre]
    go_enter Tryz.func311, Tryz.ntmps311
    go_wp2_with fail
    go_quiet (fail)
    go_wp2_with fail
    go_ret2
    exact ⟨rfl, _, rfl⟩

theorem u64_rng (a : Int) : 0 ≤ IntKind.u64.wrap a ∧ IntKind.u64.wrap a ≤ 18446744073709551615 := by
  have h : IntKind.u64.wrap a = a % 18446744073709551616 := by simp [IntKind.wrap, IntKind.bits, IntKind.signed]
  omega

/-- a division's answer -/
def divF (op a b : Int) : Option Int := if op = 15 then some (quoF a b) else if op = 17 then some (remF a b) else if op = 16 then some (uquoF (IntKind.u64.wrap a) (IntKind.u64.wrap b)) else if op = 18 then some (uremF (IntKind.u64.wrap a) (IntKind.u64.wrap b)) else none

set_option maxHeartbeats 4000000 in
theorem divide_any (op a b : Int) (ha : I64r a) (hb : I64r b) (w : World) : Calls Tryz.prog 282 #[.int .i64 op, .int .i64 a, .int .i64 b] w fun e w' => e = .returned (.tuple #[.int .i64 ((divF op a b).getD 0), .bool (divF op a b).isSome]) ∧ ∃ m, w' = w.drewN m := by
  have hp := fun W => parts_any a b ha hb W
  have hw := fun W => wholes_any (IntKind.u64.wrap a) (IntKind.u64.wrap b) (u64_rng a) (u64_rng b) W
  obtain ⟨q, hq⟩ : ∃ x, Hid (quoF a b = x) := ⟨_, Lib.hid rfl⟩
  obtain ⟨r, hr⟩ : ∃ x, Hid (remF a b = x) := ⟨_, Lib.hid rfl⟩
  obtain ⟨uq, huq⟩ : ∃ x, Hid (uquoF (IntKind.u64.wrap a) (IntKind.u64.wrap b) = x) := ⟨_, Lib.hid rfl⟩
  obtain ⟨ur, hur⟩ : ∃ x, Hid (uremF (IntKind.u64.wrap a) (IntKind.u64.wrap b) = x) := ⟨_, Lib.hid rfl⟩
  rw [hq.out, hr.out] at hp
  rw [huq.out, hur.out] at hw
  unfold divF
  rw [hq.out, hr.out, huq.out, hur.out]
  unfold I64r at ha hb
  by_cases h15 : op = 15
  · subst h15
    go_enter Tryz.func282, Tryz.ntmps282
    go_wp2_with fail
    refine (hp _).mono ?_
    rintro e w' ⟨rfl, m1, rfl⟩
    go_wp2_with fail
    refine (hw _).mono ?_
    rintro e w' ⟨rfl, m2, rfl⟩
    go_wp2_with fail
    go_ret2
    exact ⟨rfl, _, rfl⟩
  have h15e : (op == 15) = false := by simpa using h15
  by_cases h17 : op = 17
  · subst h17
    go_enter Tryz.func282, Tryz.ntmps282
    go_wp2_with fail
    refine (hp _).mono ?_
    rintro e w' ⟨rfl, m1, rfl⟩
    go_wp2_with fail
    refine (hw _).mono ?_
    rintro e w' ⟨rfl, m2, rfl⟩
    go_wp2_with fail
    go_ret2
    exact ⟨rfl, _, rfl⟩
  have h17e : (op == 17) = false := by simpa using h17
  by_cases h16 : op = 16
  · subst h16
    go_enter Tryz.func282, Tryz.ntmps282
    go_wp2_with fail
    refine (hp _).mono ?_
    rintro e w' ⟨rfl, m1, rfl⟩
    go_wp2_with fail
    refine (hw _).mono ?_
    rintro e w' ⟨rfl, m2, rfl⟩
    go_wp2_with fail
    go_ret2
    exact ⟨rfl, _, rfl⟩
  have h16e : (op == 16) = false := by simpa using h16
  by_cases h18 : op = 18
  · subst h18
    go_enter Tryz.func282, Tryz.ntmps282
    go_wp2_with fail
    refine (hp _).mono ?_
    rintro e w' ⟨rfl, m1, rfl⟩
    go_wp2_with fail
    refine (hw _).mono ?_
    rintro e w' ⟨rfl, m2, rfl⟩
    go_wp2_with fail
    go_ret2
    exact ⟨rfl, _, rfl⟩
  have h18e : (op == 18) = false := by simpa using h18
  rw [if_neg h15, if_neg h17, if_neg h16, if_neg h18]
  go_enter Tryz.func282, Tryz.ntmps282
  go_wp2_with fail
  refine (hp _).mono ?_
  rintro e w' ⟨rfl, m1, rfl⟩
  go_wp2_with fail
  refine (hw _).mono ?_
  rintro e w' ⟨rfl, m2, rfl⟩
  go_wp2_with fail
  go_ret2
  exact ⟨rfl, _, rfl⟩

end Go.Proofs.YtjpgogmnabkgnaaGreat

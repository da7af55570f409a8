/- num.compare, num.Two walked. -/
import Derived.Test.YtjpgogmnabkgnaaGreatTnA
import Derived.Laws.Bits64b
namespace Go.Proofs.YtjpgogmnabkgnaaGreat
open Go.RowKit

theorem retb {x y : Bool} (h : x = y) : Ending.returned (.bool x) = .returned (.bool y) := by rw [h]

def cmpF (op a b : Int) : Bool := if op = 25 then decide (a = b) else if op = 26 then decide (a ≠ b) else if op = 27 then decide (a < b) else if op = 28 then decide (IntKind.u64.wrap a < IntKind.u64.wrap b) else if op = 29 then decide (a ≤ b) else decide (IntKind.u64.wrap a ≤ IntKind.u64.wrap b)

set_option maxHeartbeats 4000000 in
theorem compare_any (op a b : Int) (w : World) : Calls Tryz.prog 283 #[.int .i64 op, .int .i64 a, .int .i64 b] w fun e w' => e = .returned (.bool (cmpF op a b)) ∧ w = w' := by
  obtain ⟨ua, hua⟩ : ∃ x, IntKind.u64.wrap a = x := ⟨_, rfl⟩
  obtain ⟨ub, hub⟩ : ∃ x, IntKind.u64.wrap b = x := ⟨_, rfl⟩
  unfold cmpF
  rw [hua, hub]
  by_cases h25 : op = 25
  · subst h25
    go_enter Tryz.func283, Tryz.ntmps283
    go_wp2_with fail
    all_goals
      go_ret
      refine ⟨retb ?_, rfl⟩
      try simp
      try grind
  have h25e : (op == 25) = false := by simpa using h25
  by_cases h26 : op = 26
  · subst h26
    go_enter Tryz.func283, Tryz.ntmps283
    go_wp2_with fail
    all_goals
      go_ret
      refine ⟨retb ?_, rfl⟩
      try simp
      try grind
  have h26e : (op == 26) = false := by simpa using h26
  by_cases h27 : op = 27
  · subst h27
    go_enter Tryz.func283, Tryz.ntmps283
    go_wp2_with fail
    all_goals
      go_ret
      refine ⟨retb ?_, rfl⟩
      try simp
      try grind
  have h27e : (op == 27) = false := by simpa using h27
  by_cases h28 : op = 28
  · subst h28
    go_enter Tryz.func283, Tryz.ntmps283
    go_wp2_with fail
    all_goals
      go_ret
      refine ⟨retb ?_, rfl⟩
      try simp
      try grind
  have h28e : (op == 28) = false := by simpa using h28
  by_cases h29 : op = 29
  · subst h29
    go_enter Tryz.func283, Tryz.ntmps283
    go_wp2_with fail
    all_goals
      go_ret
      refine ⟨retb ?_, rfl⟩
      try simp
      try grind
  have h29e : (op == 29) = false := by simpa using h29
  rw [if_neg h25, if_neg h26, if_neg h27, if_neg h28, if_neg h29]
  go_enter Tryz.func283, Tryz.ntmps283
  go_wp2_with fail
  all_goals
    go_ret
    refine ⟨retb ?_, rfl⟩
    try simp
    try grind

def shN (b : Int) : Int := IntKind.u64.wrap b % 64
theorem and63 (b : Int) : bits .and .u64 (IntKind.u64.wrap b) 63 = shN b := by
  unfold shN
  have h := u64_rng b
  obtain ⟨n, hn⟩ : ∃ n : Nat, IntKind.u64.wrap b = n := ⟨(IntKind.u64.wrap b).toNat, by omega⟩
  rw [hn] at h ⊢
  rw [show (63 : Int) = ((63 : Nat) : Int) from rfl, bits_and_u64_nat _ _ (by omega) (by omega), show (63 : Nat) = 2 ^ 6 - 1 from rfl, Nat.and_two_pow_sub_one_eq_mod]
  omega
theorem shN_rng (b : Int) : 0 ≤ shN b ∧ shN b ≤ 63 := by unfold shN; omega

/-- an op of two -/
def twoF (op a b : Int) : Int :=
  match divF op a b with
  | some x => x
  | none =>
    if op = 12 then wrap64 (a + b) else if op = 13 then wrap64 (a - b) else if op = 14 then wrap64 (a * b) else if op = 19 then bits .and .i64 a b else if op = 20 then bits .or .i64 a b else if op = 21 then bits .xor .i64 a b
    else if op = 22 then wrap64 (a * 2 ^ (shN b).toNat) else if op = 23 then wrap64 (IntKind.u64.wrap a / 2 ^ (shN b).toNat) else if op = 24 then a / 2 ^ (shN b).toNat else if cmpF op a b then 1 else 0

def TwoRet (x : Int) (w : World) (e : Ending) (w' : World) : Prop := e = .returned (.int .i64 x) ∧ ∃ m, w' = w.drewN m

set_option maxRecDepth 100000 in
set_option maxHeartbeats 8000000 in
theorem num2_any (op a b : Int) (ha : I64r a) (hb : I64r b) (w : World) : Calls Tryz.prog 246 #[.int .i64 op, .int .i64 a, .int .i64 b] w (TwoRet (twoF op a b) w) := by
  have hd := fun W => divide_any op a b ha hb W
  have hc := fun W => compare_any op a b W
  unfold twoF
  unfold I64r at ha hb
  have hsr := shN_rng b
  have hby := and63 b
  obtain ⟨s, hs⟩ : ∃ x, shN b = x := ⟨_, rfl⟩
  obtain ⟨ua, hua⟩ : ∃ x, IntKind.u64.wrap a = x := ⟨_, rfl⟩
  obtain ⟨ub, hub⟩ : ∃ x, IntKind.u64.wrap b = x := ⟨_, rfl⟩
  have hur := u64_rng a
  rw [hua] at hur
  rw [hs] at hsr hby
  rw [hub] at hby
  cases hdv : divF op a b with
  | some x =>
    rw [hdv] at hd
    go_enter Tryz.func246, Tryz.ntmps246
    go_wp2_with fail
    refine (hd _).mono ?_
    rintro e w' ⟨rfl, m1, rfl⟩
    go_wp2_with fail
    go_ret
    exact ⟨rfl, _, rfl⟩
  | none =>
    rw [hdv] at hd
    rw [hs, hua]
    clear hdv
    by_cases h12 : op = 12
    · subst h12
      go_enter Tryz.func246, Tryz.ntmps246
      go_wp2_with fail
      refine (hd _).mono ?_
      rintro e w' ⟨rfl, m1, rfl⟩
      go_wp2_with fail
      go_ret
      exact ⟨rfl, _, rfl⟩
    have h12e : (op == 12) = false := by simpa using h12
    by_cases h13 : op = 13
    · subst h13
      go_enter Tryz.func246, Tryz.ntmps246
      go_wp2_with fail
      refine (hd _).mono ?_
      rintro e w' ⟨rfl, m1, rfl⟩
      go_wp2_with fail
      go_ret
      exact ⟨rfl, _, rfl⟩
    have h13e : (op == 13) = false := by simpa using h13
    by_cases h14 : op = 14
    · subst h14
      go_enter Tryz.func246, Tryz.ntmps246
      go_wp2_with fail
      refine (hd _).mono ?_
      rintro e w' ⟨rfl, m1, rfl⟩
      go_wp2_with fail
      go_ret
      exact ⟨rfl, _, rfl⟩
    have h14e : (op == 14) = false := by simpa using h14
    by_cases h19 : op = 19
    · subst h19
      go_enter Tryz.func246, Tryz.ntmps246
      go_wp2_with fail
      refine (hd _).mono ?_
      rintro e w' ⟨rfl, m1, rfl⟩
      go_wp2_with fail
      go_ret
      exact ⟨rfl, _, rfl⟩
    have h19e : (op == 19) = false := by simpa using h19
    by_cases h20 : op = 20
    · subst h20
      go_enter Tryz.func246, Tryz.ntmps246
      go_wp2_with fail
      refine (hd _).mono ?_
      rintro e w' ⟨rfl, m1, rfl⟩
      go_wp2_with fail
      go_ret
      exact ⟨rfl, _, rfl⟩
    have h20e : (op == 20) = false := by simpa using h20
    by_cases h21 : op = 21
    · subst h21
      go_enter Tryz.func246, Tryz.ntmps246
      go_wp2_with fail
      refine (hd _).mono ?_
      rintro e w' ⟨rfl, m1, rfl⟩
      go_wp2_with fail
      go_ret
      exact ⟨rfl, _, rfl⟩
    have h21e : (op == 21) = false := by simpa using h21
    by_cases h22 : op = 22
    · subst h22
      go_enter Tryz.func246, Tryz.ntmps246
      go_wp2_with fail
      refine (hd _).mono ?_
      rintro e w' ⟨rfl, m1, rfl⟩
      go_wp2_with fail
      go_ret
      exact ⟨rfl, _, rfl⟩
    have h22e : (op == 22) = false := by simpa using h22
    by_cases h23 : op = 23
    · subst h23
      go_enter Tryz.func246, Tryz.ntmps246
      go_wp2_with fail
      refine (hd _).mono ?_
      rintro e w' ⟨rfl, m1, rfl⟩
      go_wp2_with fail
      go_ret
      exact ⟨rfl, _, rfl⟩
    have h23e : (op == 23) = false := by simpa using h23
    by_cases h24 : op = 24
    · subst h24
      go_enter Tryz.func246, Tryz.ntmps246
      go_wp2_with fail
      refine (hd _).mono ?_
      rintro e w' ⟨rfl, m1, rfl⟩
      go_wp2_with fail
      go_ret
      exact ⟨rfl, _, rfl⟩
    have h24e : (op == 24) = false := by simpa using h24
    rw [if_neg h12, if_neg h13, if_neg h14, if_neg h19, if_neg h20, if_neg h21, if_neg h22, if_neg h23, if_neg h24]
    obtain ⟨c, hcc⟩ : ∃ x, Hid (cmpF op a b = x) := ⟨_, Lib.hid rfl⟩
    rw [hcc.out] at hc ⊢
    cases c
    · go_enter Tryz.func246, Tryz.ntmps246
      go_wp2_with fail
      refine (hd _).mono ?_
      rintro e w' ⟨rfl, m1, rfl⟩
      go_wp2_with fail
      refine (hc _).mono ?_
      rintro e w' ⟨rfl, rfl⟩
      go_wp2_with fail
      go_ret
      exact ⟨rfl, _, rfl⟩
    · go_enter Tryz.func246, Tryz.ntmps246
      go_wp2_with fail
      refine (hd _).mono ?_
      rintro e w' ⟨rfl, m1, rfl⟩
      go_wp2_with fail
      refine (hc _).mono ?_
      rintro e w' ⟨rfl, rfl⟩
      go_wp2_with fail
      go_ret
      exact ⟨rfl, _, rfl⟩

end Go.Proofs.YtjpgogmnabkgnaaGreat

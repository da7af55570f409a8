/- num.One, gantletref1.Un walked: an op of one. -/
import Derived.Test.YtjpgogmnabkgnaaGreatTnC
namespace Go.Proofs.YtjpgogmnabkgnaaGreat
open Go.RowKit

theorem i8_rng (a : Int) : -128 ≤ IntKind.i8.wrap a ∧ IntKind.i8.wrap a ≤ 127 := by
  simp [IntKind.wrap, IntKind.bits, IntKind.signed]
  (try split) <;> omega
theorem i8_eq (a : Int) : IntKind.i8.wrap a = if a % 256 < 128 then a % 256 else a % 256 - 256 := by
  simp [IntKind.wrap, IntKind.bits, IntKind.signed]
  (try split) <;> (try omega)
theorem i16_rng (a : Int) : -32768 ≤ IntKind.i16.wrap a ∧ IntKind.i16.wrap a ≤ 32767 := by
  simp [IntKind.wrap, IntKind.bits, IntKind.signed]
  (try split) <;> omega
theorem i16_eq (a : Int) : IntKind.i16.wrap a = if a % 65536 < 32768 then a % 65536 else a % 65536 - 65536 := by
  simp [IntKind.wrap, IntKind.bits, IntKind.signed]
  (try split) <;> (try omega)
theorem i32_rng (a : Int) : -2147483648 ≤ IntKind.i32.wrap a ∧ IntKind.i32.wrap a ≤ 2147483647 := by
  simp [IntKind.wrap, IntKind.bits, IntKind.signed]
  (try split) <;> omega
theorem i32_eq (a : Int) : IntKind.i32.wrap a = if a % 4294967296 < 2147483648 then a % 4294967296 else a % 4294967296 - 4294967296 := by
  simp [IntKind.wrap, IntKind.bits, IntKind.signed]
  (try split) <;> (try omega)
theorem u8_rng (a : Int) : 0 ≤ IntKind.u8.wrap a ∧ IntKind.u8.wrap a ≤ 255 := by
  simp [IntKind.wrap, IntKind.bits, IntKind.signed]
  (try split) <;> omega
theorem u8_eq (a : Int) : IntKind.u8.wrap a = a % 256 := by
  simp [IntKind.wrap, IntKind.bits, IntKind.signed]
theorem u16_rng (a : Int) : 0 ≤ IntKind.u16.wrap a ∧ IntKind.u16.wrap a ≤ 65535 := by
  simp [IntKind.wrap, IntKind.bits, IntKind.signed]
  (try split) <;> omega
theorem u16_eq (a : Int) : IntKind.u16.wrap a = a % 65536 := by
  simp [IntKind.wrap, IntKind.bits, IntKind.signed]
theorem u32_rng (a : Int) : 0 ≤ IntKind.u32.wrap a ∧ IntKind.u32.wrap a ≤ 4294967295 := by
  simp [IntKind.wrap, IntKind.bits, IntKind.signed]
  (try split) <;> omega
theorem u32_eq (a : Int) : IntKind.u32.wrap a = a % 4294967296 := by
  simp [IntKind.wrap, IntKind.bits, IntKind.signed]

/-- an op of one -/
def oneF (op a : Int) : Int := if op = 31 then IntKind.i8.wrap a else if op = 32 then IntKind.i16.wrap a else if op = 33 then IntKind.i32.wrap a else if op = 34 then IntKind.u8.wrap a else if op = 35 then IntKind.u16.wrap a else IntKind.u32.wrap a
def kindOf (op : Int) : Int := if op = 31 then 1 else if op = 32 then 3 else if op = 33 then 5 else if op = 34 then 2 else if op = 35 then 4 else 6

set_option maxRecDepth 100000 in
set_option maxHeartbeats 8000000 in
theorem ncut_any (op a : Int) (hop : 31 ≤ op ∧ op ≤ 36) (w : World) : Calls Tryz.prog 51 #[.int .i64 (kindOf op), .int .i64 a] w fun e w' => e = .returned (.int .i64 (oneF op a)) ∧ w = w' := by
  by_cases h31 : op = 31
  · subst h31
    rw [show kindOf 31 = 1 from rfl, show oneF 31 a = IntKind.i8.wrap a from rfl]
    have hr := i8_rng a
    obtain ⟨x, hx⟩ : ∃ x, IntKind.i8.wrap a = x := ⟨_, rfl⟩
    rw [hx] at hr ⊢
    go_enter Tryz.func51, Tryz.ntmps51
    go_wp2_with fail
    go_ret
    exact ⟨rfl, rfl⟩
  by_cases h32 : op = 32
  · subst h32
    rw [show kindOf 32 = 3 from rfl, show oneF 32 a = IntKind.i16.wrap a from rfl]
    have hr := i16_rng a
    obtain ⟨x, hx⟩ : ∃ x, IntKind.i16.wrap a = x := ⟨_, rfl⟩
    rw [hx] at hr ⊢
    go_enter Tryz.func51, Tryz.ntmps51
    go_wp2_with fail
    go_ret
    exact ⟨rfl, rfl⟩
  by_cases h33 : op = 33
  · subst h33
    rw [show kindOf 33 = 5 from rfl, show oneF 33 a = IntKind.i32.wrap a from rfl]
    have hr := i32_rng a
    obtain ⟨x, hx⟩ : ∃ x, IntKind.i32.wrap a = x := ⟨_, rfl⟩
    rw [hx] at hr ⊢
    go_enter Tryz.func51, Tryz.ntmps51
    go_wp2_with fail
    go_ret
    exact ⟨rfl, rfl⟩
  by_cases h34 : op = 34
  · subst h34
    rw [show kindOf 34 = 2 from rfl, show oneF 34 a = IntKind.u8.wrap a from rfl]
    have hr := u8_rng a
    obtain ⟨x, hx⟩ : ∃ x, IntKind.u8.wrap a = x := ⟨_, rfl⟩
    rw [hx] at hr ⊢
    go_enter Tryz.func51, Tryz.ntmps51
    go_wp2_with fail
    go_ret
    exact ⟨rfl, rfl⟩
  by_cases h35 : op = 35
  · subst h35
    rw [show kindOf 35 = 4 from rfl, show oneF 35 a = IntKind.u16.wrap a from rfl]
    have hr := u16_rng a
    obtain ⟨x, hx⟩ : ∃ x, IntKind.u16.wrap a = x := ⟨_, rfl⟩
    rw [hx] at hr ⊢
    go_enter Tryz.func51, Tryz.ntmps51
    go_wp2_with fail
    go_ret
    exact ⟨rfl, rfl⟩
  by_cases h36 : op = 36
  · subst h36
    rw [show kindOf 36 = 6 from rfl, show oneF 36 a = IntKind.u32.wrap a from rfl]
    have hr := u32_rng a
    obtain ⟨x, hx⟩ : ∃ x, IntKind.u32.wrap a = x := ⟨_, rfl⟩
    rw [hx] at hr ⊢
    go_enter Tryz.func51, Tryz.ntmps51
    go_wp2_with fail
    go_ret
    exact ⟨rfl, rfl⟩
  omega

theorem and_mask (u : Int) (k : Nat) (hk : k < 64) (hu : 0 ≤ u ∧ u ≤ 18446744073709551615) : bits .and .u64 u (((2 ^ k - 1 : Nat)) : Int) = u % ((2 ^ k : Nat) : Int) := by
  obtain ⟨n, rfl⟩ : ∃ n : Nat, u = n := ⟨u.toNat, by omega⟩
  have h1 : (2 ^ k : Nat) ≤ 2 ^ 63 := Nat.pow_le_pow_right (by omega) (by omega)
  rw [bits_and_u64_nat _ _ (by omega) (by omega), Nat.and_two_pow_sub_one_eq_mod]
  rfl
theorem or_high (u : Int) (k a : Nat) (hu : 0 ≤ u ∧ u < ((2 ^ k : Nat) : Int)) (hk : 2 ^ k * a < 18446744073709551616) (hk2 : 2 ^ k < 18446744073709551616) : bits .or .u64 u ((2 ^ k * a : Nat) : Int) = u + ((2 ^ k * a : Nat) : Int) := by
  obtain ⟨n, rfl⟩ : ∃ n : Nat, u = n := ⟨u.toNat, by omega⟩
  have hn : n < 2 ^ k := by omega
  rw [bits_or_u64_nat _ _ (by omega) hk, Nat.or_comm, ← Nat.two_pow_add_eq_or_of_lt hn]
  omega

set_option maxRecDepth 100000 in
set_option maxHeartbeats 8000000 in
theorem un_any (op a : Int) (hop : 31 ≤ op ∧ op ≤ 36) (w : World) : Calls Tryz.prog 160 #[.int .i64 op, .int .i64 a] w fun e w' => e = .returned (.int .i64 (oneF op a)) ∧ w = w' := by
  have hur := u64_rng a
  have hue : IntKind.u64.wrap a = a % 18446744073709551616 := by simp [IntKind.wrap, IntKind.bits, IntKind.signed]
  obtain ⟨ua, hua⟩ : ∃ x, IntKind.u64.wrap a = x := ⟨_, rfl⟩
  rw [hua] at hur hue
  by_cases h31 : op = 31
  · subst h31
    have hm : bits .and .u64 ua 255 = ua % 256 := and_mask ua 8 (by omega) hur
    obtain ⟨u, hu⟩ : ∃ x, ua % 256 = x := ⟨_, rfl⟩
    have hu2 : 0 ≤ u ∧ u < 256 := by omega
    have hum : u = a % 256 := by omega
    rw [hu] at hm
    have hcut : ∀ W, Calls Tryz.prog 118 #[.int .i64 a, .int .i64 8, .bool true] W fun e w' => e = .returned (.int .i64 (oneF 31 a)) ∧ W = w' := by
      intro W
      rw [show oneF 31 a = IntKind.i8.wrap a from rfl, i8_eq a, ← hum]
      clear hum hu hue
      have hor : bits .or .u64 u 18446744073709551360 = u + 18446744073709551360 := or_high u 8 72057594037927935 hu2 (by decide) (by decide)
      by_cases hs : u < 128
      · have hsh : u / 128 = 0 := by omega
        rw [if_pos hs]
        go_enter Tryz.func118, Tryz.ntmps118
        go_wp2_with fail
        go_ret
        exact ⟨rfl, rfl⟩
      · have hsh : u / 128 = 1 := by omega
        have hwc : IntKind.u64.wrap 4722366482869645213440 = 18446744073709551360 := by decide
        have hfin : wrap64 (u + 18446744073709551360) = u - 256 := by unfold wrap64; omega
        rw [if_neg hs]
        go_enter Tryz.func118, Tryz.ntmps118
        go_wp2_with fail
        go_ret
        refine ⟨?_, rfl⟩
        first | rfl | (show Ending.returned (.int .i64 (wrap64 (u + 18446744073709551360))) = _; rw [hfin])
    obtain ⟨x, hx⟩ : ∃ x, Hid (oneF 31 a = x) := ⟨_, Lib.hid rfl⟩
    rw [hx.out] at hcut ⊢
    go_enter Tryz.func160, Tryz.ntmps160
    go_wp2_with fail
    refine (hcut _).mono ?_
    rintro e w' ⟨rfl, rfl⟩
    go_wp2_with fail
    go_ret
    exact ⟨rfl, rfl⟩
  by_cases h32 : op = 32
  · subst h32
    have hm : bits .and .u64 ua 65535 = ua % 65536 := and_mask ua 16 (by omega) hur
    obtain ⟨u, hu⟩ : ∃ x, ua % 65536 = x := ⟨_, rfl⟩
    have hu2 : 0 ≤ u ∧ u < 65536 := by omega
    have hum : u = a % 65536 := by omega
    rw [hu] at hm
    have hcut : ∀ W, Calls Tryz.prog 118 #[.int .i64 a, .int .i64 16, .bool true] W fun e w' => e = .returned (.int .i64 (oneF 32 a)) ∧ W = w' := by
      intro W
      rw [show oneF 32 a = IntKind.i16.wrap a from rfl, i16_eq a, ← hum]
      clear hum hu hue
      have hor : bits .or .u64 u 18446744073709486080 = u + 18446744073709486080 := or_high u 16 281474976710655 hu2 (by decide) (by decide)
      by_cases hs : u < 32768
      · have hsh : u / 32768 = 0 := by omega
        rw [if_pos hs]
        go_enter Tryz.func118, Tryz.ntmps118
        go_wp2_with fail
        go_ret
        exact ⟨rfl, rfl⟩
      · have hsh : u / 32768 = 1 := by omega
        have hwc : IntKind.u64.wrap 1208925819614629174640640 = 18446744073709486080 := by decide
        have hfin : wrap64 (u + 18446744073709486080) = u - 65536 := by unfold wrap64; omega
        rw [if_neg hs]
        go_enter Tryz.func118, Tryz.ntmps118
        go_wp2_with fail
        go_ret
        refine ⟨?_, rfl⟩
        first | rfl | (show Ending.returned (.int .i64 (wrap64 (u + 18446744073709486080))) = _; rw [hfin])
    obtain ⟨x, hx⟩ : ∃ x, Hid (oneF 32 a = x) := ⟨_, Lib.hid rfl⟩
    rw [hx.out] at hcut ⊢
    go_enter Tryz.func160, Tryz.ntmps160
    go_wp2_with fail
    refine (hcut _).mono ?_
    rintro e w' ⟨rfl, rfl⟩
    go_wp2_with fail
    go_ret
    exact ⟨rfl, rfl⟩
  by_cases h33 : op = 33
  · subst h33
    have hm : bits .and .u64 ua 4294967295 = ua % 4294967296 := and_mask ua 32 (by omega) hur
    obtain ⟨u, hu⟩ : ∃ x, ua % 4294967296 = x := ⟨_, rfl⟩
    have hu2 : 0 ≤ u ∧ u < 4294967296 := by omega
    have hum : u = a % 4294967296 := by omega
    rw [hu] at hm
    have hcut : ∀ W, Calls Tryz.prog 118 #[.int .i64 a, .int .i64 32, .bool true] W fun e w' => e = .returned (.int .i64 (oneF 33 a)) ∧ W = w' := by
      intro W
      rw [show oneF 33 a = IntKind.i32.wrap a from rfl, i32_eq a, ← hum]
      clear hum hu hue
      have hor : bits .or .u64 u 18446744069414584320 = u + 18446744069414584320 := or_high u 32 4294967295 hu2 (by decide) (by decide)
      by_cases hs : u < 2147483648
      · have hsh : u / 2147483648 = 0 := by omega
        rw [if_pos hs]
        go_enter Tryz.func118, Tryz.ntmps118
        go_wp2_with fail
        go_ret
        exact ⟨rfl, rfl⟩
      · have hsh : u / 2147483648 = 1 := by omega
        have hwc : IntKind.u64.wrap 79228162514264337589248983040 = 18446744069414584320 := by decide
        have hfin : wrap64 (u + 18446744069414584320) = u - 4294967296 := by unfold wrap64; omega
        rw [if_neg hs]
        go_enter Tryz.func118, Tryz.ntmps118
        go_wp2_with fail
        go_ret
        refine ⟨?_, rfl⟩
        first | rfl | (show Ending.returned (.int .i64 (wrap64 (u + 18446744069414584320))) = _; rw [hfin])
    obtain ⟨x, hx⟩ : ∃ x, Hid (oneF 33 a = x) := ⟨_, Lib.hid rfl⟩
    rw [hx.out] at hcut ⊢
    go_enter Tryz.func160, Tryz.ntmps160
    go_wp2_with fail
    refine (hcut _).mono ?_
    rintro e w' ⟨rfl, rfl⟩
    go_wp2_with fail
    go_ret
    exact ⟨rfl, rfl⟩
  by_cases h34 : op = 34
  · subst h34
    have hm : bits .and .u64 ua 255 = ua % 256 := and_mask ua 8 (by omega) hur
    obtain ⟨u, hu⟩ : ∃ x, ua % 256 = x := ⟨_, rfl⟩
    have hu2 : 0 ≤ u ∧ u < 256 := by omega
    have hum : u = a % 256 := by omega
    rw [hu] at hm
    have hcut : ∀ W, Calls Tryz.prog 118 #[.int .i64 a, .int .i64 8, .bool false] W fun e w' => e = .returned (.int .i64 (oneF 34 a)) ∧ W = w' := by
      intro W
      rw [show oneF 34 a = IntKind.u8.wrap a from rfl, u8_eq a, ← hum]
      clear hum hu hue
      go_enter Tryz.func118, Tryz.ntmps118
      go_wp2_with fail
      go_ret
      exact ⟨rfl, rfl⟩
    obtain ⟨x, hx⟩ : ∃ x, Hid (oneF 34 a = x) := ⟨_, Lib.hid rfl⟩
    rw [hx.out] at hcut ⊢
    go_enter Tryz.func160, Tryz.ntmps160
    go_wp2_with fail
    refine (hcut _).mono ?_
    rintro e w' ⟨rfl, rfl⟩
    go_wp2_with fail
    go_ret
    exact ⟨rfl, rfl⟩
  by_cases h35 : op = 35
  · subst h35
    have hm : bits .and .u64 ua 65535 = ua % 65536 := and_mask ua 16 (by omega) hur
    obtain ⟨u, hu⟩ : ∃ x, ua % 65536 = x := ⟨_, rfl⟩
    have hu2 : 0 ≤ u ∧ u < 65536 := by omega
    have hum : u = a % 65536 := by omega
    rw [hu] at hm
    have hcut : ∀ W, Calls Tryz.prog 118 #[.int .i64 a, .int .i64 16, .bool false] W fun e w' => e = .returned (.int .i64 (oneF 35 a)) ∧ W = w' := by
      intro W
      rw [show oneF 35 a = IntKind.u16.wrap a from rfl, u16_eq a, ← hum]
      clear hum hu hue
      go_enter Tryz.func118, Tryz.ntmps118
      go_wp2_with fail
      go_ret
      exact ⟨rfl, rfl⟩
    obtain ⟨x, hx⟩ : ∃ x, Hid (oneF 35 a = x) := ⟨_, Lib.hid rfl⟩
    rw [hx.out] at hcut ⊢
    go_enter Tryz.func160, Tryz.ntmps160
    go_wp2_with fail
    refine (hcut _).mono ?_
    rintro e w' ⟨rfl, rfl⟩
    go_wp2_with fail
    go_ret
    exact ⟨rfl, rfl⟩
  by_cases h36 : op = 36
  · subst h36
    have hm : bits .and .u64 ua 4294967295 = ua % 4294967296 := and_mask ua 32 (by omega) hur
    obtain ⟨u, hu⟩ : ∃ x, ua % 4294967296 = x := ⟨_, rfl⟩
    have hu2 : 0 ≤ u ∧ u < 4294967296 := by omega
    have hum : u = a % 4294967296 := by omega
    rw [hu] at hm
    have hcut : ∀ W, Calls Tryz.prog 118 #[.int .i64 a, .int .i64 32, .bool false] W fun e w' => e = .returned (.int .i64 (oneF 36 a)) ∧ W = w' := by
      intro W
      rw [show oneF 36 a = IntKind.u32.wrap a from rfl, u32_eq a, ← hum]
      clear hum hu hue
      go_enter Tryz.func118, Tryz.ntmps118
      go_wp2_with fail
      go_ret
      exact ⟨rfl, rfl⟩
    obtain ⟨x, hx⟩ : ∃ x, Hid (oneF 36 a = x) := ⟨_, Lib.hid rfl⟩
    rw [hx.out] at hcut ⊢
    go_enter Tryz.func160, Tryz.ntmps160
    go_wp2_with fail
    refine (hcut _).mono ?_
    rintro e w' ⟨rfl, rfl⟩
    go_wp2_with fail
    go_ret
    exact ⟨rfl, rfl⟩
  omega

end Go.Proofs.YtjpgogmnabkgnaaGreat

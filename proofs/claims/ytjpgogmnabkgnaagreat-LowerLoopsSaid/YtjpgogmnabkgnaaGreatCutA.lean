/- The lowest bits of a number, with their sign or without: gantletref1.cut walked. -/
import Derived.Test.YtjpgogmnabkgnaaGreatTnD
import Derived.Test.YtjpgogmnabkgnaaGreatVw
namespace Go.Proofs.YtjpgogmnabkgnaaGreat
open Go.RowKit Go.Proofs.YtjpgogmnabkgnaaGreat.Ev

set_option maxRecDepth 100000 in
set_option maxHeartbeats 8000000 in
theorem cut31 (a : Int) (w : World) : Calls Tryz.prog 118 #[.int .i64 a, .int .i64 8, .bool true] w fun e w' => e = .returned (.int .i64 (IntKind.i8.wrap a)) ∧ w = w' := by
  have hur := u64_rng a
  have hue : IntKind.u64.wrap a = a % 18446744073709551616 := by simp [IntKind.wrap, IntKind.bits, IntKind.signed]
  obtain ⟨ua, hua⟩ : ∃ x, IntKind.u64.wrap a = x := ⟨_, rfl⟩
  rw [hua] at hur hue
  have hm : bits .and .u64 ua 255 = ua % 256 := and_mask ua 8 (by omega) hur
  obtain ⟨u, hu⟩ : ∃ x, ua % 256 = x := ⟨_, rfl⟩
  have hu2 : 0 ≤ u ∧ u < 256 := by omega
  have hum : u = a % 256 := by omega
  rw [hu] at hm
  have hcut : ∀ W, Calls Tryz.prog 118 #[.int .i64 a, .int .i64 8, .bool true] W fun e w' => e = .returned (.int .i64 (oneF 31 a)) ∧ W = w' := by
    intro W
    rw [show oneF 31 a = IntKind.i8.wrap a from rfl, i8_eq a, ← hum]
    clear hum hu hue
    have hor : bits .or .u64 u 18446744073709551360 = u + 18446744073709551360 := or_high u 8 72057594037927935 hu2 (by decide) (by decide)
    by_cases hs : u < 128
    · have hsh : u / 128 = 0 := by omega
      rw [if_pos hs]
      go_enter Tryz.func118, Tryz.ntmps118
      go_wp2_with fail
      go_ret
      exact ⟨rfl, rfl⟩
    · have hsh : u / 128 = 1 := by omega
      have hwc : IntKind.u64.wrap 4722366482869645213440 = 18446744073709551360 := by decide
      have hfin : wrap64 (u + 18446744073709551360) = u - 256 := by unfold wrap64; omega
      rw [if_neg hs]
      go_enter Tryz.func118, Tryz.ntmps118
      go_wp2_with fail
      go_ret
      refine ⟨?_, rfl⟩
      first | rfl | (show Ending.returned (.int .i64 (wrap64 (u + 18446744073709551360))) = _; rw [hfin])
  exact hcut w

set_option maxRecDepth 100000 in
set_option maxHeartbeats 8000000 in
theorem cut32 (a : Int) (w : World) : Calls Tryz.prog 118 #[.int .i64 a, .int .i64 16, .bool true] w fun e w' => e = .returned (.int .i64 (IntKind.i16.wrap a)) ∧ w = w' := by
  have hur := u64_rng a
  have hue : IntKind.u64.wrap a = a % 18446744073709551616 := by simp [IntKind.wrap, IntKind.bits, IntKind.signed]
  obtain ⟨ua, hua⟩ : ∃ x, IntKind.u64.wrap a = x := ⟨_, rfl⟩
  rw [hua] at hur hue
  have hm : bits .and .u64 ua 65535 = ua % 65536 := and_mask ua 16 (by omega) hur
  obtain ⟨u, hu⟩ : ∃ x, ua % 65536 = x := ⟨_, rfl⟩
  have hu2 : 0 ≤ u ∧ u < 65536 := by omega
  have hum : u = a % 65536 := by omega
  rw [hu] at hm
  have hcut : ∀ W, Calls Tryz.prog 118 #[.int .i64 a, .int .i64 16, .bool true] W fun e w' => e = .returned (.int .i64 (oneF 32 a)) ∧ W = w' := by
    intro W
    rw [show oneF 32 a = IntKind.i16.wrap a from rfl, i16_eq a, ← hum]
    clear hum hu hue
    have hor : bits .or .u64 u 18446744073709486080 = u + 18446744073709486080 := or_high u 16 281474976710655 hu2 (by decide) (by decide)
    by_cases hs : u < 32768
    · have hsh : u / 32768 = 0 := by omega
      rw [if_pos hs]
      go_enter Tryz.func118, Tryz.ntmps118
      go_wp2_with fail
      go_ret
      exact ⟨rfl, rfl⟩
    · have hsh : u / 32768 = 1 := by omega
      have hwc : IntKind.u64.wrap 1208925819614629174640640 = 18446744073709486080 := by decide
      have hfin : wrap64 (u + 18446744073709486080) = u - 65536 := by unfold wrap64; omega
      rw [if_neg hs]
      go_enter Tryz.func118, Tryz.ntmps118
      go_wp2_with fail
      go_ret
      refine ⟨?_, rfl⟩
      first | rfl | (show Ending.returned (.int .i64 (wrap64 (u + 18446744073709486080))) = _; rw [hfin])
  exact hcut w

set_option maxRecDepth 100000 in
set_option maxHeartbeats 8000000 in
theorem cut33 (a : Int) (w : World) : Calls Tryz.prog 118 #[.int .i64 a, .int .i64 32, .bool true] w fun e w' => e = .returned (.int .i64 (IntKind.i32.wrap a)) ∧ w = w' := by
  have hur := u64_rng a
  have hue : IntKind.u64.wrap a = a % 18446744073709551616 := by simp [IntKind.wrap, IntKind.bits, IntKind.signed]
  obtain ⟨ua, hua⟩ : ∃ x, IntKind.u64.wrap a = x := ⟨_, rfl⟩
  rw [hua] at hur hue
  have hm : bits .and .u64 ua 4294967295 = ua % 4294967296 := and_mask ua 32 (by omega) hur
  obtain ⟨u, hu⟩ : ∃ x, ua % 4294967296 = x := ⟨_, rfl⟩
  have hu2 : 0 ≤ u ∧ u < 4294967296 := by omega
  have hum : u = a % 4294967296 := by omega
  rw [hu] at hm
  have hcut : ∀ W, Calls Tryz.prog 118 #[.int .i64 a, .int .i64 32, .bool true] W fun e w' => e = .returned (.int .i64 (oneF 33 a)) ∧ W = w' := by
    intro W
    rw [show oneF 33 a = IntKind.i32.wrap a from rfl, i32_eq a, ← hum]
    clear hum hu hue
    have hor : bits .or .u64 u 18446744069414584320 = u + 18446744069414584320 := or_high u 32 4294967295 hu2 (by decide) (by decide)
    by_cases hs : u < 2147483648
    · have hsh : u / 2147483648 = 0 := by omega
      rw [if_pos hs]
      go_enter Tryz.func118, Tryz.ntmps118
      go_wp2_with fail
      go_ret
      exact ⟨rfl, rfl⟩
    · have hsh : u / 2147483648 = 1 := by omega
      have hwc : IntKind.u64.wrap 79228162514264337589248983040 = 18446744069414584320 := by decide
      have hfin : wrap64 (u + 18446744069414584320) = u - 4294967296 := by unfold wrap64; omega
      rw [if_neg hs]
      go_enter Tryz.func118, Tryz.ntmps118
      go_wp2_with fail
      go_ret
      refine ⟨?_, rfl⟩
      first | rfl | (show Ending.returned (.int .i64 (wrap64 (u + 18446744069414584320))) = _; rw [hfin])
  exact hcut w

set_option maxRecDepth 100000 in
set_option maxHeartbeats 8000000 in
theorem cut34 (a : Int) (w : World) : Calls Tryz.prog 118 #[.int .i64 a, .int .i64 8, .bool false] w fun e w' => e = .returned (.int .i64 (IntKind.u8.wrap a)) ∧ w = w' := by
  have hur := u64_rng a
  have hue : IntKind.u64.wrap a = a % 18446744073709551616 := by simp [IntKind.wrap, IntKind.bits, IntKind.signed]
  obtain ⟨ua, hua⟩ : ∃ x, IntKind.u64.wrap a = x := ⟨_, rfl⟩
  rw [hua] at hur hue
  have hm : bits .and .u64 ua 255 = ua % 256 := and_mask ua 8 (by omega) hur
  obtain ⟨u, hu⟩ : ∃ x, ua % 256 = x := ⟨_, rfl⟩
  have hu2 : 0 ≤ u ∧ u < 256 := by omega
  have hum : u = a % 256 := by omega
  rw [hu] at hm
  have hcut : ∀ W, Calls Tryz.prog 118 #[.int .i64 a, .int .i64 8, .bool false] W fun e w' => e = .returned (.int .i64 (oneF 34 a)) ∧ W = w' := by
    intro W
    rw [show oneF 34 a = IntKind.u8.wrap a from rfl, u8_eq a, ← hum]
    clear hum hu hue
    go_enter Tryz.func118, Tryz.ntmps118
    go_wp2_with fail
    go_ret
    exact ⟨rfl, rfl⟩
  exact hcut w

set_option maxRecDepth 100000 in
set_option maxHeartbeats 8000000 in
theorem cut35 (a : Int) (w : World) : Calls Tryz.prog 118 #[.int .i64 a, .int .i64 16, .bool false] w fun e w' => e = .returned (.int .i64 (IntKind.u16.wrap a)) ∧ w = w' := by
  have hur := u64_rng a
  have hue : IntKind.u64.wrap a = a % 18446744073709551616 := by simp [IntKind.wrap, IntKind.bits, IntKind.signed]
  obtain ⟨ua, hua⟩ : ∃ x, IntKind.u64.wrap a = x := ⟨_, rfl⟩
  rw [hua] at hur hue
  have hm : bits .and .u64 ua 65535 = ua % 65536 := and_mask ua 16 (by omega) hur
  obtain ⟨u, hu⟩ : ∃ x, ua % 65536 = x := ⟨_, rfl⟩
  have hu2 : 0 ≤ u ∧ u < 65536 := by omega
  have hum : u = a % 65536 := by omega
  rw [hu] at hm
  have hcut : ∀ W, Calls Tryz.prog 118 #[.int .i64 a, .int .i64 16, .bool false] W fun e w' => e = .returned (.int .i64 (oneF 35 a)) ∧ W = w' := by
    intro W
    rw [show oneF 35 a = IntKind.u16.wrap a from rfl, u16_eq a, ← hum]
    clear hum hu hue
    go_enter Tryz.func118, Tryz.ntmps118
    go_wp2_with fail
    go_ret
    exact ⟨rfl, rfl⟩
  exact hcut w

set_option maxRecDepth 100000 in
set_option maxHeartbeats 8000000 in
theorem cut36 (a : Int) (w : World) : Calls Tryz.prog 118 #[.int .i64 a, .int .i64 32, .bool false] w fun e w' => e = .returned (.int .i64 (IntKind.u32.wrap a)) ∧ w = w' := by
  have hur := u64_rng a
  have hue : IntKind.u64.wrap a = a % 18446744073709551616 := by simp [IntKind.wrap, IntKind.bits, IntKind.signed]
  obtain ⟨ua, hua⟩ : ∃ x, IntKind.u64.wrap a = x := ⟨_, rfl⟩
  rw [hua] at hur hue
  have hm : bits .and .u64 ua 4294967295 = ua % 4294967296 := and_mask ua 32 (by omega) hur
  obtain ⟨u, hu⟩ : ∃ x, ua % 4294967296 = x := ⟨_, rfl⟩
  have hu2 : 0 ≤ u ∧ u < 4294967296 := by omega
  have hum : u = a % 4294967296 := by omega
  rw [hu] at hm
  have hcut : ∀ W, Calls Tryz.prog 118 #[.int .i64 a, .int .i64 32, .bool false] W fun e w' => e = .returned (.int .i64 (oneF 36 a)) ∧ W = w' := by
    intro W
    rw [show oneF 36 a = IntKind.u32.wrap a from rfl, u32_eq a, ← hum]
    clear hum hu hue
    go_enter Tryz.func118, Tryz.ntmps118
    go_wp2_with fail
    go_ret
    exact ⟨rfl, rfl⟩
  exact hcut w

theorem cut_any (n : Nat) (s : Bool) (k : IntKind) (a : Int) (w : World) (hk : cutK n s = some k) : Calls Tryz.prog 118 #[.int .i64 a, .int .i64 n, .bool s] w fun e w' => e = .returned (.int .i64 (k.wrap a)) ∧ Below w.heap.size w w' := by
  have key : ∀ {e : Ending} {w' : World} {x : Int}, e = .returned (.int .i64 x) ∧ w = w' → e = .returned (.int .i64 x) ∧ Below w.heap.size w w' := by
    rintro e w' x ⟨h, rfl⟩
    exact ⟨h, Below.refl _ _⟩
  unfold cutK at hk
  split at hk <;> first | (cases hk; done) | (injection hk with hk; subst hk)
  · exact (cut31 a w).mono fun _ _ => key
  · exact (cut32 a w).mono fun _ _ => key
  · exact (cut33 a w).mono fun _ _ => key
  · exact (cut34 a w).mono fun _ _ => key
  · exact (cut35 a w).mono fun _ _ => key
  · exact (cut36 a w).mono fun _ _ => key

end Go.Proofs.YtjpgogmnabkgnaaGreat

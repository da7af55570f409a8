/- num.One, gantletref1.Un walked: an op of one. -/
import Derived.Test.YtlpmpjechbkpkaaGreatTnC
namespace Go.Proofs.YtlpmpjechbkpkaaGreat
open Go.RowKit

theorem i8_rng (a : Int) : -128 ≤ IntKind.i8.wrap a ∧ IntKind.i8.wrap a ≤ 127 := by
  simp [IntKind.wrap, IntKind.bits, IntKind.signed]
  (try split) <;> omega
theorem i8_eq (a : Int) : IntKind.i8.wrap a = if a % 256 < 128 then a % 256 else a % 256 - 256 := by
  simp [IntKind.wrap, IntKind.bits, IntKind.signed]
  (try split) <;> (try omega)
theorem i16_rng (a : Int) : -32768 ≤ IntKind.i16.wrap a ∧ IntKind.i16.wrap a ≤ 32767 := by
  simp [IntKind.wrap, IntKind.bits, IntKind.signed]
  (try split) <;> omega
theorem i16_eq (a : Int) : IntKind.i16.wrap a = if a % 65536 < 32768 then a % 65536 else a % 65536 - 65536 := by
  simp [IntKind.wrap, IntKind.bits, IntKind.signed]
  (try split) <;> (try omega)
theorem i32_rng (a : Int) : -2147483648 ≤ IntKind.i32.wrap a ∧ IntKind.i32.wrap a ≤ 2147483647 := by
  simp [IntKind.wrap, IntKind.bits, IntKind.signed]
  (try split) <;> omega
theorem i32_eq (a : Int) : IntKind.i32.wrap a = if a % 4294967296 < 2147483648 then a % 4294967296 else a % 4294967296 - 4294967296 := by
  simp [IntKind.wrap, IntKind.bits, IntKind.signed]
  (try split) <;> (try omega)
theorem u8_rng (a : Int) : 0 ≤ IntKind.u8.wrap a ∧ IntKind.u8.wrap a ≤ 255 := by
  simp [IntKind.wrap, IntKind.bits, IntKind.signed]
  (try split) <;> omega
theorem u8_eq (a : Int) : IntKind.u8.wrap a = a % 256 := by
  simp [IntKind.wrap, IntKind.bits, IntKind.signed]
theorem u16_rng (a : Int) : 0 ≤ IntKind.u16.wrap a ∧ IntKind.u16.wrap a ≤ 65535 := by
  simp [IntKind.wrap, IntKind.bits, IntKind.signed]
  (try split) <;> omega
theorem u16_eq (a : Int) : IntKind.u16.wrap a = a % 65536 := by
  simp [IntKind.wrap, IntKind.bits, IntKind.signed]
theorem u32_rng (a : Int) : 0 ≤ IntKind.u32.wrap a ∧ IntKind.u32.wrap a ≤ 4294967295 := by
  simp [IntKind.wrap, IntKind.bits, IntKind.signed]
  (try split) <;> omega
theorem u32_eq (a : Int) : IntKind.u32.wrap a = a % 4294967296 := by
  simp [IntKind.wrap, IntKind.bits, IntKind.signed]

/-- an op of one -/
def oneF (op a : Int) : Int := if op = 31 then IntKind.i8.wrap a else if op = 32 then IntKind.i16.wrap a else if op = 33 then IntKind.i32.wrap a else if op = 34 then IntKind.u8.wrap a else if op = 35 then IntKind.u16.wrap a else IntKind.u32.wrap a
def kindOf (op : Int) : Int := if op = 31 then 1 else if op = 32 then 3 else if op = 33 then 5 else if op = 34 then 2 else if op = 35 then 4 else 6

set_option maxRecDepth 100000 in
set_option maxHeartbeats 8000000 in
theorem ncut_any (op a : Int) (hop : 31 ≤ op ∧ op ≤ 36) (w : World) : Calls Tryz.prog 114 #[.int .i64 (kindOf op), .int .i64 a] w fun e w' => e = .returned (.int .i64 (oneF op a)) ∧ w = w' := by
  by_cases h31 : op = 31
  · subst h31
    rw [show kindOf 31 = 1 from rfl, show oneF 31 a = IntKind.i8.wrap a from rfl]
    have hr := i8_rng a
    obtain ⟨x, hx⟩ : ∃ x, IntKind.i8.wrap a = x := ⟨_, rfl⟩
    rw [hx] at hr ⊢
    go_enter Tryz.func114, Tryz.ntmps114
    go_wp2_with fail
    go_ret
    exact ⟨rfl, rfl⟩
  by_cases h32 : op = 32
  · subst h32
    rw [show kindOf 32 = 3 from rfl, show oneF 32 a = IntKind.i16.wrap a from rfl]
    have hr := i16_rng a
    obtain ⟨x, hx⟩ : ∃ x, IntKind.i16.wrap a = x := ⟨_, rfl⟩
    rw [hx] at hr ⊢
    go_enter Tryz.func114, Tryz.ntmps114
    go_wp2_with fail
    go_ret
    exact ⟨rfl, rfl⟩
  by_cases h33 : op = 33
  · subst h33
    rw [show kindOf 33 = 5 from rfl, show oneF 33 a = IntKind.i32.wrap a from rfl]
    have hr := i32_rng a
    obtain ⟨x, hx⟩ : ∃ x, IntKind.i32.wrap a = x := ⟨_, rfl⟩
    rw [hx] at hr ⊢
    go_enter Tryz.func114, Tryz.ntmps114
    go_wp2_with fail
    go_ret
    exact ⟨rfl, rfl⟩
  by_cases h34 : op = 34
  · subst h34
    rw [show kindOf 34 = 2 from rfl, show oneF 34 a = IntKind.u8.wrap a from rfl]
    have hr := u8_rng a
    obtain ⟨x, hx⟩ : ∃ x, IntKind.u8.wrap a = x := ⟨_, rfl⟩
    rw [hx] at hr ⊢
    go_enter Tryz.func114, Tryz.ntmps114
    go_wp2_with fail
    go_ret
    exact ⟨rfl, rfl⟩
  by_cases h35 : op = 35
  · subst h35
    rw [show kindOf 35 = 4 from rfl, show oneF 35 a = IntKind.u16.wrap a from rfl]
    have hr := u16_rng a
    obtain ⟨x, hx⟩ : ∃ x, IntKind.u16.wrap a = x := ⟨_, rfl⟩
    rw [hx] at hr ⊢
    go_enter Tryz.func114, Tryz.ntmps114
    go_wp2_with fail
    go_ret
    exact ⟨rfl, rfl⟩
  by_cases h36 : op = 36
  · subst h36
    rw [show kindOf 36 = 6 from rfl, show oneF 36 a = IntKind.u32.wrap a from rfl]
    have hr := u32_rng a
    obtain ⟨x, hx⟩ : ∃ x, IntKind.u32.wrap a = x := ⟨_, rfl⟩
    rw [hx] at hr ⊢
    go_enter Tryz.func114, Tryz.ntmps114
    go_wp2_with fail
    go_ret
    exact ⟨rfl, rfl⟩
  omega

theorem and_mask (u : Int) (k : Nat) (hk : k < 64) (hu : 0 ≤ u ∧ u ≤ 18446744073709551615) : bits .and .u64 u (((2 ^ k - 1 : Nat)) : Int) = u % ((2 ^ k : Nat) : Int) := by
  obtain ⟨n, rfl⟩ : ∃ n : Nat, u = n := ⟨u.toNat, by omega⟩
  have h1 : (2 ^ k : Nat) ≤ 2 ^ 63 := Nat.pow_le_pow_right (by omega) (by omega)
  rw [bits_and_u64_nat _ _ (by omega) (by omega), Nat.and_two_pow_sub_one_eq_mod]
  rfl
theorem or_high (u : Int) (k a : Nat) (hu : 0 ≤ u ∧ u < ((2 ^ k : Nat) : Int)) (hk : 2 ^ k * a < 18446744073709551616) (hk2 : 2 ^ k < 18446744073709551616) : bits .or .u64 u ((2 ^ k * a : Nat) : Int) = u + ((2 ^ k * a : Nat) : Int) := by
  obtain ⟨n, rfl⟩ : ∃ n : Nat, u = n := ⟨u.toNat, by omega⟩
  have hn : n < 2 ^ k := by omega
  rw [bits_or_u64_nat _ _ (by omega) hk, Nat.or_comm, ← Nat.two_pow_add_eq_or_of_lt hn]
  omega

end Go.Proofs.YtlpmpjechbkpkaaGreat

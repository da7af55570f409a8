/- The decimal text of any number: gantletref6.Decimal. -/
import Derived.Test.YthdicdkgfmiepaaDoorTsA
import Derived.Test.YthdicdkgfmiepaaDoorRuS
import Derived.Test.YthdicdkgfmiepaaDoorOrdH
import Derived.Laws.Bits64
namespace Go.Proofs.YthdicdkgfmiepaaDoor
open Go.RowKit

def dg (d : Nat) : UInt8 := UInt8.ofNat (48 + d)
theorem dg_nat (d : Nat) (h : d < 10) : (dg d).toNat = 48 + d := by unfold dg; simp; omega
def digs (n : Nat) : List UInt8 := if n < 10 then [dg n] else digs (n / 10) ++ [dg (n % 10)]
theorem digs_lt {n : Nat} (h : n < 10) : digs n = [dg n] := by unfold digs; rw [if_pos h]
theorem digs_ge {n : Nat} (h : ¬ n < 10) : digs n = digs (n / 10) ++ [dg (n % 10)] := by rw [digs, if_neg h]
def decT (v : Int) : List UInt8 := if v < 0 then 45 :: digs v.natAbs else digs v.natAbs

theorem xor_all (n : Nat) (h : n < 2 ^ 64) : (2 ^ 64 - 1) ^^^ n = 2 ^ 64 - (n + 1) := by
  apply Nat.eq_of_testBit_eq
  intro i
  rw [Nat.testBit_xor, Nat.testBit_two_pow_sub_succ h, Nat.testBit_two_pow_sub_one]
  by_cases hi : i < 64
  · simp [hi]
  · have : n.testBit i = false := Nat.testBit_lt_two_pow (Nat.lt_of_lt_of_le h (Nat.pow_le_pow_right (by omega) (by omega)))
    simp [hi, this]

theorem not64 (x : Int) (h0 : 0 ≤ x) (h1 : x < 18446744073709551616) : bits .xor .u64 (if IntKind.u64.signed = true then -1 else IntKind.u64.max) x = 18446744073709551615 - x := by
  obtain ⟨n, rfl⟩ : ∃ n : Nat, x = n := ⟨x.toNat, by omega⟩
  have e : (if IntKind.u64.signed = true then -1 else IntKind.u64.max) = ((18446744073709551615 : Nat) : Int) := by decide
  rw [e, bits_xor_u64_nat _ _ (by omega) (by omega)]
  have := xor_all n (by omega)
  rw [show (18446744073709551615 : Nat) = 2 ^ 64 - 1 by decide, this]
  omega

set_option maxRecDepth 100000 in
set_option maxHeartbeats 8000000 in
theorem dec_any (v : Int) (hv : -9223372036854775808 ≤ v ∧ v ≤ 9223372036854775807) (w : World) : Calls Tryd.prog 65 #[.int .i64 v] w fun e w' => e = .returned (.string ⟨(decT v).toArray⟩) ∧ Below w.heap.size w w' := by
  obtain ⟨n, hn⟩ : ∃ n, Hid (v.natAbs = n) := ⟨_, Lib.hid rfl⟩
  have hnb : n < 10 ^ 20 := by rw [← hn.out]; omega
  go_enter Tryd.func65, Tryd.ntmps65
  by_cases hneg : v < 0
  · have hcv : IntKind.u64.wrap v = v + 18446744073709551616 := by simp [IntKind.wrap, IntKind.bits, IntKind.signed]; omega
    have hx : IntKind.u64.wrap (bits .xor .u64 (if IntKind.u64.signed = true then -1 else IntKind.u64.max) (v + 18446744073709551616) + 1) = n := by
      rw [not64 _ (by omega) (by omega), ← hn.out]
      simp [IntKind.wrap, IntKind.bits, IntKind.signed]
      omega
    go_upto_region 4 with fail
    go_wp2_with fail
    go_loopw [3, 4] (fun u x wr => ∃ (m : Nat) (t : List UInt8), u = .int .u64 m ∧ x = .string ⟨t.toArray⟩ ∧ Hid (digs n = digs m ++ t) ∧ m < 10 ^ (20 - t.length) ∧ t.length ≤ 19 ∧ Below w.heap.size w wr) (fun u _ _ => (intOf u).toNat)
    case atStart => exact ⟨n, [], rfl, rfl, Lib.hid (by simp), by simpa using hnb, by simp, Below.refl _ _⟩
    case round =>
      obtain ⟨m, t, rfl, rfl, hdg, hmb, htl, hb⟩ := hrel
      obtain ⟨wo, rfl⟩ : ∃ wo : World, wo = wr := ⟨_, rfl⟩
      have hm64 : m < 100000000000000000000 := Nat.lt_of_lt_of_le hmb (Nat.le_trans (Nat.pow_le_pow_right (by omega) (by omega : 20 - t.length ≤ 20)) (by decide))
      obtain ⟨b, hbe⟩ : ∃ x, Hid (dg (m % 10) = x) := ⟨_, Lib.hid rfl⟩
      have hbn : b.toNat = 48 + m % 10 := by rw [← hbe.out]; exact dg_nat _ (by omega)
      have hcv := conv_one wo b wo.heap.size rfl
      rw [hbn, show ((48 + m % 10 : Nat) : Int) = 48 + (m : Int) % 10 by omega] at hcv
      obtain ⟨t2, ht2⟩ : ∃ x, Hid ([b] ++ t = x) := ⟨_, Lib.hid rfl⟩
      have ht2l : t2.length = t.length + 1 := by rw [← ht2.out]; simp
      have hadd := fun W => add_str [b] t t2 ht2.out (by simp; omega) W
      by_cases hq : (m : Int) / 10 = 0
      · have hm10 : m < 10 := by omega
        have hall : Hid (digs n = t2) := Lib.hid (by rw [hdg.out, digs_lt hm10, ← ht2.out, ← hbe.out, Nat.mod_eq_of_lt hm10])
        have hneg1 := fun W => add_str [45] t2 (45 :: t2) rfl (by simp; omega) W
        go_wp2_with fail
        go_ret
        refine ⟨?_, hb.alloc hb.size _⟩
        unfold decT
        rw [if_pos hneg, hn.out, hall.out]
        rfl
      · have hm10 : ¬ m < 10 := by omega
        go_wp2_with fail
        go_roundw
        case rel =>
          refine ⟨m / 10, t2, by go_num, rfl, Lib.hid ?_, ?_, ?_, hb.alloc hb.size _⟩
          · rw [hdg.out, digs_ge hm10, ← ht2.out, ← hbe.out, List.append_assoc]
          · rw [ht2l]
            have hp : 10 ^ (20 - t.length) = 10 * 10 ^ (20 - (t.length + 1)) := by
              rw [show 20 - t.length = (20 - (t.length + 1)) + 1 by omega, Nat.pow_succ, Nat.mul_comm]
            omega
          · rw [ht2l]
            have h19 : t.length ≠ 19 := fun e => by rw [e] at hmb; omega
            omega
        case measure => simp [intOf]; omega
  · obtain ⟨n2, rfl⟩ : ∃ k : Nat, v = k := ⟨v.toNat, by omega⟩
    obtain rfl : n2 = n := by rw [← hn.out]; rfl
    go_upto_region 4 with fail
    go_wp2_with fail
    go_loopw [3, 4] (fun u x wr => ∃ (m : Nat) (t : List UInt8), u = .int .u64 m ∧ x = .string ⟨t.toArray⟩ ∧ Hid (digs n2 = digs m ++ t) ∧ m < 10 ^ (20 - t.length) ∧ t.length ≤ 19 ∧ Below w.heap.size w wr) (fun u _ _ => (intOf u).toNat)
    case atStart => exact ⟨n2, [], rfl, rfl, Lib.hid (by simp), by simpa using hnb, by simp, Below.refl _ _⟩
    case round =>
      obtain ⟨m, t, rfl, rfl, hdg, hmb, htl, hb⟩ := hrel
      obtain ⟨wo, rfl⟩ : ∃ wo : World, wo = wr := ⟨_, rfl⟩
      have hm64 : m < 100000000000000000000 := Nat.lt_of_lt_of_le hmb (Nat.le_trans (Nat.pow_le_pow_right (by omega) (by omega : 20 - t.length ≤ 20)) (by decide))
      obtain ⟨b, hbe⟩ : ∃ x, Hid (dg (m % 10) = x) := ⟨_, Lib.hid rfl⟩
      have hbn : b.toNat = 48 + m % 10 := by rw [← hbe.out]; exact dg_nat _ (by omega)
      have hcv := conv_one wo b wo.heap.size rfl
      rw [hbn, show ((48 + m % 10 : Nat) : Int) = 48 + (m : Int) % 10 by omega] at hcv
      obtain ⟨t2, ht2⟩ : ∃ x, Hid ([b] ++ t = x) := ⟨_, Lib.hid rfl⟩
      have ht2l : t2.length = t.length + 1 := by rw [← ht2.out]; simp
      have hadd := fun W => add_str [b] t t2 ht2.out (by simp; omega) W
      by_cases hq : (m : Int) / 10 = 0
      · have hm10 : m < 10 := by omega
        have hall : Hid (digs n2 = t2) := Lib.hid (by rw [hdg.out, digs_lt hm10, ← ht2.out, ← hbe.out, Nat.mod_eq_of_lt hm10])
        go_wp2_with fail
        go_ret
        refine ⟨?_, hb.alloc hb.size _⟩
        unfold decT
        rw [if_neg (by omega)]
        show _ = Ending.returned (.string ⟨(digs n2).toArray⟩)
        rw [hall.out]
        rfl
      · have hm10 : ¬ m < 10 := by omega
        go_wp2_with fail
        go_roundw
        case rel =>
          refine ⟨m / 10, t2, by go_num, rfl, Lib.hid ?_, ?_, ?_, hb.alloc hb.size _⟩
          · rw [hdg.out, digs_ge hm10, ← ht2.out, ← hbe.out, List.append_assoc]
          · rw [ht2l]
            have hp : 10 ^ (20 - t.length) = 10 * 10 ^ (20 - (t.length + 1)) := by
              rw [show 20 - t.length = (20 - (t.length + 1)) + 1 by omega, Nat.pow_succ, Nat.mul_comm]
            omega
          · rw [ht2l]
            have h19 : t.length ≠ 19 := fun e => by rw [e] at hmb; omega
            omega
        case measure => simp [intOf]; omega

end Go.Proofs.YthdicdkgfmiepaaDoor

/- num's divisions walked. -/
import Derived.Test.YthdicdkgfmiepaaGreatDoorMem
import Derived.Outline
import Derived.BigQuiet
namespace Go.Proofs.YthdicdkgfmiepaaGreatDoor
open Go.RowKit

def I64r (x : Int) : Prop := -9223372036854775808 ≤ x ∧ x ≤ 9223372036854775807
def u64F (x : Int) : Int := IntKind.u64.wrap x
def quoF (a b : Int) : Int := if b = 0 then -1 else if a = -9223372036854775808 ∧ b = -1 then a else a.tdiv b
def remF (a b : Int) : Int := if b = 0 then a else if a = -9223372036854775808 ∧ b = -1 then 0 else a.tmod b
def uquoF (u v : Int) : Int := if v = 0 then -1 else wrap64 (u / v)
def uremF (u v : Int) : Int := if v = 0 then wrap64 u else wrap64 (u % v)

theorem tdiv_rng {a b : Int} (ha : I64r a) (h0 : b ≠ 0) (hm : ¬ (a = -9223372036854775808 ∧ b = -1)) : I64r (a.tdiv b) := by
  unfold I64r at *
  by_cases h1 : b = 1
  · subst h1; rw [Int.tdiv_one]; exact ha
  · by_cases h2 : b = -1
    · subst h2
      rw [Int.tdiv_neg, Int.tdiv_one]
      omega
    · have h : (a.tdiv b).natAbs = a.natAbs / b.natAbs := Int.natAbs_tdiv a b
      have h3 : a.natAbs / b.natAbs ≤ a.natAbs / 2 := Nat.div_le_div_left (by omega) (by omega)
      rw [← h] at h3
      generalize a.tdiv b = x at h3 ⊢
      omega
theorem tmod_rng {a b : Int} (hb : I64r b) (h0 : b ≠ 0) : I64r (a.tmod b) := by
  unfold I64r at *
  have h : (a.tmod b).natAbs = a.natAbs % b.natAbs := Int.natAbs_tmod a b
  have h3 : a.natAbs % b.natAbs < b.natAbs := Nat.mod_lt _ (by omega)
  rw [← h] at h3
  generalize a.tmod b = x at h3 ⊢
  omega

theorem u64_rng (a : Int) : 0 ≤ IntKind.u64.wrap a ∧ IntKind.u64.wrap a ≤ 18446744073709551615 := by
  have h : IntKind.u64.wrap a = a % 18446744073709551616 := by simp [IntKind.wrap, IntKind.bits, IntKind.signed]
  omega

/-- a division's answer -/
def divF (op a b : Int) : Option Int := if op = 15 then some (quoF a b) else if op = 17 then some (remF a b) else if op = 16 then some (uquoF (IntKind.u64.wrap a) (IntKind.u64.wrap b)) else if op = 18 then some (uremF (IntKind.u64.wrap a) (IntKind.u64.wrap b)) else none

end Go.Proofs.YthdicdkgfmiepaaGreatDoor

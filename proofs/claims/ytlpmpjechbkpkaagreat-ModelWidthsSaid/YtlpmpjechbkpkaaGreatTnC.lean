/- gantletref1.Bin walked: an op of two, as num.Two has it. -/
import Derived.Test.YtlpmpjechbkpkaaGreatTnB
namespace Go.Proofs.YtlpmpjechbkpkaaGreat
open Go.RowKit

theorem u64_zero {b : Int} (hb : I64r b) : IntKind.u64.wrap b = 0 ↔ b = 0 := by
  have h : IntKind.u64.wrap b = b % 18446744073709551616 := by simp [IntKind.wrap, IntKind.bits, IntKind.signed]
  unfold I64r at hb
  omega
theorem u64_back {a : Int} (ha : I64r a) : wrap64 (IntKind.u64.wrap a) = a := by
  have h : IntKind.u64.wrap a = a % 18446744073709551616 := by simp [IntKind.wrap, IntKind.bits, IntKind.signed]
  unfold I64r at ha
  rw [h]
  unfold wrap64
  omega

end Go.Proofs.YtlpmpjechbkpkaaGreat

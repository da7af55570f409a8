/- What an op of two or of one makes of int64 is int64. -/
import Derived.Test.YtjpgogmnabkgnaaGreatTnD
namespace Go.Proofs.YtjpgogmnabkgnaaGreat
open Go.RowKit

theorem wrapR (x : Int) : I64r (wrap64 x) := by unfold I64r wrap64; omega
theorem bitsR (op : BinOp) (a b : Int) : I64r (bits op .i64 a b) := by
  unfold bits
  rw [IntWalk.i64_left]
  exact wrapR _
theorem ediv_rng {a : Int} (n : Nat) (ha : I64r a) : I64r (a / 2 ^ n) := by
  unfold I64r at *
  have hp : (0 : Int) < 2 ^ n := Int.pow_pos (by decide)
  by_cases h0 : 0 ≤ a
  · have h1 := Int.ediv_nonneg h0 (Int.le_of_lt hp)
    have h2 := Int.ediv_le_self (2 ^ n) h0
    omega
  · have h1 : a ≤ a / 2 ^ n := by
      rw [Int.le_ediv_iff_mul_le hp]
      have h2 : a * 2 ^ n ≤ a * 1 := Int.mul_le_mul_of_nonpos_left (by omega) (by omega)
      omega
    have h2 : a / 2 ^ n < 0 := Int.ediv_neg_of_neg_of_pos (by omega) hp
    omega

theorem quoR {a b : Int} (ha : I64r a) : I64r (quoF a b) := by
  unfold quoF
  split
  · unfold I64r; omega
  · rename_i h0
    split
    · exact ha
    · rename_i hm
      exact tdiv_rng ha h0 hm
theorem remR {a b : Int} (ha : I64r a) (hb : I64r b) : I64r (remF a b) := by
  unfold remF
  split
  · exact ha
  · rename_i h0
    split
    · unfold I64r; omega
    · exact tmod_rng hb h0
theorem uquoR (u v : Int) : I64r (uquoF u v) := by
  unfold uquoF
  split
  · unfold I64r; omega
  · exact wrapR _
theorem uremR (u v : Int) : I64r (uremF u v) := by
  unfold uremF
  split <;> exact wrapR _

theorem num2_rng {op a b : Int} (ha : I64r a) (hb : I64r b) : I64r (twoF op a b) := by
  unfold twoF
  split
  · rename_i x hx
    unfold divF at hx
    split at hx
    · injection hx with hx; subst hx; exact quoR ha
    · split at hx
      · injection hx with hx; subst hx; exact remR ha hb
      · split at hx
        · injection hx with hx; subst hx; exact uquoR _ _
        · split at hx
          · injection hx with hx; subst hx; exact uremR _ _
          · cases hx
  · repeat' split
    all_goals first | exact wrapR _ | exact bitsR _ _ _ | exact ediv_rng _ ha | (unfold I64r; omega)

theorem num1_rng (op a : Int) : I64r (oneF op a) := by
  unfold oneF I64r
  have h1 := i8_rng a
  have h2 := i16_rng a
  have h3 := i32_rng a
  have h4 := u8_rng a
  have h5 := u16_rng a
  have h6 := u32_rng a
  repeat' split
  all_goals omega

end Go.Proofs.YtjpgogmnabkgnaaGreat

/- A number's decimal text is that number. -/
import Derived.Test.YthdicdkgfmiepaaDoorCzK
namespace Go.Proofs.YthdicdkgfmiepaaDoor
open Go.RowKit

theorem valD_snoc (a : List UInt8) (c : UInt8) : valD (a ++ [c]) = 10 * valD a + (c.toNat - 48) := by
  unfold valD
  rw [List.foldl_append]; rfl
theorem valD_digs (n : Nat) : valD (digs n) = n := by
  induction n using Nat.strongRecOn with
  | ind n ih =>
    by_cases h : n < 10
    · rw [digs_lt h]
      show 10 * 0 + ((dg n).toNat - 48) = n
      rw [dg_nat n h]; omega
    · rw [digs_ge h, valD_snoc, ih (n / 10) (by omega), dg_nat _ (by omega)]
      omega
theorem dg_isDg (d : Nat) (h : d < 10) : isDg (dg d) = true := by
  rw [isDg_iff, dg_nat d h]; omega
theorem digs_all (n : Nat) : (digs n).all isDg = true := by
  induction n using Nat.strongRecOn with
  | ind n ih =>
    by_cases h : n < 10
    · rw [digs_lt h]; simp [dg_isDg n h]
    · rw [digs_ge h, List.all_append, ih (n / 10) (by omega)]
      simp [dg_isDg (n % 10) (by omega)]
theorem digs_pos (n : Nat) : 0 < (digs n).length := by
  by_cases h : n < 10
  · rw [digs_lt h]; simp
  · rw [digs_ge h]; simp
theorem body_digs (n : Nat) : bodyOf (digs n) = digs n := by
  have h := digs_all n
  cases hd : digs n with
  | nil => rfl
  | cons c t =>
    rw [hd] at h
    simp only [List.all_cons, Bool.and_eq_true] at h
    have h1 := (isDg_iff c).1 h.1
    have h2 : c ≠ 45 := fun e => by subst e; simp at h1
    simp [bodyOf, h2]

/-- the number of a number's text is that number -/
theorem num_dec (v : Int) (hv : -9223372036854775808 ≤ v ∧ v ≤ 9223372036854775807) : numT (decT v) = some v := by
  have hl := digs_len 19 v.natAbs (by omega) (by omega)
  have hp := digs_pos v.natAbs
  have ha := digs_all v.natAbs
  have hval := valD_digs v.natAbs
  by_cases h : v < 0
  · have hd : decT v = 45 :: digs v.natAbs := by unfold decT; rw [if_pos h]
    have hb : bodyOf (decT v) = digs v.natAbs := by rw [hd]; simp [bodyOf]
    have hw : wrap64 (-(v.natAbs : Int)) = v := by unfold wrap64; omega
    have hlt : (digs v.natAbs).length < (decT v).length := by rw [hd]; simp
    unfold numT
    rw [hb, ha, hval, if_neg (by rintro (h1 | h1 | h1) <;> first | omega | cases h1), if_pos hlt, hw, if_pos rfl]
  · have hd : decT v = digs v.natAbs := by unfold decT; rw [if_neg h]
    have hb : bodyOf (decT v) = digs v.natAbs := by rw [hd]; exact body_digs _
    have hw : wrap64 (v.natAbs : Int) = v := by unfold wrap64; omega
    have hnl : ¬ (digs v.natAbs).length < (decT v).length := by rw [hd]; omega
    unfold numT
    rw [hb, ha, hval, if_neg (by rintro (h1 | h1 | h1) <;> first | omega | cases h1), if_neg hnl, hw, if_pos rfl]
/-- a text that has a number is that number's -/
theorem num_text {s : List UInt8} {v : Int} (h : numT s = some v) : s = decT v ∧ -9223372036854775808 ≤ v ∧ v ≤ 9223372036854775807 := by
  unfold numT at h
  by_cases h1 : (bodyOf s).length = 0 ∨ 19 < (bodyOf s).length ∨ (bodyOf s).all isDg = false
  · rw [if_pos h1] at h; cases h
  · rw [if_neg h1] at h
    by_cases h2 : decT (wrap64 (if (bodyOf s).length < s.length then -(valD (bodyOf s) : Int) else valD (bodyOf s))) = s
    · rw [if_pos h2] at h
      injection h with h
      rw [h] at h2
      rw [← h]
      exact ⟨by rw [h]; exact h2.symm, wrap64_rng _⟩
    · rw [if_neg h2] at h; cases h

end Go.Proofs.YthdicdkgfmiepaaDoor

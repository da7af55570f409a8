/- Ops: which there are, how many kids; forms: letters and digits. -/
import Derived.Test.YthdicdkgfmiepaaGreatDoorRuN
namespace Go.Proofs.YthdicdkgfmiepaaGreatDoor
open Go.RowKit

theorem ret_int {k : IntKind} {a b : Int} (h : a = b) : Ending.returned (.int k a) = .returned (.int k b) := by rw [h]

def isOp (n : Int) : Bool := decide (1 ≤ n) && decide (n ≤ 36)
def isLeaf (n : Int) : Bool := decide (1 ≤ n) && decide (n ≤ 4)
def isNt (n : Int) : Bool := decide (0 ≤ n) && decide (n ≤ 3)
def arityOf (n : Int) : Int := if isLeaf n = true then 0 else if isBin n = true then 2 else 1
def kidsOf (n : Int) : Int := if isOp n = true then arityOf n else -1
def within (n a b : Int) : Bool := decide (a ≤ n) && decide (n ≤ b)

set_option maxHeartbeats 400000 in
theorem isOp_any (n : Int) (w : World) : Calls Tryz.prog 57 #[.int .i64 n] w fun e w' => e = .returned (.bool (isOp n)) ∧ w = w' := by
  go_enter Tryz.func57, Tryz.ntmps57
  go_wp2
  all_goals
    go_ret
    refine ⟨ret_bool ?_, rfl⟩
    grind [isOp]

set_option maxHeartbeats 400000 in
theorem isLeaf_any (n : Int) (w : World) : Calls Tryz.prog 71 #[.int .i64 n] w fun e w' => e = .returned (.bool (isLeaf n)) ∧ w = w' := by
  go_enter Tryz.func71, Tryz.ntmps71
  go_wp2
  all_goals
    go_ret
    refine ⟨ret_bool ?_, rfl⟩
    grind [isLeaf]

set_option maxHeartbeats 400000 in
theorem isNt_any (n : Int) (w : World) : Calls Tryz.prog 39 #[.int .i64 n] w fun e w' => e = .returned (.bool (isNt n)) ∧ w = w' := by
  go_enter Tryz.func39, Tryz.ntmps39
  go_wp2
  all_goals
    go_ret
    refine ⟨ret_bool ?_, rfl⟩
    grind [isNt]

set_option maxHeartbeats 400000 in
theorem isBinR_any (n : Int) (w : World) : Calls Tryz.prog 63 #[.int .i64 n] w fun e w' => e = .returned (.bool (isBin n)) ∧ w = w' := by
  go_enter Tryz.func63, Tryz.ntmps63
  go_wp2
  all_goals
    go_ret
    refine ⟨ret_bool ?_, rfl⟩
    grind [isBin]

set_option maxHeartbeats 400000 in
theorem between_any (n a b : Int) (w : World) : Calls Tryz.prog 24 #[.int .i64 n, .int .i64 a, .int .i64 b] w fun e w' => e = .returned (.bool (within n a b)) ∧ w = w' := by
  go_enter Tryz.func24, Tryz.ntmps24
  go_wp2
  all_goals
    go_ret
    refine ⟨ret_bool ?_, rfl⟩
    grind [within]

set_option maxHeartbeats 400000 in
theorem num0_any (n b : Int) (w : World) : Calls Tryz.prog 25 #[.int .i64 n, .int .i64 b] w fun e w' => e = .returned (.bool (within n 0 b)) ∧ w = w' := by
  go_enter Tryz.func25, Tryz.ntmps25
  go_wp2
  all_goals
    go_ret
    refine ⟨ret_bool ?_, rfl⟩
    grind [within]

set_option maxHeartbeats 400000 in
theorem arity_any (n : Int) (w : World) : Calls Tryz.prog 58 #[.int .i64 n] w fun e w' => e = .returned (.int .i64 (arityOf n)) ∧ w = w' := by
  cases h1 : isLeaf n <;> cases h2 : isBin n
  all_goals
    have c1 := fun W => isLeaf_any n W
    have c2 := fun W => binary_any n W
    rw [h1] at c1
    rw [h2] at c2
    go_enter Tryz.func58, Tryz.ntmps58
    go_wp2_with (first | (go_at_call 71; refine (c1 _).mono ?_; rintro e w' ⟨rfl, rfl⟩) | (go_at_call 72; refine (c2 _).mono ?_; rintro e w' ⟨rfl, rfl⟩))
    go_ret
    exact ⟨ret_int (by unfold arityOf; simp [h1, h2]), rfl⟩

set_option maxHeartbeats 400000 in
theorem kidsR_any (n : Int) (w : World) : Calls Tryz.prog 46 #[.int .i64 n] w fun e w' => e = .returned (.int .i64 (kidsOf n)) ∧ w = w' := by
  cases h2 : isBin n
  all_goals
    have c2 := fun W => isBinR_any n W
    rw [h2] at c2
    have H2 := Lib.hid h2
    clear h2
    go_enter Tryz.func46, Tryz.ntmps46
    go_wp2_with (go_at_call 63; refine (c2 _).mono ?_; rintro e w' ⟨rfl, rfl⟩)
    all_goals
      go_ret
      refine ⟨ret_int ?_, rfl⟩
      have h2 := H2.out
      clear c2 H2
      grind [kidsOf, arityOf, isOp, isLeaf, isBin]

/-- letters and digits -/
def isLd (b : UInt8) : Bool := (decide (97 ≤ b.toNat) && decide (b.toNat ≤ 122)) || (decide (48 ≤ b.toNat) && decide (b.toNat ≤ 57))
def formB (s : List UInt8) : Bool := s.all isLd && decide (1 ≤ s.length) && decide (s.length ≤ 12)

theorem isLd_iff (b : UInt8) : isLd b = true ↔ (97 ≤ (b.toNat : Int) ∧ (b.toNat : Int) ≤ 122) ∨ (48 ≤ (b.toNat : Int) ∧ (b.toNat : Int) ≤ 57) := by
  unfold isLd; simp; omega

theorem formB_false (s : List UInt8) (k : Nat) (h : k < s.length) (hb : isLd s[k] = false) : formB s = false := by
  unfold formB
  have : s.all isLd = false := by
    rw [List.all_eq_false]
    exact ⟨s[k], List.getElem_mem h, by simp [hb]⟩
  rw [this]; rfl

theorem formB_end (s : List UInt8) (h : ∀ j (hj : j < s.length), isLd s[j] = true) : formB s = (decide (1 ≤ s.length) && decide (s.length ≤ 12)) := by
  unfold formB
  have : s.all isLd = true := by
    rw [List.all_eq_true]
    intro x hx
    obtain ⟨j, hj, rfl⟩ := List.getElem_of_mem hx
    exact h j hj
  rw [this]; rfl

set_option maxHeartbeats 1000000 in
theorem formed_any (s : List UInt8) (hl : s.length ≤ 140737488355327) (w : World) : Calls Tryz.prog 41 #[.string ⟨s.toArray⟩] w fun e w' => e = .returned (.bool (formB s)) ∧ w = w' := by
  obtain ⟨n, hn⟩ : ∃ n, Hid (s.length = n) := ⟨_, Lib.hid rfl⟩
  have hsz : (⟨s.toArray⟩ : ByteArray).size = n := by rw [← hn.out]; simp [ByteArray.size]
  rw [hn.out] at hl
  go_enter Tryz.func41, Tryz.ntmps41
  go_wp2_with fail
  go_loop [6] (fun i => ∃ k : Nat, k ≤ n ∧ i = .int .i64 k ∧ Hid (∀ j (h : j < s.length), j < k → isLd s[j] = true)) (fun i => n - (intOf i).toNat)
  case atStart => exact ⟨0, by omega, rfl, Lib.hid (fun j _ h => absurd h (by omega))⟩
  case round =>
    obtain ⟨k, hk, rfl, hall⟩ := hrel
    by_cases hlt : k < n
    · have hkl : k < s.length := by rw [hn.out]; exact hlt
      obtain ⟨b, hb⟩ : ∃ b, Hid (s[k] = b) := ⟨_, Lib.hid rfl⟩
      have hget : ((⟨s.toArray⟩ : ByteArray)[k]'(by rw [hsz]; exact hlt)) = b := hb.out
      have hld := Lib.hid (isLd_iff b)
      go_wp2_with fail
      all_goals
        first
          | (go_round
             case rel =>
               refine ⟨k + 1, by omega, by go_num, Lib.hid (fun j hj hjk => ?_)⟩
               by_cases e : j = k
               · subst e; rw [hb.out, hld.out]; first | omega | grind
               · exact hall.out j hj (by omega)
             case measure => simp [intOf]; omega)
          | (go_ret
             refine ⟨ret_bool ?_, rfl⟩
             rw [formB_false s k hkl (by rw [hb.out, ← Bool.not_eq_true, hld.out]; first | omega | grind)])
    · obtain rfl : k = n := by omega
      have hfe : Hid (formB s = (decide (1 ≤ k) && decide (k ≤ 12))) := Lib.hid (by rw [formB_end s (fun j hj => hall.out j hj (by rw [← hn.out]; exact hj)), hn.out])
      go_wp2_with fail
      all_goals
        go_ret
        refine ⟨ret_bool ?_, rfl⟩
        rw [hfe.out]
        grind

set_option maxHeartbeats 1000000 in
theorem formR_any (s : List UInt8) (hl : s.length ≤ 140737488355327) (w : World) : Calls Tryz.prog 26 #[.string ⟨s.toArray⟩] w fun e w' => e = .returned (.bool (formB s)) ∧ w = w' := by
  obtain ⟨n, hn⟩ : ∃ n, Hid (s.length = n) := ⟨_, Lib.hid rfl⟩
  have hsz : (⟨s.toArray⟩ : ByteArray).size = n := by rw [← hn.out]; simp [ByteArray.size]
  rw [hn.out] at hl
  go_enter Tryz.func26, Tryz.ntmps26
  go_wp2_with fail
  go_loop [3] (fun i => ∃ k : Nat, k ≤ n ∧ i = .int .i64 k ∧ Hid (∀ j (h : j < s.length), j < k → isLd s[j] = true)) (fun i => n - (intOf i).toNat)
  case atStart => exact ⟨0, by omega, rfl, Lib.hid (fun j _ h => absurd h (by omega))⟩
  case round =>
    obtain ⟨k, hk, rfl, hall⟩ := hrel
    by_cases hlt : k < n
    · have hkl : k < s.length := by rw [hn.out]; exact hlt
      obtain ⟨b, hb⟩ : ∃ b, Hid (s[k] = b) := ⟨_, Lib.hid rfl⟩
      have hget : ((⟨s.toArray⟩ : ByteArray)[k]'(by rw [hsz]; exact hlt)) = b := hb.out
      have hld := Lib.hid (isLd_iff b)
      go_wp2_with fail
      all_goals
        first
          | (go_round
             case rel =>
               refine ⟨k + 1, by omega, by go_num, Lib.hid (fun j hj hjk => ?_)⟩
               by_cases e : j = k
               · subst e; rw [hb.out, hld.out]; first | omega | grind
               · exact hall.out j hj (by omega)
             case measure => simp [intOf]; omega)
          | (go_ret
             refine ⟨ret_bool ?_, rfl⟩
             rw [formB_false s k hkl (by rw [hb.out, ← Bool.not_eq_true, hld.out]; first | omega | grind)])
    · obtain rfl : k = n := by omega
      have hfe : Hid (formB s = (decide (1 ≤ k) && decide (k ≤ 12))) := Lib.hid (by rw [formB_end s (fun j hj => hall.out j hj (by rw [← hn.out]; exact hj)), hn.out])
      go_wp2_with (go_at_call 24; refine (between_any _ _ _ _).mono ?_; rintro e w' ⟨rfl, rfl⟩)
      all_goals
        go_ret
        refine ⟨ret_bool ?_, rfl⟩
        rw [hfe.out]
        unfold within
        grind

end Go.Proofs.YthdicdkgfmiepaaGreatDoor

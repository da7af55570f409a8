/- gantletref6.Number of any text. -/
import Derived.Test.YthdicdkgfmiepaaDoorCzJ
namespace Go.Proofs.YthdicdkgfmiepaaDoor
open Go.RowKit

def bodyOf : List UInt8 → List UInt8
  | [] => []
  | c :: t => if c = 45 then t else c :: t
def isDg (c : UInt8) : Bool := decide (48 ≤ c) && decide (c ≤ 57)
theorem isDg_iff (c : UInt8) : isDg c = true ↔ 48 ≤ c.toNat ∧ c.toNat ≤ 57 := by
  unfold isDg
  rw [Bool.and_eq_true, decide_eq_true_eq, decide_eq_true_eq, UInt8.le_iff_toNat_le, UInt8.le_iff_toNat_le]
  exact Iff.rfl
def valD (d : List UInt8) : Nat := d.foldl (fun u c => 10 * u + (c.toNat - 48)) 0
theorem valD_take (d : List UInt8) (k : Nat) (h : k < d.length) : valD (d.take (k + 1)) = 10 * valD (d.take k) + (d[k].toNat - 48) := by
  unfold valD
  rw [List.take_succ_eq_append_getElem h, List.foldl_append]
  rfl
theorem foldD_lt : ∀ (d : List UInt8) (u : Nat), (∀ c ∈ d, isDg c = true) → d.foldl (fun u c => 10 * u + (c.toNat - 48)) u < (u + 1) * 10 ^ d.length
  | [], u, _ => by simp
  | c :: d, u, h => by
    have hc := (isDg_iff c).1 (h c (by simp))
    have ih := foldD_lt d (10 * u + (c.toNat - 48)) (fun x hx => h x (by simp [hx]))
    simp only [List.foldl_cons, List.length_cons, Nat.pow_succ]
    refine Nat.lt_of_lt_of_le ih ?_
    rw [← Nat.mul_assoc, Nat.mul_right_comm]
    exact Nat.mul_le_mul_right _ (by omega)
theorem valD_lt (d : List UInt8) (h : ∀ c ∈ d, isDg c = true) : valD d < 10 ^ d.length := by
  have := foldD_lt d 0 h
  unfold valD
  simpa using this

/-- the number that a text is; none: it is none -/
def numT (s : List UInt8) : Option Int :=
  if (bodyOf s).length = 0 ∨ 19 < (bodyOf s).length ∨ (bodyOf s).all isDg = false then none
  else if decT (wrap64 (if (bodyOf s).length < s.length then -(valD (bodyOf s) : Int) else valD (bodyOf s))) = s then some (wrap64 (if (bodyOf s).length < s.length then -(valD (bodyOf s) : Int) else valD (bodyOf s))) else none

theorem wrap64_rng (x : Int) : -9223372036854775808 ≤ wrap64 x ∧ wrap64 x ≤ 9223372036854775807 := by unfold wrap64; omega

def NumRet (o : Option Int) (w : World) (e : Ending) (w' : World) : Prop := (∃ x : Int, e = .returned (.tuple #[.int .i64 x, .bool o.isSome]) ∧ ∀ n, o = some n → x = n) ∧ Below w.heap.size w w'

set_option maxRecDepth 100000 in
set_option maxHeartbeats 8000000 in
theorem num_any (s : List UInt8) (hs : s.length ≤ 140737488355328) (w : World) : Calls Tryd.prog 109 #[.string ⟨s.toArray⟩] w (NumRet (numT s) w) := by
  obtain ⟨o, ho0⟩ : ∃ x, Hid (numT s = x) := ⟨_, Lib.hid rfl⟩
  rw [ho0.out]
  match s, hs, ho0 with
  | [], hs, ho0 =>
    obtain rfl : o = none := ho0.out.symm
    go_enter Tryd.func109, Tryd.ntmps109
    go_wp2_with fail
    go_ret2
    exact ⟨⟨_, rfl, fun n h => by cases h⟩, Below.refl _ _⟩
  | c0 :: t0, hs, ho0 =>
    by_cases h45 : c0 = 45
    · subst h45
      have ho : Hid (o = if t0.length = 0 ∨ 19 < t0.length ∨ t0.all isDg = false then none else if decT (wrap64 (-(valD t0 : Int))) = 45 :: t0 then some (wrap64 (-(valD t0 : Int))) else none) := Lib.hid (by
        rw [← ho0.out]
        unfold numT
        rw [show bodyOf (45 :: t0) = t0 by simp [bodyOf], if_pos (show t0.length < (45 :: t0).length by simp)])
      have hdl : (45 :: t0).length = t0.length + 1 := by simp
      obtain ⟨d, hd⟩ : ∃ x, Hid (t0 = x) := ⟨_, Lib.hid rfl⟩
      rw [hd.out] at ho hdl
      obtain ⟨sv, hsv⟩ : ∃ x, Hid (45 :: t0 = x) := ⟨_, Lib.hid rfl⟩
      have hsd : Hid (45 :: d = sv) := Lib.hid (by rw [← hd.out]; exact hsv.out)
      rw [hsd.out] at ho
      obtain ⟨dn, hdn⟩ : ∃ x, Hid (d.length = x) := ⟨_, Lib.hid rfl⟩
      have hdsz : (⟨d.toArray⟩ : ByteArray).size = dn := by rw [← hdn.out]; simp [ByteArray.size]
      have hsl : sv.length = dn + 1 := by rw [← hsd.out, ← hdn.out]; simp
      have hssz : (⟨sv.toArray⟩ : ByteArray).size = dn + 1 := by rw [← hsl]; simp [ByteArray.size]
      have hget0 : ((⟨sv.toArray⟩ : ByteArray)[0]'(by rw [hssz]; omega)) = 45 := by
        have : sv[0]'(by omega) = 45 := by simp [← hsd.out]
        exact this
      have hext : (ByteArray.mk sv.toArray).extract 1 (dn + 1) = ⟨d.toArray⟩ := by
        rw [ext_list, ← hsd.out]
        simp [← hdn.out]
      have hssz2 : ((⟨sv.toArray⟩ : ByteArray).size : Int) = (dn : Int) + 1 := by rw [hssz]; rfl
      rw [hsv.out] at hs ⊢
      rw [hsl] at hs
      clear ho0 hdl
      go_enter Tryd.func109, Tryd.ntmps109
      go_upto_region 5 with fail
      try rw [hext]
      by_cases hd0 : d.length = 0
      · obtain rfl : o = none := by rw [ho.out, if_pos (.inl hd0)]
        have hdn0 : dn = 0 := by rw [← hdn.out]; exact hd0
        subst hdn0
        go_wp2_with fail
        go_ret2
        exact ⟨⟨_, rfl, fun n h => by cases h⟩, Below.refl _ _⟩
      by_cases hd19 : 19 < d.length
      · obtain rfl : o = none := by rw [ho.out, if_pos (.inr (.inl hd19))]
        have hdn19 : 19 < dn := by rw [← hdn.out]; exact hd19
        have hdd : decide ((19 : Int) < dn) = true := by simp; omega
        have hdn0 : ¬ dn = 0 := by omega
        have hdne : ((dn : Int) == 0) = false := by simp; omega
        go_wp2_with fail
        go_ret2
        exact ⟨⟨_, rfl, fun n h => by cases h⟩, Below.refl _ _⟩
      have hdn0 : ¬ dn = 0 := by rw [← hdn.out]; exact hd0
      have hdn19 : ¬ 19 < dn := by rw [← hdn.out]; exact hd19
      have hdd : decide ((19 : Int) < dn) = false := by simp; omega
      have hdne : ((dn : Int) == 0) = false := by simp; omega
      go_wp2_with fail
      go_loopw [4, 6] (fun u i wr => ∃ k : Nat, k ≤ dn ∧ i = .int .i64 k ∧ u = .int .u64 (valD (d.take k)) ∧ w = wr ∧ Hid (∀ j (h : j < d.length), j < k → isDg d[j] = true)) (fun _ i _ => dn - (intOf i).toNat)
      case atStart => exact ⟨0, by omega, rfl, by simp [valD], rfl, Lib.hid (by omega)⟩
      case round =>
        obtain ⟨k, hk, rfl, rfl, rfl, hall⟩ := hrel
        have hvb := valD_lt (d.take k) (fun c hc => by
          obtain ⟨j, hj, rfl⟩ := List.getElem_of_mem hc
          rw [List.getElem_take]
          rw [List.length_take] at hj
          exact hall.out j (by omega) (by omega))
        rw [List.length_take, hdn.out, Nat.min_eq_left hk] at hvb
        by_cases hlt : k < dn
        · have hkl : k < d.length := by rw [hdn.out]; exact hlt
          have hstep := valD_take d k hkl
          obtain ⟨c, hc⟩ : ∃ x, Hid (d[k] = x) := ⟨_, Lib.hid rfl⟩
          have hget : ((⟨d.toArray⟩ : ByteArray)[k]'(by rw [hdsz]; exact hlt)) = c := hc.out
          rw [hc.out] at hstep
          obtain ⟨m, hm⟩ : ∃ x, Hid (valD (d.take k) = x) := ⟨_, Lib.hid rfl⟩
          rw [hm.out] at hvb hstep ⊢
          have hmb : m < 1000000000000000000 := Nat.lt_of_lt_of_le hvb (Nat.le_trans (Nat.pow_le_pow_right (by omega) (by omega : k ≤ 18)) (by decide))
          have hcl := c.toNat_lt
          by_cases hdg : isDg c = true
          · have hd1 := (isDg_iff c).1 hdg
            have hc48 : ¬ (c.toNat : Int) < 48 := by omega
            have hc57 : ¬ (57 : Int) < c.toNat := by omega
            go_wp2_with fail
            go_roundw
            case rel => exact ⟨k + 1, by omega, by go_num, by rw [hstep]; congr 1; omega, by first | trivial | rfl, Lib.hid (fun j hj hjk => by
              by_cases e : j = k
              · subst e; rw [hc.out]; exact hdg
              · exact hall.out j hj (by omega))⟩
            case measure => simp [intOf]; omega
          · obtain rfl : o = none := by
              have hf : d.all isDg = false := by
                rw [List.all_eq_false]
                exact ⟨d[k], List.getElem_mem hkl, by rw [hc.out]; exact hdg⟩
              rw [ho.out, if_pos (.inr (.inr hf))]
            rw [isDg_iff] at hdg
            by_cases hc48 : (c.toNat : Int) < 48
            · go_wp2_with fail
              go_ret2
              exact ⟨⟨_, rfl, fun n h => by cases h⟩, Below.refl _ _⟩
            · have hc57 : (57 : Int) < c.toNat := by omega
              go_wp2_with fail
              go_ret2
              exact ⟨⟨_, rfl, fun n h => by cases h⟩, Below.refl _ _⟩
        · have hkn : k = dn := by omega
          have htk : d.take k = d := List.take_of_length_le (by rw [hdn.out]; omega)
          rw [htk] at hvb ⊢
          have halld : d.all isDg = true := List.all_eq_true.2 (fun c hc => by
            obtain ⟨j, hj, rfl⟩ := List.getElem_of_mem hc
            exact hall.out j hj (by rw [hkn, ← hdn.out]; exact hj))
          have ho2 := ho.out
          rw [if_neg (by rw [halld]; intro h; rcases h with h | h | h; exact hd0 h; exact hd19 h; cases h)] at ho2
          obtain ⟨m, hm⟩ : ∃ x, Hid (valD d = x) := ⟨_, Lib.hid rfl⟩
          rw [hm.out] at hvb ho2 ⊢
          have hmb : m < 10000000000000000000 := Nat.lt_of_lt_of_le hvb (Nat.le_trans (Nat.pow_le_pow_right (by omega) (by omega : k ≤ 19)) (by decide))
          have hdc := dec_any (wrap64 (-(m : Int))) (wrap64_rng _) w
          obtain ⟨t, ht⟩ : ∃ x, Hid (decT (wrap64 (-(m : Int))) = x) := ⟨_, Lib.hid rfl⟩
          rw [ht.out] at hdc ho2
          obtain ⟨nn, hw64⟩ : ∃ x, wrap64 (-(m : Int)) = x := ⟨_, rfl⟩
          obtain ⟨xx, hxx⟩ : ∃ x : Int, (18446744073709551616 - (m : Int)) % 18446744073709551616 = x := ⟨_, rfl⟩
          have hx : IntKind.u64.wrap (bits .xor .u64 (if IntKind.u64.signed = true then -1 else IntKind.u64.max) (m : Int) + 1) = xx := by
            rw [not64 _ (by omega) (by omega), ← hxx]
            simp [IntKind.wrap, IntKind.bits, IntKind.signed]
            omega
          have hwi : IntKind.i64.wrap xx = nn := by
            rw [IntWalk.i64_left, ← hw64, ← hxx]
            unfold wrap64
            omega
          rw [hw64] at hdc ho2
          have HO2 := Lib.hid ho2
          clear ho2
          go_wp2_with fail
          refine hdc.mono ?_
          rintro e w' ⟨rfl, hbw⟩
          by_cases htd : t = sv
          · have ho2 := HO2.out
            rw [if_pos htd] at ho2
            subst ho2 htd
            go_wp2_with fail
            go_ret2
            exact ⟨⟨_, rfl, fun n h => by injection h⟩, hbw⟩
          · have ho2 := HO2.out
            rw [if_neg htd] at ho2
            subst ho2
            have htd' : (t == sv) = false := by simpa using htd
            go_wp2_with fail
            go_ret2
            exact ⟨⟨_, rfl, fun n h => by cases h⟩, hbw⟩
    · have hb : bodyOf (c0 :: t0) = c0 :: t0 := by simp [bodyOf, h45]
      obtain ⟨d, hd⟩ : ∃ x, Hid (c0 :: t0 = x) := ⟨_, Lib.hid rfl⟩
      have ho : Hid (o = if d.length = 0 ∨ 19 < d.length ∨ d.all isDg = false then none else if decT (wrap64 (valD d : Int)) = d then some (wrap64 (valD d : Int)) else none) := Lib.hid (by
        rw [← ho0.out]
        unfold numT
        rw [hb, if_neg (Nat.lt_irrefl _), hd.out])
      have hdpos : 0 < d.length := by rw [← hd.out]; simp
      have hc45 : ¬ ((c0.toNat : Int) = 45) := fun e => h45 (UInt8.toNat_inj.1 (by simpa using (by omega : c0.toNat = 45)))
      obtain ⟨dn, hdn⟩ : ∃ x, Hid (d.length = x) := ⟨_, Lib.hid rfl⟩
      have hdsz : (⟨d.toArray⟩ : ByteArray).size = dn := by rw [← hdn.out]; simp [ByteArray.size]
      have hget0 : ((⟨d.toArray⟩ : ByteArray)[0]'(by rw [hdsz, ← hdn.out]; exact hdpos)) = c0 := by
        have : d[0] = c0 := by simp [← hd.out]
        exact this
      have hdnpos : 0 < dn := by rw [← hdn.out]; exact hdpos
      rw [hd.out] at hs ⊢
      clear ho0
      go_enter Tryd.func109, Tryd.ntmps109
      go_upto_region 5 with fail
      by_cases hd0 : d.length = 0
      · obtain rfl : o = none := by rw [ho.out, if_pos (.inl hd0)]
        have hdn0 : dn = 0 := by rw [← hdn.out]; exact hd0
        subst hdn0
        go_wp2_with fail
        go_ret2
        exact ⟨⟨_, rfl, fun n h => by cases h⟩, Below.refl _ _⟩
      by_cases hd19 : 19 < d.length
      · obtain rfl : o = none := by rw [ho.out, if_pos (.inr (.inl hd19))]
        have hdn19 : 19 < dn := by rw [← hdn.out]; exact hd19
        have hdd : decide ((19 : Int) < dn) = true := by simp; omega
        have hdn0 : ¬ dn = 0 := by omega
        have hdne : ((dn : Int) == 0) = false := by simp; omega
        go_wp2_with fail
        go_ret2
        exact ⟨⟨_, rfl, fun n h => by cases h⟩, Below.refl _ _⟩
      have hdn0 : ¬ dn = 0 := by rw [← hdn.out]; exact hd0
      have hdn19 : ¬ 19 < dn := by rw [← hdn.out]; exact hd19
      have hdd : decide ((19 : Int) < dn) = false := by simp; omega
      have hdne : ((dn : Int) == 0) = false := by simp; omega
      go_wp2_with fail
      go_loopw [4, 6] (fun u i wr => ∃ k : Nat, k ≤ dn ∧ i = .int .i64 k ∧ u = .int .u64 (valD (d.take k)) ∧ w = wr ∧ Hid (∀ j (h : j < d.length), j < k → isDg d[j] = true)) (fun _ i _ => dn - (intOf i).toNat)
      case atStart => exact ⟨0, by omega, rfl, by simp [valD], rfl, Lib.hid (by omega)⟩
      case round =>
        obtain ⟨k, hk, rfl, rfl, rfl, hall⟩ := hrel
        have hvb := valD_lt (d.take k) (fun c hc => by
          obtain ⟨j, hj, rfl⟩ := List.getElem_of_mem hc
          rw [List.getElem_take]
          rw [List.length_take] at hj
          exact hall.out j (by omega) (by omega))
        rw [List.length_take, hdn.out, Nat.min_eq_left hk] at hvb
        by_cases hlt : k < dn
        · have hkl : k < d.length := by rw [hdn.out]; exact hlt
          have hstep := valD_take d k hkl
          obtain ⟨c, hc⟩ : ∃ x, Hid (d[k] = x) := ⟨_, Lib.hid rfl⟩
          have hget : ((⟨d.toArray⟩ : ByteArray)[k]'(by rw [hdsz]; exact hlt)) = c := hc.out
          rw [hc.out] at hstep
          obtain ⟨m, hm⟩ : ∃ x, Hid (valD (d.take k) = x) := ⟨_, Lib.hid rfl⟩
          rw [hm.out] at hvb hstep ⊢
          have hmb : m < 1000000000000000000 := Nat.lt_of_lt_of_le hvb (Nat.le_trans (Nat.pow_le_pow_right (by omega) (by omega : k ≤ 18)) (by decide))
          have hcl := c.toNat_lt
          by_cases hdg : isDg c = true
          · have hd1 := (isDg_iff c).1 hdg
            have hc48 : ¬ (c.toNat : Int) < 48 := by omega
            have hc57 : ¬ (57 : Int) < c.toNat := by omega
            go_wp2_with fail
            go_roundw
            case rel => exact ⟨k + 1, by omega, by go_num, by rw [hstep]; congr 1; omega, by first | trivial | rfl, Lib.hid (fun j hj hjk => by
              by_cases e : j = k
              · subst e; rw [hc.out]; exact hdg
              · exact hall.out j hj (by omega))⟩
            case measure => simp [intOf]; omega
          · obtain rfl : o = none := by
              have hf : d.all isDg = false := by
                rw [List.all_eq_false]
                exact ⟨d[k], List.getElem_mem hkl, by rw [hc.out]; exact hdg⟩
              rw [ho.out, if_pos (.inr (.inr hf))]
            rw [isDg_iff] at hdg
            by_cases hc48 : (c.toNat : Int) < 48
            · go_wp2_with fail
              go_ret2
              exact ⟨⟨_, rfl, fun n h => by cases h⟩, Below.refl _ _⟩
            · have hc57 : (57 : Int) < c.toNat := by omega
              go_wp2_with fail
              go_ret2
              exact ⟨⟨_, rfl, fun n h => by cases h⟩, Below.refl _ _⟩
        · have hkn : k = dn := by omega
          have htk : d.take k = d := List.take_of_length_le (by rw [hdn.out]; omega)
          rw [htk] at hvb ⊢
          have halld : d.all isDg = true := List.all_eq_true.2 (fun c hc => by
            obtain ⟨j, hj, rfl⟩ := List.getElem_of_mem hc
            exact hall.out j hj (by rw [hkn, ← hdn.out]; exact hj))
          have ho2 := ho.out
          rw [if_neg (by rw [halld]; intro h; rcases h with h | h | h; exact hd0 h; exact hd19 h; cases h)] at ho2
          obtain ⟨m, hm⟩ : ∃ x, Hid (valD d = x) := ⟨_, Lib.hid rfl⟩
          rw [hm.out] at hvb ho2 ⊢
          have hmb : m < 10000000000000000000 := Nat.lt_of_lt_of_le hvb (Nat.le_trans (Nat.pow_le_pow_right (by omega) (by omega : k ≤ 19)) (by decide))
          have hdc := dec_any (wrap64 (m : Int)) (wrap64_rng _) w
          obtain ⟨t, ht⟩ : ∃ x, Hid (decT (wrap64 (m : Int)) = x) := ⟨_, Lib.hid rfl⟩
          rw [ht.out] at hdc ho2
          obtain ⟨nn, hw64⟩ : ∃ x, wrap64 (m : Int) = x := ⟨_, rfl⟩
          have hwi : IntKind.i64.wrap (m : Int) = nn := (IntWalk.i64_left _).trans hw64
          rw [hw64] at hdc ho2
          have HO2 := Lib.hid ho2
          clear ho2
          go_wp2_with fail
          refine hdc.mono ?_
          rintro e w' ⟨rfl, hbw⟩
          by_cases htd : t = d
          · have ho2 := HO2.out
            rw [if_pos htd] at ho2
            subst ho2 htd
            go_wp2_with fail
            go_ret2
            exact ⟨⟨_, rfl, fun n h => by injection h⟩, hbw⟩
          · have ho2 := HO2.out
            rw [if_neg htd] at ho2
            subst ho2
            have htd' : (t == d) = false := by simpa using htd
            go_wp2_with fail
            go_ret2
            exact ⟨⟨_, rfl, fun n h => by cases h⟩, hbw⟩
theorem digs_len : ∀ (k n : Nat), 0 < k → n < 10 ^ k → (digs n).length ≤ k
  | 0, _, h, _ => by omega
  | k + 1, n, _, hn => by
    by_cases h : n < 10
    · rw [digs_lt h]; simp
    · rw [digs_ge h, List.length_append]
      have hk : 0 < k := by
        rcases Nat.eq_zero_or_pos k with rfl | hk
        · simp at hn; omega
        · exact hk
      have := digs_len k (n / 10) hk (by rw [Nat.pow_succ] at hn; omega)
      simp
      omega
theorem decT_nat (c : Nat) : decT (c : Int) = digs c := by unfold decT; rw [if_neg (by omega)]; rfl

end Go.Proofs.YthdicdkgfmiepaaDoor

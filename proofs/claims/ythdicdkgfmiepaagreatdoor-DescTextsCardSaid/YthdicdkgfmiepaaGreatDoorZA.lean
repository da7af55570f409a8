/- What stays while one block is written: all but it. Texts: two laid together, a byte made a text, a part of one. Which op a word is: gantletref6.Op. The decimal text of any number: gantletref6.Decimal. gantletref6.Number of any text. A number's decimal text is that number. Plain: what strconv.ParseInt makes of decimal texts; the place of a byte; a text ahead. The library's tables and errors, kept; an op of a word by the program; a text ahead. -/
import Derived.Test.YthdicdkgfmiepaaGreatDoorRuQ
import Derived.Laws.Tables
import Derived.Test.YthdicdkgfmiepaaGreatDoorRuK
import Derived.Laws.IdiomStrings
import Derived.Laws.Concat
import Derived.OwnWalk
import Derived.Test.YthdicdkgfmiepaaGreatDoorRuR
import Derived.Test.YthdicdkgfmiepaaGreatDoorRuS
import Derived.Test.YthdicdkgfmiepaaGreatDoorOrdH
import Derived.Laws.Bits64
import Derived.Test.YthdicdkgfmiepaaGreatDoorTnA
import Derived.Lib.ParseIntB
import Derived.Lib.IndexLaws
import Derived.Lib.ParseIntBTie
import Derived.Lib.AppendIntMem
namespace Go.Proofs.YthdicdkgfmiepaaGreatDoor

/- What stays while one block is written: all but it. -/
section
open Go.RowKit

theorem Own.far {w w' : World} {B : Nat} {ok : Nat → Prop} {e : TypeId} {z : Nat} {v : Value} {ds : List D} (h : Own w B ok e z v ds) (hok : ∀ g, ok g → B ≤ g) (hk : ∀ g, B ≤ g → g < w.heap.size → w'.heap[g]? = w.heap[g]?) : Own w' B ok e z v ds := by
  obtain ⟨xs, h1, h2⟩ := h
  refine ⟨xs, ⟨h1.1, ?_⟩, Cells.keep (fun g hg hl => hg) (fun g hg hl => hk g (hok g hg.1) hl) h2⟩
  rcases h1.2 with h3 | ⟨g, cap, cur, hvv, hbb, hh, hr⟩
  · exact .inl h3
  · exact .inr ⟨g, cap, cur, hvv, hbb, (hk g hbb (lt_of_block hh)).trans hh, hr⟩

/-- all that was there is as it was, but for block gm -/
structure KeepM (gm : Nat) (w w' : World) : Prop where
  os : w'.os = w.os
  tape : w'.tape = w.tape
  output : w'.output = w.output
  size : w.heap.size ≤ w'.heap.size
  block : ∀ g, g ≠ gm → g < w.heap.size → w'.heap[g]? = w.heap[g]?

section
variable {gm : Nat} {w w' w2 : World}
theorem KeepM.refl (gm : Nat) (w : World) : KeepM gm w w := ⟨rfl, rfl, rfl, Nat.le_refl _, fun _ _ _ => rfl⟩
theorem KeepM.trans (h : KeepM gm w w') (k : KeepM gm w' w2) : KeepM gm w w2 :=
  ⟨k.os.trans h.os, k.tape.trans h.tape, k.output.trans h.output, Nat.le_trans h.size k.size, fun g hg hl => (k.block g hg (Nat.lt_of_lt_of_le hl h.size)).trans (h.block g hg hl)⟩
theorem KeepM.of (h : Below w.heap.size w w') : KeepM gm w w' := ⟨h.os, h.tape, h.output, h.size, fun g _ hl => h.block g hl⟩
theorem KeepM.alloc (h : KeepM gm w w') (o : Obj) : KeepM gm w (w'.alloc o) := h.trans (KeepM.of (below_alloc _ _))
theorem KeepM.drew (h : KeepM gm w w') : KeepM gm w w'.drew := ⟨h.os, h.tape, h.output, h.size, h.block⟩
theorem KeepM.drewN (h : KeepM gm w w') (n : Nat) : KeepM gm w (w'.drewN n) := ⟨h.os, h.tape, h.output, h.size, h.block⟩
theorem KeepM.setCell (h : KeepM gm w w') {p : Addr} (hp : w.heap.size ≤ p.block) (u : Value) : KeepM gm w (w'.setCell p u) :=
  ⟨h.os, h.tape, h.output, by simp [World.setCell]; exact h.size, fun g hg hl => (heap_setCell_other _ _ _ _ (by omega)).trans (h.block g hg hl)⟩
theorem KeepM.setRow (h : KeepM gm w w') {g : Nat} (hp : w.heap.size ≤ g) (cs : Array Value) : KeepM gm w (w'.setRow g cs) :=
  ⟨h.os, h.tape, h.output, by simp; exact h.size, fun k hk hl => (setRow_other w' g k cs (by omega)).trans (h.block k hk hl)⟩
theorem KeepM.below (h : KeepM gm w w') (hm : gm ≤ w.heap.size) : Below gm w w' := ⟨h.os, h.tape, h.output, h.size, fun g hg => h.block g (by omega) (by omega)⟩
theorem BlkIs.keepM {g : Nat} {t : TypeId} {cs : Array Value} (h : BlkIs w g t cs) (hk : KeepM gm w w') (hg : g ≠ gm) : BlkIs w' g t cs := (hk.block g hg h.lt).trans h
theorem Rep.keepM {ok : Nat → Prop} {d : D} {cs : List Value} (h : Rep w ok d cs) (hk : KeepM gm w w') (hok : ∀ g, ok g → g ≠ gm) : Rep w' ok d cs := Rep.keep (fun _ h _ => h) (fun g hg hl => hk.block g (hok g hg) hl) d cs h
theorem cell_keepM {p : Addr} {v : Value} (h : w.cell? p = some v) (hk : KeepM gm w w') (hp : p.block ≠ gm) : w'.cell? p = some v := by
  have hl := World.block_lt_of_cell? _ _ h
  rw [← h]
  exact World.cell?_of_block (w := w) (hk.block _ hp hl)
theorem Own.keepM {B : Nat} {ok : Nat → Prop} {e : TypeId} {z : Nat} {v : Value} {ds : List D} (h : Own w B ok e z v ds) (hk : KeepM gm w w') (hB : gm < B) (hok : ∀ g, ok g → B ≤ g) : Own w' B ok e z v ds :=
  Own.far h hok fun g hg hl => hk.block g (by omega) hl
end

theorem KeepM.ownRow {gm : Nat} {w w' : World} (h : KeepM gm w w') (cs : Array Value) : KeepM gm w (w'.setRow gm cs) :=
  ⟨h.os, h.tape, h.output, by simp; exact h.size, fun k hk hl => (setRow_other w' gm k cs hk).trans (h.block k hk hl)⟩
theorem KeepM.own {gm : Nat} {w w' : World} (h : KeepM gm w w') (i : Nat) (u : Value) : KeepM gm w (w'.setCell ⟨gm, i, none⟩ u) :=
  ⟨h.os, h.tape, h.output, by simp [World.setCell]; exact h.size, fun k hk hl => (heap_setCell_other _ _ _ _ (by simpa using hk)).trans (h.block k hk hl)⟩
theorem BlkIs.fresh_at {w : World} {g : Nat} {cs : Array Value} {t : TypeId} (h : g = w.heap.size) : BlkIs (w.alloc (.cells cs t)) g t cs := by subst h; exact BlkIs.fresh _ _ _

end

/- Texts: two laid together, a byte made a text, a part of one. -/
section
open Go.RowKit

theorem conv_one (w : World) (b : UInt8) (g : Nat) (hg : g = w.heap.size) : Sem.run Tryz.prog (convert 50 9 (.slice (some ⟨g, 0, none⟩) 1 1)) (w.alloc (.cells #[.int .u8 b.toNat] 5)) = Result.ok (Value.string ⟨#[b]⟩) (w.alloc (.cells #[.int .u8 b.toNat] 5)) := by
  subst hg
  refine run_convert_bytes_back _ 50 9 5 ⟨w.heap.size, 0, none⟩ 1 [b] Tryz.underlying50 Tryz.underlying5 Tryz.underlying9 (fun j hj => ?_)
  obtain rfl : j = 0 := by simpa using hj
  exact (BlkIs.fresh w 5 #[.int .u8 b.toNat]).cell 0

theorem app_list (a b : List UInt8) : ByteArray.mk a.toArray ++ ByteArray.mk b.toArray = ⟨(a ++ b).toArray⟩ := by
  apply ByteArray.ext
  simp [ByteArray.data_append]

theorem add_str (a b c : List UInt8) (hc : a ++ b = c) (h : a.length + b.length ≤ 1000000000) (W : World) : Sem.run Tryz.prog (Op.stringOp .add ⟨a.toArray⟩ ⟨b.toArray⟩) W = Result.ok (Value.string ⟨c.toArray⟩) W := by
  rw [← hc, ← app_list]
  exact run_string_add_sum W _ _ (by simp [ByteArray.size]; omega)

theorem ext_list (s : List UInt8) (a b : Nat) : (ByteArray.mk s.toArray).extract a b = ⟨((s.drop a).take (b - a)).toArray⟩ := by
  apply ByteArray.ext
  simp [ByteArray.data_extract]

end

/- Which op a word is: gantletref6.Op. -/
section
open Go.RowKit

def idxT (l : List (List UInt8)) (s : List UInt8) : Option Nat := l.findIdx? (· == s)

theorem idx_some {l : List (List UInt8)} {s : List UInt8} {k : Nat} (h : k < l.length) (hs : l[k] = s) (hn : ∀ j (hj : j < l.length), j < k → l[j] ≠ s) : idxT l s = some k := by
  unfold idxT
  rw [List.findIdx?_eq_some_iff_getElem]
  exact ⟨h, by simpa using hs, fun j hj => by simpa using hn j (by omega) hj⟩

theorem idx_none {l : List (List UInt8)} {s : List UInt8} (hn : ∀ j (hj : j < l.length), l[j] ≠ s) : idxT l s = none := by
  unfold idxT
  rw [List.findIdx?_eq_none_iff]
  intro x hx
  obtain ⟨j, hj, rfl⟩ := List.getElem_of_mem hx
  simpa using hn j hj

/-- a word's op; 0: none -/
def opT (s : List UInt8) : Int := match idxT opWords s with | some k => (k + 1 : Nat) | none => 0

set_option maxHeartbeats 2000000 in
theorem opW_any (s : List UInt8) (w : World) : Calls Tryz.prog 54 #[.string ⟨s.toArray⟩] w fun e w' => e = .returned (.int .i64 (opT s)) ∧ Below w.heap.size w w' := by
  go_enter Tryz.func54, Tryz.ntmps54
  go_wp2_with fail
  go_loopw [3] (fun i wr => ∃ k : Nat, 1 ≤ k ∧ k ≤ 37 ∧ i = .int .i64 k ∧ Below w.heap.size w wr ∧ Hid (∀ j (hj : j < opWords.length), j + 1 < k → opWords[j] ≠ s)) (fun i _ => 37 - (intOf i).toNat)
  case atStart => exact ⟨1, by omega, by omega, rfl, Below.refl _ _, Lib.hid (by omega)⟩
  case round =>
    obtain ⟨k, hk1, hk, rfl, hb, hno⟩ := hrel
    obtain ⟨wo, rfl⟩ : ∃ wo : World, wo = wr := ⟨_, rfl⟩
    by_cases hlt : k ≤ 36
    · have hkl : k - 1 < opWords.length := by show k - 1 < 36; omega
      have hW := fun W => refWord_any k hk1 hlt W
      have hyes := fun h => Lib.hid (idx_some hkl h (fun j hj hjk => hno.out j hj (by omega)))
      have hgd : opWords.getD (k - 1) [] = opWords[k - 1] := by rw [List.getD_eq_getElem?_getD, List.getElem?_eq_getElem hkl]; rfl
      obtain ⟨x, hx⟩ : ∃ x, Hid (opWords[k - 1] = x) := ⟨_, Lib.hid rfl⟩
      rw [hgd, hx.out] at hW
      rw [hx.out] at hyes
      go_wp2_with fail
      refine (hW _).mono ?_
      rintro e w1 ⟨rfl, hw1⟩
      have hb1 : Below w.heap.size w w1 := by rw [← hw1]; exact hb.alloc hb.size _
      clear hw1 hW
      by_cases hxs : x = s
      · subst hxs
        have hres := hyes rfl
        clear hyes
        go_wp2_with fail
        go_ret
        refine ⟨?_, hb1⟩
        unfold opT
        rw [hres.out]
        show Ending.returned (Value.int .i64 k) = .returned (.int .i64 ((k - 1 + 1 : Nat) : Int))
        rw [Nat.sub_add_cancel hk1]
      · have hne : (x == s) = false := by simpa using hxs
        clear hyes
        go_wp2_with fail
        go_roundw
        case rel => exact ⟨k + 1, by omega, by omega, by go_num, hb1, Lib.hid (fun j hj hjk => by
          by_cases e : j = k - 1
          · subst e; rw [hx.out]; exact hxs
          · exact hno.out j hj (by omega))⟩
        case measure => simp [intOf]; omega
    · have hres := Lib.hid (idx_none (s := s) (fun j hj => hno.out j hj (by have : j < 36 := hj; omega)))
      go_wp2_with fail
      go_ret
      exact ⟨by unfold opT; rw [hres.out]; rfl, hb⟩

theorem opT_in (s : List UInt8) : 0 ≤ opT s ∧ opT s ≤ 36 := by
  unfold opT
  cases h : idxT opWords s with
  | none => simp
  | some k =>
    unfold idxT at h
    have := (List.findIdx?_eq_some_iff_getElem.1 h).1
    have h2 : opWords.length = 36 := rfl
    simp only
    omega

theorem arity_le2 (n : Int) : (arityOf n).toNat ≤ 2 := by unfold arityOf; split <;> (try split) <;> omega

theorem kids_arity2 (n : Int) (h1 : 1 ≤ n) (h2 : n ≤ 36) : kidsOf n = ((arityOf n).toNat : Nat) := by
  have h3 : 0 ≤ arityOf n := by unfold arityOf; split <;> (try split) <;> omega
  unfold kidsOf
  rw [if_pos (by unfold isOp; simp; omega), Int.toNat_of_nonneg h3]

end

/- The decimal text of any number: gantletref6.Decimal. -/
section
open Go.RowKit

def dg (d : Nat) : UInt8 := UInt8.ofNat (48 + d)
theorem dg_nat (d : Nat) (h : d < 10) : (dg d).toNat = 48 + d := by unfold dg; simp; omega
def digs (n : Nat) : List UInt8 := if n < 10 then [dg n] else digs (n / 10) ++ [dg (n % 10)]
theorem digs_lt {n : Nat} (h : n < 10) : digs n = [dg n] := by unfold digs; rw [if_pos h]
theorem digs_ge {n : Nat} (h : ¬ n < 10) : digs n = digs (n / 10) ++ [dg (n % 10)] := by rw [digs, if_neg h]
def decT (v : Int) : List UInt8 := if v < 0 then 45 :: digs v.natAbs else digs v.natAbs

theorem xor_all (n : Nat) (h : n < 2 ^ 64) : (2 ^ 64 - 1) ^^^ n = 2 ^ 64 - (n + 1) := by
  apply Nat.eq_of_testBit_eq
  intro i
  rw [Nat.testBit_xor, Nat.testBit_two_pow_sub_succ h, Nat.testBit_two_pow_sub_one]
  by_cases hi : i < 64
  · simp [hi]
  · have : n.testBit i = false := Nat.testBit_lt_two_pow (Nat.lt_of_lt_of_le h (Nat.pow_le_pow_right (by omega) (by omega)))
    simp [hi, this]

theorem not64 (x : Int) (h0 : 0 ≤ x) (h1 : x < 18446744073709551616) : bits .xor .u64 (if IntKind.u64.signed = true then -1 else IntKind.u64.max) x = 18446744073709551615 - x := by
  obtain ⟨n, rfl⟩ : ∃ n : Nat, x = n := ⟨x.toNat, by omega⟩
  have e : (if IntKind.u64.signed = true then -1 else IntKind.u64.max) = ((18446744073709551615 : Nat) : Int) := by decide
  rw [e, bits_xor_u64_nat _ _ (by omega) (by omega)]
  have := xor_all n (by omega)
  rw [show (18446744073709551615 : Nat) = 2 ^ 64 - 1 by decide, this]
  omega

set_option maxRecDepth 100000 in
set_option maxHeartbeats 8000000 in
theorem dec_any (v : Int) (hv : -9223372036854775808 ≤ v ∧ v ≤ 9223372036854775807) (w : World) : Calls Tryz.prog 29 #[.int .i64 v] w fun e w' => e = .returned (.string ⟨(decT v).toArray⟩) ∧ Below w.heap.size w w' := by
  obtain ⟨n, hn⟩ : ∃ n, Hid (v.natAbs = n) := ⟨_, Lib.hid rfl⟩
  have hnb : n < 10 ^ 20 := by rw [← hn.out]; omega
  go_enter Tryz.func29, Tryz.ntmps29
  by_cases hneg : v < 0
  · have hcv : IntKind.u64.wrap v = v + 18446744073709551616 := by simp [IntKind.wrap, IntKind.bits, IntKind.signed]; omega
    have hx : IntKind.u64.wrap (bits .xor .u64 (if IntKind.u64.signed = true then -1 else IntKind.u64.max) (v + 18446744073709551616) + 1) = n := by
      rw [not64 _ (by omega) (by omega), ← hn.out]
      simp [IntKind.wrap, IntKind.bits, IntKind.signed]
      omega
    go_upto_region 4 with fail
    go_wp2_with fail
    go_loopw [3, 4] (fun u x wr => ∃ (m : Nat) (t : List UInt8), u = .int .u64 m ∧ x = .string ⟨t.toArray⟩ ∧ Hid (digs n = digs m ++ t) ∧ m < 10 ^ (20 - t.length) ∧ t.length ≤ 19 ∧ Below w.heap.size w wr) (fun u _ _ => (intOf u).toNat)
    case atStart => exact ⟨n, [], rfl, rfl, Lib.hid (by simp), by simpa using hnb, by simp, Below.refl _ _⟩
    case round =>
      obtain ⟨m, t, rfl, rfl, hdg, hmb, htl, hb⟩ := hrel
      obtain ⟨wo, rfl⟩ : ∃ wo : World, wo = wr := ⟨_, rfl⟩
      have hm64 : m < 100000000000000000000 := Nat.lt_of_lt_of_le hmb (Nat.le_trans (Nat.pow_le_pow_right (by omega) (by omega : 20 - t.length ≤ 20)) (by decide))
      obtain ⟨b, hbe⟩ : ∃ x, Hid (dg (m % 10) = x) := ⟨_, Lib.hid rfl⟩
      have hbn : b.toNat = 48 + m % 10 := by rw [← hbe.out]; exact dg_nat _ (by omega)
      have hcv := conv_one wo b wo.heap.size rfl
      rw [hbn, show ((48 + m % 10 : Nat) : Int) = 48 + (m : Int) % 10 by omega] at hcv
      obtain ⟨t2, ht2⟩ : ∃ x, Hid ([b] ++ t = x) := ⟨_, Lib.hid rfl⟩
      have ht2l : t2.length = t.length + 1 := by rw [← ht2.out]; simp
      have hadd := fun W => add_str [b] t t2 ht2.out (by simp; omega) W
      by_cases hq : (m : Int) / 10 = 0
      · have hm10 : m < 10 := by omega
        have hall : Hid (digs n = t2) := Lib.hid (by rw [hdg.out, digs_lt hm10, ← ht2.out, ← hbe.out, Nat.mod_eq_of_lt hm10])
        have hneg1 := fun W => add_str [45] t2 (45 :: t2) rfl (by simp; omega) W
        go_wp2_with fail
        go_ret
        refine ⟨?_, hb.alloc hb.size _⟩
        unfold decT
        rw [if_pos hneg, hn.out, hall.out]
        rfl
      · have hm10 : ¬ m < 10 := by omega
        go_wp2_with fail
        go_roundw
        case rel =>
          refine ⟨m / 10, t2, by go_num, rfl, Lib.hid ?_, ?_, ?_, hb.alloc hb.size _⟩
          · rw [hdg.out, digs_ge hm10, ← ht2.out, ← hbe.out, List.append_assoc]
          · rw [ht2l]
            have hp : 10 ^ (20 - t.length) = 10 * 10 ^ (20 - (t.length + 1)) := by
              rw [show 20 - t.length = (20 - (t.length + 1)) + 1 by omega, Nat.pow_succ, Nat.mul_comm]
            omega
          · rw [ht2l]
            have h19 : t.length ≠ 19 := fun e => by rw [e] at hmb; omega
            omega
        case measure => simp [intOf]; omega
  · obtain ⟨n2, rfl⟩ : ∃ k : Nat, v = k := ⟨v.toNat, by omega⟩
    obtain rfl : n2 = n := by rw [← hn.out]; rfl
    go_upto_region 4 with fail
    go_wp2_with fail
    go_loopw [3, 4] (fun u x wr => ∃ (m : Nat) (t : List UInt8), u = .int .u64 m ∧ x = .string ⟨t.toArray⟩ ∧ Hid (digs n2 = digs m ++ t) ∧ m < 10 ^ (20 - t.length) ∧ t.length ≤ 19 ∧ Below w.heap.size w wr) (fun u _ _ => (intOf u).toNat)
    case atStart => exact ⟨n2, [], rfl, rfl, Lib.hid (by simp), by simpa using hnb, by simp, Below.refl _ _⟩
    case round =>
      obtain ⟨m, t, rfl, rfl, hdg, hmb, htl, hb⟩ := hrel
      obtain ⟨wo, rfl⟩ : ∃ wo : World, wo = wr := ⟨_, rfl⟩
      have hm64 : m < 100000000000000000000 := Nat.lt_of_lt_of_le hmb (Nat.le_trans (Nat.pow_le_pow_right (by omega) (by omega : 20 - t.length ≤ 20)) (by decide))
      obtain ⟨b, hbe⟩ : ∃ x, Hid (dg (m % 10) = x) := ⟨_, Lib.hid rfl⟩
      have hbn : b.toNat = 48 + m % 10 := by rw [← hbe.out]; exact dg_nat _ (by omega)
      have hcv := conv_one wo b wo.heap.size rfl
      rw [hbn, show ((48 + m % 10 : Nat) : Int) = 48 + (m : Int) % 10 by omega] at hcv
      obtain ⟨t2, ht2⟩ : ∃ x, Hid ([b] ++ t = x) := ⟨_, Lib.hid rfl⟩
      have ht2l : t2.length = t.length + 1 := by rw [← ht2.out]; simp
      have hadd := fun W => add_str [b] t t2 ht2.out (by simp; omega) W
      by_cases hq : (m : Int) / 10 = 0
      · have hm10 : m < 10 := by omega
        have hall : Hid (digs n2 = t2) := Lib.hid (by rw [hdg.out, digs_lt hm10, ← ht2.out, ← hbe.out, Nat.mod_eq_of_lt hm10])
        go_wp2_with fail
        go_ret
        refine ⟨?_, hb.alloc hb.size _⟩
        unfold decT
        rw [if_neg (by omega)]
        show _ = Ending.returned (.string ⟨(digs n2).toArray⟩)
        rw [hall.out]
        rfl
      · have hm10 : ¬ m < 10 := by omega
        go_wp2_with fail
        go_roundw
        case rel =>
          refine ⟨m / 10, t2, by go_num, rfl, Lib.hid ?_, ?_, ?_, hb.alloc hb.size _⟩
          · rw [hdg.out, digs_ge hm10, ← ht2.out, ← hbe.out, List.append_assoc]
          · rw [ht2l]
            have hp : 10 ^ (20 - t.length) = 10 * 10 ^ (20 - (t.length + 1)) := by
              rw [show 20 - t.length = (20 - (t.length + 1)) + 1 by omega, Nat.pow_succ, Nat.mul_comm]
            omega
          · rw [ht2l]
            have h19 : t.length ≠ 19 := fun e => by rw [e] at hmb; omega
            omega
        case measure => simp [intOf]; omega

end

/- gantletref6.Number of any text. -/
section
open Go.RowKit

def bodyOf : List UInt8 → List UInt8
  | [] => []
  | c :: t => if c = 45 then t else c :: t
def isDg (c : UInt8) : Bool := decide (48 ≤ c) && decide (c ≤ 57)
theorem isDg_iff (c : UInt8) : isDg c = true ↔ 48 ≤ c.toNat ∧ c.toNat ≤ 57 := by
  unfold isDg
  rw [Bool.and_eq_true, decide_eq_true_eq, decide_eq_true_eq, UInt8.le_iff_toNat_le, UInt8.le_iff_toNat_le]
  exact Iff.rfl
def valD (d : List UInt8) : Nat := d.foldl (fun u c => 10 * u + (c.toNat - 48)) 0
theorem valD_take (d : List UInt8) (k : Nat) (h : k < d.length) : valD (d.take (k + 1)) = 10 * valD (d.take k) + (d[k].toNat - 48) := by
  unfold valD
  rw [List.take_succ_eq_append_getElem h, List.foldl_append]
  rfl
theorem foldD_lt : ∀ (d : List UInt8) (u : Nat), (∀ c ∈ d, isDg c = true) → d.foldl (fun u c => 10 * u + (c.toNat - 48)) u < (u + 1) * 10 ^ d.length
  | [], u, _ => by simp
  | c :: d, u, h => by
    have hc := (isDg_iff c).1 (h c (by simp))
    have ih := foldD_lt d (10 * u + (c.toNat - 48)) (fun x hx => h x (by simp [hx]))
    simp only [List.foldl_cons, List.length_cons, Nat.pow_succ]
    refine Nat.lt_of_lt_of_le ih ?_
    rw [← Nat.mul_assoc, Nat.mul_right_comm]
    exact Nat.mul_le_mul_right _ (by omega)
theorem valD_lt (d : List UInt8) (h : ∀ c ∈ d, isDg c = true) : valD d < 10 ^ d.length := by
  have := foldD_lt d 0 h
  unfold valD
  simpa using this

/-- the number that a text is; none: it is none -/
def numT (s : List UInt8) : Option Int :=
  if (bodyOf s).length = 0 ∨ 19 < (bodyOf s).length ∨ (bodyOf s).all isDg = false then none
  else if decT (wrap64 (if (bodyOf s).length < s.length then -(valD (bodyOf s) : Int) else valD (bodyOf s))) = s then some (wrap64 (if (bodyOf s).length < s.length then -(valD (bodyOf s) : Int) else valD (bodyOf s))) else none

theorem wrap64_rng (x : Int) : -9223372036854775808 ≤ wrap64 x ∧ wrap64 x ≤ 9223372036854775807 := by unfold wrap64; omega

def NumRet (o : Option Int) (w : World) (e : Ending) (w' : World) : Prop := (∃ x : Int, e = .returned (.tuple #[.int .i64 x, .bool o.isSome]) ∧ ∀ n, o = some n → x = n) ∧ Below w.heap.size w w'

set_option maxRecDepth 100000 in
set_option maxHeartbeats 8000000 in
theorem num_any (s : List UInt8) (hs : s.length ≤ 140737488355328) (w : World) : Calls Tryz.prog 34 #[.string ⟨s.toArray⟩] w (NumRet (numT s) w) := by
  obtain ⟨o, ho0⟩ : ∃ x, Hid (numT s = x) := ⟨_, Lib.hid rfl⟩
  rw [ho0.out]
  match s, hs, ho0 with
  | [], hs, ho0 =>
    obtain rfl : o = none := ho0.out.symm
    go_enter Tryz.func34, Tryz.ntmps34
    go_wp2_with fail
    go_ret2
    exact ⟨⟨_, rfl, fun n h => by cases h⟩, Below.refl _ _⟩
  | c0 :: t0, hs, ho0 =>
    by_cases h45 : c0 = 45
    · subst h45
      have ho : Hid (o = if t0.length = 0 ∨ 19 < t0.length ∨ t0.all isDg = false then none else if decT (wrap64 (-(valD t0 : Int))) = 45 :: t0 then some (wrap64 (-(valD t0 : Int))) else none) := Lib.hid (by
        rw [← ho0.out]
        unfold numT
        rw [show bodyOf (45 :: t0) = t0 by simp [bodyOf], if_pos (show t0.length < (45 :: t0).length by simp)])
      have hdl : (45 :: t0).length = t0.length + 1 := by simp
      obtain ⟨d, hd⟩ : ∃ x, Hid (t0 = x) := ⟨_, Lib.hid rfl⟩
      rw [hd.out] at ho hdl
      obtain ⟨sv, hsv⟩ : ∃ x, Hid (45 :: t0 = x) := ⟨_, Lib.hid rfl⟩
      have hsd : Hid (45 :: d = sv) := Lib.hid (by rw [← hd.out]; exact hsv.out)
      rw [hsd.out] at ho
      obtain ⟨dn, hdn⟩ : ∃ x, Hid (d.length = x) := ⟨_, Lib.hid rfl⟩
      have hdsz : (⟨d.toArray⟩ : ByteArray).size = dn := by rw [← hdn.out]; simp [ByteArray.size]
      have hsl : sv.length = dn + 1 := by rw [← hsd.out, ← hdn.out]; simp
      have hssz : (⟨sv.toArray⟩ : ByteArray).size = dn + 1 := by rw [← hsl]; simp [ByteArray.size]
      have hget0 : ((⟨sv.toArray⟩ : ByteArray)[0]'(by rw [hssz]; omega)) = 45 := by
        have : sv[0]'(by omega) = 45 := by simp [← hsd.out]
        exact this
      have hext : (ByteArray.mk sv.toArray).extract 1 (dn + 1) = ⟨d.toArray⟩ := by
        rw [ext_list, ← hsd.out]
        simp [← hdn.out]
      have hssz2 : ((⟨sv.toArray⟩ : ByteArray).size : Int) = (dn : Int) + 1 := by rw [hssz]; rfl
      rw [hsv.out] at hs ⊢
      rw [hsl] at hs
      clear ho0 hdl
      go_enter Tryz.func34, Tryz.ntmps34
      go_upto_region 5 with fail
      try rw [hext]
      by_cases hd0 : d.length = 0
      · obtain rfl : o = none := by rw [ho.out, if_pos (.inl hd0)]
        have hdn0 : dn = 0 := by rw [← hdn.out]; exact hd0
        subst hdn0
        go_wp2_with fail
        go_ret2
        exact ⟨⟨_, rfl, fun n h => by cases h⟩, Below.refl _ _⟩
      by_cases hd19 : 19 < d.length
      · obtain rfl : o = none := by rw [ho.out, if_pos (.inr (.inl hd19))]
        have hdn19 : 19 < dn := by rw [← hdn.out]; exact hd19
        have hdd : decide ((19 : Int) < dn) = true := by simp; omega
        have hdn0 : ¬ dn = 0 := by omega
        have hdne : ((dn : Int) == 0) = false := by simp; omega
        go_wp2_with fail
        go_ret2
        exact ⟨⟨_, rfl, fun n h => by cases h⟩, Below.refl _ _⟩
      have hdn0 : ¬ dn = 0 := by rw [← hdn.out]; exact hd0
      have hdn19 : ¬ 19 < dn := by rw [← hdn.out]; exact hd19
      have hdd : decide ((19 : Int) < dn) = false := by simp; omega
      have hdne : ((dn : Int) == 0) = false := by simp; omega
      go_wp2_with fail
      go_loopw [4, 6] (fun u i wr => ∃ k : Nat, k ≤ dn ∧ i = .int .i64 k ∧ u = .int .u64 (valD (d.take k)) ∧ w = wr ∧ Hid (∀ j (h : j < d.length), j < k → isDg d[j] = true)) (fun _ i _ => dn - (intOf i).toNat)
      case atStart => exact ⟨0, by omega, rfl, by simp [valD], rfl, Lib.hid (by omega)⟩
      case round =>
        obtain ⟨k, hk, rfl, rfl, rfl, hall⟩ := hrel
        have hvb := valD_lt (d.take k) (fun c hc => by
          obtain ⟨j, hj, rfl⟩ := List.getElem_of_mem hc
          rw [List.getElem_take]
          rw [List.length_take] at hj
          exact hall.out j (by omega) (by omega))
        rw [List.length_take, hdn.out, Nat.min_eq_left hk] at hvb
        by_cases hlt : k < dn
        · have hkl : k < d.length := by rw [hdn.out]; exact hlt
          have hstep := valD_take d k hkl
          obtain ⟨c, hc⟩ : ∃ x, Hid (d[k] = x) := ⟨_, Lib.hid rfl⟩
          have hget : ((⟨d.toArray⟩ : ByteArray)[k]'(by rw [hdsz]; exact hlt)) = c := hc.out
          rw [hc.out] at hstep
          obtain ⟨m, hm⟩ : ∃ x, Hid (valD (d.take k) = x) := ⟨_, Lib.hid rfl⟩
          rw [hm.out] at hvb hstep ⊢
          have hmb : m < 1000000000000000000 := Nat.lt_of_lt_of_le hvb (Nat.le_trans (Nat.pow_le_pow_right (by omega) (by omega : k ≤ 18)) (by decide))
          have hcl := c.toNat_lt
          by_cases hdg : isDg c = true
          · have hd1 := (isDg_iff c).1 hdg
            have hc48 : ¬ (c.toNat : Int) < 48 := by omega
            have hc57 : ¬ (57 : Int) < c.toNat := by omega
            go_wp2_with fail
            go_roundw
            case rel => exact ⟨k + 1, by omega, by go_num, by rw [hstep]; congr 1; omega, by first | trivial | rfl, Lib.hid (fun j hj hjk => by
              by_cases e : j = k
              · subst e; rw [hc.out]; exact hdg
              · exact hall.out j hj (by omega))⟩
            case measure => simp [intOf]; omega
          · obtain rfl : o = none := by
              have hf : d.all isDg = false := by
                rw [List.all_eq_false]
                exact ⟨d[k], List.getElem_mem hkl, by rw [hc.out]; exact hdg⟩
              rw [ho.out, if_pos (.inr (.inr hf))]
            rw [isDg_iff] at hdg
            by_cases hc48 : (c.toNat : Int) < 48
            · go_wp2_with fail
              go_ret2
              exact ⟨⟨_, rfl, fun n h => by cases h⟩, Below.refl _ _⟩
            · have hc57 : (57 : Int) < c.toNat := by omega
              go_wp2_with fail
              go_ret2
              exact ⟨⟨_, rfl, fun n h => by cases h⟩, Below.refl _ _⟩
        · have hkn : k = dn := by omega
          have htk : d.take k = d := List.take_of_length_le (by rw [hdn.out]; omega)
          rw [htk] at hvb ⊢
          have halld : d.all isDg = true := List.all_eq_true.2 (fun c hc => by
            obtain ⟨j, hj, rfl⟩ := List.getElem_of_mem hc
            exact hall.out j hj (by rw [hkn, ← hdn.out]; exact hj))
          have ho2 := ho.out
          rw [if_neg (by rw [halld]; intro h; rcases h with h | h | h; exact hd0 h; exact hd19 h; cases h)] at ho2
          obtain ⟨m, hm⟩ : ∃ x, Hid (valD d = x) := ⟨_, Lib.hid rfl⟩
          rw [hm.out] at hvb ho2 ⊢
          have hmb : m < 10000000000000000000 := Nat.lt_of_lt_of_le hvb (Nat.le_trans (Nat.pow_le_pow_right (by omega) (by omega : k ≤ 19)) (by decide))
          have hdc := dec_any (wrap64 (-(m : Int))) (wrap64_rng _) w
          obtain ⟨t, ht⟩ : ∃ x, Hid (decT (wrap64 (-(m : Int))) = x) := ⟨_, Lib.hid rfl⟩
          rw [ht.out] at hdc ho2
          obtain ⟨nn, hw64⟩ : ∃ x, wrap64 (-(m : Int)) = x := ⟨_, rfl⟩
          obtain ⟨xx, hxx⟩ : ∃ x : Int, (18446744073709551616 - (m : Int)) % 18446744073709551616 = x := ⟨_, rfl⟩
          have hx : IntKind.u64.wrap (bits .xor .u64 (if IntKind.u64.signed = true then -1 else IntKind.u64.max) (m : Int) + 1) = xx := by
            rw [not64 _ (by omega) (by omega), ← hxx]
            simp [IntKind.wrap, IntKind.bits, IntKind.signed]
            omega
          have hwi : IntKind.i64.wrap xx = nn := by
            rw [IntWalk.i64_left, ← hw64, ← hxx]
            unfold wrap64
            omega
          rw [hw64] at hdc ho2
          have HO2 := Lib.hid ho2
          clear ho2
          go_wp2_with fail
          refine hdc.mono ?_
          rintro e w' ⟨rfl, hbw⟩
          by_cases htd : t = sv
          · have ho2 := HO2.out
            rw [if_pos htd] at ho2
            subst ho2 htd
            go_wp2_with fail
            go_ret2
            exact ⟨⟨_, rfl, fun n h => by injection h⟩, hbw⟩
          · have ho2 := HO2.out
            rw [if_neg htd] at ho2
            subst ho2
            have htd' : (t == sv) = false := by simpa using htd
            go_wp2_with fail
            go_ret2
            exact ⟨⟨_, rfl, fun n h => by cases h⟩, hbw⟩
    · have hb : bodyOf (c0 :: t0) = c0 :: t0 := by simp [bodyOf, h45]
      obtain ⟨d, hd⟩ : ∃ x, Hid (c0 :: t0 = x) := ⟨_, Lib.hid rfl⟩
      have ho : Hid (o = if d.length = 0 ∨ 19 < d.length ∨ d.all isDg = false then none else if decT (wrap64 (valD d : Int)) = d then some (wrap64 (valD d : Int)) else none) := Lib.hid (by
        rw [← ho0.out]
        unfold numT
        rw [hb, if_neg (Nat.lt_irrefl _), hd.out])
      have hdpos : 0 < d.length := by rw [← hd.out]; simp
      have hc45 : ¬ ((c0.toNat : Int) = 45) := fun e => h45 (UInt8.toNat_inj.1 (by simpa using (by omega : c0.toNat = 45)))
      obtain ⟨dn, hdn⟩ : ∃ x, Hid (d.length = x) := ⟨_, Lib.hid rfl⟩
      have hdsz : (⟨d.toArray⟩ : ByteArray).size = dn := by rw [← hdn.out]; simp [ByteArray.size]
      have hget0 : ((⟨d.toArray⟩ : ByteArray)[0]'(by rw [hdsz, ← hdn.out]; exact hdpos)) = c0 := by
        have : d[0] = c0 := by simp [← hd.out]
        exact this
      have hdnpos : 0 < dn := by rw [← hdn.out]; exact hdpos
      rw [hd.out] at hs ⊢
      clear ho0
      go_enter Tryz.func34, Tryz.ntmps34
      go_upto_region 5 with fail
      by_cases hd0 : d.length = 0
      · obtain rfl : o = none := by rw [ho.out, if_pos (.inl hd0)]
        have hdn0 : dn = 0 := by rw [← hdn.out]; exact hd0
        subst hdn0
        go_wp2_with fail
        go_ret2
        exact ⟨⟨_, rfl, fun n h => by cases h⟩, Below.refl _ _⟩
      by_cases hd19 : 19 < d.length
      · obtain rfl : o = none := by rw [ho.out, if_pos (.inr (.inl hd19))]
        have hdn19 : 19 < dn := by rw [← hdn.out]; exact hd19
        have hdd : decide ((19 : Int) < dn) = true := by simp; omega
        have hdn0 : ¬ dn = 0 := by omega
        have hdne : ((dn : Int) == 0) = false := by simp; omega
        go_wp2_with fail
        go_ret2
        exact ⟨⟨_, rfl, fun n h => by cases h⟩, Below.refl _ _⟩
      have hdn0 : ¬ dn = 0 := by rw [← hdn.out]; exact hd0
      have hdn19 : ¬ 19 < dn := by rw [← hdn.out]; exact hd19
      have hdd : decide ((19 : Int) < dn) = false := by simp; omega
      have hdne : ((dn : Int) == 0) = false := by simp; omega
      go_wp2_with fail
      go_loopw [4, 6] (fun u i wr => ∃ k : Nat, k ≤ dn ∧ i = .int .i64 k ∧ u = .int .u64 (valD (d.take k)) ∧ w = wr ∧ Hid (∀ j (h : j < d.length), j < k → isDg d[j] = true)) (fun _ i _ => dn - (intOf i).toNat)
      case atStart => exact ⟨0, by omega, rfl, by simp [valD], rfl, Lib.hid (by omega)⟩
      case round =>
        obtain ⟨k, hk, rfl, rfl, rfl, hall⟩ := hrel
        have hvb := valD_lt (d.take k) (fun c hc => by
          obtain ⟨j, hj, rfl⟩ := List.getElem_of_mem hc
          rw [List.getElem_take]
          rw [List.length_take] at hj
          exact hall.out j (by omega) (by omega))
        rw [List.length_take, hdn.out, Nat.min_eq_left hk] at hvb
        by_cases hlt : k < dn
        · have hkl : k < d.length := by rw [hdn.out]; exact hlt
          have hstep := valD_take d k hkl
          obtain ⟨c, hc⟩ : ∃ x, Hid (d[k] = x) := ⟨_, Lib.hid rfl⟩
          have hget : ((⟨d.toArray⟩ : ByteArray)[k]'(by rw [hdsz]; exact hlt)) = c := hc.out
          rw [hc.out] at hstep
          obtain ⟨m, hm⟩ : ∃ x, Hid (valD (d.take k) = x) := ⟨_, Lib.hid rfl⟩
          rw [hm.out] at hvb hstep ⊢
          have hmb : m < 1000000000000000000 := Nat.lt_of_lt_of_le hvb (Nat.le_trans (Nat.pow_le_pow_right (by omega) (by omega : k ≤ 18)) (by decide))
          have hcl := c.toNat_lt
          by_cases hdg : isDg c = true
          · have hd1 := (isDg_iff c).1 hdg
            have hc48 : ¬ (c.toNat : Int) < 48 := by omega
            have hc57 : ¬ (57 : Int) < c.toNat := by omega
            go_wp2_with fail
            go_roundw
            case rel => exact ⟨k + 1, by omega, by go_num, by rw [hstep]; congr 1; omega, by first | trivial | rfl, Lib.hid (fun j hj hjk => by
              by_cases e : j = k
              · subst e; rw [hc.out]; exact hdg
              · exact hall.out j hj (by omega))⟩
            case measure => simp [intOf]; omega
          · obtain rfl : o = none := by
              have hf : d.all isDg = false := by
                rw [List.all_eq_false]
                exact ⟨d[k], List.getElem_mem hkl, by rw [hc.out]; exact hdg⟩
              rw [ho.out, if_pos (.inr (.inr hf))]
            rw [isDg_iff] at hdg
            by_cases hc48 : (c.toNat : Int) < 48
            · go_wp2_with fail
              go_ret2
              exact ⟨⟨_, rfl, fun n h => by cases h⟩, Below.refl _ _⟩
            · have hc57 : (57 : Int) < c.toNat := by omega
              go_wp2_with fail
              go_ret2
              exact ⟨⟨_, rfl, fun n h => by cases h⟩, Below.refl _ _⟩
        · have hkn : k = dn := by omega
          have htk : d.take k = d := List.take_of_length_le (by rw [hdn.out]; omega)
          rw [htk] at hvb ⊢
          have halld : d.all isDg = true := List.all_eq_true.2 (fun c hc => by
            obtain ⟨j, hj, rfl⟩ := List.getElem_of_mem hc
            exact hall.out j hj (by rw [hkn, ← hdn.out]; exact hj))
          have ho2 := ho.out
          rw [if_neg (by rw [halld]; intro h; rcases h with h | h | h; exact hd0 h; exact hd19 h; cases h)] at ho2
          obtain ⟨m, hm⟩ : ∃ x, Hid (valD d = x) := ⟨_, Lib.hid rfl⟩
          rw [hm.out] at hvb ho2 ⊢
          have hmb : m < 10000000000000000000 := Nat.lt_of_lt_of_le hvb (Nat.le_trans (Nat.pow_le_pow_right (by omega) (by omega : k ≤ 19)) (by decide))
          have hdc := dec_any (wrap64 (m : Int)) (wrap64_rng _) w
          obtain ⟨t, ht⟩ : ∃ x, Hid (decT (wrap64 (m : Int)) = x) := ⟨_, Lib.hid rfl⟩
          rw [ht.out] at hdc ho2
          obtain ⟨nn, hw64⟩ : ∃ x, wrap64 (m : Int) = x := ⟨_, rfl⟩
          have hwi : IntKind.i64.wrap (m : Int) = nn := (IntWalk.i64_left _).trans hw64
          rw [hw64] at hdc ho2
          have HO2 := Lib.hid ho2
          clear ho2
          go_wp2_with fail
          refine hdc.mono ?_
          rintro e w' ⟨rfl, hbw⟩
          by_cases htd : t = d
          · have ho2 := HO2.out
            rw [if_pos htd] at ho2
            subst ho2 htd
            go_wp2_with fail
            go_ret2
            exact ⟨⟨_, rfl, fun n h => by injection h⟩, hbw⟩
          · have ho2 := HO2.out
            rw [if_neg htd] at ho2
            subst ho2
            have htd' : (t == d) = false := by simpa using htd
            go_wp2_with fail
            go_ret2
            exact ⟨⟨_, rfl, fun n h => by cases h⟩, hbw⟩
theorem digs_len : ∀ (k n : Nat), 0 < k → n < 10 ^ k → (digs n).length ≤ k
  | 0, _, h, _ => by omega
  | k + 1, n, _, hn => by
    by_cases h : n < 10
    · rw [digs_lt h]; simp
    · rw [digs_ge h, List.length_append]
      have hk : 0 < k := by
        rcases Nat.eq_zero_or_pos k with rfl | hk
        · simp at hn; omega
        · exact hk
      have := digs_len k (n / 10) hk (by rw [Nat.pow_succ] at hn; omega)
      simp
      omega
theorem decT_nat (c : Nat) : decT (c : Int) = digs c := by unfold decT; rw [if_neg (by omega)]; rfl

end

/- A number's decimal text is that number. -/
section
open Go.RowKit

theorem valD_snoc (a : List UInt8) (c : UInt8) : valD (a ++ [c]) = 10 * valD a + (c.toNat - 48) := by
  unfold valD
  rw [List.foldl_append]; rfl
theorem valD_digs (n : Nat) : valD (digs n) = n := by
  induction n using Nat.strongRecOn with
  | ind n ih =>
    by_cases h : n < 10
    · rw [digs_lt h]
      show 10 * 0 + ((dg n).toNat - 48) = n
      rw [dg_nat n h]; omega
    · rw [digs_ge h, valD_snoc, ih (n / 10) (by omega), dg_nat _ (by omega)]
      omega
theorem dg_isDg (d : Nat) (h : d < 10) : isDg (dg d) = true := by
  rw [isDg_iff, dg_nat d h]; omega
theorem digs_all (n : Nat) : (digs n).all isDg = true := by
  induction n using Nat.strongRecOn with
  | ind n ih =>
    by_cases h : n < 10
    · rw [digs_lt h]; simp [dg_isDg n h]
    · rw [digs_ge h, List.all_append, ih (n / 10) (by omega)]
      simp [dg_isDg (n % 10) (by omega)]
theorem digs_pos (n : Nat) : 0 < (digs n).length := by
  by_cases h : n < 10
  · rw [digs_lt h]; simp
  · rw [digs_ge h]; simp
theorem body_digs (n : Nat) : bodyOf (digs n) = digs n := by
  have h := digs_all n
  cases hd : digs n with
  | nil => rfl
  | cons c t =>
    rw [hd] at h
    simp only [List.all_cons, Bool.and_eq_true] at h
    have h1 := (isDg_iff c).1 h.1
    have h2 : c ≠ 45 := fun e => by subst e; simp at h1
    simp [bodyOf, h2]

/-- the number of a number's text is that number -/
theorem num_dec (v : Int) (hv : -9223372036854775808 ≤ v ∧ v ≤ 9223372036854775807) : numT (decT v) = some v := by
  have hl := digs_len 19 v.natAbs (by omega) (by omega)
  have hp := digs_pos v.natAbs
  have ha := digs_all v.natAbs
  have hval := valD_digs v.natAbs
  by_cases h : v < 0
  · have hd : decT v = 45 :: digs v.natAbs := by unfold decT; rw [if_pos h]
    have hb : bodyOf (decT v) = digs v.natAbs := by rw [hd]; simp [bodyOf]
    have hw : wrap64 (-(v.natAbs : Int)) = v := by unfold wrap64; omega
    have hlt : (digs v.natAbs).length < (decT v).length := by rw [hd]; simp
    unfold numT
    rw [hb, ha, hval, if_neg (by rintro (h1 | h1 | h1) <;> first | omega | cases h1), if_pos hlt, hw, if_pos rfl]
  · have hd : decT v = digs v.natAbs := by unfold decT; rw [if_neg h]
    have hb : bodyOf (decT v) = digs v.natAbs := by rw [hd]; exact body_digs _
    have hw : wrap64 (v.natAbs : Int) = v := by unfold wrap64; omega
    have hnl : ¬ (digs v.natAbs).length < (decT v).length := by rw [hd]; omega
    unfold numT
    rw [hb, ha, hval, if_neg (by rintro (h1 | h1 | h1) <;> first | omega | cases h1), if_neg hnl, hw, if_pos rfl]
/-- a text that has a number is that number's -/
theorem num_text {s : List UInt8} {v : Int} (h : numT s = some v) : s = decT v ∧ -9223372036854775808 ≤ v ∧ v ≤ 9223372036854775807 := by
  unfold numT at h
  by_cases h1 : (bodyOf s).length = 0 ∨ 19 < (bodyOf s).length ∨ (bodyOf s).all isDg = false
  · rw [if_pos h1] at h; cases h
  · rw [if_neg h1] at h
    by_cases h2 : decT (wrap64 (if (bodyOf s).length < s.length then -(valD (bodyOf s) : Int) else valD (bodyOf s))) = s
    · rw [if_pos h2] at h
      injection h with h
      rw [h] at h2
      rw [← h]
      exact ⟨by rw [h]; exact h2.symm, wrap64_rng _⟩
    · rw [if_neg h2] at h; cases h

end

/- Plain: what strconv.ParseInt makes of decimal texts; the place of a byte; a text ahead. -/
section
open Go.RowKit

open Go.Lib in
theorem uintM_snoc (M : Nat) (c : UInt8) : ∀ (l : List UInt8) (acc u : Nat), parseUintM M acc l = .ok u → parseUintM M acc (l ++ [c]) = parseUintM M u [c]
  | [], acc, u, h => by
    unfold parseUintM at h
    injection h with h
    subst h
    rfl
  | d :: l, acc, u, h => by
    rw [List.cons_append]
    unfold parseUintM at h ⊢
    split at h
    · rename_i h1
      rw [if_pos h1]
      split at h
      · cases h
      · rename_i h2
        rw [if_neg h2]
        split at h
        · cases h
        · rename_i h3
          rw [if_neg h3]
          exact uintM_snoc M c l _ u h
    · cases h

open Go.Lib in
theorem uintM_digs (n : Nat) (h : n < 18446744073709551616) : parseUintM (2 ^ 64 - 1) 0 (digs n) = .ok n := by
  induction n using Nat.strongRecOn with
  | ind n ih =>
    have one : ∀ (u d : Nat), d < 10 → u < 1844674407370955162 → u * 10 + d < 18446744073709551616 → parseUintM (2 ^ 64 - 1) u [dg d] = .ok (u * 10 + d) := by
      intro u d hd hu hs
      unfold parseUintM
      rw [dg_nat d hd, if_pos (by omega), if_neg (by omega), show 48 + d - 48 = d by omega, if_neg (by omega)]
      rfl
    by_cases h10 : n < 10
    · rw [digs_lt h10]
      have := one 0 n h10 (by omega) (by omega)
      rw [this]
      congr 1
      omega
    · rw [digs_ge h10, uintM_snoc _ _ _ _ _ (ih (n / 10) (by omega) (by omega)), one (n / 10) (n % 10) (by omega) (by omega) (by omega)]
      congr 1
      omega

open Go.Lib in
theorem parse_dec (v : Int) (hv : -9223372036854775808 ≤ v ∧ v ≤ 9223372036854775807) : parseIntB 64 (decT v) = .ok v := by
  have hd := uintM_digs v.natAbs (by omega)
  have hp := digs_pos v.natAbs
  have ha := digs_all v.natAbs
  unfold decT
  cases hl : digs v.natAbs with
  | nil => rw [hl] at hp; simp at hp
  | cons c r =>
    rw [hl] at hd ha
    have hc : 48 ≤ c.toNat ∧ c.toNat ≤ 57 := (isDg_iff c).1 (List.all_eq_true.1 ha c (by simp))
    by_cases hn : v < 0
    · rw [if_pos hn]
      unfold parseIntB
      have e1 : (45 : UInt8).toNat = 45 := rfl
      simp only [e1, or_true, if_true]
      unfold parseUintB
      rw [if_neg (by simp), hd]
      simp only [not_true_eq_false, false_and, if_false, true_and]
      rw [if_neg (by omega)]
      congr 1
      omega
    · rw [if_neg hn]
      unfold parseIntB
      have e1 : ¬ c.toNat = 43 := by omega
      have e2 : ¬ c.toNat = 45 := by omega
      simp only [e1, e2, or_self, if_false]
      unfold parseUintB
      rw [if_neg (by simp), hd]
      simp only [not_false_eq_true, true_and, false_and, if_false]
      rw [if_neg (by omega)]
      congr 1
      omega

/-- what the program's number makes of a text is what the reference's does -/
theorem numT_parse (s : List UInt8) : (∃ v, numT s = some v ∧ Lib.parseIntB 64 s = .ok v ∧ decT v = s ∧ I64r v) ∨ (numT s = none ∧ ∀ v, Lib.parseIntB 64 s = .ok v → decT v ≠ s ∧ I64r v) := by
  cases h : numT s with
  | some v =>
    obtain ⟨h1, h2⟩ := num_text h
    refine .inl ⟨v, rfl, ?_, h1.symm, h2⟩
    rw [h1]
    exact parse_dec v h2
  | none =>
    refine .inr ⟨rfl, fun v hv => ?_⟩
    have hb := Lib.parseIntB_bounds hv
    have hr : I64r v := by unfold I64r; constructor <;> omega
    refine ⟨fun he => ?_, hr⟩
    rw [← he, num_dec v hr] at h
    cases h

/-- the place of a byte -/
def idxB (c : UInt8) (s : List UInt8) : Option Nat := s.findIdx? (· == c)
theorem idxB_some {c : UInt8} {s : List UInt8} {k : Nat} (h : k < s.length) (hs : s[k] = c) (hn : ∀ j (hj : j < s.length), j < k → s[j] ≠ c) : idxB c s = some k := by
  unfold idxB
  rw [List.findIdx?_eq_some_iff_getElem]
  exact ⟨h, by simpa using hs, fun j hj => by simpa using hn j (by omega) hj⟩
theorem idxB_none {c : UInt8} {s : List UInt8} (hn : ∀ j (hj : j < s.length), s[j] ≠ c) : idxB c s = none := by
  unfold idxB
  rw [List.findIdx?_eq_none_iff]
  intro x hx
  obtain ⟨j, hj, rfl⟩ := List.getElem_of_mem hx
  simpa using hn j hj
theorem idxB_lt {c : UInt8} {s : List UInt8} {k : Nat} (h : idxB c s = some k) : k < s.length := (List.findIdx?_eq_some_iff_getElem.1 h).1
theorem idxB_at {c : UInt8} {s : List UInt8} {k : Nat} (h : idxB c s = some k) : s[k]'(idxB_lt h) = c := by
  have := (List.findIdx?_eq_some_iff_getElem.1 h).2.1
  simpa using this

theorem index_idxB (c : UInt8) (s : List UInt8) : Lib.indexByte s c = match idxB c s with | some k => (k : Int) | none => -1 := by
  unfold idxB
  induction s with
  | nil => rfl
  | cons b l ih =>
    unfold Lib.indexByte
    rw [List.findIdx?_cons]
    by_cases hb : (b == c) = true
    · rw [if_pos hb, if_pos hb]; rfl
    · rw [if_neg hb, if_neg hb, ih]
      cases hf : List.findIdx? (fun x => x == c) l with
      | none => rfl
      | some k =>
        simp only [Option.map_some]
        rw [if_neg (by simp)]
        rfl

end

/- The library's tables and errors, kept; an op of a word by the program; a text ahead. -/
section
open Go.RowKit

/-- is b ahead of s? -/
def aheadB (b s : List UInt8) : Bool := s.take b.length == b

theorem prefix_ahead (s b : List UInt8) : Lib.hasPrefix s b = aheadB b s := by
  unfold Lib.hasPrefix aheadB
  rw [Bool.eq_iff_iff, List.isPrefixOf_iff_prefix, List.prefix_iff_eq_take, beq_iff_eq]
  exact ⟨fun h => h.symm, fun h => h.symm⟩

theorem ext_head (s : List UInt8) (k : Nat) : (ByteArray.mk s.toArray).extract 0 k = ⟨(s.take k).toArray⟩ := by rw [ext_list]; simp

theorem ext_tail (s : List UInt8) (k n : Nat) (hn : s.length = n) : (ByteArray.mk s.toArray).extract k n = ⟨(s.drop k).toArray⟩ := by
  rw [ext_list, List.take_of_length_le (by rw [List.length_drop]; omega)]

/-- the library's tables that this law's code reads -/
abbrev PowIs (w : World) : Prop := Lib.TabIs Tryz.prog w "internal/strconv.uint64pow10" .u64 Lib.pow10Tab

def Tabs (w : World) : Prop := Tab w ∧ PowIs w

theorem Tabs.below {w w' : World} (h : Tabs w) (hb : Below w.heap.size w w') : Tabs w' :=
  ⟨Lib.tabBelow_of_tabIs h.1 w' hb, Lib.tabBelow_of_tabIs h.2 w' hb⟩

theorem exec_convert {o : Oper} {a : Act} {w w' : World} {t1 t2 : TypeId} {x : Operand} (ho : o.op = .convert t1 t2 x) {v u : Value} (hx : a.eval x = v) (hr : (convert t1 t2 v).run Tryz.prog w = .ok u w') : (execOp a.eval o).run Tryz.prog w = .ok (.value u) w' := by
  unfold execOp
  simp only [ho, hx, Sem.run_bind, hr]
  rfl

set_option maxHeartbeats 2000000 in
theorem topW_any (s : List UInt8) (w : World) (ht : Tab w) : Calls Tryz.prog 67 #[.string ⟨s.toArray⟩] w fun e w' => e = .returned (.int .i64 (opT s)) ∧ Below w.heap.size w w' := by
  have hn := fun W => opWords_any W
  go_enter Tryz.func67, Tryz.ntmps67
  go_wp2_with fail
  refine (hn _ ht).mono ?_
  rintro e w1 ⟨rfl, rfl⟩
  have hb := (BlkIs.fresh w 9 (strCells opWords).toArray)
  have hbl := below_alloc w (.cells (strCells opWords).toArray 9)
  obtain ⟨w1, hw1⟩ : ∃ W, w.alloc (.cells (strCells opWords).toArray 9) = W := ⟨_, rfl⟩
  rw [hw1] at hb hbl ⊢
  clear hw1
  go_wp2_with fail
  go_loopw [7] (fun i wr => ∃ k : Nat, k ≤ 36 ∧ i = .int .i64 k ∧ w1 = wr ∧ Hid (∀ j (hj : j < opWords.length), j < k → opWords[j] ≠ s)) (fun i _ => 36 - (intOf i).toNat)
  case atStart => exact ⟨0, by omega, rfl, rfl, Lib.hid (by omega)⟩
  case round =>
    obtain ⟨k, hk, rfl, rfl, hno⟩ := hrel
    by_cases hlt : k < 36
    · have hkl : k < opWords.length := hlt
      have hc : w1.cell? ⟨w.heap.size, k, none⟩ = some (.string ⟨opWords[k].toArray⟩) := (hb.cell k).trans (by simp [strCells, List.getElem?_eq_getElem hkl])
      have hyes := fun h => Lib.hid (idx_some hkl h hno.out)
      obtain ⟨x, hx⟩ : ∃ x, Hid (opWords[k] = x) := ⟨_, Lib.hid rfl⟩
      rw [hx.out] at hc hyes
      by_cases hxs : x = s
      · subst hxs
        have hres := hyes rfl
        clear hyes
        go_wp2_with fail
        go_ret
        exact ⟨by unfold opT; rw [hres.out]; simp; omega, hbl⟩
      · have hne : (x == s) = false := by simpa using hxs
        clear hyes
        go_wp2_with fail
        go_roundw
        case rel => exact ⟨k + 1, by omega, by go_num, by first | trivial | rfl, Lib.hid (fun j hj hjk => by
          by_cases e : j = k
          · subst e; rw [hx.out]; exact hxs
          · exact hno.out j hj (by omega))⟩
        case measure => simp [intOf]; omega
    · have hres := Lib.hid (idx_none (s := s) (fun j hj => hno.out j hj (by have : j < 36 := hj; omega)))
      go_wp2_with fail
      go_ret
      exact ⟨by unfold opT; rw [hres.out]; rfl, hbl⟩

theorem itoa_dec (n : Int) : Lib.itoa n = decT n := by
  have key : ∀ u : Nat, Lib.decDigits u = digs u := by
    intro u
    induction u using Nat.strongRecOn with
    | ind u ih =>
      unfold Lib.decDigits digs
      by_cases h : u < 10
      · rw [dif_pos h, if_pos h]; rfl
      · rw [dif_neg h, if_neg h, ih (u / 10) (by omega)]; rfl
  unfold Lib.itoa decT
  by_cases h : n < 0
  · rw [if_pos h, if_pos h, key]
  · rw [if_neg h, if_neg h, key, show n.toNat = n.natAbs by omega]

/-- the library's errors are there, too -/
def ErrVar (w : World) (name : String) : Prop := ∃ tp p, w.var? Tryz.prog name = some #[.iface tp p]

def Tabs2 (w : World) : Prop := Tabs w ∧ ErrVar w "strconv.ErrSyntax" ∧ ErrVar w "strconv.ErrRange"

theorem var_below {w w' : World} {name : String} {x : Array Value} (h : w.var? Tryz.prog name = some x) (hb : ∀ g, g < w.heap.size → w'.heap[g]? = w.heap[g]? ∨ Tryz.prog.globalNamed name ≠ some g) : w'.var? Tryz.prog name = some x := by
  unfold World.var? at *
  cases hg : Tryz.prog.globalNamed name with
  | none => simp [hg] at h
  | some g =>
    simp only [hg, Option.bind_some] at h ⊢
    have hlt : g < w.heap.size := by
      rcases Nat.lt_or_ge g w.heap.size with h' | h'
      · exact h'
      · rw [Array.getElem?_eq_none h'] at h; simp at h
    rcases hb g hlt with h1 | h1
    · rw [h1]; exact h
    · exact absurd hg h1

/-- the globals' blocks lie ahead of the reader's -/
def Far (g : Nat) : Prop := ∀ name ∈ ["strings.asciiSpace", "internal/strconv.uint64pow10", "strconv.ErrSyntax", "strconv.ErrRange"], ∀ k, Tryz.prog.globalNamed name = some k → k < g

theorem Tabs2.keepM {w w' : World} {g : Nat} (h : Tabs2 w) (hk : KeepM g w w') (hf : Far g) : Tabs2 w' := by
  have key : ∀ name ∈ ["strings.asciiSpace", "internal/strconv.uint64pow10", "strconv.ErrSyntax", "strconv.ErrRange"], ∀ k, k < w.heap.size → w'.heap[k]? = w.heap[k]? ∨ Tryz.prog.globalNamed name ≠ some k := by
    intro name hn k hk2
    by_cases e : k = g
    · right
      intro h2
      have := hf name hn k h2
      omega
    · left; exact hk.block k e hk2
  obtain ⟨⟨h1, h2⟩, ⟨t3, p3, h3⟩, ⟨t4, p4, h4⟩⟩ := h
  exact ⟨⟨var_below h1 (key _ (by simp)), var_below h2 (key _ (by simp))⟩, ⟨t3, p3, var_below h3 (key _ (by simp))⟩, ⟨t4, p4, var_below h4 (key _ (by simp))⟩⟩

theorem Tabs2.below {w w' : World} (h : Tabs2 w) (hb : Below w.heap.size w w') : Tabs2 w' := by
  obtain ⟨⟨h1, h2⟩, ⟨t3, p3, h3⟩, ⟨t4, p4, h4⟩⟩ := h
  have key : ∀ (name : String) (k : Nat), k < w.heap.size → w'.heap[k]? = w.heap[k]? ∨ Tryz.prog.globalNamed name ≠ some k := fun _ k hk => .inl (hb.block k hk)
  exact ⟨⟨var_below h1 (key _), var_below h2 (key _)⟩, ⟨t3, p3, var_below h3 (key _)⟩, ⟨t4, p4, var_below h4 (key _)⟩⟩

theorem Tabs2.far {w : World} {g : Nat} (h : Tabs2 w) (hg : w.heap.size ≤ g) : Far g := by
  have key : ∀ (name : String) (x : Array Value), w.var? Tryz.prog name = some x → ∀ k, Tryz.prog.globalNamed name = some k → k < g := by
    intro name x hx k hk
    unfold World.var? at hx
    rw [hk] at hx
    simp only [Option.bind_some] at hx
    have hlt : k < w.heap.size := by
      rcases Nat.lt_or_ge k w.heap.size with h' | h'
      · exact h'
      · rw [Array.getElem?_eq_none h'] at hx; simp at hx
    omega
  obtain ⟨⟨h1, h2⟩, ⟨t3, p3, h3⟩, ⟨t4, p4, h4⟩⟩ := h
  intro name hn
  simp only [List.mem_cons, List.not_mem_nil, or_false] at hn
  rcases hn with rfl | rfl | rfl | rfl
  · exact key _ _ h1
  · exact key _ _ h2
  · exact key _ _ h3
  · exact key _ _ h4

end

end Go.Proofs.YthdicdkgfmiepaaGreatDoor

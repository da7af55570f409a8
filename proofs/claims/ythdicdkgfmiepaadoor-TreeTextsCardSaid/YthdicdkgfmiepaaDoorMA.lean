/- What stays while one block is written: all but it. Which op a word is: gantletref6.Op. Plain: what strconv.ParseInt makes of decimal texts; the place of a byte; a text ahead. The readers' small functions: eat, number; until. tree.Op. tree.Op; the program's reader of a number. -/
import Derived.Test.YthdicdkgfmiepaaDoorRuQ
import Derived.Laws.Tables
import Derived.Test.YthdicdkgfmiepaaDoorRuR
import Derived.OwnWalk
import Derived.Test.YthdicdkgfmiepaaDoorCzN
import Derived.Test.YthdicdkgfmiepaaDoorTnA
import Derived.Lib.ParseIntB
import Derived.Lib.IndexLaws
import Derived.Lib.ParseIntBTie
import Derived.Test.YthdicdkgfmiepaaDoorTtC
import Derived.Test.YthdicdkgfmiepaaDoorOrdH
import Derived.Shelf.Strconv.ErrVarParseInt
namespace Go.Proofs.YthdicdkgfmiepaaDoor

/- What stays while one block is written: all but it. -/
section
open Go.RowKit

theorem Own.far {w w' : World} {B : Nat} {ok : Nat → Prop} {e : TypeId} {z : Nat} {v : Value} {ds : List D} (h : Own w B ok e z v ds) (hok : ∀ g, ok g → B ≤ g) (hk : ∀ g, B ≤ g → g < w.heap.size → w'.heap[g]? = w.heap[g]?) : Own w' B ok e z v ds := by
  obtain ⟨xs, h1, h2⟩ := h
  refine ⟨xs, ⟨h1.1, ?_⟩, Cells.keep (fun g hg hl => hg) (fun g hg hl => hk g (hok g hg.1) hl) h2⟩
  rcases h1.2 with h3 | ⟨g, cap, cur, hvv, hbb, hh, hr⟩
  · exact .inl h3
  · exact .inr ⟨g, cap, cur, hvv, hbb, (hk g hbb (lt_of_block hh)).trans hh, hr⟩

/-- all that was there is as it was, but for block gm -/
structure KeepM (gm : Nat) (w w' : World) : Prop where
  os : w'.os = w.os
  tape : w'.tape = w.tape
  output : w'.output = w.output
  size : w.heap.size ≤ w'.heap.size
  block : ∀ g, g ≠ gm → g < w.heap.size → w'.heap[g]? = w.heap[g]?

section
variable {gm : Nat} {w w' w2 : World}
theorem KeepM.refl (gm : Nat) (w : World) : KeepM gm w w := ⟨rfl, rfl, rfl, Nat.le_refl _, fun _ _ _ => rfl⟩
theorem KeepM.trans (h : KeepM gm w w') (k : KeepM gm w' w2) : KeepM gm w w2 :=
  ⟨k.os.trans h.os, k.tape.trans h.tape, k.output.trans h.output, Nat.le_trans h.size k.size, fun g hg hl => (k.block g hg (Nat.lt_of_lt_of_le hl h.size)).trans (h.block g hg hl)⟩
theorem KeepM.of (h : Below w.heap.size w w') : KeepM gm w w' := ⟨h.os, h.tape, h.output, h.size, fun g _ hl => h.block g hl⟩
theorem KeepM.alloc (h : KeepM gm w w') (o : Obj) : KeepM gm w (w'.alloc o) := h.trans (KeepM.of (below_alloc _ _))
theorem KeepM.drew (h : KeepM gm w w') : KeepM gm w w'.drew := ⟨h.os, h.tape, h.output, h.size, h.block⟩
theorem KeepM.drewN (h : KeepM gm w w') (n : Nat) : KeepM gm w (w'.drewN n) := ⟨h.os, h.tape, h.output, h.size, h.block⟩
theorem KeepM.setCell (h : KeepM gm w w') {p : Addr} (hp : w.heap.size ≤ p.block) (u : Value) : KeepM gm w (w'.setCell p u) :=
  ⟨h.os, h.tape, h.output, by simp [World.setCell]; exact h.size, fun g hg hl => (heap_setCell_other _ _ _ _ (by omega)).trans (h.block g hg hl)⟩
theorem KeepM.setRow (h : KeepM gm w w') {g : Nat} (hp : w.heap.size ≤ g) (cs : Array Value) : KeepM gm w (w'.setRow g cs) :=
  ⟨h.os, h.tape, h.output, by simp; exact h.size, fun k hk hl => (setRow_other w' g k cs (by omega)).trans (h.block k hk hl)⟩
theorem KeepM.below (h : KeepM gm w w') (hm : gm ≤ w.heap.size) : Below gm w w' := ⟨h.os, h.tape, h.output, h.size, fun g hg => h.block g (by omega) (by omega)⟩
theorem BlkIs.keepM {g : Nat} {t : TypeId} {cs : Array Value} (h : BlkIs w g t cs) (hk : KeepM gm w w') (hg : g ≠ gm) : BlkIs w' g t cs := (hk.block g hg h.lt).trans h
theorem Rep.keepM {ok : Nat → Prop} {d : D} {cs : List Value} (h : Rep w ok d cs) (hk : KeepM gm w w') (hok : ∀ g, ok g → g ≠ gm) : Rep w' ok d cs := Rep.keep (fun _ h _ => h) (fun g hg hl => hk.block g (hok g hg) hl) d cs h
theorem cell_keepM {p : Addr} {v : Value} (h : w.cell? p = some v) (hk : KeepM gm w w') (hp : p.block ≠ gm) : w'.cell? p = some v := by
  have hl := World.block_lt_of_cell? _ _ h
  rw [← h]
  exact World.cell?_of_block (w := w) (hk.block _ hp hl)
theorem Own.keepM {B : Nat} {ok : Nat → Prop} {e : TypeId} {z : Nat} {v : Value} {ds : List D} (h : Own w B ok e z v ds) (hk : KeepM gm w w') (hB : gm < B) (hok : ∀ g, ok g → B ≤ g) : Own w' B ok e z v ds :=
  Own.far h hok fun g hg hl => hk.block g (by omega) hl
end

theorem KeepM.ownRow {gm : Nat} {w w' : World} (h : KeepM gm w w') (cs : Array Value) : KeepM gm w (w'.setRow gm cs) :=
  ⟨h.os, h.tape, h.output, by simp; exact h.size, fun k hk hl => (setRow_other w' gm k cs hk).trans (h.block k hk hl)⟩
theorem KeepM.own {gm : Nat} {w w' : World} (h : KeepM gm w w') (i : Nat) (u : Value) : KeepM gm w (w'.setCell ⟨gm, i, none⟩ u) :=
  ⟨h.os, h.tape, h.output, by simp [World.setCell]; exact h.size, fun k hk hl => (heap_setCell_other _ _ _ _ (by simpa using hk)).trans (h.block k hk hl)⟩
theorem BlkIs.fresh_at {w : World} {g : Nat} {cs : Array Value} {t : TypeId} (h : g = w.heap.size) : BlkIs (w.alloc (.cells cs t)) g t cs := by subst h; exact BlkIs.fresh _ _ _

end

/- Which op a word is: gantletref6.Op. -/
section
open Go.RowKit

def idxT (l : List (List UInt8)) (s : List UInt8) : Option Nat := l.findIdx? (· == s)

theorem idx_some {l : List (List UInt8)} {s : List UInt8} {k : Nat} (h : k < l.length) (hs : l[k] = s) (hn : ∀ j (hj : j < l.length), j < k → l[j] ≠ s) : idxT l s = some k := by
  unfold idxT
  rw [List.findIdx?_eq_some_iff_getElem]
  exact ⟨h, by simpa using hs, fun j hj => by simpa using hn j (by omega) hj⟩

theorem idx_none {l : List (List UInt8)} {s : List UInt8} (hn : ∀ j (hj : j < l.length), l[j] ≠ s) : idxT l s = none := by
  unfold idxT
  rw [List.findIdx?_eq_none_iff]
  intro x hx
  obtain ⟨j, hj, rfl⟩ := List.getElem_of_mem hx
  simpa using hn j hj

/-- a word's op; 0: none -/
def opT (s : List UInt8) : Int := match idxT opWords s with | some k => (k + 1 : Nat) | none => 0

set_option maxHeartbeats 2000000 in
theorem opW_any (s : List UInt8) (w : World) : Calls Tryd.prog 108 #[.string ⟨s.toArray⟩] w fun e w' => e = .returned (.int .i64 (opT s)) ∧ Below w.heap.size w w' := by
  go_enter Tryd.func108, Tryd.ntmps108
  go_wp2_with fail
  go_loopw [3] (fun i wr => ∃ k : Nat, 1 ≤ k ∧ k ≤ 37 ∧ i = .int .i64 k ∧ Below w.heap.size w wr ∧ Hid (∀ j (hj : j < opWords.length), j + 1 < k → opWords[j] ≠ s)) (fun i _ => 37 - (intOf i).toNat)
  case atStart => exact ⟨1, by omega, by omega, rfl, Below.refl _ _, Lib.hid (by omega)⟩
  case round =>
    obtain ⟨k, hk1, hk, rfl, hb, hno⟩ := hrel
    obtain ⟨wo, rfl⟩ : ∃ wo : World, wo = wr := ⟨_, rfl⟩
    by_cases hlt : k ≤ 36
    · have hkl : k - 1 < opWords.length := by show k - 1 < 36; omega
      have hW := fun W => refWord_any k hk1 hlt W
      have hyes := fun h => Lib.hid (idx_some hkl h (fun j hj hjk => hno.out j hj (by omega)))
      have hgd : opWords.getD (k - 1) [] = opWords[k - 1] := by rw [List.getD_eq_getElem?_getD, List.getElem?_eq_getElem hkl]; rfl
      obtain ⟨x, hx⟩ : ∃ x, Hid (opWords[k - 1] = x) := ⟨_, Lib.hid rfl⟩
      rw [hgd, hx.out] at hW
      rw [hx.out] at hyes
      go_wp2_with fail
      refine (hW _).mono ?_
      rintro e w1 ⟨rfl, hw1⟩
      have hb1 : Below w.heap.size w w1 := by rw [← hw1]; exact hb.alloc hb.size _
      clear hw1 hW
      by_cases hxs : x = s
      · subst hxs
        have hres := hyes rfl
        clear hyes
        go_wp2_with fail
        go_ret
        refine ⟨?_, hb1⟩
        unfold opT
        rw [hres.out]
        show Ending.returned (Value.int .i64 k) = .returned (.int .i64 ((k - 1 + 1 : Nat) : Int))
        rw [Nat.sub_add_cancel hk1]
      · have hne : (x == s) = false := by simpa using hxs
        clear hyes
        go_wp2_with fail
        go_roundw
        case rel => exact ⟨k + 1, by omega, by omega, by go_num, hb1, Lib.hid (fun j hj hjk => by
          by_cases e : j = k - 1
          · subst e; rw [hx.out]; exact hxs
          · exact hno.out j hj (by omega))⟩
        case measure => simp [intOf]; omega
    · have hres := Lib.hid (idx_none (s := s) (fun j hj => hno.out j hj (by have : j < 36 := hj; omega)))
      go_wp2_with fail
      go_ret
      exact ⟨by unfold opT; rw [hres.out]; rfl, hb⟩

theorem opT_in (s : List UInt8) : 0 ≤ opT s ∧ opT s ≤ 36 := by
  unfold opT
  cases h : idxT opWords s with
  | none => simp
  | some k =>
    unfold idxT at h
    have := (List.findIdx?_eq_some_iff_getElem.1 h).1
    have h2 : opWords.length = 36 := rfl
    simp only
    omega

end

/- Plain: what strconv.ParseInt makes of decimal texts; the place of a byte; a text ahead. -/
section
open Go.RowKit

open Go.Lib in
theorem uintM_snoc (M : Nat) (c : UInt8) : ∀ (l : List UInt8) (acc u : Nat), parseUintM M acc l = .ok u → parseUintM M acc (l ++ [c]) = parseUintM M u [c]
  | [], acc, u, h => by
    unfold parseUintM at h
    injection h with h
    subst h
    rfl
  | d :: l, acc, u, h => by
    rw [List.cons_append]
    unfold parseUintM at h ⊢
    split at h
    · rename_i h1
      rw [if_pos h1]
      split at h
      · cases h
      · rename_i h2
        rw [if_neg h2]
        split at h
        · cases h
        · rename_i h3
          rw [if_neg h3]
          exact uintM_snoc M c l _ u h
    · cases h

open Go.Lib in
theorem uintM_digs (n : Nat) (h : n < 18446744073709551616) : parseUintM (2 ^ 64 - 1) 0 (digs n) = .ok n := by
  induction n using Nat.strongRecOn with
  | ind n ih =>
    have one : ∀ (u d : Nat), d < 10 → u < 1844674407370955162 → u * 10 + d < 18446744073709551616 → parseUintM (2 ^ 64 - 1) u [dg d] = .ok (u * 10 + d) := by
      intro u d hd hu hs
      unfold parseUintM
      rw [dg_nat d hd, if_pos (by omega), if_neg (by omega), show 48 + d - 48 = d by omega, if_neg (by omega)]
      rfl
    by_cases h10 : n < 10
    · rw [digs_lt h10]
      have := one 0 n h10 (by omega) (by omega)
      rw [this]
      congr 1
      omega
    · rw [digs_ge h10, uintM_snoc _ _ _ _ _ (ih (n / 10) (by omega) (by omega)), one (n / 10) (n % 10) (by omega) (by omega) (by omega)]
      congr 1
      omega

open Go.Lib in
theorem parse_dec (v : Int) (hv : -9223372036854775808 ≤ v ∧ v ≤ 9223372036854775807) : parseIntB 64 (decT v) = .ok v := by
  have hd := uintM_digs v.natAbs (by omega)
  have hp := digs_pos v.natAbs
  have ha := digs_all v.natAbs
  unfold decT
  cases hl : digs v.natAbs with
  | nil => rw [hl] at hp; simp at hp
  | cons c r =>
    rw [hl] at hd ha
    have hc : 48 ≤ c.toNat ∧ c.toNat ≤ 57 := (isDg_iff c).1 (List.all_eq_true.1 ha c (by simp))
    by_cases hn : v < 0
    · rw [if_pos hn]
      unfold parseIntB
      have e1 : (45 : UInt8).toNat = 45 := rfl
      simp only [e1, or_true, if_true]
      unfold parseUintB
      rw [if_neg (by simp), hd]
      simp only [not_true_eq_false, false_and, if_false, true_and]
      rw [if_neg (by omega)]
      congr 1
      omega
    · rw [if_neg hn]
      unfold parseIntB
      have e1 : ¬ c.toNat = 43 := by omega
      have e2 : ¬ c.toNat = 45 := by omega
      simp only [e1, e2, or_self, if_false]
      unfold parseUintB
      rw [if_neg (by simp), hd]
      simp only [not_false_eq_true, true_and, false_and, if_false]
      rw [if_neg (by omega)]
      congr 1
      omega

/-- what the program's number makes of a text is what the reference's does -/
theorem numT_parse (s : List UInt8) : (∃ v, numT s = some v ∧ Lib.parseIntB 64 s = .ok v ∧ decT v = s ∧ I64r v) ∨ (numT s = none ∧ ∀ v, Lib.parseIntB 64 s = .ok v → decT v ≠ s ∧ I64r v) := by
  cases h : numT s with
  | some v =>
    obtain ⟨h1, h2⟩ := num_text h
    refine .inl ⟨v, rfl, ?_, h1.symm, h2⟩
    rw [h1]
    exact parse_dec v h2
  | none =>
    refine .inr ⟨rfl, fun v hv => ?_⟩
    have hb := Lib.parseIntB_bounds hv
    have hr : I64r v := by unfold I64r; constructor <;> omega
    refine ⟨fun he => ?_, hr⟩
    rw [← he, num_dec v hr] at h
    cases h

/-- the place of a byte -/
def idxB (c : UInt8) (s : List UInt8) : Option Nat := s.findIdx? (· == c)
theorem idxB_some {c : UInt8} {s : List UInt8} {k : Nat} (h : k < s.length) (hs : s[k] = c) (hn : ∀ j (hj : j < s.length), j < k → s[j] ≠ c) : idxB c s = some k := by
  unfold idxB
  rw [List.findIdx?_eq_some_iff_getElem]
  exact ⟨h, by simpa using hs, fun j hj => by simpa using hn j (by omega) hj⟩
theorem idxB_none {c : UInt8} {s : List UInt8} (hn : ∀ j (hj : j < s.length), s[j] ≠ c) : idxB c s = none := by
  unfold idxB
  rw [List.findIdx?_eq_none_iff]
  intro x hx
  obtain ⟨j, hj, rfl⟩ := List.getElem_of_mem hx
  simpa using hn j hj
theorem idxB_lt {c : UInt8} {s : List UInt8} {k : Nat} (h : idxB c s = some k) : k < s.length := (List.findIdx?_eq_some_iff_getElem.1 h).1
theorem idxB_at {c : UInt8} {s : List UInt8} {k : Nat} (h : idxB c s = some k) : s[k]'(idxB_lt h) = c := by
  have := (List.findIdx?_eq_some_iff_getElem.1 h).2.1
  simpa using this

theorem index_idxB (c : UInt8) (s : List UInt8) : Lib.indexByte s c = match idxB c s with | some k => (k : Int) | none => -1 := by
  unfold idxB
  induction s with
  | nil => rfl
  | cons b l ih =>
    unfold Lib.indexByte
    rw [List.findIdx?_cons]
    by_cases hb : (b == c) = true
    · rw [if_pos hb, if_pos hb]; rfl
    · rw [if_neg hb, if_neg hb, ih]
      cases hf : List.findIdx? (fun x => x == c) l with
      | none => rfl
      | some k =>
        simp only [Option.map_some]
        rw [if_neg (by simp)]
        rfl

end

/- The readers' small functions: eat, number; until. tree.Op. -/
section
open Go.RowKit

/-- is b ahead of s? -/
def aheadB (b s : List UInt8) : Bool := s.take b.length == b
theorem prefix_ahead (s b : List UInt8) : Lib.hasPrefix s b = aheadB b s := by
  unfold Lib.hasPrefix aheadB
  rw [Bool.eq_iff_iff, List.isPrefixOf_iff_prefix, List.prefix_iff_eq_take, beq_iff_eq]
  exact ⟨fun h => h.symm, fun h => h.symm⟩

/-- a reader's two cells -/
def RdP (w : World) (g : Nat) (s : List UInt8) (m : Int) : Prop := BlkIs w g 96 #[.string ⟨s.toArray⟩, .int .i64 m]
def RdR (w : World) (g : Nat) (s : List UInt8) (m : Int) : Prop := BlkIs w g 100 #[.string ⟨s.toArray⟩, .int .i64 m]

theorem RdP.putS {w : World} {g : Nat} {s y : List UInt8} {m : Int} (h : RdP w g s m) : RdP (w.setCell ⟨g, 0, none⟩ (.string ⟨y.toArray⟩)) g y m := BlkIs.put h 0 _
theorem RdP.putM {w : World} {g : Nat} {s : List UInt8} {m m' : Int} (h : RdP w g s m) : RdP (w.setCell ⟨g, 1, none⟩ (.int .i64 m')) g s m' := BlkIs.put h 1 _
theorem RdR.putS {w : World} {g : Nat} {s y : List UInt8} {m : Int} (h : RdR w g s m) : RdR (w.setCell ⟨g, 0, none⟩ (.string ⟨y.toArray⟩)) g y m := BlkIs.put h 0 _
theorem RdR.putM {w : World} {g : Nat} {s : List UInt8} {m m' : Int} (h : RdR w g s m) : RdR (w.setCell ⟨g, 1, none⟩ (.int .i64 m')) g s m' := BlkIs.put h 1 _

def eatRest (b s : List UInt8) : List UInt8 := if aheadB b s = true then s.drop b.length else s

set_option maxHeartbeats 1000000 in
theorem eat_any (g : Nat) (s b : List UInt8) (m : Int) (w : World) (hr : RdP w g s m) : Calls Tryd.prog 106 #[.pointer (some ⟨g, 0, none⟩), .string ⟨b.toArray⟩] w fun e w' => e = .returned (.bool (aheadB b s)) ∧ KeepM g w w' ∧ RdP w' g (eatRest b s) m := by
  have c0 : w.cell? ⟨g, 0, none⟩ = some (.string ⟨s.toArray⟩) := BlkIs.cell hr 0
  have f0 := BlkIs.frozen hr 0
  have hl : g < w.heap.size := BlkIs.lt hr
  have hc := fun W => Tryd.strings_CutPrefix ⟨s.toArray⟩ ⟨b.toArray⟩ W
  have hx : Lib.trimPrefix s b = eatRest b s := by unfold Lib.trimPrefix eatRest; rw [prefix_ahead]
  simp only at hc
  rw [hx, prefix_ahead] at hc
  have HR := Lib.hid hr
  clear hr hx
  cases ha : aheadB b s
  · have he : Hid (eatRest b s = s) := Lib.hid (by unfold eatRest; rw [ha]; rfl)
    rw [ha] at hc
    clear ha
    obtain ⟨x, hx⟩ : ∃ x, Hid (eatRest b s = x) := ⟨_, Lib.hid rfl⟩
    rw [hx.out] at hc
    go_enter Tryd.func106, Tryd.ntmps106
    go_wp2_with (go_at_call 125; refine (hc _).mono ?_; rintro e w1 ⟨rfl, rfl⟩)
    go_ret
    exact ⟨rfl, KeepM.refl _ _, by rw [he.out]; exact HR.out⟩
  · rw [ha] at hc
    clear ha
    obtain ⟨x, hx⟩ : ∃ x, Hid (eatRest b s = x) := ⟨_, Lib.hid rfl⟩
    rw [hx.out] at hc ⊢
    go_enter Tryd.func106, Tryd.ntmps106
    go_wp2_with (go_at_call 125; refine (hc _).mono ?_; rintro e w1 ⟨rfl, rfl⟩)
    go_ret
    exact ⟨rfl, (KeepM.refl _ _).own 0 _, HR.out.putS⟩

theorem ext_head (s : List UInt8) (k : Nat) : (ByteArray.mk s.toArray).extract 0 k = ⟨(s.take k).toArray⟩ := by rw [ext_list]; simp
theorem ext_tail (s : List UInt8) (k n : Nat) (hn : s.length = n) : (ByteArray.mk s.toArray).extract k n = ⟨(s.drop k).toArray⟩ := by
  rw [ext_list, List.take_of_length_le (by rw [List.length_drop]; omega)]

/-- what is ahead of a byte, passed with it -/
def UntilRet (c : UInt8) (s : List UInt8) (g : Nat) (m : Int) (w : World) (e : Ending) (w' : World) : Prop :=
  match idxB c s with
  | none => e = .returned (.tuple #[.string ⟨#[]⟩, .bool false]) ∧ w' = w
  | some k => e = .returned (.tuple #[.string ⟨(s.take k).toArray⟩, .bool true]) ∧ KeepM g w w' ∧ RdR w' g (s.drop (k + 1)) m

set_option maxRecDepth 100000 in
set_option maxHeartbeats 2000000 in
theorem until_any (g : Nat) (c : UInt8) (s : List UInt8) (m : Int) (hs : s.length ≤ 140737488355328) (w : World) (hr : RdR w g s m) : Calls Tryd.prog 107 #[.pointer (some ⟨g, 0, none⟩), .int .u8 c.toNat] w (UntilRet c s g m w) := by
  have c0 : w.cell? ⟨g, 0, none⟩ = some (.string ⟨s.toArray⟩) := BlkIs.cell hr 0
  have f0 := BlkIs.frozen hr 0
  have hl : g < w.heap.size := BlkIs.lt hr
  have HR := Lib.hid hr
  clear hr
  obtain ⟨n, hn⟩ : ∃ n, Hid (s.length = n) := ⟨_, Lib.hid rfl⟩
  have hsz : (⟨s.toArray⟩ : ByteArray).size = n := by rw [← hn.out]; simp [ByteArray.size]
  rw [hn.out] at hs
  go_enter Tryd.func107, Tryd.ntmps107
  go_wp2_with fail
  go_loopw [6] (fun i wr => ∃ k : Nat, k ≤ n ∧ i = .int .i64 k ∧ w = wr ∧ Hid (∀ j (hj : j < s.length), j < k → s[j] ≠ c)) (fun i _ => n - (intOf i).toNat)
  case atStart => exact ⟨0, by omega, rfl, rfl, Lib.hid (by omega)⟩
  case round =>
    obtain ⟨k, hk, rfl, rfl, hno⟩ := hrel
    by_cases hlt : k < n
    · have hkl : k < s.length := by rw [hn.out]; exact hlt
      have hyes := fun h => Lib.hid (idxB_some hkl h hno.out)
      obtain ⟨x, hx⟩ : ∃ x, Hid (s[k] = x) := ⟨_, Lib.hid rfl⟩
      have hget : ((⟨s.toArray⟩ : ByteArray)[k]'(by rw [hsz]; exact hlt)) = x := hx.out
      rw [hx.out] at hyes
      have e1 := ext_head s k
      have e2 := ext_tail s (k + 1) n hn.out
      by_cases hxs : x = c
      · have hE : ((x.toNat : Int) == (c.toNat : Int)) = true := by subst hxs; simp
        have hres := hyes hxs
        clear hyes hxs
        go_wp2_with fail
        go_ret2
        unfold UntilRet
        rw [hres.out]
        exact ⟨rfl, (KeepM.refl _ _).own 0 _, HR.out.putS⟩
      · have hE : ((x.toNat : Int) == (c.toNat : Int)) = false := by
          rw [beq_eq_false_iff_ne]
          intro h
          exact hxs (UInt8.toNat_inj.1 (by omega))
        clear hyes
        have HX := Lib.hid hxs
        clear hxs
        go_wp2_with fail
        go_roundw
        case rel => exact ⟨k + 1, by omega, by go_num, by first | trivial | rfl, Lib.hid (fun j hj hjk => by
          by_cases e : j = k
          · subst e; rw [hx.out]; exact HX.out
          · exact hno.out j hj (by omega))⟩
        case measure => simp [intOf]; omega
    · have hres := Lib.hid (idxB_none (s := s) (c := c) (fun j hj => hno.out j hj (by rw [hn.out] at hj; omega)))
      go_wp2_with fail
      go_ret2
      unfold UntilRet
      rw [hres.out]
      exact ⟨rfl, rfl⟩

end

/- tree.Op; the program's reader of a number. -/
section
open Go.RowKit

set_option maxHeartbeats 2000000 in
theorem topW_any (s : List UInt8) (w : World) (ht : Tab w) : Calls Tryd.prog 103 #[.string ⟨s.toArray⟩] w fun e w' => e = .returned (.int .i64 (opT s)) ∧ Below w.heap.size w w' := by
  have hn := fun W => opWords_any W
  go_enter Tryd.func103, Tryd.ntmps103
  go_wp2_with fail
  refine (hn _ ht).mono ?_
  rintro e w1 ⟨rfl, rfl⟩
  have hb := (BlkIs.fresh w 9 (strCells opWords).toArray)
  have hbl := below_alloc w (.cells (strCells opWords).toArray 9)
  obtain ⟨w1, hw1⟩ : ∃ W, w.alloc (.cells (strCells opWords).toArray 9) = W := ⟨_, rfl⟩
  rw [hw1] at hb hbl ⊢
  clear hw1
  go_wp2_with fail
  go_loopw [7] (fun i wr => ∃ k : Nat, k ≤ 36 ∧ i = .int .i64 k ∧ w1 = wr ∧ Hid (∀ j (hj : j < opWords.length), j < k → opWords[j] ≠ s)) (fun i _ => 36 - (intOf i).toNat)
  case atStart => exact ⟨0, by omega, rfl, rfl, Lib.hid (by omega)⟩
  case round =>
    obtain ⟨k, hk, rfl, rfl, hno⟩ := hrel
    by_cases hlt : k < 36
    · have hkl : k < opWords.length := hlt
      have hc : w1.cell? ⟨w.heap.size, k, none⟩ = some (.string ⟨opWords[k].toArray⟩) := (hb.cell k).trans (by simp [strCells, List.getElem?_eq_getElem hkl])
      have hyes := fun h => Lib.hid (idx_some hkl h hno.out)
      obtain ⟨x, hx⟩ : ∃ x, Hid (opWords[k] = x) := ⟨_, Lib.hid rfl⟩
      rw [hx.out] at hc hyes
      by_cases hxs : x = s
      · subst hxs
        have hres := hyes rfl
        clear hyes
        go_wp2_with fail
        go_ret
        exact ⟨by unfold opT; rw [hres.out]; simp; omega, hbl⟩
      · have hne : (x == s) = false := by simpa using hxs
        clear hyes
        go_wp2_with fail
        go_roundw
        case rel => exact ⟨k + 1, by omega, by go_num, by first | trivial | rfl, Lib.hid (fun j hj hjk => by
          by_cases e : j = k
          · subst e; rw [hx.out]; exact hxs
          · exact hno.out j hj (by omega))⟩
        case measure => simp [intOf]; omega
    · have hres := Lib.hid (idx_none (s := s) (fun j hj => hno.out j hj (by have : j < 36 := hj; omega)))
      go_wp2_with fail
      go_ret
      exact ⟨by unfold opT; rw [hres.out]; rfl, hbl⟩

/-- the library's errors are there, too -/
def ErrVar (w : World) (name : String) : Prop := ∃ tp p, w.var? Tryd.prog name = some #[.iface tp p]
def Tabs2 (w : World) : Prop := Tabs w ∧ ErrVar w "strconv.ErrSyntax" ∧ ErrVar w "strconv.ErrRange"
theorem var_below {w w' : World} {name : String} {x : Array Value} (h : w.var? Tryd.prog name = some x) (hb : ∀ g, g < w.heap.size → w'.heap[g]? = w.heap[g]? ∨ Tryd.prog.globalNamed name ≠ some g) : w'.var? Tryd.prog name = some x := by
  unfold World.var? at *
  cases hg : Tryd.prog.globalNamed name with
  | none => simp [hg] at h
  | some g =>
    simp only [hg, Option.bind_some] at h ⊢
    have hlt : g < w.heap.size := by
      rcases Nat.lt_or_ge g w.heap.size with h' | h'
      · exact h'
      · rw [Array.getElem?_eq_none h'] at h; simp at h
    rcases hb g hlt with h1 | h1
    · rw [h1]; exact h
    · exact absurd hg h1

/-- the globals' blocks lie ahead of the reader's -/
def Far (g : Nat) : Prop := ∀ name ∈ ["strings.asciiSpace", "internal/strconv.uint64pow10", "strconv.ErrSyntax", "strconv.ErrRange"], ∀ k, Tryd.prog.globalNamed name = some k → k < g
theorem Tabs2.keepM {w w' : World} {g : Nat} (h : Tabs2 w) (hk : KeepM g w w') (hf : Far g) : Tabs2 w' := by
  have key : ∀ name ∈ ["strings.asciiSpace", "internal/strconv.uint64pow10", "strconv.ErrSyntax", "strconv.ErrRange"], ∀ k, k < w.heap.size → w'.heap[k]? = w.heap[k]? ∨ Tryd.prog.globalNamed name ≠ some k := by
    intro name hn k hk2
    by_cases e : k = g
    · right
      intro h2
      have := hf name hn k h2
      omega
    · left; exact hk.block k e hk2
  obtain ⟨⟨h1, h2⟩, ⟨t3, p3, h3⟩, ⟨t4, p4, h4⟩⟩ := h
  exact ⟨⟨var_below h1 (key _ (by simp)), var_below h2 (key _ (by simp))⟩, ⟨t3, p3, var_below h3 (key _ (by simp))⟩, ⟨t4, p4, var_below h4 (key _ (by simp))⟩⟩
theorem Tabs2.below {w w' : World} (h : Tabs2 w) (hb : Below w.heap.size w w') : Tabs2 w' := by
  obtain ⟨⟨h1, h2⟩, ⟨t3, p3, h3⟩, ⟨t4, p4, h4⟩⟩ := h
  have key : ∀ (name : String) (k : Nat), k < w.heap.size → w'.heap[k]? = w.heap[k]? ∨ Tryd.prog.globalNamed name ≠ some k := fun _ k hk => .inl (hb.block k hk)
  exact ⟨⟨var_below h1 (key _), var_below h2 (key _)⟩, ⟨t3, p3, var_below h3 (key _)⟩, ⟨t4, p4, var_below h4 (key _)⟩⟩

/-- the number ahead of a bracket, and where that is -/
def numR (s : List UInt8) : Option (Int × Nat) := match idxB 41 s with
  | none => none
  | some k => match numT (s.take k) with
    | none => none
    | some v => some (v, k)
def NumPRet (s : List UInt8) (g : Nat) (m : Int) (w : World) (e : Ending) (w' : World) : Prop := KeepM g w w' ∧ match numR s with
  | none => ∃ x : Int, e = .returned (.tuple #[.int .i64 x, .bool false])
  | some (v, k) => e = .returned (.tuple #[.int .i64 v, .bool true]) ∧ RdP w' g (s.drop k) m

set_option maxRecDepth 100000 in
set_option maxHeartbeats 4000000 in
theorem number_any (g : Nat) (s : List UInt8) (m : Int) (hs : s.length ≤ 140737488355328) (w : World) (hr : RdP w g s m) (ht : Tabs2 w) : Calls Tryd.prog 104 #[.pointer (some ⟨g, 0, none⟩)] w (NumPRet s g m w) := by
  have c0 : w.cell? ⟨g, 0, none⟩ = some (.string ⟨s.toArray⟩) := BlkIs.cell hr 0
  have hl : g < w.heap.size := BlkIs.lt hr
  have HR := Lib.hid hr
  have HT := Lib.hid ht
  have hi := fun W => (Tryd.strings_IndexByte ⟨s.toArray⟩ 41 W).mono (fun _ _ h => And.intro h.1 h.2.symm)
  have hie : Lib.indexByte s ((41 : Int).toNat.toUInt8) = Lib.indexByte s 41 := rfl
  simp only at hi
  rw [hie, index_idxB] at hi
  clear hr ht hie
  unfold NumPRet numR
  obtain ⟨n, hn⟩ : ∃ n, Hid (s.length = n) := ⟨_, Lib.hid rfl⟩
  have hsz : (⟨s.toArray⟩ : ByteArray).size = n := by rw [← hn.out]; simp [ByteArray.size]
  have hn2 : n ≤ 140737488355328 := by rw [← hn.out]; exact hs
  cases hix : idxB 41 s with
  | none =>
    rw [hix] at hi
    clear hix
    go_enter Tryd.func104, Tryd.ntmps104
    go_wp2_with (go_at_call 102; refine (hi _).mono ?_; rintro e w9 ⟨rfl, rfl⟩)
    go_ret2
    exact ⟨KeepM.refl _ _, _, rfl⟩
  | some k =>
    have hkn : k < n := by rw [← hn.out]; exact idxB_lt hix
    rw [hix] at hi
    clear hix
    simp only at hi ⊢
    have e1 := ext_head s k
    have e2 := ext_tail s k n hn.out
    have hpr := numT_parse (s.take k)
    have hxl : (ByteArray.mk (s.take k).toArray).size ≤ 140737488355328 := by simp [ByteArray.size]; omega
    obtain ⟨x, hx⟩ : ∃ x, Hid (s.take k = x) := ⟨_, Lib.hid rfl⟩
    obtain ⟨y, hy⟩ : ∃ x, Hid (s.drop k = x) := ⟨_, Lib.hid rfl⟩
    rw [hx.out] at hpr e1 hxl ⊢
    rw [hy.out] at e2
    rcases hpr with ⟨v, hv1, hv2, hv3, hvr⟩ | ⟨hv1, hv2⟩
    · rw [hv1]
      simp only
      rw [hy.out]
      have hp := fun W => Tryd.strconv_ParseInt_10_at64_ok ⟨x.toArray⟩ (by omega) v hv2 W
      have hE : (decT v == x) = true := by rw [hv3]; simp
      have hE2 : (decT v != x) = false := by rw [hv3]; simp
      have H3 := Lib.hid hv3
      clear hv1 hv2 hv3
      go_enter Tryd.func104, Tryd.ntmps104
      go_upto_region 5 with (first | (go_at_call 102; refine (hi _).mono ?_; rintro e w9 ⟨rfl, rfl⟩) | (go_at_call 123; refine (hp _).mono ?_; rintro e w1 ⟨rfl, hw1⟩))
      have hb1 : Below w.heap.size w w1 := by
        rcases hw1 with rfl | ⟨t, rfl⟩
        · exact Below.refl _ _
        · exact Lib.bytesWorld_below _ _ _
      clear hw1
      have k0 := (hb1.cell (p := ⟨g, 0, none⟩) hl).trans c0
      have hl1 := hb1.size
      refine beginH (fun W' => Below w1.heap.size w1 W') (by kernel_rfl) ((Below.refl _ _).drew) (fun hHeld => ?_)
      refine takeH (i := 0) (d := some 24) (v := .nilIface) (by kernel_rfl) rfl rfl rfl (fun _ _ _ h => h) hHeld (fun W hSw => by go_simp) ?_
      simp only [Act.put, List.setIfInBounds_toArray, List.set_cons_zero, List.set_cons_succ]
      refine takeH (i := 1) (d := some 25) (v := .bool false) (by kernel_rfl) rfl rfl rfl (fun _ _ _ h => h) hHeld (fun W hSw => by go_simp) ?_
      simp only [Act.put, List.setIfInBounds_toArray, List.set_cons_zero, List.set_cons_succ]
      refine takeH (i := 2) (d := some 26) (v := .bool false) (by kernel_rfl) rfl rfl rfl (fun _ _ _ h => h) hHeld (fun W hSw => by go_simp) ?_
      simp only [Act.put, List.setIfInBounds_toArray, List.set_cons_zero, List.set_cons_succ]
      refine takeH (i := 3) (d := some 27) (v := .int .i64 v) (by kernel_rfl) rfl rfl rfl (fun _ _ _ h => h) hHeld (fun W hSw => by go_simp) ?_
      simp only [Act.put, List.setIfInBounds_toArray, List.set_cons_zero, List.set_cons_succ]
      refine takeH (i := 5) (d := some 29) (v := .pointer (some ⟨g, 0, none⟩)) (by kernel_rfl) rfl rfl rfl (fun _ _ _ h => h) hHeld (fun W hSw => by go_simp) ?_
      simp only [Act.put, List.setIfInBounds_toArray, List.set_cons_zero, List.set_cons_succ]
      refine takeH (i := 6) (d := some 30) (v := .pointer (some ⟨g, 0, none⟩)) (by kernel_rfl) rfl rfl rfl (fun _ _ _ h => h) hHeld (fun W hSw => by go_simp) ?_
      simp only [Act.put, List.setIfInBounds_toArray, List.set_cons_zero, List.set_cons_succ]
      refine takeH (i := 7) (d := some 31) (v := .pointer (some ⟨g, 0, none⟩)) (by kernel_rfl) rfl rfl rfl (fun _ _ _ h => h) hHeld (fun W hSw => by go_simp) ?_
      simp only [Act.put, List.setIfInBounds_toArray, List.set_cons_zero, List.set_cons_succ]
      refine takeH (i := 8) (d := some 32) (v := .string ⟨s.toArray⟩) (by kernel_rfl) rfl rfl rfl (fun _ _ _ h => h) hHeld (fun W hSw => by have x0 := (hSw.cell (p := ⟨g, 0, none⟩) (by show g < _; omega)).trans k0; go_simp) ?_
      simp only [Act.put, List.setIfInBounds_toArray, List.set_cons_zero, List.set_cons_succ]
      refine takeH (i := 9) (d := some 33) (v := .int .i64 k) (by kernel_rfl) rfl rfl rfl (fun _ _ _ h => h) hHeld (fun W hSw => by go_simp) ?_
      simp only [Act.put, List.setIfInBounds_toArray, List.set_cons_zero, List.set_cons_succ]
      refine takeH (i := 10) (d := some 34) (v := .string ⟨x.toArray⟩) (by kernel_rfl) rfl rfl rfl (fun _ _ _ h => h) hHeld (fun W hSw => by go_simp; intro h; omega) ?_
      simp only [Act.put, List.setIfInBounds_toArray, List.set_cons_zero, List.set_cons_succ]
      refine onlyH (i := 4) (d := some 28) (by kernel_rfl) rfl rfl rfl (fun K' hK => ?_)
      refine wp_go_call 124 _ _ rfl #[.int .i64 v, .int .i64 10] rfl (fun W' => by go_simp) (Tryd.strconv_FormatInt_10 v hvr.1 hvr.2 _ (HT.out.below (hb1.trans (hHeld.mono hb1.size))).1.2) (fun e wg he => ?_)
      obtain ⟨rfl, q, os, hwg⟩ := he
      have hbg : Below w1.heap.size w1 wg := by rw [hwg]; exact hHeld.trans (Lib.below_grow _ _ hHeld.size q os)
      clear hwg
      rw [itoa_dec]
      refine ⟨_, rfl, hK.out _ _ hbg (fun hHeld => ?_)⟩
      simp only [Act.put, List.setIfInBounds_toArray, List.set_cons_zero, List.set_cons_succ]
      refine takeH (i := 11) (d := some 35) (v := .bool false) (by kernel_rfl) rfl rfl rfl (fun _ _ _ h => h) hHeld (fun W hSw => by go_simp) ?_
      simp only [Act.put, List.setIfInBounds_toArray, List.set_cons_zero, List.set_cons_succ]
      refine takeH (i := 12) (d := some 36) (v := .bool false) (by kernel_rfl) rfl rfl rfl (fun _ _ _ h => h) hHeld (fun W hSw => by go_simp) ?_
      simp only [Act.put, List.setIfInBounds_toArray, List.set_cons_zero, List.set_cons_succ]
      refine wpAnyH_done (by kernel_rfl) ?_ _
      have hb2 := hb1.trans (hHeld.mono hb1.size)
      have r2 : RdP wg g s m := BlkIs.below HR.out hb2 hl
      have x0 : wg.cell? ⟨g, 0, none⟩ = some (.string ⟨s.toArray⟩) := BlkIs.cell r2 0
      have x1 := BlkIs.frozen r2 0
      have x2 : g < wg.heap.size := BlkIs.lt r2
      go_wp2_with fail
      go_ret2
      exact ⟨(KeepM.of hb2).own 0 _, rfl, r2.putS⟩
    · rw [hv1]
      simp only
      rcases hpe : Lib.parseIntB 64 x with v | _ | _
      · obtain ⟨hne, hvr⟩ := hv2 v hpe
        have hp := fun W => Tryd.strconv_ParseInt_10_at64_ok ⟨x.toArray⟩ (by omega) v hpe W
        have hE : (decT v == x) = false := by simpa using hne
        have hE2 : (decT v != x) = true := by simpa using hne
        clear hv1 hv2 hpe hne
        go_enter Tryd.func104, Tryd.ntmps104
        go_upto_region 5 with (first | (go_at_call 102; refine (hi _).mono ?_; rintro e w9 ⟨rfl, rfl⟩) | (go_at_call 123; refine (hp _).mono ?_; rintro e w1 ⟨rfl, hw1⟩))
        have hb1 : Below w.heap.size w w1 := by
          rcases hw1 with rfl | ⟨t, rfl⟩
          · exact Below.refl _ _
          · exact Lib.bytesWorld_below _ _ _
        clear hw1
        have k0 := (hb1.cell (p := ⟨g, 0, none⟩) hl).trans c0
        have hl1 := hb1.size
        refine beginH (fun W' => Below w1.heap.size w1 W') (by kernel_rfl) ((Below.refl _ _).drew) (fun hHeld => ?_)
        refine takeH (i := 0) (d := some 24) (v := .nilIface) (by kernel_rfl) rfl rfl rfl (fun _ _ _ h => h) hHeld (fun W hSw => by go_simp) ?_
        simp only [Act.put, List.setIfInBounds_toArray, List.set_cons_zero, List.set_cons_succ]
        refine takeH (i := 1) (d := some 25) (v := .bool false) (by kernel_rfl) rfl rfl rfl (fun _ _ _ h => h) hHeld (fun W hSw => by go_simp) ?_
        simp only [Act.put, List.setIfInBounds_toArray, List.set_cons_zero, List.set_cons_succ]
        refine takeH (i := 2) (d := some 26) (v := .bool false) (by kernel_rfl) rfl rfl rfl (fun _ _ _ h => h) hHeld (fun W hSw => by go_simp) ?_
        simp only [Act.put, List.setIfInBounds_toArray, List.set_cons_zero, List.set_cons_succ]
        refine takeH (i := 3) (d := some 27) (v := .int .i64 v) (by kernel_rfl) rfl rfl rfl (fun _ _ _ h => h) hHeld (fun W hSw => by go_simp) ?_
        simp only [Act.put, List.setIfInBounds_toArray, List.set_cons_zero, List.set_cons_succ]
        refine takeH (i := 5) (d := some 29) (v := .pointer (some ⟨g, 0, none⟩)) (by kernel_rfl) rfl rfl rfl (fun _ _ _ h => h) hHeld (fun W hSw => by go_simp) ?_
        simp only [Act.put, List.setIfInBounds_toArray, List.set_cons_zero, List.set_cons_succ]
        refine takeH (i := 6) (d := some 30) (v := .pointer (some ⟨g, 0, none⟩)) (by kernel_rfl) rfl rfl rfl (fun _ _ _ h => h) hHeld (fun W hSw => by go_simp) ?_
        simp only [Act.put, List.setIfInBounds_toArray, List.set_cons_zero, List.set_cons_succ]
        refine takeH (i := 7) (d := some 31) (v := .pointer (some ⟨g, 0, none⟩)) (by kernel_rfl) rfl rfl rfl (fun _ _ _ h => h) hHeld (fun W hSw => by go_simp) ?_
        simp only [Act.put, List.setIfInBounds_toArray, List.set_cons_zero, List.set_cons_succ]
        refine takeH (i := 8) (d := some 32) (v := .string ⟨s.toArray⟩) (by kernel_rfl) rfl rfl rfl (fun _ _ _ h => h) hHeld (fun W hSw => by have x0 := (hSw.cell (p := ⟨g, 0, none⟩) (by show g < _; omega)).trans k0; go_simp) ?_
        simp only [Act.put, List.setIfInBounds_toArray, List.set_cons_zero, List.set_cons_succ]
        refine takeH (i := 9) (d := some 33) (v := .int .i64 k) (by kernel_rfl) rfl rfl rfl (fun _ _ _ h => h) hHeld (fun W hSw => by go_simp) ?_
        simp only [Act.put, List.setIfInBounds_toArray, List.set_cons_zero, List.set_cons_succ]
        refine takeH (i := 10) (d := some 34) (v := .string ⟨x.toArray⟩) (by kernel_rfl) rfl rfl rfl (fun _ _ _ h => h) hHeld (fun W hSw => by go_simp; intro h; omega) ?_
        simp only [Act.put, List.setIfInBounds_toArray, List.set_cons_zero, List.set_cons_succ]
        refine onlyH (i := 4) (d := some 28) (by kernel_rfl) rfl rfl rfl (fun K' hK => ?_)
        refine wp_go_call 124 _ _ rfl #[.int .i64 v, .int .i64 10] rfl (fun W' => by go_simp) (Tryd.strconv_FormatInt_10 v hvr.1 hvr.2 _ (HT.out.below (hb1.trans (hHeld.mono hb1.size))).1.2) (fun e wg he => ?_)
        obtain ⟨rfl, q, os, hwg⟩ := he
        have hbg : Below w1.heap.size w1 wg := by rw [hwg]; exact hHeld.trans (Lib.below_grow _ _ hHeld.size q os)
        clear hwg
        rw [itoa_dec]
        refine ⟨_, rfl, hK.out _ _ hbg (fun hHeld => ?_)⟩
        simp only [Act.put, List.setIfInBounds_toArray, List.set_cons_zero, List.set_cons_succ]
        refine takeH (i := 11) (d := some 35) (v := .bool true) (by kernel_rfl) rfl rfl rfl (fun _ _ _ h => h) hHeld (fun W hSw => by go_simp) ?_
        simp only [Act.put, List.setIfInBounds_toArray, List.set_cons_zero, List.set_cons_succ]
        refine takeH (i := 12) (d := some 36) (v := .bool true) (by kernel_rfl) rfl rfl rfl (fun _ _ _ h => h) hHeld (fun W hSw => by go_simp) ?_
        simp only [Act.put, List.setIfInBounds_toArray, List.set_cons_zero, List.set_cons_succ]
        refine wpAnyH_done (by kernel_rfl) ?_ _
        have hb2 := hb1.trans (hHeld.mono hb1.size)
        go_wp2_with fail
        go_ret2
        exact ⟨KeepM.of hb2, _, rfl⟩
      · obtain ⟨tp, p, hvar⟩ := HT.out.2.1
        have hp := Any.strconv_ParseInt_10_at64_syntax_var Tryd.laysC174 ⟨x.toArray⟩ (by omega) hpe tp p w hvar
        rw [show Tryd.laysC174_ren.t 168 = 176 by kernel_rfl] at hp
        clear hv1 hv2 hpe hvar
        go_enter Tryd.func104, Tryd.ntmps104
        go_upto_region 5 with (first | (go_at_call 102; refine (hi _).mono ?_; rintro e w9 ⟨rfl, rfl⟩) | (go_at_call 123; refine hp.mono ?_; rintro e w1 ⟨N, rfl, _, _, hb1⟩))
        refine beginH (fun W' => Below w1.heap.size w1 W') (by kernel_rfl) ((Below.refl _ _).drew) (fun hHeld => ?_)
        refine takeH (i := 0) (d := some 24) (v := .iface 176 (.pointer (some ⟨N, 0, none⟩))) (by kernel_rfl) rfl rfl rfl (fun _ _ _ h => h) hHeld (fun W hSw => by go_simp) ?_
        simp only [Act.put, List.setIfInBounds_toArray, List.set_cons_zero, List.set_cons_succ]
        refine takeH (i := 1) (d := some 25) (v := .bool true) (by kernel_rfl) rfl rfl rfl (fun _ _ _ h => h) hHeld (fun W hSw => by go_simp) ?_
        simp only [Act.put, List.setIfInBounds_toArray, List.set_cons_zero, List.set_cons_succ]
        refine takeH (i := 2) (d := some 26) (v := .bool true) (by kernel_rfl) rfl rfl rfl (fun _ _ _ h => h) hHeld (fun W hSw => by go_simp) ?_
        simp only [Act.put, List.setIfInBounds_toArray, List.set_cons_zero, List.set_cons_succ]
        refine skipH (i := 3) (d := some 27) (by kernel_rfl) rfl rfl rfl (fun _ _ _ h => h) hHeld ?_
        simp only [Act.put, List.setIfInBounds_toArray, List.set_cons_zero, List.set_cons_succ]
        refine skipH (i := 5) (d := some 29) (by kernel_rfl) rfl rfl rfl (fun _ _ _ h => h) hHeld ?_
        simp only [Act.put, List.setIfInBounds_toArray, List.set_cons_zero, List.set_cons_succ]
        refine skipH (i := 6) (d := some 30) (by kernel_rfl) rfl rfl rfl (fun _ _ _ h => h) hHeld ?_
        simp only [Act.put, List.setIfInBounds_toArray, List.set_cons_zero, List.set_cons_succ]
        refine skipH (i := 7) (d := some 31) (by kernel_rfl) rfl rfl rfl (fun _ _ _ h => h) hHeld ?_
        simp only [Act.put, List.setIfInBounds_toArray, List.set_cons_zero, List.set_cons_succ]
        refine skipH (i := 8) (d := some 32) (by kernel_rfl) rfl rfl rfl (fun _ _ _ h => h) hHeld ?_
        simp only [Act.put, List.setIfInBounds_toArray, List.set_cons_zero, List.set_cons_succ]
        refine skipH (i := 9) (d := some 33) (by kernel_rfl) rfl rfl rfl (fun _ _ _ h => h) hHeld ?_
        simp only [Act.put, List.setIfInBounds_toArray, List.set_cons_zero, List.set_cons_succ]
        refine skipH (i := 10) (d := some 34) (by kernel_rfl) rfl rfl rfl (fun _ _ _ h => h) hHeld ?_
        simp only [Act.put, List.setIfInBounds_toArray, List.set_cons_zero, List.set_cons_succ]
        refine onlySkipH (i := 4) (d := some 28) (by kernel_rfl) rfl rfl rfl hHeld ?_
        simp only [Act.put, List.setIfInBounds_toArray, List.set_cons_zero, List.set_cons_succ]
        refine skipH (i := 11) (d := some 35) (by kernel_rfl) rfl rfl rfl (fun _ _ _ h => h) hHeld ?_
        simp only [Act.put, List.setIfInBounds_toArray, List.set_cons_zero, List.set_cons_succ]
        refine takeH (i := 12) (d := some 36) (v := .bool true) (by kernel_rfl) rfl rfl rfl (fun _ _ _ h => h) hHeld (fun W hSw => by go_simp) ?_
        simp only [Act.put, List.setIfInBounds_toArray, List.set_cons_zero, List.set_cons_succ]
        refine wpAnyH_done (by kernel_rfl) ?_ _
        go_wp2_with fail
        go_ret2
        exact ⟨KeepM.of (hb1.trans (hHeld.mono hb1.size)), _, rfl⟩
      · obtain ⟨tp, p, hvar⟩ := HT.out.2.2
        have hp := Any.strconv_ParseInt_10_at64_range_var Tryd.laysC174 ⟨x.toArray⟩ (by omega) hpe tp p w hvar
        rw [show Tryd.laysC174_ren.t 168 = 176 by kernel_rfl] at hp
        clear hv1 hv2 hpe hvar
        go_enter Tryd.func104, Tryd.ntmps104
        go_upto_region 5 with (first | (go_at_call 102; refine (hi _).mono ?_; rintro e w9 ⟨rfl, rfl⟩) | (go_at_call 123; refine hp.mono ?_; rintro e w1 ⟨N, rfl, _, _, hb1⟩))
        refine beginH (fun W' => Below w1.heap.size w1 W') (by kernel_rfl) ((Below.refl _ _).drew) (fun hHeld => ?_)
        refine takeH (i := 0) (d := some 24) (v := .iface 176 (.pointer (some ⟨N, 0, none⟩))) (by kernel_rfl) rfl rfl rfl (fun _ _ _ h => h) hHeld (fun W hSw => by go_simp) ?_
        simp only [Act.put, List.setIfInBounds_toArray, List.set_cons_zero, List.set_cons_succ]
        refine takeH (i := 1) (d := some 25) (v := .bool true) (by kernel_rfl) rfl rfl rfl (fun _ _ _ h => h) hHeld (fun W hSw => by go_simp) ?_
        simp only [Act.put, List.setIfInBounds_toArray, List.set_cons_zero, List.set_cons_succ]
        refine takeH (i := 2) (d := some 26) (v := .bool true) (by kernel_rfl) rfl rfl rfl (fun _ _ _ h => h) hHeld (fun W hSw => by go_simp) ?_
        simp only [Act.put, List.setIfInBounds_toArray, List.set_cons_zero, List.set_cons_succ]
        refine skipH (i := 3) (d := some 27) (by kernel_rfl) rfl rfl rfl (fun _ _ _ h => h) hHeld ?_
        simp only [Act.put, List.setIfInBounds_toArray, List.set_cons_zero, List.set_cons_succ]
        refine skipH (i := 5) (d := some 29) (by kernel_rfl) rfl rfl rfl (fun _ _ _ h => h) hHeld ?_
        simp only [Act.put, List.setIfInBounds_toArray, List.set_cons_zero, List.set_cons_succ]
        refine skipH (i := 6) (d := some 30) (by kernel_rfl) rfl rfl rfl (fun _ _ _ h => h) hHeld ?_
        simp only [Act.put, List.setIfInBounds_toArray, List.set_cons_zero, List.set_cons_succ]
        refine skipH (i := 7) (d := some 31) (by kernel_rfl) rfl rfl rfl (fun _ _ _ h => h) hHeld ?_
        simp only [Act.put, List.setIfInBounds_toArray, List.set_cons_zero, List.set_cons_succ]
        refine skipH (i := 8) (d := some 32) (by kernel_rfl) rfl rfl rfl (fun _ _ _ h => h) hHeld ?_
        simp only [Act.put, List.setIfInBounds_toArray, List.set_cons_zero, List.set_cons_succ]
        refine skipH (i := 9) (d := some 33) (by kernel_rfl) rfl rfl rfl (fun _ _ _ h => h) hHeld ?_
        simp only [Act.put, List.setIfInBounds_toArray, List.set_cons_zero, List.set_cons_succ]
        refine skipH (i := 10) (d := some 34) (by kernel_rfl) rfl rfl rfl (fun _ _ _ h => h) hHeld ?_
        simp only [Act.put, List.setIfInBounds_toArray, List.set_cons_zero, List.set_cons_succ]
        refine onlySkipH (i := 4) (d := some 28) (by kernel_rfl) rfl rfl rfl hHeld ?_
        simp only [Act.put, List.setIfInBounds_toArray, List.set_cons_zero, List.set_cons_succ]
        refine skipH (i := 11) (d := some 35) (by kernel_rfl) rfl rfl rfl (fun _ _ _ h => h) hHeld ?_
        simp only [Act.put, List.setIfInBounds_toArray, List.set_cons_zero, List.set_cons_succ]
        refine takeH (i := 12) (d := some 36) (v := .bool true) (by kernel_rfl) rfl rfl rfl (fun _ _ _ h => h) hHeld (fun W hSw => by go_simp) ?_
        simp only [Act.put, List.setIfInBounds_toArray, List.set_cons_zero, List.set_cons_succ]
        refine wpAnyH_done (by kernel_rfl) ?_ _
        go_wp2_with fail
        go_ret2
        exact ⟨KeepM.of (hb1.trans (hHeld.mono hb1.size)), _, rfl⟩

end

end Go.Proofs.YthdicdkgfmiepaaDoor

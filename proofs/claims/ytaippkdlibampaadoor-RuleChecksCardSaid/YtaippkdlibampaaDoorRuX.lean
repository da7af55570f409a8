/- Whether there are enough rules: rule.Whole walked. -/
import Derived.Test.YtaippkdlibampaaDoorRuW
namespace Go.Proofs.YtaippkdlibampaaDoor
open Go.RowKit

set_option maxHeartbeats 1000000 in
theorem whole1_any (r : Rule) (A : Option Addr) (m c b : Nat) (s : List UInt8) (w : World) (hb : b < w.heap.size) (hs : w.cell? ⟨b, 5, none⟩ = some (.string ⟨s.toArray⟩)) :
    Calls Tryd.prog 51 #[.agg #[.int .i64 r.nt, .int .i64 r.pat.op, .int .i64 r.pat.nt, .slice A m c, .int .i64 r.cost, .string ⟨r.form.toArray⟩], .pointer (some ⟨b, 0, none⟩)] w (SomeBoolBelow (r.form == s) w) := by
  go_enter Tryd.func51, Tryd.ntmps51
  go_wp2_with fail
  go_ret
  exact ⟨ret_bool rfl, below_alloc _ _⟩

set_option maxHeartbeats 2000000 in
theorem indexFunc2_any (rs : List Rule) (A : Option Addr) (c b : Nat) (s : List UInt8) (w : World) (hr : RulesIn w A c rs) (hb : b < w.heap.size) (hs : w.cell? ⟨b, 5, none⟩ = some (.string ⟨s.toArray⟩)) :
    Calls Tryd.prog 89 #[.slice A rs.length c, .func (.func 51) #[] #[.pointer (some ⟨b, 0, none⟩)]] w (IdxPost (idxOf rs s) w) := by
  have hl := hr.le
  unfold maxLen at hl
  obtain ⟨n, hn⟩ : ∃ n, Hid (rs.length = n) := ⟨_, Lib.hid rfl⟩
  have HR := Lib.hid hr
  rw [hn.out] at hl ⊢
  clear hr
  go_enter Tryd.func89, Tryd.ntmps89
  go_wp2_with fail
  go_loopw [5, 8] (fun _ i wr => ∃ k : Nat, k ≤ n ∧ i = .int .i64 k ∧ Below w.heap.size w wr ∧ Hid (∀ j (hj : j < rs.length), j < k → rs[j].form ≠ s)) (fun _ i _ => n - (intOf i).toNat)
  case atStart => exact ⟨0, by omega, rfl, Below.refl _ _, Lib.hid (fun j _ h => absurd h (by omega))⟩
  case round =>
    obtain ⟨k, hk, rfl, hbl, hmiss⟩ := hrel
    obtain ⟨wo, rfl⟩ : ∃ wo : World, wo = wr := ⟨_, rfl⟩
    by_cases hlt : k < n
    · have hkl : k < rs.length := by rw [hn.out]; exact hlt
      obtain ⟨ok, hrs⟩ := HR.out.below hbl
      obtain ⟨g, off, B, d, rfl, _, hg, ⟨c0, c1, c2, c3, c4, c5⟩, _, _⟩ := rules_at hrs k hkl
      have hs' : wo.cell? ⟨b, 5, none⟩ = some (.string ⟨s.toArray⟩) := (hbl.cell hb).trans hs
      have hb' : b < wo.heap.size := Nat.lt_of_lt_of_le hb hbl.size
      obtain ⟨r, hre⟩ : ∃ r, Hid (rs[k] = r) := ⟨_, Lib.hid rfl⟩
      rw [hre.out] at c0 c1 c2 c3 c4 c5
      clear hrs hs
      have hc := whole1_any r B r.pat.kids.length d b s wo hb' hs'
      by_cases hf : r.form = s
      · rw [show (r.form == s) = true by simp [hf]] at hc
        have HF := Lib.hid hf
        clear hs' hf
        go_wp2_with (go_at_call 51; refine hc.mono ?_; rintro e w1 ⟨rfl, hb1⟩)
        go_ret
        refine ⟨?_, hbl.trans (hb1.mono hbl.size)⟩
        rw [idxOf_hit rs s k hkl (by rw [hre.out]; exact HF.out) (fun j hj => hmiss.out j (by omega) hj)]
        rfl
      · rw [show (r.form == s) = false by simp [hf]] at hc
        have HF := Lib.hid hf
        clear hs' hf
        go_wp2_with (go_at_call 51; refine hc.mono ?_; rintro e w1 ⟨rfl, hb1⟩)
        go_roundw
        case rel =>
          refine ⟨k + 1, by omega, by go_num, hbl.trans (hb1.mono hbl.size), Lib.hid (fun j hj hjk => ?_)⟩
          by_cases e : j = k
          · subst e; rw [hre.out]; exact HF.out
          · exact hmiss.out j hj (by omega)
        case measure => simp [intOf]; omega
    · obtain rfl : k = n := by omega
      go_wp2_with fail
      go_ret
      refine ⟨?_, hbl⟩
      rw [idxOf_miss rs s (fun j hj => hmiss.out j hj (by rw [← hn.out]; exact hj))]
      rfl

def hasForm (rs : List Rule) (s : List UInt8) : Bool := rs.any fun x => x.form == s

theorem hasForm_idx (rs : List Rule) (s : List UInt8) : (0 ≤ idxOf rs s ∧ hasForm rs s = true) ∨ (idxOf rs s = -1 ∧ hasForm rs s = false) := by
  unfold idxOf hasForm
  by_cases h : rs.findIdx (fun r => r.form == s) < rs.length
  · left
    rw [if_pos h]
    refine ⟨by omega, ?_⟩
    rw [List.any_eq_true]
    exact ⟨_, List.getElem_mem h, List.findIdx_getElem (w := h)⟩
  · right
    rw [if_neg h]
    refine ⟨rfl, ?_⟩
    have h2 : rs.findIdx (fun r => r.form == s) = rs.length := by
      have := List.findIdx_le_length (xs := rs) (p := fun r => r.form == s)
      omega
    rw [List.findIdx_eq_length] at h2
    rw [List.any_eq_false]
    intro x hx
    have := h2 x hx
    simpa using this

set_option maxHeartbeats 2000000 in
theorem containsFunc_any (rs : List Rule) (A : Option Addr) (c b : Nat) (s : List UInt8) (w : World) (hr : RulesIn w A c rs) (hb : b < w.heap.size) (hs : w.cell? ⟨b, 5, none⟩ = some (.string ⟨s.toArray⟩)) :
    Calls Tryd.prog 50 #[.slice A rs.length c, .func (.func 51) #[] #[.pointer (some ⟨b, 0, none⟩)]] w (SomeBoolBelow (hasForm rs s) w) := by
  have hc := indexFunc2_any rs A c b s w hr hb hs
  rcases hasForm_idx rs s with ⟨h1, h2⟩ | ⟨h1, h2⟩
  · rw [h2]
    obtain ⟨i, hi⟩ : ∃ i, Hid (idxOf rs s = i) := ⟨_, Lib.hid rfl⟩
    rw [hi.out] at h1 hc
    clear h2
    go_enter Tryd.func50, Tryd.ntmps50
    go_wp2_with fail
    refine hc.mono ?_
    rintro e w1 ⟨rfl, hb1⟩
    go_wp2_with fail
    go_ret
    exact ⟨ret_bool rfl, hb1⟩
  · rw [h2]
    rw [h1] at hc
    clear h1 h2
    go_enter Tryd.func50, Tryd.ntmps50
    go_wp2_with fail
    refine hc.mono ?_
    rintro e w1 ⟨rfl, hb1⟩
    go_wp2_with fail
    go_ret
    exact ⟨ret_bool rfl, hb1⟩

def sFit : List UInt8 := [102, 105, 116]
def sUp : List UInt8 := [117, 112]
def sOff : List UInt8 := [111, 102, 102]
def special (s : List UInt8) : Bool := s == sFit || (s == sUp || s == sOff)
def kid1 (r : Rule) : Int := (r.pat.kids.getD 1 (.mk 0 0 [])).nt
/-- must a form be there? -/
def neededR (r : Rule) : Bool := !special r.form && (!isBin r.pat.op || (!Lib.hasSuffix r.form [105] || kid1 r == 0))

set_option maxHeartbeats 4000000 in
theorem needed_any (r : Rule) (hl : r.form.length ≤ 1000) (hk : isBin r.pat.op = true → r.pat.kids.length = 2) (A : Option Addr) (c : Nat) (w : World) (hp : PatIn w A c r.pat) :
    Calls Tryd.prog 52 #[.agg #[.int .i64 r.nt, .int .i64 r.pat.op, .int .i64 r.pat.nt, .slice A r.pat.kids.length c, .int .i64 r.cost, .string ⟨r.form.toArray⟩]] w (SomeBoolBelow (neededR r) w) := by
  obtain ⟨b1, hb1⟩ : ∃ x, Hid (isBin r.pat.op = x) := ⟨_, Lib.hid rfl⟩
  have c1 := fun W => binary_any r.pat.op W
  have c2 := fun W => Tryd.strings_HasSuffix ⟨r.form.toArray⟩ ⟨#[105]⟩ W (by simp [ByteArray.size]; omega)
  obtain ⟨b2, hb2⟩ : ∃ x, Hid (Lib.hasSuffix r.form [105] = x) := ⟨_, Lib.hid rfl⟩
  obtain ⟨f, hf⟩ : ∃ x, Hid (neededR r = x) := ⟨_, Lib.hid rfl⟩
  have hfe : Hid (f = (!special r.form && (!b1 || (!b2 || kid1 r == 0)))) := Lib.hid (by rw [← hf.out]; unfold neededR; rw [hb1.out, hb2.out])
  rw [hf.out]
  rw [hb1.out] at c1 hk
  rw [show Lib.hasSuffix (ByteArray.mk r.form.toArray).data.toList (ByteArray.mk #[105]).data.toList = Lib.hasSuffix r.form [105] from rfl, hb2.out] at c2
  have HK := Lib.hid hk
  have HP := Lib.hid hp
  clear hk hp
  obtain ⟨n, hn⟩ : ∃ n, Hid (r.pat.kids.length = n) := ⟨_, Lib.hid rfl⟩
  by_cases hs : special r.form = true
  · obtain rfl : f = false := by rw [hfe.out, hs]; rfl
    have hs2 : r.form = [102, 105, 116] ∨ r.form = [117, 112] ∨ r.form = [111, 102, 102] := by
      unfold special sFit sUp sOff at hs
      simpa using hs
    clear hs
    rcases hs2 with h | h | h
    all_goals
      rw [h]
      go_enter Tryd.func52, Tryd.ntmps52
      go_wp2_with fail
      go_ret
      exact ⟨ret_bool rfl, below_alloc _ _⟩
  · have hs2 : special r.form = false := by simpa using hs
    have hfe2 : Hid (f = (!b1 || (!b2 || kid1 r == 0))) := Lib.hid (by rw [hfe.out, hs2]; rfl)
    have t1 : (r.form == [102, 105, 116]) = false ∧ (r.form == [117, 112]) = false ∧ (r.form == [111, 102, 102]) = false := by
      unfold special sFit sUp sOff at hs2
      simpa using hs2
    obtain ⟨t1, t2, t3⟩ := t1
    clear hs hs2
    cases b1
    · obtain rfl : f = true := by rw [hfe2.out]; rfl
      go_enter Tryd.func52, Tryd.ntmps52
      go_wp2_with (go_at_call 86; refine (c1 _).mono ?_; rintro e w' ⟨rfl, rfl⟩)
      go_ret
      exact ⟨ret_bool rfl, below_alloc _ _⟩
    · cases b2
      · obtain rfl : f = true := by rw [hfe2.out]; rfl
        go_enter Tryd.func52, Tryd.ntmps52
        go_wp2_with (first | (go_at_call 86; refine (c1 _).mono ?_; rintro e w' ⟨rfl, rfl⟩) | (go_at_call 94; refine (c2 _).mono ?_; rintro e w' ⟨rfl, rfl⟩))
        go_ret
        exact ⟨ret_bool rfl, below_alloc _ _⟩
      · have hn2 : r.pat.kids.length = 2 := HK.out rfl
        obtain ⟨ok, hps⟩ := HP.out.kids
        obtain ⟨g, off, B, d, rfl, _, hg, ⟨a0, a1, a2⟩, hx⟩ := pats_at hps 1 (by omega)
        clear hx
        have hk1 : Hid (kid1 r = (r.pat.kids[1]'(by omega)).nt) := Lib.hid (by unfold kid1; rw [List.getD_eq_getElem?_getD, List.getElem?_eq_getElem (by omega)]; rfl)
        obtain ⟨y, hy⟩ : ∃ y, Hid ((r.pat.kids[1]'(by omega)).nt = y) := ⟨_, Lib.hid rfl⟩
        rw [hy.out] at a1
        have a1' : w.cell? ⟨g, off + 3 + 1, none⟩ = some (.int .i64 y) := a1
        have a1'' : w.cell? ⟨g, off + 4, none⟩ = some (.int .i64 y) := a1
        have hfe3 : Hid (f = (y == 0)) := Lib.hid (by rw [hfe2.out, hk1.out, hy.out]; rfl)
        have HN2 := Lib.hid hn2
        rw [HN2.out]
        clear a0 a1 a2 hps hk1 hy hn2
        go_enter Tryd.func52, Tryd.ntmps52
        go_wp2_with (first | (go_at_call 86; refine (c1 _).mono ?_; rintro e w' ⟨rfl, rfl⟩) | (go_at_call 94; refine (c2 _).mono ?_; rintro e w' ⟨rfl, rfl⟩))
        go_ret
        exact ⟨ret_bool hfe3.out.symm, below_alloc _ _⟩

def wholeB (rs : List Rule) : Bool := formsR.all fun r => hasForm rs r.form || !neededR r

theorem forms_len (k : Nat) (h : k < formsR.length) : (formsR[k]).form.length ≤ 1000 ∧ (isBin (formsR[k]).pat.op = true → (formsR[k]).pat.kids.length = 2) := by
  have h0 : (formsR.all fun r => decide (r.form.length ≤ 1000) && (!isBin r.pat.op || decide (r.pat.kids.length = 2))) = true := by kernel_rfl
  have h1 := List.all_eq_true.1 h0 _ (List.getElem_mem h)
  simp only [Bool.and_eq_true, decide_eq_true_eq, Bool.or_eq_true, Bool.not_eq_true'] at h1
  refine ⟨h1.1, fun hb => ?_⟩
  rcases h1.2 with h2 | h2
  · rw [hb] at h2; cases h2
  · exact h2

theorem wholeB_bad (rs : List Rule) (k : Nat) (hk : k < formsR.length) (h1 : hasForm rs formsR[k].form = false) (h2 : neededR formsR[k] = true) : wholeB rs = false := by
  unfold wholeB
  rw [List.all_eq_false]
  exact ⟨formsR[k], List.getElem_mem hk, by rw [h1, h2]; simp⟩
theorem wholeB_good (rs : List Rule) (ha : ∀ j (hj : j < formsR.length), (hasForm rs formsR[j].form || !neededR formsR[j]) = true) : wholeB rs = true := by
  unfold wholeB
  rw [List.all_eq_true]
  intro x hx
  obtain ⟨j, hj, rfl⟩ := List.getElem_of_mem hx
  exact ha j hj

def WholeRet (b : Bool) (i : Int) (w : World) (e : Ending) (w' : World) : Prop := e = .returned (.tuple #[.bool b, .int .i64 i]) ∧ Below w.heap.size w w'

set_option maxRecDepth 100000 in
set_option maxHeartbeats 4000000 in
theorem whole_any (rs : List Rule) (hwf : RulesWf rs) (A : Option Addr) (c : Nat) (w : World) (ht : Tab w) (hr : RulesIn w A c rs) :
    Calls Tryd.prog 18 #[.slice A rs.length c] w (WholeRet (decide (checkE rs = 0) && wholeB rs) (checkE rs) w) := by
  have hck := check_any rs hwf A c w ht hr
  have HR := Lib.hid hr
  clear hr
  obtain ⟨m, hm⟩ : ∃ m, Hid (rs.length = m) := ⟨_, Lib.hid rfl⟩
  rw [hm.out] at hck ⊢
  obtain ⟨ce, hce⟩ : ∃ x, Hid (checkE rs = x) := ⟨_, Lib.hid rfl⟩
  rw [hce.out] at hck ⊢
  by_cases h0 : ce = 0
  · subst h0
    obtain ⟨f, hf⟩ : ∃ x, Hid (wholeB rs = x) := ⟨_, Lib.hid rfl⟩
    rw [hf.out]
    rw [show (decide ((0 : Int) = 0) && f) = f by simp]
    go_enter Tryd.func18, Tryd.ntmps18
    go_wp2_with fail
    refine hck.mono ?_
    rintro e w1 ⟨rfl, hb1⟩
    clear hck
    go_wp2_with fail
    refine (forms_any _ (tab_alloc ht _ hb1)).mono ?_
    rintro e w2 ⟨v2, rfl, ho2, hb2⟩
    have hrep := ho2.rep
    obtain ⟨B2, d2, rfl, _⟩ := hrep.len
    rw [List.length_map] at hrep ⊢
    obtain ⟨n, hn⟩ : ∃ n, Hid (formsR.length = n) := ⟨_, Lib.hid rfl⟩
    have hl2 : n ≤ 100000 := by rw [← hn.out, formsR_len]; omega
    rw [hn.out] at hrep ⊢
    have HF := Lib.hid hrep
    have hb02 : Below w.heap.size w w2 := hb1.trans (hb2.mono hb1.size)
    have hb02z := hb02.size
    clear hrep ho2
    go_wp2_with fail
    go_loopw [15] (fun i wr => ∃ k : Nat, k ≤ n ∧ i = .int .i64 k ∧ Below w2.heap.size w2 wr ∧ Hid (∀ j (hj : j < formsR.length), j < k → (hasForm rs formsR[j].form || !neededR formsR[j]) = true)) (fun i _ => n - (intOf i).toNat)
    case atStart => exact ⟨0, by omega, rfl, Below.refl _ _, Lib.hid (fun j _ h => absurd h (by omega))⟩
    case round =>
      obtain ⟨k, hk, rfl, hb, hall⟩ := hrel
      obtain ⟨wo, rfl⟩ : ∃ wo : World, wo = wr := ⟨_, rfl⟩
      clear hb1 hb2
      have hb0 : Below w.heap.size w wo := hb02.trans (hb.mono hb02z)
      have hb0z := hb0.size
      by_cases hlt : k < n
      · have hkl : k < formsR.length := by rw [hn.out]; exact hlt
        obtain ⟨g, off, B, d, rfl, _, hg, ⟨a0, a1, a2, a3, a4, a5⟩, _, hpi⟩ := rules_at (HF.out.below hb) k hkl
        have hfl := forms_len k hkl
        have hwb := wholeB_bad rs k hkl
        obtain ⟨r, hre⟩ : ∃ r, Hid (formsR[k] = r) := ⟨_, Lib.hid rfl⟩
        rw [hre.out] at a0 a1 a2 a3 a4 a5 hpi hfl hwb
        have HP : Hid (PatIn wo B d r.pat) := Lib.hid ⟨_, hpi⟩
        have HWB := Lib.hid hwb
        have hnd := needed_any r hfl.1 hfl.2 B d
        obtain ⟨b1, hb1⟩ : ∃ x, Hid (hasForm rs r.form = x) := ⟨_, Lib.hid rfl⟩
        obtain ⟨b2, hb2⟩ : ∃ x, Hid (neededR r = x) := ⟨_, Lib.hid rfl⟩
        rw [hb2.out] at hnd
        have hct := fun b W hW h1 h2 => containsFunc_any rs A c b r.form W hW h1 h2
        rw [hm.out, hb1.out] at hct
        clear hwb hpi hfl
        go_wp2_with fail
        obtain ⟨w1, hw1⟩ : ∃ w1, w1 = wo.alloc (.cells #[.int .i64 r.nt, .int .i64 r.pat.op, .int .i64 r.pat.nt, .slice B r.pat.kids.length d, .int .i64 r.cost, .string ⟨r.form.toArray⟩] 33) := ⟨_, rfl⟩
        have hb4 : Below wo.heap.size wo w1 := by rw [hw1]; exact below_alloc _ _
        have r0 : w1.cell? ⟨wo.heap.size, 0, none⟩ = some (.int .i64 r.nt) := by rw [hw1]; simp
        have r1 : w1.cell? ⟨wo.heap.size, 1, none⟩ = some (.int .i64 r.pat.op) := by rw [hw1]; simp
        have r2 : w1.cell? ⟨wo.heap.size, 2, none⟩ = some (.int .i64 r.pat.nt) := by rw [hw1]; simp
        have r3 : w1.cell? ⟨wo.heap.size, 3, none⟩ = some (.slice B r.pat.kids.length d) := by rw [hw1]; simp
        have r4 : w1.cell? ⟨wo.heap.size, 4, none⟩ = some (.int .i64 r.cost) := by rw [hw1]; simp
        have r5 : w1.cell? ⟨wo.heap.size, 5, none⟩ = some (.string ⟨r.form.toArray⟩) := by rw [hw1]; simp
        have hlt1 : wo.heap.size < w1.heap.size := by rw [hw1]; simp
        have HP1 : Hid (PatIn w1 B d r.pat) := Lib.hid (HP.out.below hb4)
        have hb5 : Below w2.heap.size w2 w1 := hb.trans (hb4.mono hb.size)
        have hb6 : Below w.heap.size w w1 := hb0.trans (hb4.mono hb0z)
        rw [← hw1]
        clear hw1 a0 a1 a2 a3 a4 a5
        refine (hct _ _ (HR.out.below hb6) hlt1 r5).mono ?_
        rintro e w3 ⟨rfl, hb7⟩
        obtain ⟨x0, x1, x2, x3, x4, x5⟩ := later6 hb7 ⟨r0, r1, r2, r3, r4, r5⟩
        have HP3 : Hid (PatIn w3 B d r.pat) := Lib.hid (HP1.out.below hb7)
        have hb8 : Below w2.heap.size w2 w3 := hb5.trans (hb7.mono hb5.size)
        have hb9 : Below w.heap.size w w3 := hb6.trans (hb7.mono hb6.size)
        have hlt3 : wo.heap.size < w3.heap.size := by have := hb7.size; omega
        clear hct r0 r1 r2 r3 r4 r5 hlt1
        cases b1
        · cases b2
          · go_wp2_with (go_at_call 52; refine (hnd _ (show PatIn _ _ _ _ from HP3.out)).mono ?_; rintro e w5 ⟨rfl, hb10⟩)
            go_roundw
            case rel =>
              refine ⟨k + 1, by omega, by go_num, hb8.trans (hb10.mono hb8.size), Lib.hid (fun j hj hjk => ?_)⟩
              by_cases e : j = k
              · subst e; rw [hre.out, hb2.out]; simp
              · exact hall.out j hj (by omega)
            case measure => simp [intOf]; omega
          · obtain rfl : f = false := by rw [← hf.out]; exact HWB.out hb1.out hb2.out
            go_wp2_with (go_at_call 52; refine (hnd _ (show PatIn _ _ _ _ from HP3.out)).mono ?_; rintro e w5 ⟨rfl, hb10⟩)
            go_ret2
            exact ⟨rfl, hb9.trans (hb10.mono hb9.size)⟩
        · go_wp2_with fail
          go_roundw
          case rel =>
            refine ⟨k + 1, by omega, by go_num, hb8, Lib.hid (fun j hj hjk => ?_)⟩
            by_cases e : j = k
            · subst e; rw [hre.out, hb1.out]; simp
            · exact hall.out j hj (by omega)
          case measure => simp [intOf]; omega
      · obtain rfl : k = n := by omega
        obtain rfl : f = true := by rw [← hf.out]; exact wholeB_good rs (fun j hj => hall.out j hj (by rw [← hn.out]; exact hj))
        go_wp2_with fail
        go_ret2
        exact ⟨rfl, hb0⟩
  · have hne : (ce != 0) = true := by simp [h0]
    rw [show (decide (ce = 0) && wholeB rs) = false by simp [h0]]
    go_enter Tryd.func18, Tryd.ntmps18
    go_wp2_with fail
    refine hck.mono ?_
    rintro e w1 ⟨rfl, hb1⟩
    go_wp2_with fail
    go_ret2
    exact ⟨rfl, hb1⟩

end Go.Proofs.YtaippkdlibampaaDoor

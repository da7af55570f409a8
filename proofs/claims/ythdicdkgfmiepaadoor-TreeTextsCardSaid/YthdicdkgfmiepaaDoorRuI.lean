/- Patterns and rules read back out of memory; a rule's form asked for (rule.found's closure, slices.IndexFunc). -/
import Derived.Test.YthdicdkgfmiepaaDoorRuH
import Derived.BigQuiet
import Derived.Deep.QuietTactic
import Derived.Deep.LoopGhost
namespace Go.Proofs.YthdicdkgfmiepaaDoor
open Go.RowKit

def Pat.op : Pat → Int | .mk op _ _ => op
def Pat.nt : Pat → Int | .mk _ nt _ => nt
def Pat.kids : Pat → List Pat | .mk _ _ kids => kids

theorem encPs_map : ∀ ps : List Pat, encP.encPs ps = ps.map encP
  | [] => by unfold encP.encPs; rfl
  | p :: ps => by unfold encP.encPs; rw [encPs_map ps]; rfl

theorem repAll_inv {w : World} {ok : Nat → Prop} {d : D} {ds : List D} {cs : List Value} (h : RepAll w ok (d :: ds) cs) : ∃ a b : List Value, cs = a ++ b ∧ Rep w ok d a ∧ RepAll w ok ds b := by
  unfold RepAll at h; exact h
theorem repAll_nil {w : World} {ok : Nat → Prop} {cs : List Value} (h : RepAll w ok [] cs) : cs = [] := by
  unfold RepAll at h; exact h
theorem rep_int_inv {w : World} {ok : Nat → Prop} {k : IntKind} {n : Int} {cs : List Value} (h : Rep w ok (.int k n) cs) : cs = [.int k n] := by
  unfold Rep at h; exact h
theorem rep_str_inv {w : World} {ok : Nat → Prop} {s : List UInt8} {cs : List Value} (h : Rep w ok (.str s) cs) : cs = [.string ⟨s.toArray⟩] := by
  unfold Rep at h; exact h
theorem rep_bool_inv {w : World} {ok : Nat → Prop} {b : Bool} {cs : List Value} (h : Rep w ok (.bool b) cs) : cs = [.bool b] := by
  unfold Rep at h; exact h
theorem rep_st_inv {w : World} {ok : Nat → Prop} {ds : List D} {cs : List Value} (h : Rep w ok (.st ds) cs) : RepAll w ok ds cs := by
  unfold Rep at h; exact h
theorem rep_lst_inv {w : World} {ok : Nat → Prop} {z : Nat} {xs : List D} {cs : List Value} (h : Rep w ok (.lst z xs) cs) : ∃ (A : Option Addr) (c : Nat), cs = [.slice A xs.length c] ∧ xs.length ≤ c ∧ c ≤ maxLen ∧ Rep w ok (.lst z xs) [.slice A xs.length c] := by
  have h0 := h
  unfold Rep at h
  obtain ⟨A, c, rfl, hc, hm, _⟩ := h
  exact ⟨A, c, rfl, hc, hm, h0⟩

theorem Rep.setCell {w : World} {ok : Nat → Prop} {d : D} {cs : List Value} {p : Addr} {u : Value} (h : Rep w ok d cs) (hp : ∀ g, ok g → g ≠ p.block) : Rep (w.setCell p u) ok d cs :=
  Rep.keep (fun _ h _ => h) (fun g hg _ => Below.heap_setCell w p u g (hp g hg)) d cs h

theorem rep_pat_inv {w : World} {ok : Nat → Prop} {p : Pat} {cs : List Value} (h : Rep w ok (encP p) cs) :
    ∃ (A : Option Addr) (c : Nat), cs = [.int .i64 p.op, .int .i64 p.nt, .slice A p.kids.length c] ∧ p.kids.length ≤ maxLen ∧ Rep w ok (.lst 3 (p.kids.map encP)) [.slice A p.kids.length c] := by
  obtain ⟨op, nt, kids⟩ := p
  unfold encP at h
  obtain ⟨a, b, rfl, h1, h2⟩ := repAll_inv (rep_st_inv h)
  obtain ⟨a2, b2, rfl, h3, h4⟩ := repAll_inv h2
  obtain ⟨a3, b3, rfl, h5, h6⟩ := repAll_inv h4
  rw [encPs_map] at h5
  obtain ⟨A, c, rfl, hc, hm, h7⟩ := rep_lst_inv h5
  rw [rep_int_inv h1, rep_int_inv h3, repAll_nil h6]
  rw [List.length_map] at hc h7 ⊢
  exact ⟨A, c, rfl, Nat.le_trans hc hm, h7⟩

theorem rep_rule_inv {w : World} {ok : Nat → Prop} {r : Rule} {cs : List Value} (h : Rep w ok (encR r) cs) :
    ∃ (A : Option Addr) (c : Nat), cs = [.int .i64 r.nt, .int .i64 r.pat.op, .int .i64 r.pat.nt, .slice A r.pat.kids.length c, .int .i64 r.cost, .string ⟨r.form.toArray⟩] ∧ r.pat.kids.length ≤ maxLen ∧ Rep w ok (encP r.pat) [.int .i64 r.pat.op, .int .i64 r.pat.nt, .slice A r.pat.kids.length c] := by
  obtain ⟨nt, p, cost, form⟩ := r
  unfold encR at h
  obtain ⟨a, b, rfl, h1, h2⟩ := repAll_inv (rep_st_inv h)
  obtain ⟨a2, b2, rfl, h3, h4⟩ := repAll_inv h2
  obtain ⟨a3, b3, rfl, h5, h6⟩ := repAll_inv h4
  obtain ⟨a4, b4, rfl, h7, h8⟩ := repAll_inv h6
  obtain ⟨A, c, rfl, hc, h9⟩ := rep_pat_inv h3
  rw [rep_int_inv h1, rep_int_inv h5, rep_str_inv h7, repAll_nil h8]
  exact ⟨A, c, rfl, hc, h3⟩

/-- row k of a slice of rules -/
theorem rules_at {w : World} {ok : Nat → Prop} {rs : List Rule} {A : Option Addr} {n c : Nat} (h : Rep w ok (.lst 6 (rs.map encR)) [.slice A n c]) (k : Nat) (hk : k < rs.length) :
    ∃ (g off : Nat) (B : Option Addr) (d : Nat), A = some ⟨g, off, none⟩ ∧ ok g ∧ g < w.heap.size ∧
      (w.cell? ⟨g, off + k * 6, none⟩ = some (.int .i64 rs[k].nt) ∧ w.cell? ⟨g, off + k * 6 + 1, none⟩ = some (.int .i64 rs[k].pat.op) ∧ w.cell? ⟨g, off + k * 6 + 2, none⟩ = some (.int .i64 rs[k].pat.nt) ∧ w.cell? ⟨g, off + k * 6 + 3, none⟩ = some (.slice B rs[k].pat.kids.length d) ∧ w.cell? ⟨g, off + k * 6 + 4, none⟩ = some (.int .i64 rs[k].cost) ∧ w.cell? ⟨g, off + k * 6 + 5, none⟩ = some (.string ⟨rs[k].form.toArray⟩)) ∧
      rs[k].pat.kids.length ≤ maxLen ∧ Rep w ok (encP rs[k].pat) [.int .i64 rs[k].pat.op, .int .i64 rs[k].pat.nt, .slice B rs[k].pat.kids.length d] := by
  obtain ⟨g, off, a, hA, hok, hlt, hl, hr, hc⟩ := h.at_ k (by simpa using hk)
  rw [List.getElem_map] at hr
  obtain ⟨B, d, rfl, hd, hp⟩ := rep_rule_inv hr
  have e : ∀ j, off + (k * 6 + j) = off + k * 6 + j := fun j => by omega
  refine ⟨g, off, B, d, hA, hok, hlt, ⟨?_, ?_, ?_, ?_, ?_, ?_⟩, hd, hp⟩
  · have := hc 0 (by omega); rw [e] at this; exact this
  · have := hc 1 (by omega); rw [e] at this; exact this
  · have := hc 2 (by omega); rw [e] at this; exact this
  · have := hc 3 (by omega); rw [e] at this; exact this
  · have := hc 4 (by omega); rw [e] at this; exact this
  · have := hc 5 (by omega); rw [e] at this; exact this

theorem str_eq (a b : List UInt8) : ((⟨a.toArray⟩ : ByteArray) = ⟨b.toArray⟩) ↔ a = b := by
  constructor
  · intro h; injection h with h; simpa using congrArg Array.toList h
  · rintro rfl; rfl

/-- where the first rule of a form is; -1: nowhere -/
def idxOf (rs : List Rule) (s : List UInt8) : Int := if rs.findIdx (fun r => r.form == s) < rs.length then (rs.findIdx (fun r => r.form == s) : Nat) else -1

theorem idxOf_hit (rs : List Rule) (s : List UInt8) (k : Nat) (hk : k < rs.length) (h : rs[k].form = s) (hb : ∀ j (hj : j < k), (rs[j]'(by omega)).form ≠ s) : idxOf rs s = k := by
  have : rs.findIdx (fun r => r.form == s) = k := by
    rw [List.findIdx_eq hk]
    exact ⟨by simp [h], fun j hj => by simpa using hb j hj⟩
  unfold idxOf
  rw [this, if_pos hk]

theorem idxOf_miss (rs : List Rule) (s : List UInt8) (hb : ∀ j (hj : j < rs.length), rs[j].form ≠ s) : idxOf rs s = -1 := by
  have : rs.findIdx (fun r => r.form == s) = rs.length := by
    rw [List.findIdx_eq_length]
    intro x hx
    obtain ⟨j, hj, rfl⟩ := List.getElem_of_mem hx
    simpa using hb j hj
  unfold idxOf
  rw [this, if_neg (by omega)]

def SomeBoolBelow (b : Bool) (w : World) (e : Ending) (w' : World) : Prop := e = .returned (.bool b) ∧ Below w.heap.size w w'

set_option maxHeartbeats 1000000 in
theorem found1_any (r : Rule) (A : Option Addr) (m c b : Nat) (s : List UInt8) (w : World) (hb : b < w.heap.size) (hs : w.cell? ⟨b, 0, none⟩ = some (.string ⟨s.toArray⟩)) :
    Calls Tryd.prog 80 #[.agg #[.int .i64 r.nt, .int .i64 r.pat.op, .int .i64 r.pat.nt, .slice A m c, .int .i64 r.cost, .string ⟨r.form.toArray⟩], .pointer (some ⟨b, 0, none⟩)] w (SomeBoolBelow (r.form == s) w) := by
  go_enter Tryd.func80, Tryd.ntmps80
  go_wp2_with fail
  go_ret
  exact ⟨ret_bool rfl, below_alloc _ _⟩

def IdxPost (i : Int) (w : World) (e : Ending) (w' : World) : Prop := e = .returned (.int .i64 i) ∧ Below w.heap.size w w'

set_option maxHeartbeats 2000000 in
theorem indexFunc_any (rs : List Rule) (ok : Nat → Prop) (A : Option Addr) (c b : Nat) (s : List UInt8) (w : World) (hl : rs.length ≤ 100000) (hr : Rep w ok (.lst 6 (rs.map encR)) [.slice A rs.length c]) (hb : b < w.heap.size) (hs : w.cell? ⟨b, 0, none⟩ = some (.string ⟨s.toArray⟩)) :
    Calls Tryd.prog 79 #[.slice A rs.length c, .func (.func 80) #[] #[.pointer (some ⟨b, 0, none⟩)]] w (IdxPost (idxOf rs s) w) := by
  obtain ⟨n, hn⟩ : ∃ n, Hid (rs.length = n) := ⟨_, Lib.hid rfl⟩
  have hl2 : n ≤ 100000 := by rw [← hn.out]; exact hl
  rw [hn.out]
  rw [hn.out] at hr
  clear hl
  go_enter Tryd.func79, Tryd.ntmps79
  go_wp2_with fail
  go_loopw [5, 8] (fun _ i wr => ∃ k : Nat, k ≤ n ∧ i = .int .i64 k ∧ Below w.heap.size w wr ∧ Hid (∀ j (hj : j < rs.length), j < k → rs[j].form ≠ s)) (fun _ i _ => n - (intOf i).toNat)
  case atStart => exact ⟨0, by omega, rfl, Below.refl _ _, Lib.hid (fun j _ h => absurd h (by omega))⟩
  case round =>
    obtain ⟨k, hk, rfl, hbl, hmiss⟩ := hrel
    obtain ⟨wo, rfl⟩ : ∃ wo : World, wo = wr := ⟨_, rfl⟩
    by_cases hlt : k < n
    · have hkl : k < rs.length := by rw [hn.out]; exact hlt
      obtain ⟨g, off, B, d, rfl, _, hg, ⟨c0, c1, c2, c3, c4, c5⟩, _, _⟩ := rules_at (Rep.below hr hbl) k hkl
      have hs' : wo.cell? ⟨b, 0, none⟩ = some (.string ⟨s.toArray⟩) := (hbl.cell hb).trans hs
      have hb' : b < wo.heap.size := Nat.lt_of_lt_of_le hb hbl.size
      obtain ⟨r, hre⟩ : ∃ r, Hid (rs[k] = r) := ⟨_, Lib.hid rfl⟩
      rw [hre.out] at c0 c1 c2 c3 c4 c5
      clear hr hs
      have hc := found1_any r B r.pat.kids.length d b s wo hb' hs'
      by_cases hf : r.form = s
      · rw [show (r.form == s) = true by simp [hf]] at hc
        have HF := Lib.hid hf
        clear hs' hf
        go_wp2_with (go_at_call 80; refine hc.mono ?_; rintro e w1 ⟨rfl, hb1⟩)
        go_ret
        refine ⟨?_, hbl.trans (hb1.mono hbl.size)⟩
        rw [idxOf_hit rs s k hkl (by rw [hre.out]; exact HF.out) (fun j hj => hmiss.out j (by omega) hj)]
        rfl
      · rw [show (r.form == s) = false by simp [hf]] at hc
        have HF := Lib.hid hf
        clear hs' hf
        go_wp2_with (go_at_call 80; refine hc.mono ?_; rintro e w1 ⟨rfl, hb1⟩)
        go_roundw
        case rel =>
          refine ⟨k + 1, by omega, by go_num, hbl.trans (hb1.mono hbl.size), Lib.hid (fun j hj hjk => ?_)⟩
          by_cases e : j = k
          · subst e; rw [hre.out]; exact HF.out
          · exact hmiss.out j hj (by omega)
        case measure => simp [intOf]; omega
    · obtain rfl : k = n := by omega
      go_wp2_with fail
      go_ret
      refine ⟨?_, hbl⟩
      rw [idxOf_miss rs s (fun j hj => hmiss.out j hj (by rw [← hn.out]; exact hj))]
      rfl

def formOf (s : List UInt8) : Option Rule := formsR.find? (fun r => r.form == s)
def noRule : Rule := ⟨0, .mk 0 0 [], 0, []⟩

theorem formOf_idx (s : List UInt8) : (idxOf formsR s = -1 ∧ formOf s = none) ∨ ∃ (k : Nat) (h : k < formsR.length), idxOf formsR s = k ∧ formOf s = some formsR[k] := by
  unfold idxOf formOf
  by_cases h : formsR.findIdx (fun r => r.form == s) < formsR.length
  · right
    refine ⟨_, h, by rw [if_pos h], ?_⟩
    rw [List.find?_eq_some_iff_getElem]
    refine ⟨List.findIdx_getElem (w := h), _, h, rfl, fun j hj => ?_⟩
    have := List.not_of_lt_findIdx hj
    simpa using this
  · left
    refine ⟨by rw [if_neg h], ?_⟩
    rw [List.find?_eq_none]
    have h2 : formsR.findIdx (fun r => r.form == s) = formsR.length := by
      have := List.findIdx_le_length (xs := formsR) (p := fun r => r.form == s)
      omega
    rw [List.findIdx_eq_length] at h2
    intro x hx
    have := h2 x hx
    simp at this
    simpa using this

/-- a rule that is handed back by value, with a word beside it -/
def RuleRet (B : Nat) (r : Rule) (u : Value) (w : World) (e : Ending) (w' : World) : Prop :=
  ∃ (A : Option Addr) (c : Nat), e = .returned (.tuple #[.agg #[.int .i64 r.nt, .int .i64 r.pat.op, .int .i64 r.pat.nt, .slice A r.pat.kids.length c, .int .i64 r.cost, .string ⟨r.form.toArray⟩], u]) ∧
    Rep w' (fun g => B ≤ g) (encR r) [.int .i64 r.nt, .int .i64 r.pat.op, .int .i64 r.pat.nt, .slice A r.pat.kids.length c, .int .i64 r.cost, .string ⟨r.form.toArray⟩] ∧ Below B w w'

theorem rep_rule_of {w : World} {ok : Nat → Prop} {r : Rule} {A : Option Addr} {c : Nat} (h : Rep w ok (encP r.pat) [.int .i64 r.pat.op, .int .i64 r.pat.nt, .slice A r.pat.kids.length c]) : Rep w ok (encR r) [.int .i64 r.nt, .int .i64 r.pat.op, .int .i64 r.pat.nt, .slice A r.pat.kids.length c, .int .i64 r.cost, .string ⟨r.form.toArray⟩] := by
  obtain ⟨nt, p, cost, form⟩ := r
  exact rep_rule h

set_option maxHeartbeats 2000000 in
theorem found_none (s : List UInt8) (w : World) (ht : Tab w) (HI : Hid (idxOf formsR s = -1)) :
    Calls Tryd.prog 42 #[.string ⟨s.toArray⟩] w (RuleRet w.heap.size noRule (.bool false) w) := by
  go_enter Tryd.func42, Tryd.ntmps42
  go_wp2_with fail
  refine (forms_any _ (tab_alloc ht _ (Below.alloc (below_alloc _ _) (by simp) _))).mono ?_
  rintro e w1 ⟨v1, rfl, ho1, hb1⟩
  have hrep := ho1.rep
  obtain ⟨A, c, rfl, _⟩ := hrep.len
  rw [List.length_map] at hrep ⊢
  have hs1 : w1.cell? ⟨w.heap.size, 0, none⟩ = some (.string ⟨s.toArray⟩) := by
    rw [hb1.cell (p := ⟨w.heap.size, 0, none⟩) (by simp; omega)]
    simp
  have hz1 : w.heap.size + 1 < w1.heap.size := by have := hb1.size; simp at this; omega
  obtain ⟨hc, hf⟩ := bcell hb1
  have hb01 : Below w.heap.size w w1 := (Below.alloc (below_alloc _ _) (by simp) _).trans (hb1.mono (by simp; omega))
  go_wp2_with fail
  refine (indexFunc_any formsR _ A c _ s _ (by rw [formsR_len]; omega) hrep (by omega) hs1).mono ?_
  rintro e w2 ⟨rfl, hb2⟩
  obtain ⟨hc2, hf2⟩ := bcell hb2
  have hz2 := hb2.size
  have hb02 : Below w.heap.size w w2 := hb01.trans (hb2.mono hb01.size)
  rw [HI.out]
  go_wp2_with fail
  refine bodyPost_ret (v := .tuple #[.agg #[.int .i64 0, .int .i64 0, .int .i64 0, .slice none 0 0, .int .i64 0, .string ⟨#[]⟩], .bool false]) (by simp [results, Tryd.results42, go_sem, hc, hz1, hc2]) rfl ?_
  refine ⟨none, 0, rfl, rep_rule_of (r := noRule) rep_leaf, ?_⟩
  iterate 6 refine Below.setCell ?_ (by simp) _
  exact hb02

set_option maxHeartbeats 2000000 in
theorem found_some (s : List UInt8) (w : World) (ht : Tab w) (k : Nat) (hk : k < formsR.length) (HI : Hid (idxOf formsR s = k)) :
    Calls Tryd.prog 42 #[.string ⟨s.toArray⟩] w (RuleRet w.heap.size formsR[k] (.bool true) w) := by
  obtain ⟨r, hre⟩ : ∃ r, Hid (formsR[k] = r) := ⟨_, Lib.hid rfl⟩
  rw [hre.out]
  go_enter Tryd.func42, Tryd.ntmps42
  go_wp2_with fail
  refine (forms_any _ (tab_alloc ht _ (Below.alloc (below_alloc _ _) (by simp) _))).mono ?_
  rintro e w1 ⟨v1, rfl, ho1, hb1⟩
  have hrep := ho1.rep
  obtain ⟨A, c, rfl, _⟩ := hrep.len
  rw [List.length_map] at hrep ⊢
  have hs1 : w1.cell? ⟨w.heap.size, 0, none⟩ = some (.string ⟨s.toArray⟩) := by
    rw [hb1.cell (p := ⟨w.heap.size, 0, none⟩) (by simp; omega)]
    simp
  have hz1 : w.heap.size + 1 < w1.heap.size := by have := hb1.size; simp at this; omega
  obtain ⟨hc, hf⟩ := bcell hb1
  have hb01 : Below w.heap.size w w1 := (Below.alloc (below_alloc _ _) (by simp) _).trans (hb1.mono (by simp; omega))
  go_wp2_with fail
  refine (indexFunc_any formsR _ A c _ s _ (by rw [formsR_len]; omega) hrep (by omega) hs1).mono ?_
  rintro e w2 ⟨rfl, hb2⟩
  obtain ⟨hc2, hf2⟩ := bcell hb2
  have hz2 := hb2.size
  have hb02 : Below w.heap.size w w2 := hb01.trans (hb2.mono hb01.size)
  rw [HI.out]
  obtain ⟨g, off, B, d, rfl, hBg, hg, ⟨c0, c1, c2, c3, c4, c5⟩, _, hp⟩ := rules_at (Rep.below hrep hb2) k hk
  rw [hre.out] at c0 c1 c2 c3 c4 c5 hp
  rw [formsR_len]
  have hk : k < 60 := by rw [formsR_len] at hk; exact hk
  have hg1 : w.heap.size + 1 < g := by simp at hBg; omega
  have hp2 : Rep w2 (fun g => w.heap.size + 2 ≤ g) (encP r.pat) [.int .i64 r.pat.op, .int .i64 r.pat.nt, .slice B r.pat.kids.length d] := Rep.imp hp (fun g hg _ => by simp at hg; exact hg)
  have HP := Lib.hid hp2
  clear hrep hp hp2
  go_wp2_with fail
  refine bodyPost_ret (v := .tuple #[.agg #[.int .i64 r.nt, .int .i64 r.pat.op, .int .i64 r.pat.nt, .slice B r.pat.kids.length d, .int .i64 r.cost, .string ⟨r.form.toArray⟩], .bool true]) (by simp [results, Tryd.results42, go_sem, hc, hz1, hc2]) rfl ?_
  refine ⟨B, d, rfl, rep_rule_of ?_, ?_⟩
  · refine Rep.imp (ok := fun g => w.heap.size + 2 ≤ g) ?_ (fun g hg _ => by omega)
    iterate 6 refine Rep.setCell ?_ (fun g hg => by simp; omega)
    exact HP.out
  · iterate 6 refine Below.setCell ?_ (by simp) _
    exact hb02

theorem found_any (s : List UInt8) (w : World) (ht : Tab w) :
    Calls Tryd.prog 42 #[.string ⟨s.toArray⟩] w (RuleRet w.heap.size ((formOf s).getD noRule) (.bool (formOf s).isSome) w) := by
  rcases formOf_idx s with ⟨h1, h2⟩ | ⟨k, hk, h1, h2⟩
  · rw [h2]; exact found_none s w ht (Lib.hid h1)
  · rw [h2]; exact found_some s w ht k hk (Lib.hid h1)

set_option maxHeartbeats 2000000 in
theorem form_none (s : List UInt8) (w : World) (ht : Tab w) (hf : formOf s = none) :
    Calls Tryd.prog 9 #[.string ⟨s.toArray⟩] w (RuleRet w.heap.size noRule (.int .i64 12) w) := by
  have hcall := fun W hW => found_any s W hW
  rw [hf] at hcall
  simp only [Option.getD_none, Option.isSome_none] at hcall
  clear hf
  go_enter Tryd.func9, Tryd.ntmps9
  go_wp2_with fail
  refine (hcall _ (tab_alloc ht _ (below_alloc _ _))).mono ?_
  rintro e w1 ⟨A, c, rfl, _, hb⟩
  obtain ⟨hc, hf⟩ := bcell hb
  clear hcall
  have hz : w.heap.size < w1.heap.size := by have := hb.size; simp at this; omega
  have hb1 : Below w.heap.size w w1 := (below_alloc _ _).trans (hb.mono (by simp))
  go_wp2_with fail
  refine bodyPost_ret (v := .tuple #[.agg #[.int .i64 0, .int .i64 0, .int .i64 0, .slice none 0 0, .int .i64 0, .string ⟨#[]⟩], .int .i64 12]) (by simp [results, Tryd.results9, go_sem, hc, hz]) rfl ?_
  refine ⟨none, 0, rfl, rep_rule_of (r := noRule) rep_leaf, ?_⟩
  refine Below.alloc ?_ (by simp; omega) _
  iterate 6 refine Below.setCell ?_ (by simp) _
  exact hb1

set_option maxHeartbeats 2000000 in
theorem form_some (s : List UInt8) (r : Rule) (w : World) (ht : Tab w) (hf : formOf s = some r) :
    Calls Tryd.prog 9 #[.string ⟨s.toArray⟩] w (RuleRet w.heap.size r (.int .i64 0) w) := by
  have hcall := fun W hW => found_any s W hW
  rw [hf] at hcall
  simp only [Option.getD_some, Option.isSome_some] at hcall
  clear hf
  go_enter Tryd.func9, Tryd.ntmps9
  go_wp2_with fail
  refine (hcall _ (tab_alloc ht _ (below_alloc _ _))).mono ?_
  rintro e w1 ⟨A, c, rfl, hp, hb⟩
  obtain ⟨hc, hf⟩ := bcell hb
  have HP := Lib.hid hp
  clear hcall hp
  have hz : w.heap.size < w1.heap.size := by have := hb.size; simp at this; omega
  have hb1 : Below w.heap.size w w1 := (below_alloc _ _).trans (hb.mono (by simp))
  go_wp2_with fail
  refine bodyPost_ret (v := .tuple #[.agg #[.int .i64 r.nt, .int .i64 r.pat.op, .int .i64 r.pat.nt, .slice A r.pat.kids.length c, .int .i64 r.cost, .string ⟨r.form.toArray⟩], .int .i64 0]) (by simp [results, Tryd.results9, go_sem, hc, hz]) rfl ?_
  refine ⟨A, c, rfl, ?_, ?_⟩
  · refine Rep.imp (ok := fun g => w.heap.size + 1 ≤ g) ?_ (fun g hg _ => by omega)
    refine Rep.alloc ?_ _
    iterate 6 refine Rep.setCell ?_ (fun g hg => by simp; omega)
    exact Rep.imp HP.out (fun g hg _ => by simpa using hg)
  · refine Below.alloc ?_ (by simp; omega) _
    iterate 6 refine Below.setCell ?_ (by simp) _
    exact hb1

theorem form_any (s : List UInt8) (w : World) (ht : Tab w) :
    Calls Tryd.prog 9 #[.string ⟨s.toArray⟩] w (RuleRet w.heap.size ((formOf s).getD noRule) (.int .i64 (if (formOf s).isSome then 0 else 12)) w) := by
  cases hf : formOf s with
  | none => exact form_none s w ht hf
  | some r => exact form_some s r w ht hf

end Go.Proofs.YthdicdkgfmiepaaDoor

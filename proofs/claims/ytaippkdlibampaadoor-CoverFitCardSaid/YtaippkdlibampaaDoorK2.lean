/- Patterns and rules read back out of memory; a rule's form asked for (rule.found's closure, slices.IndexFunc). rule.All walked. EqPat, EqPats, EqRule walked: at any patterns. The reference's side: gantletref6.Word, gantletref11.Forms, gantletref11.Form. The reference's Form, and the statement's own helpers. RuleForms: wakes, and the statement's function walked. What comes in, decoded: texts, patterns, rules, the questions. -/
import Derived.Test.YtaippkdlibampaaDoorK1
import Derived.BigQuiet
import Derived.Deep.QuietTactic
import Derived.Deep.LoopGhost
import Derived.Deep.RegionHeld3
import Derived.Deep.CutBlock
import Derived.Deep.DeepCutAuto
namespace Go.Proofs.YtaippkdlibampaaDoor

/- Patterns and rules read back out of memory; a rule's form asked for (rule.found's closure, slices.IndexFunc). -/
section
open Go.RowKit

def Pat.op : Pat → Int | .mk op _ _ => op
def Pat.nt : Pat → Int | .mk _ nt _ => nt
def Pat.kids : Pat → List Pat | .mk _ _ kids => kids

theorem encPs_map : ∀ ps : List Pat, encP.encPs ps = ps.map encP
  | [] => by unfold encP.encPs; rfl
  | p :: ps => by unfold encP.encPs; rw [encPs_map ps]; rfl

theorem repAll_inv {w : World} {ok : Nat → Prop} {d : D} {ds : List D} {cs : List Value} (h : RepAll w ok (d :: ds) cs) : ∃ a b : List Value, cs = a ++ b ∧ Rep w ok d a ∧ RepAll w ok ds b := by
  unfold RepAll at h; exact h
theorem repAll_nil {w : World} {ok : Nat → Prop} {cs : List Value} (h : RepAll w ok [] cs) : cs = [] := by
  unfold RepAll at h; exact h
theorem rep_int_inv {w : World} {ok : Nat → Prop} {k : IntKind} {n : Int} {cs : List Value} (h : Rep w ok (.int k n) cs) : cs = [.int k n] := by
  unfold Rep at h; exact h
theorem rep_str_inv {w : World} {ok : Nat → Prop} {s : List UInt8} {cs : List Value} (h : Rep w ok (.str s) cs) : cs = [.string ⟨s.toArray⟩] := by
  unfold Rep at h; exact h
theorem rep_bool_inv {w : World} {ok : Nat → Prop} {b : Bool} {cs : List Value} (h : Rep w ok (.bool b) cs) : cs = [.bool b] := by
  unfold Rep at h; exact h
theorem rep_st_inv {w : World} {ok : Nat → Prop} {ds : List D} {cs : List Value} (h : Rep w ok (.st ds) cs) : RepAll w ok ds cs := by
  unfold Rep at h; exact h
theorem rep_lst_inv {w : World} {ok : Nat → Prop} {z : Nat} {xs : List D} {cs : List Value} (h : Rep w ok (.lst z xs) cs) : ∃ (A : Option Addr) (c : Nat), cs = [.slice A xs.length c] ∧ xs.length ≤ c ∧ c ≤ maxLen ∧ Rep w ok (.lst z xs) [.slice A xs.length c] := by
  have h0 := h
  unfold Rep at h
  obtain ⟨A, c, rfl, hc, hm, _⟩ := h
  exact ⟨A, c, rfl, hc, hm, h0⟩

theorem Rep.setCell {w : World} {ok : Nat → Prop} {d : D} {cs : List Value} {p : Addr} {u : Value} (h : Rep w ok d cs) (hp : ∀ g, ok g → g ≠ p.block) : Rep (w.setCell p u) ok d cs :=
  Rep.keep (fun _ h _ => h) (fun g hg _ => Below.heap_setCell w p u g (hp g hg)) d cs h

theorem rep_pat_inv {w : World} {ok : Nat → Prop} {p : Pat} {cs : List Value} (h : Rep w ok (encP p) cs) :
    ∃ (A : Option Addr) (c : Nat), cs = [.int .i64 p.op, .int .i64 p.nt, .slice A p.kids.length c] ∧ p.kids.length ≤ maxLen ∧ Rep w ok (.lst 3 (p.kids.map encP)) [.slice A p.kids.length c] := by
  obtain ⟨op, nt, kids⟩ := p
  unfold encP at h
  obtain ⟨a, b, rfl, h1, h2⟩ := repAll_inv (rep_st_inv h)
  obtain ⟨a2, b2, rfl, h3, h4⟩ := repAll_inv h2
  obtain ⟨a3, b3, rfl, h5, h6⟩ := repAll_inv h4
  rw [encPs_map] at h5
  obtain ⟨A, c, rfl, hc, hm, h7⟩ := rep_lst_inv h5
  rw [rep_int_inv h1, rep_int_inv h3, repAll_nil h6]
  rw [List.length_map] at hc h7 ⊢
  exact ⟨A, c, rfl, Nat.le_trans hc hm, h7⟩

theorem rep_rule_inv {w : World} {ok : Nat → Prop} {r : Rule} {cs : List Value} (h : Rep w ok (encR r) cs) :
    ∃ (A : Option Addr) (c : Nat), cs = [.int .i64 r.nt, .int .i64 r.pat.op, .int .i64 r.pat.nt, .slice A r.pat.kids.length c, .int .i64 r.cost, .string ⟨r.form.toArray⟩] ∧ r.pat.kids.length ≤ maxLen ∧ Rep w ok (encP r.pat) [.int .i64 r.pat.op, .int .i64 r.pat.nt, .slice A r.pat.kids.length c] := by
  obtain ⟨nt, p, cost, form⟩ := r
  unfold encR at h
  obtain ⟨a, b, rfl, h1, h2⟩ := repAll_inv (rep_st_inv h)
  obtain ⟨a2, b2, rfl, h3, h4⟩ := repAll_inv h2
  obtain ⟨a3, b3, rfl, h5, h6⟩ := repAll_inv h4
  obtain ⟨a4, b4, rfl, h7, h8⟩ := repAll_inv h6
  obtain ⟨A, c, rfl, hc, h9⟩ := rep_pat_inv h3
  rw [rep_int_inv h1, rep_int_inv h5, rep_str_inv h7, repAll_nil h8]
  exact ⟨A, c, rfl, hc, h3⟩

/-- row k of a slice of rules -/
theorem rules_at {w : World} {ok : Nat → Prop} {rs : List Rule} {A : Option Addr} {n c : Nat} (h : Rep w ok (.lst 6 (rs.map encR)) [.slice A n c]) (k : Nat) (hk : k < rs.length) :
    ∃ (g off : Nat) (B : Option Addr) (d : Nat), A = some ⟨g, off, none⟩ ∧ ok g ∧ g < w.heap.size ∧
      (w.cell? ⟨g, off + k * 6, none⟩ = some (.int .i64 rs[k].nt) ∧ w.cell? ⟨g, off + k * 6 + 1, none⟩ = some (.int .i64 rs[k].pat.op) ∧ w.cell? ⟨g, off + k * 6 + 2, none⟩ = some (.int .i64 rs[k].pat.nt) ∧ w.cell? ⟨g, off + k * 6 + 3, none⟩ = some (.slice B rs[k].pat.kids.length d) ∧ w.cell? ⟨g, off + k * 6 + 4, none⟩ = some (.int .i64 rs[k].cost) ∧ w.cell? ⟨g, off + k * 6 + 5, none⟩ = some (.string ⟨rs[k].form.toArray⟩)) ∧
      rs[k].pat.kids.length ≤ maxLen ∧ Rep w ok (encP rs[k].pat) [.int .i64 rs[k].pat.op, .int .i64 rs[k].pat.nt, .slice B rs[k].pat.kids.length d] := by
  obtain ⟨g, off, a, hA, hok, hlt, hl, hr, hc⟩ := h.at_ k (by simpa using hk)
  rw [List.getElem_map] at hr
  obtain ⟨B, d, rfl, hd, hp⟩ := rep_rule_inv hr
  have e : ∀ j, off + (k * 6 + j) = off + k * 6 + j := fun j => by omega
  refine ⟨g, off, B, d, hA, hok, hlt, ⟨?_, ?_, ?_, ?_, ?_, ?_⟩, hd, hp⟩
  · have := hc 0 (by omega); rw [e] at this; exact this
  · have := hc 1 (by omega); rw [e] at this; exact this
  · have := hc 2 (by omega); rw [e] at this; exact this
  · have := hc 3 (by omega); rw [e] at this; exact this
  · have := hc 4 (by omega); rw [e] at this; exact this
  · have := hc 5 (by omega); rw [e] at this; exact this

theorem str_eq (a b : List UInt8) : ((⟨a.toArray⟩ : ByteArray) = ⟨b.toArray⟩) ↔ a = b := by
  constructor
  · intro h; injection h with h; simpa using congrArg Array.toList h
  · rintro rfl; rfl

/-- where the first rule of a form is; -1: nowhere -/
def idxOf (rs : List Rule) (s : List UInt8) : Int := if rs.findIdx (fun r => r.form == s) < rs.length then (rs.findIdx (fun r => r.form == s) : Nat) else -1

theorem idxOf_hit (rs : List Rule) (s : List UInt8) (k : Nat) (hk : k < rs.length) (h : rs[k].form = s) (hb : ∀ j (hj : j < k), (rs[j]'(by omega)).form ≠ s) : idxOf rs s = k := by
  have : rs.findIdx (fun r => r.form == s) = k := by
    rw [List.findIdx_eq hk]
    exact ⟨by simp [h], fun j hj => by simpa using hb j hj⟩
  unfold idxOf
  rw [this, if_pos hk]

theorem idxOf_miss (rs : List Rule) (s : List UInt8) (hb : ∀ j (hj : j < rs.length), rs[j].form ≠ s) : idxOf rs s = -1 := by
  have : rs.findIdx (fun r => r.form == s) = rs.length := by
    rw [List.findIdx_eq_length]
    intro x hx
    obtain ⟨j, hj, rfl⟩ := List.getElem_of_mem hx
    simpa using hb j hj
  unfold idxOf
  rw [this, if_neg (by omega)]

def SomeBoolBelow (b : Bool) (w : World) (e : Ending) (w' : World) : Prop := e = .returned (.bool b) ∧ Below w.heap.size w w'

set_option maxHeartbeats 1000000 in
theorem found1_any (r : Rule) (A : Option Addr) (m c b : Nat) (s : List UInt8) (w : World) (hb : b < w.heap.size) (hs : w.cell? ⟨b, 0, none⟩ = some (.string ⟨s.toArray⟩)) :
    Calls Tryd.prog 90 #[.agg #[.int .i64 r.nt, .int .i64 r.pat.op, .int .i64 r.pat.nt, .slice A m c, .int .i64 r.cost, .string ⟨r.form.toArray⟩], .pointer (some ⟨b, 0, none⟩)] w (SomeBoolBelow (r.form == s) w) := by
  go_enter Tryd.func90, Tryd.ntmps90
  go_wp2_with fail
  go_ret
  exact ⟨ret_bool rfl, below_alloc _ _⟩

def IdxPost (i : Int) (w : World) (e : Ending) (w' : World) : Prop := e = .returned (.int .i64 i) ∧ Below w.heap.size w w'

set_option maxHeartbeats 2000000 in
theorem indexFunc_any (rs : List Rule) (ok : Nat → Prop) (A : Option Addr) (c b : Nat) (s : List UInt8) (w : World) (hl : rs.length ≤ 100000) (hr : Rep w ok (.lst 6 (rs.map encR)) [.slice A rs.length c]) (hb : b < w.heap.size) (hs : w.cell? ⟨b, 0, none⟩ = some (.string ⟨s.toArray⟩)) :
    Calls Tryd.prog 89 #[.slice A rs.length c, .func (.func 90) #[] #[.pointer (some ⟨b, 0, none⟩)]] w (IdxPost (idxOf rs s) w) := by
  obtain ⟨n, hn⟩ : ∃ n, Hid (rs.length = n) := ⟨_, Lib.hid rfl⟩
  have hl2 : n ≤ 100000 := by rw [← hn.out]; exact hl
  rw [hn.out]
  rw [hn.out] at hr
  clear hl
  go_enter Tryd.func89, Tryd.ntmps89
  go_wp2_with fail
  go_loopw [5, 8] (fun _ i wr => ∃ k : Nat, k ≤ n ∧ i = .int .i64 k ∧ Below w.heap.size w wr ∧ Hid (∀ j (hj : j < rs.length), j < k → rs[j].form ≠ s)) (fun _ i _ => n - (intOf i).toNat)
  case atStart => exact ⟨0, by omega, rfl, Below.refl _ _, Lib.hid (fun j _ h => absurd h (by omega))⟩
  case round =>
    obtain ⟨k, hk, rfl, hbl, hmiss⟩ := hrel
    obtain ⟨wo, rfl⟩ : ∃ wo : World, wo = wr := ⟨_, rfl⟩
    by_cases hlt : k < n
    · have hkl : k < rs.length := by rw [hn.out]; exact hlt
      obtain ⟨g, off, B, d, rfl, _, hg, ⟨c0, c1, c2, c3, c4, c5⟩, _, _⟩ := rules_at (Rep.below hr hbl) k hkl
      have hs' : wo.cell? ⟨b, 0, none⟩ = some (.string ⟨s.toArray⟩) := (hbl.cell hb).trans hs
      have hb' : b < wo.heap.size := Nat.lt_of_lt_of_le hb hbl.size
      obtain ⟨r, hre⟩ : ∃ r, Hid (rs[k] = r) := ⟨_, Lib.hid rfl⟩
      rw [hre.out] at c0 c1 c2 c3 c4 c5
      clear hr hs
      have hc := found1_any r B r.pat.kids.length d b s wo hb' hs'
      by_cases hf : r.form = s
      · rw [show (r.form == s) = true by simp [hf]] at hc
        have HF := Lib.hid hf
        clear hs' hf
        go_wp2_with (go_at_call 90; refine hc.mono ?_; rintro e w1 ⟨rfl, hb1⟩)
        go_ret
        refine ⟨?_, hbl.trans (hb1.mono hbl.size)⟩
        rw [idxOf_hit rs s k hkl (by rw [hre.out]; exact HF.out) (fun j hj => hmiss.out j (by omega) hj)]
        rfl
      · rw [show (r.form == s) = false by simp [hf]] at hc
        have HF := Lib.hid hf
        clear hs' hf
        go_wp2_with (go_at_call 90; refine hc.mono ?_; rintro e w1 ⟨rfl, hb1⟩)
        go_roundw
        case rel =>
          refine ⟨k + 1, by omega, by go_num, hbl.trans (hb1.mono hbl.size), Lib.hid (fun j hj hjk => ?_)⟩
          by_cases e : j = k
          · subst e; rw [hre.out]; exact HF.out
          · exact hmiss.out j hj (by omega)
        case measure => simp [intOf]; omega
    · obtain rfl : k = n := by omega
      go_wp2_with fail
      go_ret
      refine ⟨?_, hbl⟩
      rw [idxOf_miss rs s (fun j hj => hmiss.out j hj (by rw [← hn.out]; exact hj))]
      rfl

def formOf (s : List UInt8) : Option Rule := formsR.find? (fun r => r.form == s)
def noRule : Rule := ⟨0, .mk 0 0 [], 0, []⟩

theorem formOf_idx (s : List UInt8) : (idxOf formsR s = -1 ∧ formOf s = none) ∨ ∃ (k : Nat) (h : k < formsR.length), idxOf formsR s = k ∧ formOf s = some formsR[k] := by
  unfold idxOf formOf
  by_cases h : formsR.findIdx (fun r => r.form == s) < formsR.length
  · right
    refine ⟨_, h, by rw [if_pos h], ?_⟩
    rw [List.find?_eq_some_iff_getElem]
    refine ⟨List.findIdx_getElem (w := h), _, h, rfl, fun j hj => ?_⟩
    have := List.not_of_lt_findIdx hj
    simpa using this
  · left
    refine ⟨by rw [if_neg h], ?_⟩
    rw [List.find?_eq_none]
    have h2 : formsR.findIdx (fun r => r.form == s) = formsR.length := by
      have := List.findIdx_le_length (xs := formsR) (p := fun r => r.form == s)
      omega
    rw [List.findIdx_eq_length] at h2
    intro x hx
    have := h2 x hx
    simp at this
    simpa using this

/-- a rule that is handed back by value, with a word beside it -/
def RuleRet (B : Nat) (r : Rule) (u : Value) (w : World) (e : Ending) (w' : World) : Prop :=
  ∃ (A : Option Addr) (c : Nat), e = .returned (.tuple #[.agg #[.int .i64 r.nt, .int .i64 r.pat.op, .int .i64 r.pat.nt, .slice A r.pat.kids.length c, .int .i64 r.cost, .string ⟨r.form.toArray⟩], u]) ∧
    Rep w' (fun g => B ≤ g) (encR r) [.int .i64 r.nt, .int .i64 r.pat.op, .int .i64 r.pat.nt, .slice A r.pat.kids.length c, .int .i64 r.cost, .string ⟨r.form.toArray⟩] ∧ Below B w w'

theorem rep_rule_of {w : World} {ok : Nat → Prop} {r : Rule} {A : Option Addr} {c : Nat} (h : Rep w ok (encP r.pat) [.int .i64 r.pat.op, .int .i64 r.pat.nt, .slice A r.pat.kids.length c]) : Rep w ok (encR r) [.int .i64 r.nt, .int .i64 r.pat.op, .int .i64 r.pat.nt, .slice A r.pat.kids.length c, .int .i64 r.cost, .string ⟨r.form.toArray⟩] := by
  obtain ⟨nt, p, cost, form⟩ := r
  exact rep_rule h

set_option maxHeartbeats 2000000 in
theorem found_none (s : List UInt8) (w : World) (ht : Tab w) (HI : Hid (idxOf formsR s = -1)) :
    Calls Tryd.prog 46 #[.string ⟨s.toArray⟩] w (RuleRet w.heap.size noRule (.bool false) w) := by
  go_enter Tryd.func46, Tryd.ntmps46
  go_wp2_with fail
  refine (forms_any _ (tab_alloc ht _ (Below.alloc (below_alloc _ _) (by simp) _))).mono ?_
  rintro e w1 ⟨v1, rfl, ho1, hb1⟩
  have hrep := ho1.rep
  obtain ⟨A, c, rfl, _⟩ := hrep.len
  rw [List.length_map] at hrep ⊢
  have hs1 : w1.cell? ⟨w.heap.size, 0, none⟩ = some (.string ⟨s.toArray⟩) := by
    rw [hb1.cell (p := ⟨w.heap.size, 0, none⟩) (by simp; omega)]
    simp
  have hz1 : w.heap.size + 1 < w1.heap.size := by have := hb1.size; simp at this; omega
  obtain ⟨hc, hf⟩ := bcell hb1
  have hb01 : Below w.heap.size w w1 := (Below.alloc (below_alloc _ _) (by simp) _).trans (hb1.mono (by simp; omega))
  go_wp2_with fail
  refine (indexFunc_any formsR _ A c _ s _ (by rw [formsR_len]; omega) hrep (by omega) hs1).mono ?_
  rintro e w2 ⟨rfl, hb2⟩
  obtain ⟨hc2, hf2⟩ := bcell hb2
  have hz2 := hb2.size
  have hb02 : Below w.heap.size w w2 := hb01.trans (hb2.mono hb01.size)
  rw [HI.out]
  go_wp2_with fail
  refine bodyPost_ret (v := .tuple #[.agg #[.int .i64 0, .int .i64 0, .int .i64 0, .slice none 0 0, .int .i64 0, .string ⟨#[]⟩], .bool false]) (by simp [results, Tryd.results46, go_sem, hc, hz1, hc2]) rfl ?_
  refine ⟨none, 0, rfl, rep_rule_of (r := noRule) rep_leaf, ?_⟩
  iterate 6 refine Below.setCell ?_ (by simp) _
  exact hb02

set_option maxHeartbeats 2000000 in
theorem found_some (s : List UInt8) (w : World) (ht : Tab w) (k : Nat) (hk : k < formsR.length) (HI : Hid (idxOf formsR s = k)) :
    Calls Tryd.prog 46 #[.string ⟨s.toArray⟩] w (RuleRet w.heap.size formsR[k] (.bool true) w) := by
  obtain ⟨r, hre⟩ : ∃ r, Hid (formsR[k] = r) := ⟨_, Lib.hid rfl⟩
  rw [hre.out]
  go_enter Tryd.func46, Tryd.ntmps46
  go_wp2_with fail
  refine (forms_any _ (tab_alloc ht _ (Below.alloc (below_alloc _ _) (by simp) _))).mono ?_
  rintro e w1 ⟨v1, rfl, ho1, hb1⟩
  have hrep := ho1.rep
  obtain ⟨A, c, rfl, _⟩ := hrep.len
  rw [List.length_map] at hrep ⊢
  have hs1 : w1.cell? ⟨w.heap.size, 0, none⟩ = some (.string ⟨s.toArray⟩) := by
    rw [hb1.cell (p := ⟨w.heap.size, 0, none⟩) (by simp; omega)]
    simp
  have hz1 : w.heap.size + 1 < w1.heap.size := by have := hb1.size; simp at this; omega
  obtain ⟨hc, hf⟩ := bcell hb1
  have hb01 : Below w.heap.size w w1 := (Below.alloc (below_alloc _ _) (by simp) _).trans (hb1.mono (by simp; omega))
  go_wp2_with fail
  refine (indexFunc_any formsR _ A c _ s _ (by rw [formsR_len]; omega) hrep (by omega) hs1).mono ?_
  rintro e w2 ⟨rfl, hb2⟩
  obtain ⟨hc2, hf2⟩ := bcell hb2
  have hz2 := hb2.size
  have hb02 : Below w.heap.size w w2 := hb01.trans (hb2.mono hb01.size)
  rw [HI.out]
  obtain ⟨g, off, B, d, rfl, hBg, hg, ⟨c0, c1, c2, c3, c4, c5⟩, _, hp⟩ := rules_at (Rep.below hrep hb2) k hk
  rw [hre.out] at c0 c1 c2 c3 c4 c5 hp
  rw [formsR_len]
  have hk : k < 60 := by rw [formsR_len] at hk; exact hk
  have hg1 : w.heap.size + 1 < g := by simp at hBg; omega
  have hp2 : Rep w2 (fun g => w.heap.size + 2 ≤ g) (encP r.pat) [.int .i64 r.pat.op, .int .i64 r.pat.nt, .slice B r.pat.kids.length d] := Rep.imp hp (fun g hg _ => by simp at hg; exact hg)
  have HP := Lib.hid hp2
  clear hrep hp hp2
  go_wp2_with fail
  refine bodyPost_ret (v := .tuple #[.agg #[.int .i64 r.nt, .int .i64 r.pat.op, .int .i64 r.pat.nt, .slice B r.pat.kids.length d, .int .i64 r.cost, .string ⟨r.form.toArray⟩], .bool true]) (by simp [results, Tryd.results46, go_sem, hc, hz1, hc2]) rfl ?_
  refine ⟨B, d, rfl, rep_rule_of ?_, ?_⟩
  · refine Rep.imp (ok := fun g => w.heap.size + 2 ≤ g) ?_ (fun g hg _ => by omega)
    iterate 6 refine Rep.setCell ?_ (fun g hg => by simp; omega)
    exact HP.out
  · iterate 6 refine Below.setCell ?_ (by simp) _
    exact hb02

theorem found_any (s : List UInt8) (w : World) (ht : Tab w) :
    Calls Tryd.prog 46 #[.string ⟨s.toArray⟩] w (RuleRet w.heap.size ((formOf s).getD noRule) (.bool (formOf s).isSome) w) := by
  rcases formOf_idx s with ⟨h1, h2⟩ | ⟨k, hk, h1, h2⟩
  · rw [h2]; exact found_none s w ht (Lib.hid h1)
  · rw [h2]; exact found_some s w ht k hk (Lib.hid h1)

set_option maxHeartbeats 2000000 in
theorem form_none (s : List UInt8) (w : World) (ht : Tab w) (hf : formOf s = none) :
    Calls Tryd.prog 11 #[.string ⟨s.toArray⟩] w (RuleRet w.heap.size noRule (.int .i64 12) w) := by
  have hcall := fun W hW => found_any s W hW
  rw [hf] at hcall
  simp only [Option.getD_none, Option.isSome_none] at hcall
  clear hf
  go_enter Tryd.func11, Tryd.ntmps11
  go_wp2_with fail
  refine (hcall _ (tab_alloc ht _ (below_alloc _ _))).mono ?_
  rintro e w1 ⟨A, c, rfl, _, hb⟩
  obtain ⟨hc, hf⟩ := bcell hb
  clear hcall
  have hz : w.heap.size < w1.heap.size := by have := hb.size; simp at this; omega
  have hb1 : Below w.heap.size w w1 := (below_alloc _ _).trans (hb.mono (by simp))
  go_wp2_with fail
  refine bodyPost_ret (v := .tuple #[.agg #[.int .i64 0, .int .i64 0, .int .i64 0, .slice none 0 0, .int .i64 0, .string ⟨#[]⟩], .int .i64 12]) (by simp [results, Tryd.results11, go_sem, hc, hz]) rfl ?_
  refine ⟨none, 0, rfl, rep_rule_of (r := noRule) rep_leaf, ?_⟩
  refine Below.alloc ?_ (by simp; omega) _
  iterate 6 refine Below.setCell ?_ (by simp) _
  exact hb1

set_option maxHeartbeats 2000000 in
theorem form_some (s : List UInt8) (r : Rule) (w : World) (ht : Tab w) (hf : formOf s = some r) :
    Calls Tryd.prog 11 #[.string ⟨s.toArray⟩] w (RuleRet w.heap.size r (.int .i64 0) w) := by
  have hcall := fun W hW => found_any s W hW
  rw [hf] at hcall
  simp only [Option.getD_some, Option.isSome_some] at hcall
  clear hf
  go_enter Tryd.func11, Tryd.ntmps11
  go_wp2_with fail
  refine (hcall _ (tab_alloc ht _ (below_alloc _ _))).mono ?_
  rintro e w1 ⟨A, c, rfl, hp, hb⟩
  obtain ⟨hc, hf⟩ := bcell hb
  have HP := Lib.hid hp
  clear hcall hp
  have hz : w.heap.size < w1.heap.size := by have := hb.size; simp at this; omega
  have hb1 : Below w.heap.size w w1 := (below_alloc _ _).trans (hb.mono (by simp))
  go_wp2_with fail
  refine bodyPost_ret (v := .tuple #[.agg #[.int .i64 r.nt, .int .i64 r.pat.op, .int .i64 r.pat.nt, .slice A r.pat.kids.length c, .int .i64 r.cost, .string ⟨r.form.toArray⟩], .int .i64 0]) (by simp [results, Tryd.results11, go_sem, hc, hz]) rfl ?_
  refine ⟨A, c, rfl, ?_, ?_⟩
  · refine Rep.imp (ok := fun g => w.heap.size + 1 ≤ g) ?_ (fun g hg _ => by omega)
    refine Rep.alloc ?_ _
    iterate 6 refine Rep.setCell ?_ (fun g hg => by simp; omega)
    exact Rep.imp HP.out (fun g hg _ => by simpa using hg)
  · refine Below.alloc ?_ (by simp; omega) _
    iterate 6 refine Below.setCell ?_ (by simp) _
    exact hb1

theorem form_any (s : List UInt8) (w : World) (ht : Tab w) :
    Calls Tryd.prog 11 #[.string ⟨s.toArray⟩] w (RuleRet w.heap.size ((formOf s).getD noRule) (.int .i64 (if (formOf s).isSome then 0 else 12)) w) := by
  cases hf : formOf s with
  | none => exact form_none s w ht hf
  | some r => exact form_some s r w ht hf

end

/- rule.All walked. -/
section
open Go.RowKit

theorem string_info : (Tryd.prog.info? 9).map (fun i => (i.zero, i.size, i.bytes)) = some (some (.string ⟨#[]⟩), 1, 16) := by kernel_rfl

def formD (r : Rule) : D := .str r.form

set_option maxRecDepth 100000 in
set_option maxHeartbeats 2000000 in
theorem all_any (w : World) (ht : Tab w) : Calls Tryd.prog 10 #[] w fun e w' => ∃ v, e = .returned v ∧ Own w' w.heap.size (fun g => w.heap.size ≤ g) 9 1 v (formsR.map formD) ∧ Below w.heap.size w w' := by
  go_enter Tryd.func10, Tryd.ntmps10
  go_wp2_with fail
  refine (forms_any _ ht).mono ?_
  rintro e w1 ⟨v1, rfl, ho1, hb1⟩
  have hrep := ho1.rep
  obtain ⟨A, c, rfl, _⟩ := hrep.len
  rw [List.length_map] at hrep ⊢
  obtain ⟨n, hn⟩ : ∃ n, Hid (formsR.length = n) := ⟨_, Lib.hid rfl⟩
  have hl2 : n ≤ 100000 := by rw [← hn.out, formsR_len]; omega
  rw [hn.out]
  rw [hn.out] at hrep
  clear ho1
  go_wp2_with fail
  go_loopw [1, 6] (fun v i wr => ∃ k : Nat, k ≤ n ∧ i = .int .i64 k ∧ Own wr w1.heap.size (fun g => w.heap.size ≤ g) 9 1 v ((formsR.take k).map formD) ∧ Below w1.heap.size w1 wr) (fun _ i _ => n - (intOf i).toNat)
  case atStart => exact ⟨0, by omega, rfl, Own.nil _ _ _ _ _, Below.refl _ _⟩
  case round =>
    obtain ⟨k, hk, rfl, hown, hb⟩ := hrel
    obtain ⟨wo, rfl⟩ : ∃ wo : World, wo = wr := ⟨_, rfl⟩
    by_cases hlt : k < n
    · have hkl : k < formsR.length := by rw [hn.out]; exact hlt
      obtain ⟨g, off, B, d, rfl, _, hg, ⟨c0, c1, c2, c3, c4, c5⟩, _, _⟩ := rules_at (Rep.below hrep hb) k hkl
      have hts : Hid ((formsR.take (k + 1)).map formD = (formsR.take k).map formD ++ [formD formsR[k]]) := by
        refine Lib.hid ?_
        rw [List.take_succ_eq_append_getElem hkl, List.map_append]; rfl
      obtain ⟨r, hre⟩ : ∃ r, Hid (formsR[k] = r) := ⟨_, Lib.hid rfl⟩
      rw [hre.out] at c0 c1 c2 c3 c4 c5 hts
      have hlen : ((formsR.take k).map formD).length ≤ 1000000 := by simp; omega
      clear hrep
      go_wp2_with (at_builtin; go_must (refine append_one rfl (.tmp 10) (.tmp 13) 23 9 1 16 _ rfl Tryd.underlying23 string_info rfl (by decide) (by decide) w1.heap.size (fun g => w.heap.size ≤ g) _ _ rfl (wo.heap.size + 1) rfl ((hown.alloc _).alloc _) [.string ⟨r.form.toArray⟩] (formD r) (BlkIs.fresh1 _ _ _ _) rfl (by simp [Value.oneCell']) (by unfold formD Rep; rfl) (by omega) (by have := hb.size; simp; omega) ?_); intro v2 w2 hown2 hb2 hk2)
      go_roundw
      case rel => exact ⟨k + 1, by omega, by go_num, by rw [hts.out]; exact hown2, ((hb.alloc hb.size _).alloc (by have := hb.size; simp; omega) _).trans hb2⟩
      case measure => simp [intOf]; omega
    · obtain rfl : k = n := by omega
      go_wp2_with fail
      go_ret
      refine ⟨_, rfl, ?_, hb1.trans (hb.mono hb1.size)⟩
      have h1 : formsR.take k = formsR := List.take_of_length_le (by rw [hn.out]; omega)
      rw [h1] at hown
      exact hown.base hb1.size

end

/- EqPat, EqPats, EqRule walked: at any patterns. -/
section
open Go.RowKit

theorem cell_alloc {w : World} {a : Addr} {v : Value} (h : w.cell? a = some v) (o : Obj) : (w.alloc o).cell? a = some v := by
  rw [World.cell?_alloc_lt _ _ _ (World.block_lt_of_cell? _ _ h)]; exact h
theorem cell_drew {w : World} {a : Addr} {v : Value} (h : w.cell? a = some v) : w.drew.cell? a = some v := h
theorem cell_set {w : World} {a b : Addr} {v : Value} (h : w.cell? a = some v) (hne : b.block ≠ a.block) (u : Value) : (w.setCell b u).cell? a = some v := by
  rw [World.cell?_setCell_other w b a u (fun e => hne (by rw [e]))]; exact h
theorem cell_drewN {w : World} {a : Addr} {v : Value} (h : w.cell? a = some v) (n : Nat) : (w.drewN n).cell? a = some v := h

theorem later3 {w w' : World} {p q r : Addr} {u v x : Value} (hb : Below w.heap.size w w') (h : w.cell? p = some u ∧ w.cell? q = some v ∧ w.cell? r = some x) : w'.cell? p = some u ∧ w'.cell? q = some v ∧ w'.cell? r = some x :=
  ⟨cell_later hb h.1, cell_later hb h.2.1, cell_later hb h.2.2⟩

noncomputable def same {α : Type} (a b : α) : Bool := @decide (a = b) (Classical.propDecidable _)
theorem same_iff {α : Type} (a b : α) : same a b = true ↔ a = b := by unfold same; simp
theorem same_false {α : Type} (a b : α) : same a b = false ↔ a ≠ b := by unfold same; simp

theorem Pat.ext_iff' (p q : Pat) : p = q ↔ p.op = q.op ∧ p.nt = q.nt ∧ p.kids = q.kids := by
  cases p; cases q; simp [Pat.op, Pat.nt, Pat.kids]

/-- kid k of a slice of patterns -/
theorem pats_at {w : World} {ok : Nat → Prop} {ps : List Pat} {A : Option Addr} {n c : Nat} (h : Rep w ok (.lst 3 (ps.map encP)) [.slice A n c]) (k : Nat) (hk : k < ps.length) :
    ∃ (g off : Nat) (B : Option Addr) (d : Nat), A = some ⟨g, off, none⟩ ∧ ok g ∧ g < w.heap.size ∧
      (w.cell? ⟨g, off + k * 3, none⟩ = some (.int .i64 ps[k].op) ∧ w.cell? ⟨g, off + k * 3 + 1, none⟩ = some (.int .i64 ps[k].nt) ∧ w.cell? ⟨g, off + k * 3 + 2, none⟩ = some (.slice B ps[k].kids.length d)) ∧
      Rep w ok (encP ps[k]) [.int .i64 ps[k].op, .int .i64 ps[k].nt, .slice B ps[k].kids.length d] := by
  obtain ⟨g, off, a, hA, hok, hlt, hl, hr, hc⟩ := h.at_ k (by simpa using hk)
  rw [List.getElem_map] at hr
  have hr0 := hr
  obtain ⟨B, d, rfl, hd, hp⟩ := rep_pat_inv hr
  have e : ∀ j, off + (k * 3 + j) = off + k * 3 + j := fun j => by omega
  refine ⟨g, off, B, d, hA, hok, hlt, ⟨?_, ?_, ?_⟩, hr0⟩
  · have := hc 0 (by omega); rw [e] at this; exact this
  · have := hc 1 (by omega); rw [e] at this; exact this
  · have := hc 2 (by omega); rw [e] at this; exact this

def PatArg (A : Option Addr) (c : Nat) (p : Pat) : Value := .agg #[.int .i64 p.op, .int .i64 p.nt, .slice A p.kids.length c]
def PatIn (w : World) (A : Option Addr) (c : Nat) (p : Pat) : Prop := ∃ ok, Rep w ok (encP p) [.int .i64 p.op, .int .i64 p.nt, .slice A p.kids.length c]

def EqPatOk (p : Pat) : Prop := ∀ (q : Pat) (A B : Option Addr) (c d : Nat) (w : World), PatIn w A c p → PatIn w B d q →
  Calls Tryd.prog 47 #[.agg #[.int .i64 p.op, .int .i64 p.nt, .slice A p.kids.length c], .agg #[.int .i64 q.op, .int .i64 q.nt, .slice B q.kids.length d]] w (SomeBoolBelow (same p q) w)

def PatsIn (w : World) (A : Option Addr) (c : Nat) (ps : List Pat) : Prop := ∃ ok, Rep w ok (.lst 3 (ps.map encP)) [.slice A ps.length c]

theorem PatsIn.below {w w' : World} {A : Option Addr} {c : Nat} {ps : List Pat} (h : PatsIn w A c ps) (hb : Below w.heap.size w w') : PatsIn w' A c ps := by
  obtain ⟨ok, h⟩ := h; exact ⟨ok, h.below hb⟩
theorem PatIn.below {w w' : World} {A : Option Addr} {c : Nat} {p : Pat} (h : PatIn w A c p) (hb : Below w.heap.size w w') : PatIn w' A c p := by
  obtain ⟨ok, h⟩ := h; exact ⟨ok, h.below hb⟩
theorem PatIn.drewN {w : World} {A : Option Addr} {c : Nat} {p : Pat} (h : PatIn w A c p) (n : Nat) : PatIn (w.drewN n) A c p := by
  obtain ⟨ok, h⟩ := h; exact ⟨ok, h.drewN n⟩
theorem PatIn.drew {w : World} {A : Option Addr} {c : Nat} {p : Pat} (h : PatIn w A c p) : PatIn w.drew A c p := by
  obtain ⟨ok, h⟩ := h; exact ⟨ok, h.drew⟩
theorem PatIn.kids {w : World} {A : Option Addr} {c : Nat} {p : Pat} (h : PatIn w A c p) : PatsIn w A c p.kids := by
  obtain ⟨ok, h⟩ := h
  obtain ⟨A', c', he, _, h2⟩ := rep_pat_inv h
  injection he with _ he; injection he with _ he; injection he with he _; injection he with e1 _ e3
  subst e1 e3
  exact ⟨ok, h2⟩
theorem PatsIn.le {w : World} {A : Option Addr} {c : Nat} {ps : List Pat} (h : PatsIn w A c ps) : ps.length ≤ maxLen := by
  obtain ⟨ok, h⟩ := h
  obtain ⟨A', c', he, h1, h2⟩ := h.len
  rw [List.length_map] at h1
  omega

set_option maxHeartbeats 2000000 in
theorem eqPats_of (ps qs : List Pat) (ih : ∀ i (h : i < ps.length), EqPatOk ps[i]) (A B : Option Addr) (c d : Nat) (w : World) (hp : PatsIn w A c ps) (hq : PatsIn w B d qs) :
    Calls Tryd.prog 91 #[.slice A ps.length c, .slice B qs.length d] w (SomeBoolBelow (same ps qs) w) := by
  have hm := hp.le
  unfold maxLen at hm
  by_cases hl : ps.length = qs.length
  · obtain ⟨n, hn⟩ : ∃ n, Hid (ps.length = n) := ⟨_, Lib.hid rfl⟩
    have hn2 : Hid (qs.length = n) := Lib.hid (by rw [← hl]; exact hn.out)
    rw [hn.out, hn2.out]
    rw [hn.out] at hm
    clear hl
    go_enter Tryd.func91, Tryd.ntmps91
    go_wp2_with fail
    go_loopw [5] (fun i wr => ∃ k : Nat, k ≤ n ∧ i = .int .i64 k ∧ Below w.heap.size w wr ∧ Hid (∀ j (h1 : j < ps.length) (h2 : j < qs.length), j < k → ps[j] = qs[j])) (fun i _ => n - (intOf i).toNat)
    case atStart => exact ⟨0, by omega, rfl, Below.refl _ _, Lib.hid (fun j _ _ h => absurd h (by omega))⟩
    case round =>
      obtain ⟨k, hk, rfl, hb, hsame⟩ := hrel
      obtain ⟨wo, rfl⟩ : ∃ wo : World, wo = wr := ⟨_, rfl⟩
      by_cases hlt : k < n
      · have hkp : k < ps.length := by rw [hn.out]; exact hlt
        have hkq : k < qs.length := by rw [hn2.out]; exact hlt
        have hp1 := hp.below hb
        have hq1 := hq.below hb
        obtain ⟨okp, hp1⟩ := hp1
        obtain ⟨okq, hq1⟩ := hq1
        obtain ⟨g, off, A', c', rfl, _, hg, ⟨a0, a1, a2⟩, hpi⟩ := pats_at hp1 k hkp
        obtain ⟨g', off', B', d', rfl, _, hg', ⟨b0, b1, b2⟩, hqi⟩ := pats_at hq1 k hkq
        have hc := ih k hkp qs[k] A' B' c' d'
        obtain ⟨p, hpe⟩ : ∃ p, Hid (ps[k] = p) := ⟨_, Lib.hid rfl⟩
        obtain ⟨q, hqe⟩ : ∃ q, Hid (qs[k] = q) := ⟨_, Lib.hid rfl⟩
        rw [hpe.out] at a0 a1 a2 hpi hc
        rw [hqe.out] at b0 b1 b2 hqi hc
        have HP : Hid (PatIn wo A' c' p) := Lib.hid ⟨_, hpi⟩
        have HQ : Hid (PatIn wo B' d' q) := Lib.hid ⟨_, hqi⟩
        clear hp1 hq1 hpi hqi hp hq ih
        have hg0 : g ≠ wo.heap.size := by omega
        have hg0' : g' ≠ wo.heap.size := by omega
        go_wp2_with fail
        obtain ⟨s, hs⟩ : ∃ s, Hid (same p q = s) := ⟨_, Lib.hid rfl⟩
        rw [hs.out] at hc
        cases s
        all_goals
          go_region_held3 (fun W => W.cell? ⟨g, off + k * 3, none⟩ = some (.int .i64 p.op) ∧ W.cell? ⟨g, off + k * 3 + 1, none⟩ = some (.int .i64 p.nt) ∧ W.cell? ⟨g, off + k * 3 + 2, none⟩ = some (.slice A' p.kids.length c') ∧ W.cell? ⟨g', off' + k * 3, none⟩ = some (.int .i64 q.op) ∧ W.cell? ⟨g', off' + k * 3 + 1, none⟩ = some (.int .i64 q.nt) ∧ W.cell? ⟨g', off' + k * 3 + 2, none⟩ = some (.slice B' q.kids.length d')) ((refine ⟨?_, ?_, ?_, ?_, ?_, ?_⟩ <;> (with_reducible (repeat (first | assumption | refine cell_drewN ?_ _ | refine cell_drew ?_)))))
            ((go_at_call 47; refine (hc _ (by with_reducible (repeat (first | exact HP.out | refine PatIn.drewN ?_ _ | refine PatIn.drew ?_))) (by with_reducible (repeat (first | exact HQ.out | refine PatIn.drewN ?_ _ | refine PatIn.drew ?_)))).mono ?_; rintro e w3 ⟨rfl, hb3⟩; obtain ⟨d0, d1, d2⟩ := later3 hb3 ⟨a0, a1, a2⟩; obtain ⟨d3, d4, d5⟩ := later3 hb3 ⟨b0, b1, b2⟩))
          go_wp2_with fail
        · go_ret
          refine ⟨ret_bool ?_, hb.trans (((Below.refl _ _).drew).trans (hb3.mono hb.size))⟩
          symm
          rw [same_false]
          intro he
          have h1 := (same_false p q).1 hs.out
          apply h1
          rw [← hpe.out, ← hqe.out]
          simp only [he]
        · go_roundw
          case rel =>
            refine ⟨k + 1, by omega, by go_num, ?_, Lib.hid (fun j h1 h2 hjk => ?_)⟩
            · exact hb.trans (((Below.refl _ _).drew).trans (hb3.mono hb.size))
            · by_cases e : j = k
              · subst e; rw [hpe.out, hqe.out]; exact (same_iff p q).1 hs.out
              · exact hsame.out j h1 h2 (by omega)
          case measure => simp [intOf]; omega
      · obtain rfl : k = n := by omega
        go_wp2_with fail
        go_ret
        refine ⟨ret_bool ?_, hb⟩
        have : ps = qs := List.ext_getElem (by rw [hn.out, hn2.out]) (fun j h1 h2 => hsame.out j h1 h2 (by rw [← hn.out]; exact h1))
        rw [(same_iff _ _).2 this]
  · go_enter Tryd.func91, Tryd.ntmps91
    go_wp2_with fail
    · go_ret
      refine ⟨ret_bool ?_, Below.refl _ _⟩
      symm
      rw [same_false]
      intro he
      exact hl (by rw [he])

theorem below_box2 (w : World) (o o' : Obj) : Below w.heap.size w ((w.alloc o).alloc o') := (below_alloc w o).alloc (by simp) _

set_option maxHeartbeats 2000000 in
theorem eqPat_of (p : Pat) (ih : ∀ i (h : i < p.kids.length), EqPatOk p.kids[i]) : EqPatOk p := by
  intro q A B c d w hp hq
  have hk := fun W => eqPats_of p.kids q.kids ih A B c d W
  obtain ⟨po, hpo⟩ : ∃ x, Hid (p.op = x) := ⟨_, Lib.hid rfl⟩
  obtain ⟨qo, hqo⟩ : ∃ x, Hid (q.op = x) := ⟨_, Lib.hid rfl⟩
  obtain ⟨pn, hpn⟩ : ∃ x, Hid (p.nt = x) := ⟨_, Lib.hid rfl⟩
  obtain ⟨qn, hqn⟩ : ∃ x, Hid (q.nt = x) := ⟨_, Lib.hid rfl⟩
  have HPK : Hid (PatsIn w A c p.kids) := Lib.hid hp.kids
  have HQK : Hid (PatsIn w B d q.kids) := Lib.hid hq.kids
  have hsm : Hid (same p q = true ↔ po = qo ∧ pn = qn ∧ same p.kids q.kids = true) := by
    refine Lib.hid ?_
    rw [same_iff, same_iff, Pat.ext_iff', hpo.out, hqo.out, hpn.out, hqn.out]
  rw [hpo.out, hqo.out, hpn.out, hqn.out]
  clear hp hq ih
  by_cases h1 : po = qo
  · subst h1
    by_cases h2 : pn = qn
    · subst h2
      have hs : Hid (same p q = same p.kids q.kids) := by
        refine Lib.hid ?_
        rw [Bool.eq_iff_iff, hsm.out]; simp
      rw [hs.out]
      go_enter Tryd.func47, Tryd.ntmps47
      go_wp2_with fail
      refine (hk _ (HPK.out.below (below_box2 _ _ _)) (HQK.out.below (below_box2 _ _ _))).mono ?_
      rintro e w3 ⟨rfl, hb3⟩
      go_wp2_with fail
      go_ret
      exact ⟨ret_bool rfl, (below_box2 _ _ _).trans (hb3.mono (by simp; omega))⟩
    · have hs : Hid (same p q = false) := by
        refine Lib.hid ?_
        rw [← Bool.not_eq_true, hsm.out]; exact fun h => h2 h.2.1
      rw [hs.out]
      have hne : (pn == qn) = false := by simpa using h2
      go_enter Tryd.func47, Tryd.ntmps47
      go_wp2_with fail
      go_ret
      exact ⟨ret_bool rfl, below_box2 _ _ _⟩
  · have hs : Hid (same p q = false) := by
      refine Lib.hid ?_
      rw [← Bool.not_eq_true, hsm.out]; exact fun h => h1 h.1
    rw [hs.out]
    have hne : (po == qo) = false := by simpa using h1
    go_enter Tryd.func47, Tryd.ntmps47
    go_wp2_with fail
    go_ret
    exact ⟨ret_bool rfl, below_box2 _ _ _⟩

theorem eqPat_any : ∀ p : Pat, EqPatOk p
  | .mk op nt kids => eqPat_of _ fun i h => eqPat_any kids[i]
termination_by p => SizeOf.sizeOf p
decreasing_by
  have := List.sizeOf_lt_of_mem (List.getElem_mem h)
  simp only [Pat.kids] at this
  simp only [Pat.mk.sizeOf_spec]
  omega

theorem Rule.ext_iff' (p q : Rule) : p = q ↔ p.nt = q.nt ∧ p.pat = q.pat ∧ p.cost = q.cost ∧ p.form = q.form := by
  cases p; cases q; simp

def RuleIn (w : World) (A : Option Addr) (c : Nat) (r : Rule) : Prop := PatIn w A c r.pat

set_option maxHeartbeats 2000000 in
theorem eqRule_any (r q : Rule) (A B : Option Addr) (c d : Nat) (w : World) (hp : RuleIn w A c r) (hq : RuleIn w B d q) :
    Calls Tryd.prog 13 #[.agg #[.int .i64 r.nt, .int .i64 r.pat.op, .int .i64 r.pat.nt, .slice A r.pat.kids.length c, .int .i64 r.cost, .string ⟨r.form.toArray⟩], .agg #[.int .i64 q.nt, .int .i64 q.pat.op, .int .i64 q.pat.nt, .slice B q.pat.kids.length d, .int .i64 q.cost, .string ⟨q.form.toArray⟩]] w (SomeBoolBelow (same r q) w) := by
  have hk := fun W => eqPat_any r.pat q.pat A B c d W
  have HP : Hid (PatIn w A c r.pat) := Lib.hid hp
  have HQ : Hid (PatIn w B d q.pat) := Lib.hid hq
  clear hp hq
  obtain ⟨rn, hrn⟩ : ∃ x, Hid (r.nt = x) := ⟨_, Lib.hid rfl⟩
  obtain ⟨qn, hqn⟩ : ∃ x, Hid (q.nt = x) := ⟨_, Lib.hid rfl⟩
  obtain ⟨rc, hrc⟩ : ∃ x, Hid (r.cost = x) := ⟨_, Lib.hid rfl⟩
  obtain ⟨qc, hqc⟩ : ∃ x, Hid (q.cost = x) := ⟨_, Lib.hid rfl⟩
  obtain ⟨rf, hrf⟩ : ∃ x, Hid (r.form = x) := ⟨_, Lib.hid rfl⟩
  obtain ⟨qf, hqf⟩ : ∃ x, Hid (q.form = x) := ⟨_, Lib.hid rfl⟩
  have hsm : Hid (same r q = true ↔ rn = qn ∧ same r.pat q.pat = true ∧ rc = qc ∧ rf = qf) := by
    refine Lib.hid ?_
    rw [same_iff, same_iff, Rule.ext_iff', hrn.out, hqn.out, hrc.out, hqc.out, hrf.out, hqf.out]
  rw [hrn.out, hqn.out, hrc.out, hqc.out, hrf.out, hqf.out]
  obtain ⟨s, hs⟩ : ∃ s, Hid (same r.pat q.pat = s) := ⟨_, Lib.hid rfl⟩
  rw [hs.out] at hk
  by_cases h1 : rn = qn
  · subst h1
    cases s with
    | false =>
      have hs2 : Hid (same r q = false) := by
        refine Lib.hid ?_
        rw [← Bool.not_eq_true, hsm.out, hs.out]; simp
      rw [hs2.out]
      go_enter Tryd.func13, Tryd.ntmps13
      go_wp2_with fail
      refine (hk _ (HP.out.below (below_box2 _ _ _)) (HQ.out.below (below_box2 _ _ _))).mono ?_
      rintro e w3 ⟨rfl, hb3⟩
      go_wp2_with fail
      go_ret
      exact ⟨ret_bool rfl, (below_box2 _ _ _).trans (hb3.mono (by simp; omega))⟩
    | true =>
      by_cases h2 : rc = qc
      · subst h2
        have hs2 : Hid (same r q = (rf == qf)) := by
          refine Lib.hid ?_
          rw [Bool.eq_iff_iff, hsm.out, hs.out]; simp
        rw [hs2.out]
        go_enter Tryd.func13, Tryd.ntmps13
        go_wp2_with fail
        refine (hk _ (HP.out.below (below_box2 _ _ _)) (HQ.out.below (below_box2 _ _ _))).mono ?_
        rintro e w3 ⟨rfl, hb3⟩
        obtain ⟨hc, hf⟩ := bcell hb3
        have hz3 : w.heap.size + 1 < w3.heap.size := by have := hb3.size; simp at this; omega
        go_wp2_with fail
        go_ret
        exact ⟨ret_bool rfl, (below_box2 _ _ _).trans (hb3.mono (by simp; omega))⟩
      · have hne : (rc == qc) = false := by simpa using h2
        have hs2 : Hid (same r q = false) := by
          refine Lib.hid ?_
          rw [← Bool.not_eq_true, hsm.out]; exact fun h => h2 h.2.2.1
        rw [hs2.out]
        go_enter Tryd.func13, Tryd.ntmps13
        go_wp2_with fail
        refine (hk _ (HP.out.below (below_box2 _ _ _)) (HQ.out.below (below_box2 _ _ _))).mono ?_
        rintro e w3 ⟨rfl, hb3⟩
        obtain ⟨hc, hf⟩ := bcell hb3
        have hz3 : w.heap.size + 1 < w3.heap.size := by have := hb3.size; simp at this; omega
        go_wp2_with fail
        go_ret
        exact ⟨ret_bool rfl, (below_box2 _ _ _).trans (hb3.mono (by simp; omega))⟩
  · have hs2 : Hid (same r q = false) := by
      refine Lib.hid ?_
      rw [← Bool.not_eq_true, hsm.out]; exact fun h => h1 h.1
    rw [hs2.out]
    have hne : (rn == qn) = false := by simpa using h1
    go_enter Tryd.func13, Tryd.ntmps13
    go_wp2_with fail
    go_ret
    exact ⟨ret_bool rfl, below_box2 _ _ _⟩

end

/- The reference's side: gantletref6.Word, gantletref11.Forms, gantletref11.Form. -/
section
open Go.RowKit

set_option maxRecDepth 100000 in
set_option maxHeartbeats 1000000 in
theorem refWord_any (k : Nat) (h1 : 1 ≤ k) (h2 : k ≤ 36) (w : World) :
    Calls Tryd.prog 44 #[.int .i64 k] w fun e w' => e = .returned (.string ⟨(opWords.getD (k - 1) []).toArray⟩) ∧ w.alloc (.cells (strCells opWords).toArray 9) = w' := by
  have hc := (BlkIs.fresh w 9 (strCells opWords).toArray).cell (k - 1)
  rw [opWords_at (k - 1) (by omega)] at hc
  obtain ⟨x, hx⟩ : ∃ x, Hid (opWords.getD (k - 1) [] = x) := ⟨_, Lib.hid rfl⟩
  rw [hx.out] at hc ⊢
  simp only [strCells, opWords, List.map_cons, List.map_nil] at hc
  have hk0 : (0 : Int) ≤ (k : Int) - 1 := by omega
  go_enter Tryd.func44, Tryd.ntmps44
  go_wp2_with fail
  go_ret
  exact ⟨rfl, rfl⟩

def refTo (f : Int → List UInt8 → List Rule) (a n : Nat) : List Rule := (List.range n).flatMap fun j => f ((a + j : Nat)) (opWords.getD (a + j - 1) [])

theorem refTo_succ (f : Int → List UInt8 → List Rule) (a k : Nat) (h : a ≤ k) : refTo f a (k + 1 - a) = refTo f a (k - a) ++ f k (opWords.getD (k - 1) []) := by
  have e : k + 1 - a = (k - a) + 1 := by omega
  rw [e]
  unfold refTo
  rw [List.range_succ, List.flatMap_append]
  simp only [List.flatMap_cons, List.flatMap_nil, List.append_nil]
  have e2 : a + (k - a) = k := by omega
  rw [e2]

theorem refTo_len (f : Int → List UInt8 → List Rule) (m : Nat) (hf : ∀ n s, (f n s).length = m) (a n : Nat) : (refTo f a n).length = m * n := by
  unfold refTo
  induction n with
  | zero => simp
  | succ n ih => rw [List.range_succ, List.flatMap_append, List.length_append, ih]; simp [hf, Nat.mul_add]

theorem BlkIs.fresh2 {w : World} {t : TypeId} {cs : Array Value} {g : Nat} (hg : g = w.heap.size) : BlkIs (w.alloc (.cells cs t)) g t cs := by
  subst hg; exact BlkIs.fresh w t cs

theorem kids2_blk {w : World} {ok : Nat → Prop} {k m : Int} {g : Nat} (h : BlkIs w g 31 #[.int .i64 0, .int .i64 k, .slice none 0 0, .int .i64 0, .int .i64 m, .slice none 0 0]) (hok : ok g) : Rep w ok (.lst 3 (encP.encPs [pN k, pN m])) [.slice (some ⟨g, 0, none⟩) 2 2] := by
  unfold Rep
  refine ⟨some ⟨g, 0, none⟩, 2, rfl, by simp [encP.encPs], by simp [maxLen], fun _ => ⟨g, 0, _, _, _, rfl, hok, h, ?_⟩⟩
  exact Cells.row (w := w) (ok := ok) [] (cs := [.int .i64 0, .int .i64 k, .slice none 0 0, .int .i64 0, .int .i64 m, .slice none 0 0]) ⟨[_, _, _], [_, _, _], rfl, rfl, rep_leaf, ⟨[_, _, _], [], rfl, rfl, rep_leaf, rfl⟩⟩
theorem kids1_blk {w : World} {ok : Nat → Prop} {k : Int} {g : Nat} (h : BlkIs w g 31 #[.int .i64 0, .int .i64 k, .slice none 0 0]) (hok : ok g) : Rep w ok (.lst 3 (encP.encPs [pN k])) [.slice (some ⟨g, 0, none⟩) 1 1] := by
  unfold Rep
  refine ⟨some ⟨g, 0, none⟩, 1, rfl, by simp [encP.encPs], by simp [maxLen], fun _ => ⟨g, 0, _, _, _, rfl, hok, h, ?_⟩⟩
  exact Cells.row (w := w) (ok := ok) [] (cs := [.int .i64 0, .int .i64 k, .slice none 0 0]) ⟨[_, _, _], [], rfl, rfl, rep_leaf, rfl⟩

def R1 : List Rule := fewR ++ refTo twoR 12 (31 - 12)
def R2 : List Rule := R1 ++ refTo oneR 31 (37 - 31)
theorem R1_len : R1.length = 47 := by kernel_rfl
theorem R2_len : R2.length = 53 := by kernel_rfl
theorem R3_eq : R2 ++ refTo loadR 5 (12 - 5) = formsR := by kernel_rfl

set_option maxRecDepth 100000 in
set_option maxHeartbeats 4000000 in
theorem refForms_any (w : World) : Calls Tryd.prog 9 #[] w fun e w' => ∃ v, e = .returned v ∧ Own w' w.heap.size (fun g => w.heap.size ≤ g) 33 6 v (formsR.map encR) ∧ Below w.heap.size w w' := by
  go_enter Tryd.func9, Tryd.ntmps9
  go_upto_region 1 with fail
  go_cut [1] (fun v wx => Own wx w.heap.size (fun g => w.heap.size ≤ g) 33 6 v (fewR.map encR) ∧ Below w.heap.size w wx)
  case first =>
    go_wp2_with (first | (go_at_call 42; refine (refN_any _ _).mono ?_; rintro e w1 ⟨rfl, rfl⟩) | (go_at_call 43; refine (refO_any _ _ _ _ _).mono ?_; rintro e w1 ⟨rfl, rfl⟩))
    go_meet
    refine ⟨?_, ?_⟩
    · refine Own.fresh (ds := fewR.map encR) ?_ (by simp; omega) (by decide) (by simp) rfl
      refine ⟨[_, _, _, _, _, _], _, rfl, rfl, rep_rule rep_leaf, ?_⟩
      refine ⟨[_, _, _, _, _, _], _, rfl, rfl, rep_rule rep_leaf, ?_⟩
      refine ⟨[_, _, _, _, _, _], _, rfl, rfl, rep_rule rep_leaf, ?_⟩
      refine ⟨[_, _, _, _, _, _], _, rfl, rfl, rep_rule rep_leaf, ?_⟩
      refine ⟨[_, _, _, _, _, _], _, rfl, rfl, rep_rule rep_leaf, ?_⟩
      refine ⟨[_, _, _, _, _, _], _, rfl, rfl, rep_rule rep_leaf, ?_⟩
      refine ⟨[_, _, _, _, _, _], _, rfl, rfl, rep_rule rep_leaf, ?_⟩
      refine ⟨[_, _, _, _, _, _], _, rfl, rfl, rep_rule rep_leaf, ?_⟩
      refine ⟨[_, _, _, _, _, _], [], rfl, rfl, rep_rule (rep_pat ?_), rfl⟩
      refine kids2_blk ?_ ?_
      · repeat (first | exact BlkIs.fresh2 (by simp) | refine BlkIs.alloc ?_ _)
      · omega
    · repeat (first | exact Below.refl _ _ | refine Below.alloc ?_ (by (try simp); try omega) _)
  case rest =>
    obtain ⟨hown0, hb0⟩ := hcut
    go_wp2_with fail
    go_loopw [1, 2] (fun v i wr => ∃ k : Nat, 12 ≤ k ∧ k ≤ 31 ∧ i = .int .i64 k ∧ Own wr w.heap.size (fun g => w.heap.size ≤ g) 33 6 v ((fewR ++ refTo twoR 12 (k - 12)).map encR) ∧ Below w.heap.size w wr) (fun _ i _ => 31 - (intOf i).toNat)
    case atStart => exact ⟨12, by omega, by omega, rfl, by rw [show refTo twoR 12 (12 - 12) = [] from rfl, List.append_nil]; exact hown0, hb0⟩
    case round =>
      clear hown0 hb0
      obtain ⟨k, hk1, hk, rfl, hown, hb⟩ := hrel
      obtain ⟨wo, rfl⟩ : ∃ wo : World, wo = wr := ⟨_, rfl⟩
      have hbz := hb.size
      by_cases hlt : k < 31
      · have hs := Lib.hid (refTo_succ twoR 12 k hk1)
        have hl := refTo_len twoR 2 (fun _ _ => rfl) 12 (k - 12)
        have hln : ((fewR ++ refTo twoR 12 (k - 12)).map encR).length ≤ 1000 := by simp [fewR, hl]; omega
        clear hl
        obtain ⟨x, hx⟩ : ∃ x, Hid (opWords.getD (k - 1) [] = x) := ⟨_, Lib.hid rfl⟩
        have hW := fun W => refWord_any k (by omega) (by omega) W
        have hxl : x.length ≤ 1000 := by rw [← hx.out]; exact opWords_le _
        rw [hx.out] at hW hs
        go_wp2_with (first | (go_at_call 42; refine (refN_any _ _).mono ?_; rintro e w1 ⟨rfl, rfl⟩) | (go_at_call 43; refine (refO_any _ _ _ _ _).mono ?_; rintro e w1 ⟨rfl, rfl⟩) | (go_at_call 44; refine (hW _).mono ?_; rintro e w1 ⟨rfl, rfl⟩) | (at_builtin; rw [str_i]; go_must (refine append_all rfl (.tmp 34) (.tmp 50) 26 33 6 72 _ rfl Tryd.underlying26 rule_info rfl (by decide) (by decide) w.heap.size (fun g => w.heap.size ≤ g) _ _ rfl _ rfl (hown.below ?c1) wo.heap.size (fun g => wo.heap.size ≤ g) ((twoR k x).map encR) ?c2 (fun g hg => ⟨by omega, hown.ne_far hg⟩) ?c4 ?c3 ?_); (case c1 => (repeat (first | exact Below.refl _ _ | refine Below.alloc ?_ (by (try simp); try omega) _))); (case c2 => (refine Own.fresh (ds := (twoR k x).map encR) ?_ (by (try simp); try omega) (by simp [twoR, maxLen]) (by simp) rfl; refine ⟨[_, _, _, _, _, _], _, rfl, rfl, rep_rule (rep_pat ?_), ⟨[_, _, _, _, _, _], [], rfl, rfl, rep_rule (rep_pat ?_), rfl⟩⟩ <;> refine kids2_blk ?_ ?_ <;> first | omega | (repeat (first | exact BlkIs.fresh2 (by simp) | refine BlkIs.alloc ?_ _)))); (case c3 => (simp; omega)); (case c4 => (simp [twoR] at hln ⊢; omega)); intro v2 w2 hown2 hb2 hk2))
        go_roundw
        case rel => exact ⟨k + 1, by omega, by omega, by go_num, by rw [hs.out, ← List.append_assoc, List.map_append]; exact hown2, (hb.trans (show Below w.heap.size wo _ from by repeat (first | exact Below.refl _ _ | refine Below.alloc ?_ (by (try simp); try omega) _))).trans hb2⟩
        case measure => simp [intOf]; omega
      · obtain rfl : k = 31 := by omega
        rw [show ((31 : Nat) : Int) = 31 from rfl]
        have hown : Own wo w.heap.size (fun g => w.heap.size ≤ g) 33 6 _ (R1.map encR) := hown
        go_wp2_with fail
        go_loopw [1, 4] (fun v i wr => ∃ k : Nat, 31 ≤ k ∧ k ≤ 37 ∧ i = .int .i64 k ∧ Own wr w.heap.size (fun g => w.heap.size ≤ g) 33 6 v ((R1 ++ refTo oneR 31 (k - 31)).map encR) ∧ Below w.heap.size w wr) (fun _ i _ => 37 - (intOf i).toNat)
        case atStart => exact ⟨31, by omega, by omega, rfl, by rw [show refTo oneR 31 (31 - 31) = [] from rfl, List.append_nil]; exact hown, hb⟩
        case round =>
          clear hown hb hbz
          obtain ⟨k, hk1, hk, rfl, hown, hb⟩ := hrel
          obtain ⟨wo, rfl⟩ : ∃ wo : World, wo = wr := ⟨_, rfl⟩
          have hbz := hb.size
          by_cases hlt : k < 37
          · have hs := Lib.hid (refTo_succ oneR 31 k hk1)
            have hl := refTo_len oneR 1 (fun _ _ => rfl) 31 (k - 31)
            have hln : ((R1 ++ refTo oneR 31 (k - 31)).map encR).length ≤ 1000 := by rw [List.length_map, List.length_append, hl, R1_len]; omega
            clear hl
            obtain ⟨x, hx⟩ : ∃ x, Hid (opWords.getD (k - 1) [] = x) := ⟨_, Lib.hid rfl⟩
            have hW := fun W => refWord_any k (by omega) (by omega) W
            rw [hx.out] at hW hs
            go_wp2_with (first | (go_at_call 42; refine (refN_any _ _).mono ?_; rintro e w1 ⟨rfl, rfl⟩) | (go_at_call 43; refine (refO_any _ _ _ _ _).mono ?_; rintro e w1 ⟨rfl, rfl⟩) | (go_at_call 44; refine (hW _).mono ?_; rintro e w1 ⟨rfl, rfl⟩) | (at_builtin; go_must (refine append_all rfl (.tmp 56) (.tmp 64) 26 33 6 72 _ rfl Tryd.underlying26 rule_info rfl (by decide) (by decide) w.heap.size (fun g => w.heap.size ≤ g) _ _ rfl _ rfl (hown.below ?c1) wo.heap.size (fun g => wo.heap.size ≤ g) ((oneR k x).map encR) ?c2 (fun g hg => ⟨by omega, hown.ne_far hg⟩) ?c4 ?c3 ?_); (case c1 => (repeat (first | exact Below.refl _ _ | refine Below.alloc ?_ (by (try simp); try omega) _))); (case c2 => (refine Own.fresh (ds := (oneR k x).map encR) ?_ (by (try simp); try omega) (by simp [oneR, maxLen]) (by simp) rfl; refine ⟨[_, _, _, _, _, _], [], rfl, rfl, rep_rule (rep_pat ?_), rfl⟩ <;> refine kids1_blk ?_ ?_ <;> first | omega | (repeat (first | exact BlkIs.fresh2 (by simp) | refine BlkIs.alloc ?_ _)))); (case c3 => (simp; omega)); (case c4 => (simp [oneR] at hln ⊢; omega)); intro v2 w2 hown2 hb2 hk2))
            go_roundw
            case rel => exact ⟨k + 1, by omega, by omega, by go_num, by rw [hs.out, ← List.append_assoc, List.map_append]; exact hown2, (hb.trans (show Below w.heap.size wo _ from by repeat (first | exact Below.refl _ _ | refine Below.alloc ?_ (by (try simp); try omega) _))).trans hb2⟩
            case measure => simp [intOf]; omega
          · obtain rfl : k = 37 := by omega
            rw [show ((37 : Nat) : Int) = 37 from rfl]
            have hown : Own wo w.heap.size (fun g => w.heap.size ≤ g) 33 6 _ (R2.map encR) := hown
            go_wp2_with fail
            go_loopw [1, 5] (fun v i wr => ∃ k : Nat, 5 ≤ k ∧ k ≤ 12 ∧ i = .int .i64 k ∧ Own wr w.heap.size (fun g => w.heap.size ≤ g) 33 6 v ((R2 ++ refTo loadR 5 (k - 5)).map encR) ∧ Below w.heap.size w wr) (fun _ i _ => 12 - (intOf i).toNat)
            case atStart => exact ⟨5, by omega, by omega, rfl, by rw [show refTo loadR 5 (5 - 5) = [] from rfl, List.append_nil]; exact hown, hb⟩
            case round =>
              clear hown hb hbz
              obtain ⟨k, hk1, hk, rfl, hown, hb⟩ := hrel
              obtain ⟨wo, rfl⟩ : ∃ wo : World, wo = wr := ⟨_, rfl⟩
              have hbz := hb.size
              by_cases hlt : k < 12
              · have hs := Lib.hid (refTo_succ loadR 5 k hk1)
                have hl := refTo_len loadR 1 (fun _ _ => rfl) 5 (k - 5)
                have hln : ((R2 ++ refTo loadR 5 (k - 5)).map encR).length ≤ 1000 := by rw [List.length_map, List.length_append, hl, R2_len]; omega
                clear hl
                obtain ⟨x, hx⟩ : ∃ x, Hid (opWords.getD (k - 1) [] = x) := ⟨_, Lib.hid rfl⟩
                have hW := fun W => refWord_any k (by omega) (by omega) W
                rw [hx.out] at hW hs
                go_wp2_with (first | (go_at_call 42; refine (refN_any _ _).mono ?_; rintro e w1 ⟨rfl, rfl⟩) | (go_at_call 43; refine (refO_any _ _ _ _ _).mono ?_; rintro e w1 ⟨rfl, rfl⟩) | (go_at_call 44; refine (hW _).mono ?_; rintro e w1 ⟨rfl, rfl⟩) | (at_builtin; go_must (refine append_all rfl (.tmp 70) (.tmp 78) 26 33 6 72 _ rfl Tryd.underlying26 rule_info rfl (by decide) (by decide) w.heap.size (fun g => w.heap.size ≤ g) _ _ rfl _ rfl (hown.below ?c1) wo.heap.size (fun g => wo.heap.size ≤ g) ((loadR k x).map encR) ?c2 (fun g hg => ⟨by omega, hown.ne_far hg⟩) ?c4 ?c3 ?_); (case c1 => (repeat (first | exact Below.refl _ _ | refine Below.alloc ?_ (by (try simp); try omega) _))); (case c2 => (refine Own.fresh (ds := (loadR k x).map encR) ?_ (by (try simp); try omega) (by simp [loadR, maxLen]) (by simp) rfl; refine ⟨[_, _, _, _, _, _], [], rfl, rfl, rep_rule (rep_pat ?_), rfl⟩ <;> refine kids1_blk ?_ ?_ <;> first | omega | (repeat (first | exact BlkIs.fresh2 (by simp) | refine BlkIs.alloc ?_ _)))); (case c3 => (simp; omega)); (case c4 => (simp [loadR] at hln ⊢; omega)); intro v2 w2 hown2 hb2 hk2))
                go_roundw
                case rel => exact ⟨k + 1, by omega, by omega, by go_num, by rw [hs.out, ← List.append_assoc, List.map_append]; exact hown2, (hb.trans (show Below w.heap.size wo _ from by repeat (first | exact Below.refl _ _ | refine Below.alloc ?_ (by (try simp); try omega) _))).trans hb2⟩
                case measure => simp [intOf]; omega
              · obtain rfl : k = 12 := by omega
                go_wp2_with fail
                go_ret
                refine ⟨_, rfl, ?_, hb⟩
                have h3 : R2 ++ refTo loadR 5 (12 - 5) = formsR := R3_eq
                rw [h3] at hown
                exact hown

end

/- The reference's Form, and the statement's own helpers. -/
section
open Go.RowKit

def RuleRetB (r : Rule) (b : Bool) (w : World) : Ending → World → Prop := RuleRet w.heap.size r (.bool b) w

set_option maxHeartbeats 4000000 in
theorem refForm_any (s : List UInt8) (w : World) :
    Calls Tryd.prog 14 #[.string ⟨s.toArray⟩] w (RuleRetB ((formOf s).getD noRule) (formOf s).isSome w) := by
  have hfo := Lib.hid (formOf_idx s)
  go_enter Tryd.func14, Tryd.ntmps14
  go_wp2_with fail
  refine (refForms_any _).mono ?_
  rintro e w1 ⟨v1, rfl, ho1, hb1⟩
  have hrep := ho1.rep
  obtain ⟨A, c, rfl, _⟩ := hrep.len
  rw [List.length_map] at hrep ⊢
  obtain ⟨n, hn⟩ : ∃ n, Hid (formsR.length = n) := ⟨_, Lib.hid rfl⟩
  have hl2 : n ≤ 100000 := by rw [← hn.out, formsR_len]; omega
  rw [hn.out]
  rw [hn.out] at hrep
  clear ho1
  obtain ⟨hc, hf⟩ := bcell hb1
  have hz1 : w.heap.size < w1.heap.size := by have := hb1.size; simp at this; omega
  have hb01 : Below w.heap.size w w1 := (below_alloc _ _).trans (hb1.mono (by simp))
  go_wp2_with fail
  go_loop [5] (fun i => ∃ k : Nat, k ≤ n ∧ i = .int .i64 k ∧ Hid (∀ j (hj : j < formsR.length), j < k → formsR[j].form ≠ s)) (fun i => n - (intOf i).toNat)
  case atStart => exact ⟨0, by omega, rfl, Lib.hid (fun j _ h => absurd h (by omega))⟩
  case round =>
    obtain ⟨k, hk, rfl, hmiss⟩ := hrel
    by_cases hlt : k < n
    · have hkl : k < formsR.length := by rw [hn.out]; exact hlt
      obtain ⟨g, off, B, d, rfl, hBg, hg, ⟨c0, c1, c2, c3, c4, c5⟩, _, hp⟩ := rules_at hrep k hkl
      obtain ⟨r, hre⟩ : ∃ r, Hid (formsR[k] = r) := ⟨_, Lib.hid rfl⟩
      rw [hre.out] at c0 c1 c2 c3 c4 c5 hp
      have hg1 : w.heap.size < g := by simp at hBg; omega
      have hp2 : Rep w1 (fun g => w.heap.size + 1 ≤ g) (encP r.pat) [.int .i64 r.pat.op, .int .i64 r.pat.nt, .slice B r.pat.kids.length d] := Rep.imp hp (fun g hg _ => by simp at hg; exact hg)
      have HP := Lib.hid hp2
      clear hrep hp hp2
      by_cases hfm : r.form = s
      · have HI : Hid (formOf s = some r) := by
          refine Lib.hid ?_
          have h1 := idxOf_hit formsR s k hkl (by rw [hre.out]; exact hfm) (fun j hj => hmiss.out j (by omega) hj)
          rcases hfo.out with ⟨h2, _⟩ | ⟨k', hk', h2, h3⟩
          · omega
          · have : k' = k := by omega
            subst this; rw [h3, hre.out]
        have hfe : (r.form == s) = true := by simp [hfm]
        have HF := Lib.hid hfm
        clear hfm
        go_wp2_with fail
        refine bodyPost_ret (v := .tuple #[.agg #[.int .i64 r.nt, .int .i64 r.pat.op, .int .i64 r.pat.nt, .slice B r.pat.kids.length d, .int .i64 r.cost, .string ⟨r.form.toArray⟩], .bool true]) (by simp [results, Tryd.results14, go_sem, hc]) rfl ?_
        unfold RuleRetB
        rw [HI.out]
        refine ⟨B, d, rfl, rep_rule_of ?_, ?_⟩
        · refine Rep.imp (ok := fun g => w.heap.size + 1 ≤ g) ?_ (fun g hg _ => by omega)
          iterate 6 refine Rep.setCell ?_ (fun g hg => by simp; omega)
          exact HP.out
        · iterate 6 refine Below.setCell ?_ (by simp) _
          exact hb01
      · have hfe : (r.form == s) = false := by simp [hfm]
        have HF := Lib.hid hfm
        clear hfm
        go_wp2_with fail
        go_round
        case rel =>
          refine ⟨k + 1, by omega, by go_num, Lib.hid (fun j hj hjk => ?_)⟩
          by_cases e : j = k
          · subst e; rw [hre.out]; exact HF.out
          · exact hmiss.out j hj (by omega)
        case measure => simp [intOf]; omega
    · obtain rfl : k = n := by omega
      have HI : Hid (formOf s = none) := by
        refine Lib.hid ?_
        have h1 := idxOf_miss formsR s (fun j hj => hmiss.out j hj (by rw [← hn.out]; exact hj))
        rcases hfo.out with ⟨h2, h3⟩ | ⟨k', hk', h2, h3⟩
        · exact h3
        · omega
      go_wp2_with fail
      refine bodyPost_ret (v := .tuple #[.agg #[.int .i64 0, .int .i64 0, .int .i64 0, .slice none 0 0, .int .i64 0, .string ⟨#[]⟩], .bool false]) (by simp [results, Tryd.results14, go_sem, hc]) rfl ?_
      unfold RuleRetB
      rw [HI.out]
      refine ⟨none, 0, rfl, rep_rule_of (r := noRule) rep_leaf, ?_⟩
      iterate 6 refine Below.setCell ?_ (by simp) _
      exact hb01

set_option maxHeartbeats 400000 in
theorem num12_any (n : Int) (w : World) : Calls Tryd.prog 12 #[.int .i64 n] w fun e w' => e = .returned (.int .i64 n) ∧ w = w' := by
  go_enter Tryd.func12, Tryd.ntmps12
  go_wp2_with fail
  go_ret
  exact ⟨rfl, rfl⟩

end

/- RuleForms: wakes, and the statement's function walked. -/
section
open Go.RowKit

theorem formOf_addi : formOf [97, 100, 100, 105] = some ⟨0, pO 12 [pN 0, pN 2], 0, [97, 100, 100, 105]⟩ := by kernel_rfl

set_option maxHeartbeats 1000000 in
theorem wakes12_any (w : World) (ht : Tab w) :
    Calls Tryd.prog 15 #[] w fun e w' => e = .returned (.bool true) ∧ Below w.heap.size w w' := by
  have hF := fun W hW => form_any [97, 100, 100, 105] W hW
  rw [formOf_addi] at hF
  go_enter Tryd.func15, Tryd.ntmps15
  go_wp2_with fail
  refine (hF _ ht).mono ?_
  rintro e w1 ⟨A, c, rfl, hp, hb⟩
  obtain ⟨A', c', he, _, hpp⟩ := rep_rule_inv hp
  simp only [Option.getD_some, List.cons.injEq, Value.slice.injEq, true_and, and_true] at he
  obtain ⟨rfl, _, rfl⟩ := he
  obtain ⟨A2, c2, he2, _, hk⟩ := rep_pat_inv hpp
  simp only [List.cons.injEq, Value.slice.injEq, true_and, and_true] at he2
  obtain ⟨rfl, _, rfl⟩ := he2
  obtain ⟨g, off, B, d, rfl, _, hg, ⟨c0, c1, c2⟩, _⟩ := pats_at (ps := [pN 0, pN 2]) hk 1 (by simp)
  have c1' : w1.cell? ⟨g, off + 3 + 1, none⟩ = some (.int .i64 2) := c1
  have c1'' : w1.cell? ⟨g, off + 4, none⟩ = some (.int .i64 2) := c1
  simp only [Option.getD_some, Option.isSome_some, if_true, pO, pN, Pat.op, Pat.nt, Pat.kids, List.length_cons, List.length_nil]
  clear c0 c1 c2 hp hpp hk hF
  go_wp2_with (go_at_call 12; refine (num12_any _ _).mono ?_; rintro e w' ⟨rfl, rfl⟩)
  go_ret
  exact ⟨rfl, hb.alloc (by have := hb.size; omega) _⟩

theorem strs_at {w : World} {ok : Nat → Prop} {S : List (List UInt8)} {A : Option Addr} {n c : Nat} (h : Rep w ok (.lst 1 (S.map .str)) [.slice A n c]) (k : Nat) (hk : k < S.length) :
    ∃ (g off : Nat), A = some ⟨g, off, none⟩ ∧ ok g ∧ g < w.heap.size ∧ w.cell? ⟨g, off + k, none⟩ = some (.string ⟨(S[k]).toArray⟩) := by
  obtain ⟨g, off, a, hA, hok, hlt, hl, hr, hc⟩ := h.at_ k (by simpa using hk)
  rw [List.getElem_map] at hr
  have := rep_str_inv hr
  subst this
  exact ⟨g, off, hA, hok, hlt, by have := hc 0 (by omega); simpa using this⟩

theorem formOf_self (k : Nat) (hk : k < formsR.length) : formOf formsR[k].form = some formsR[k] := by
  have h0 : ((List.range 60).all fun k => decide (idxOf formsR (formsR.getD k noRule).form = k)) = true := by kernel_rfl
  have h1 : idxOf formsR formsR[k].form = k := by
    have h2 := List.all_eq_true.1 h0 k (by rw [List.mem_range, ← formsR_len]; exact hk)
    have h3 : formsR.getD k noRule = formsR[k] := by rw [List.getD_eq_getElem?_getD, List.getElem?_eq_getElem hk]; rfl
    rw [h3] at h2
    simpa using h2
  rcases formOf_idx formsR[k].form with ⟨h2, _⟩ | ⟨k', hk', h2, h3⟩
  · omega
  · have : k' = k := by omega
    subst this; exact h3

theorem same_self {α : Type} (a : α) : same a a = true := (same_iff a a).2 rfl

theorem later6 {w w' : World} {p0 p1 p2 p3 p4 p5 : Addr} {u0 u1 u2 u3 u4 u5 : Value} (hb : Below w.heap.size w w') (h : w.cell? p0 = some u0 ∧ w.cell? p1 = some u1 ∧ w.cell? p2 = some u2 ∧ w.cell? p3 = some u3 ∧ w.cell? p4 = some u4 ∧ w.cell? p5 = some u5) : w'.cell? p0 = some u0 ∧ w'.cell? p1 = some u1 ∧ w'.cell? p2 = some u2 ∧ w'.cell? p3 = some u3 ∧ w'.cell? p4 = some u4 ∧ w'.cell? p5 = some u5 :=
  ⟨cell_later hb h.1, cell_later hb h.2.1, cell_later hb h.2.2.1, cell_later hb h.2.2.2.1, cell_later hb h.2.2.2.2.1, cell_later hb h.2.2.2.2.2⟩

set_option maxRecDepth 100000 in
set_option maxHeartbeats 4000000 in
theorem ruleForms_any (S : List (List UInt8)) (ok : Nat → Prop) (A1 A : Option Addr) (n1 c1 c : Nat) (W : World) (hS0 : Rep W ok (.lst 1 (S.map .str)) [.slice A S.length c]) (ht : Tab W) :
    Calls Tryd.prog 3 #[.agg #[.slice A1 n1 c1, .slice A S.length c]] W (SomeBoolBelow true W) := by
  obtain ⟨_, _, he, hm0, hm⟩ := hS0.len
  rw [List.length_map] at hm0
  have hSl : S.length ≤ 9223372036854775807 := by unfold maxLen at hm; omega
  clear he hm0 hm
  obtain ⟨m, hSm⟩ : ∃ m, Hid (S.length = m) := ⟨_, Lib.hid rfl⟩
  rw [hSm.out] at hSl hS0 ⊢
  have HS := Lib.hid hS0
  clear hS0
  go_enter Tryd.func3, Tryd.ntmps3
  go_wp2_with fail
  refine (refForms_any _).mono ?_
  rintro e w1 ⟨v1, rfl, ho1, hb1⟩
  have hrep1 := ho1.rep
  obtain ⟨B1, d1, rfl, _⟩ := hrep1.len
  rw [List.length_map] at hrep1 ⊢
  have hz1 : W.heap.size < w1.heap.size := by have := hb1.size; simp at this; omega
  have hb01 : Below W.heap.size W w1 := (below_alloc _ _).trans (hb1.mono (by simp))
  go_wp2_with fail
  refine (all_any _ (tab_alloc ht _ hb01)).mono ?_
  rintro e w2 ⟨v2, rfl, ho2, hb2⟩
  have hrep2 := ho2.rep
  obtain ⟨B2, d2, rfl, _⟩ := hrep2.len
  rw [List.length_map] at hrep2 ⊢
  obtain ⟨n, hn⟩ : ∃ n, Hid (formsR.length = n) := ⟨_, Lib.hid rfl⟩
  have hl2 : n ≤ 100000 := by rw [← hn.out, formsR_len]; omega
  rw [hn.out] at hrep1 hrep2 ⊢
  have hb02 : Below W.heap.size W w2 := hb01.trans (hb2.mono hb01.size)
  have HR1 : Hid (Rep w2 (fun _ => True) (.lst 6 (formsR.map encR)) [.slice B1 n d1]) := Lib.hid (hrep1.below hb2).any
  have HR2 : Hid (Rep w2 (fun _ => True) (.lst 1 (formsR.map formD)) [.slice B2 n d2]) := Lib.hid hrep2.any
  have hbox : w2.cell? ⟨W.heap.size, 1, none⟩ = some (.slice A m c) := by
    rw [hb2.cell (p := ⟨W.heap.size, 1, none⟩) (by omega), hb1.cell (p := ⟨W.heap.size, 1, none⟩) (by simp)]
    simp
  clear hrep1 hrep2 ho1 ho2
  go_wp2_with fail
  go_loopw [5] (fun i wr => ∃ k : Nat, k ≤ n ∧ i = .int .i64 k ∧ Below w2.heap.size w2 wr) (fun i _ => n - (intOf i).toNat)
  case atStart => exact ⟨0, by omega, rfl, Below.refl _ _⟩
  case round =>
    obtain ⟨k, hk, rfl, hb⟩ := hrel
    obtain ⟨wo, rfl⟩ : ∃ wo : World, wo = wr := ⟨_, rfl⟩
    have hb0 : Below W.heap.size W wo := hb02.trans (hb.mono hb02.size)
    by_cases hlt : k < n
    · have hkl : k < formsR.length := by rw [hn.out]; exact hlt
      obtain ⟨g, off, B, d, rfl, _, hg, ⟨c0, c1, c2, c3, c4, c5⟩, _, hp⟩ := rules_at (HR1.out.below hb) k hkl
      obtain ⟨g', off', rfl, _, hg', e0⟩ := strs_at (S := formsR.map (·.form)) (by rw [List.map_map]; exact HR2.out.below hb) k (by simpa using hkl)
      rw [List.getElem_map] at e0
      have hF := formOf_self k hkl
      obtain ⟨r, hre⟩ : ∃ r, Hid (formsR[k] = r) := ⟨_, Lib.hid rfl⟩
      rw [hre.out] at c0 c1 c2 c3 c4 c5 hp e0 hF
      have hcall := fun W hW => form_any r.form W hW
      rw [hF] at hcall
      simp only [Option.getD_some, Option.isSome_some, if_true] at hcall
      clear hF
      have HP : Hid (PatIn wo B d r.pat) := Lib.hid ⟨_, hp⟩
      clear hp
      go_wp2_with fail
      refine (hcall _ (tab_alloc ht _ hb0)).mono ?_
      rintro e w3 ⟨A3, c3', rfl, hp3, hb3⟩
      have HP3 : Hid (PatIn w3 A3 c3' r.pat) := by
        obtain ⟨A', c', he, _, hpp⟩ := rep_rule_inv hp3
        simp only [List.cons.injEq, Value.slice.injEq, true_and, and_true] at he
        obtain ⟨rfl, rfl⟩ := he
        exact Lib.hid ⟨_, hpp⟩
      have HP' : Hid (PatIn w3 B d r.pat) := Lib.hid (HP.out.below hb3)
      obtain ⟨f0, f1, f2, f3, f4, f5⟩ := later6 hb3 ⟨c0, c1, c2, c3, c4, c5⟩
      have f6 := cell_later hb3 e0
      have hg3 : g < w3.heap.size := Nat.lt_of_lt_of_le hg hb3.size
      have hg3' : g' < w3.heap.size := Nat.lt_of_lt_of_le hg' hb3.size
      clear c0 c1 c2 c3 c4 c5 e0 hp3 hcall hbox
      go_wp2_with fail
      obtain ⟨w4, hw4⟩ : ∃ w4, w4 = w3.alloc (.cells #[.int .i64 r.nt, .int .i64 r.pat.op, .int .i64 r.pat.nt, .slice A3 r.pat.kids.length c3', .int .i64 r.cost, .string ⟨r.form.toArray⟩] 33) := ⟨_, rfl⟩
      have hb4 : Below w3.heap.size w3 w4 := by rw [hw4]; exact below_alloc _ _
      obtain ⟨q0, q1, q2, q3, q4, q5⟩ := later6 hb4 ⟨f0, f1, f2, f3, f4, f5⟩
      have q6 := cell_later hb4 f6
      have r0 : w4.cell? ⟨w3.heap.size, 0, none⟩ = some (.int .i64 r.nt) := by rw [hw4]; simp
      have r1 : w4.cell? ⟨w3.heap.size, 1, none⟩ = some (.int .i64 r.pat.op) := by rw [hw4]; simp
      have r2 : w4.cell? ⟨w3.heap.size, 2, none⟩ = some (.int .i64 r.pat.nt) := by rw [hw4]; simp
      have r3 : w4.cell? ⟨w3.heap.size, 3, none⟩ = some (.slice A3 r.pat.kids.length c3') := by rw [hw4]; simp
      have r4 : w4.cell? ⟨w3.heap.size, 4, none⟩ = some (.int .i64 r.cost) := by rw [hw4]; simp
      have r5 : w4.cell? ⟨w3.heap.size, 5, none⟩ = some (.string ⟨r.form.toArray⟩) := by rw [hw4]; simp
      have H4 : Hid (PatIn w4 A3 c3' r.pat) := Lib.hid (HP3.out.below hb4)
      have H4' : Hid (PatIn w4 B d r.pat) := Lib.hid (HP'.out.below hb4)
      have hQ := fun W => eqRule_any r r A3 B c3' d W
      rw [same_self] at hQ
      rw [← hw4]
      clear f0 f1 f2 f3 f4 f5 f6 hw4
      go_region_held3 (fun W => W.cell? ⟨g, off + k * 6, none⟩ = some (.int .i64 r.nt) ∧ W.cell? ⟨g, off + k * 6 + 1, none⟩ = some (.int .i64 r.pat.op) ∧ W.cell? ⟨g, off + k * 6 + 2, none⟩ = some (.int .i64 r.pat.nt) ∧ W.cell? ⟨g, off + k * 6 + 3, none⟩ = some (.slice B r.pat.kids.length d) ∧ W.cell? ⟨g, off + k * 6 + 4, none⟩ = some (.int .i64 r.cost) ∧ W.cell? ⟨g, off + k * 6 + 5, none⟩ = some (.string ⟨r.form.toArray⟩) ∧ W.cell? ⟨w3.heap.size, 0, none⟩ = some (.int .i64 r.nt) ∧ W.cell? ⟨w3.heap.size, 1, none⟩ = some (.int .i64 r.pat.op) ∧ W.cell? ⟨w3.heap.size, 2, none⟩ = some (.int .i64 r.pat.nt) ∧ W.cell? ⟨w3.heap.size, 3, none⟩ = some (.slice A3 r.pat.kids.length c3') ∧ W.cell? ⟨w3.heap.size, 4, none⟩ = some (.int .i64 r.cost) ∧ W.cell? ⟨w3.heap.size, 5, none⟩ = some (.string ⟨r.form.toArray⟩) ∧ W.cell? ⟨g', off' + k, none⟩ = some (.string ⟨r.form.toArray⟩)) ((refine ⟨?_, ?_, ?_, ?_, ?_, ?_, ?_, ?_, ?_, ?_, ?_, ?_, ?_⟩ <;> (with_reducible (repeat (first | assumption | refine cell_drewN ?_ _ | refine cell_drew ?_)))))
        (first | (go_at_call 12; refine (num12_any _ _).mono ?_; rintro e w' ⟨rfl, rfl⟩) | (go_at_call 13; refine (hQ _ (show PatIn _ _ _ _ from by with_reducible (repeat (first | exact H4.out | refine PatIn.drewN ?_ _ | refine PatIn.drew ?_))) (show PatIn _ _ _ _ from by with_reducible (repeat (first | exact H4'.out | refine PatIn.drewN ?_ _ | refine PatIn.drew ?_)))).mono ?_; rintro e w5 ⟨rfl, hb5⟩; obtain ⟨x0, x1, x2, x3, x4, x5⟩ := later6 hb5 ⟨q0, q1, q2, q3, q4, q5⟩; obtain ⟨y0, y1, y2, y3, y4, y5⟩ := later6 hb5 ⟨r0, r1, r2, r3, r4, r5⟩; have z6 := cell_later hb5 q6))
      go_wp2_with fail
      go_roundw
      case rel => exact ⟨k + 1, by omega, by go_num, (hb.trans (hb3.mono hb.size)).trans (((hb4.mono (by have := hb.size; have := hb3.size; omega)).drew).trans (hb5.mono (by have := hb.size; have := hb3.size; have := hb4.size; simp; omega)))⟩
      case measure => simp [intOf]; omega
    · obtain rfl : k = n := by omega
      have hbx : wo.cell? ⟨W.heap.size, 1, none⟩ = some (.slice A m c) := cell_later hb hbox
      have hz0 : W.heap.size < wo.heap.size := by have := hb.size; have := hb2.size; omega
      clear hbox hb2 hb1 hb01 hb02 HR1 HR2 hlt hk
      go_wp2_with fail
      go_loopw [8] (fun i wr => ∃ k : Nat, k ≤ m ∧ k ≤ 6 ∧ i = .int .i64 k ∧ Below wo.heap.size wo wr) (fun i _ => 6 - (intOf i).toNat)
      case atStart => exact ⟨0, by omega, by omega, rfl, Below.refl _ _⟩
      case round =>
        obtain ⟨j, hj, hj6, rfl, hbj⟩ := hrel
        obtain ⟨wp, rfl⟩ : ∃ wp : World, wp = wr := ⟨_, rfl⟩
        have hb0j : Below W.heap.size W wp := hb0.trans (hbj.mono hb0.size)
        have hbxj : wp.cell? ⟨W.heap.size, 1, none⟩ = some (.slice A m c) := cell_later hbj hbx
        clear hbx
        by_cases hlt : j < m ∧ j < 6
        · obtain ⟨hlt, hlt6⟩ := hlt
          have hjl : j < S.length := by rw [hSm.out]; exact hlt
          obtain ⟨g, off, rfl, _, hg, c0⟩ := strs_at (HS.out.below hb0j) j hjl
          obtain ⟨s, hs⟩ : ∃ s, Hid (S[j] = s) := ⟨_, Lib.hid rfl⟩
          rw [hs.out] at c0
          have hF := fun W hW => form_any s W hW
          have hG := fun W => refForm_any s W
          have hQ := fun r A B c d W => eqRule_any r r A B c d W
          simp only [same_self] at hQ
          have hgw : W.heap.size < wp.heap.size := by have := hbj.size; omega
          generalize (formOf s).getD noRule = r at hF hG
          generalize (formOf s).isSome = b at hF hG
          cases b
          all_goals
            simp only [if_true, if_false, Bool.false_eq_true] at hF
            go_wp2_with fail
            refine (hF _ (tab_alloc ht _ hb0j)).mono ?_
            rintro e w3 ⟨A3, c3, rfl, hp3, hb3⟩
            have hb3z := hb3.size
            have hgw3 : W.heap.size < w3.heap.size := by omega
            have hg3 : g < w3.heap.size := by omega
            have hbx3 := cell_later hb3 hbxj
            have c03 := cell_later hb3 c0
            have HP3 : Hid (PatIn w3 A3 c3 r.pat) := by
              obtain ⟨A', c', he, _, hpp⟩ := rep_rule_inv hp3
              simp only [List.cons.injEq, Value.slice.injEq, true_and, and_true] at he
              obtain ⟨rfl, rfl⟩ := he
              exact Lib.hid ⟨_, hpp⟩
            clear hp3
            go_wp2_with fail
            refine (hG _).mono ?_
            rintro e w5 ⟨A5, c5, rfl, hp5, hb5⟩
            have hb5z := hb5.size
            simp at hb5z
            have r0 : w5.cell? ⟨w3.heap.size, 0, none⟩ = some (.int .i64 r.nt) := cell_later hb5 (by simp)
            have r1 : w5.cell? ⟨w3.heap.size, 1, none⟩ = some (.int .i64 r.pat.op) := cell_later hb5 (by simp)
            have r2 : w5.cell? ⟨w3.heap.size, 2, none⟩ = some (.int .i64 r.pat.nt) := cell_later hb5 (by simp)
            have r3 : w5.cell? ⟨w3.heap.size, 3, none⟩ = some (.slice A3 r.pat.kids.length c3) := cell_later hb5 (by simp)
            have r4 : w5.cell? ⟨w3.heap.size, 4, none⟩ = some (.int .i64 r.cost) := cell_later hb5 (by simp)
            have r5 : w5.cell? ⟨w3.heap.size, 5, none⟩ = some (.string ⟨r.form.toArray⟩) := cell_later hb5 (by simp)
            have HP5 : Hid (PatIn w5 A5 c5 r.pat) := by
              obtain ⟨A', c', he, _, hpp⟩ := rep_rule_inv hp5
              simp only [List.cons.injEq, Value.slice.injEq, true_and, and_true] at he
              obtain ⟨rfl, rfl⟩ := he
              exact Lib.hid ⟨_, hpp⟩
            have HP35 : Hid (PatIn w5 A3 c3 r.pat) := Lib.hid ((HP3.out.below (below_alloc _ _)).below hb5)
            have hgw5 : w3.heap.size < w5.heap.size := by omega
            have hbw5 : Below wo.heap.size wo w5 := by
              refine hbj.trans ((hb3.mono hbj.size).trans (Below.trans ((below_alloc _ _).mono ?_) (hb5.mono ?_)))
              · have := hbj.size; omega
              · have := hbj.size; simp; omega
            clear hp5 c0 c03 hbxj hbx3 hF hG
            go_wp2_with (first | (go_at_call 12; refine (num12_any _ _).mono ?_; rintro e w' ⟨rfl, rfl⟩) | (go_at_call 13; refine (hQ _ _ _ _ _ _ (show PatIn _ _ _ _ from HP35.out.below (below_alloc _ _)) (show PatIn _ _ _ _ from HP5.out.below (below_alloc _ _))).mono ?_; rintro e w6 ⟨rfl, hb6⟩))
            go_roundw
            case rel => exact ⟨j + 1, by omega, by omega, by go_num, hbw5.trans (((below_alloc _ _).mono hbw5.size).trans (hb6.mono (by have := hbw5.size; simp; omega)))⟩
            case measure => simp [intOf]; omega
        · have hfin : ∀ W', Below W.heap.size W W' → Calls Tryd.prog 15 #[] W' fun e w' => e = .returned (.bool true) ∧ Below W'.heap.size W' w' := fun W' h => wakes12_any W' (tab_alloc ht _ h)
          by_cases hjm : j < m
          · have h6 : ¬ j < 6 := fun h => hlt ⟨hjm, h⟩
            clear hlt
            go_wp2_with fail
            refine (hfin _ hb0j).mono ?_
            rintro e w3 ⟨rfl, hb3⟩
            go_wp2_with fail
            go_ret
            exact ⟨ret_bool rfl, hb0j.trans (hb3.mono hb0j.size)⟩
          · clear hlt
            go_wp2_with fail
            refine (hfin _ hb0j).mono ?_
            rintro e w3 ⟨rfl, hb3⟩
            go_wp2_with fail
            go_ret
            exact ⟨ret_bool rfl, hb0j.trans (hb3.mono hb0j.size)⟩

end

/- What comes in, decoded: texts, patterns, rules, the questions. -/
section
open Go.RowKit

section
variable {P : Program} {t : TypeId} {d : D}
theorem hasTy_int {k : IntKind} (hu : P.underlying t = some (.int k)) (h : HasTy P d t) : ∃ n, d = .int k n ∧ (Lit.int k n).wf = true := by
  cases d with
  | int k' n => unfold HasTy at h; rw [hu] at h; obtain ⟨h1, h2⟩ := h; injection h1 with h1; injection h1 with h1; subst h1; exact ⟨n, rfl, h2⟩
  | bool b => unfold HasTy at h; rw [hu] at h; injection h with h; cases h
  | str s => unfold HasTy at h; rw [hu] at h; injection h.1 with h; cases h
  | st fs => unfold HasTy at h; obtain ⟨fs', h, _⟩ := h; rw [hu] at h; injection h with h; cases h
  | lst z xs => unfold HasTy at h; obtain ⟨e, h, _⟩ := h; rw [hu] at h; injection h with h; cases h
theorem hasTy_bool (hu : P.underlying t = some .bool) (h : HasTy P d t) : ∃ b, d = .bool b := by
  cases d with
  | int k' n => unfold HasTy at h; rw [hu] at h; injection h.1 with h; cases h
  | bool b => exact ⟨b, rfl⟩
  | str s => unfold HasTy at h; rw [hu] at h; injection h.1 with h; cases h
  | st fs => unfold HasTy at h; obtain ⟨fs', h, _⟩ := h; rw [hu] at h; injection h with h; cases h
  | lst z xs => unfold HasTy at h; obtain ⟨e, h, _⟩ := h; rw [hu] at h; injection h with h; cases h
theorem hasTy_str (hu : P.underlying t = some .string) (h : HasTy P d t) : ∃ s, d = .str s ∧ s.length ≤ reachBytes := by
  cases d with
  | int k' n => unfold HasTy at h; rw [hu] at h; injection h.1 with h; cases h
  | bool b => unfold HasTy at h; rw [hu] at h; injection h with h; cases h
  | str s => unfold HasTy at h; exact ⟨s, rfl, h.2⟩
  | st fs => unfold HasTy at h; obtain ⟨fs', h, _⟩ := h; rw [hu] at h; injection h with h; cases h
  | lst z xs => unfold HasTy at h; obtain ⟨e, h, _⟩ := h; rw [hu] at h; injection h with h; cases h
theorem hasTy_st {fs : Array Field} (hu : P.underlying t = some (.struct fs)) (h : HasTy P d t) : ∃ ds, d = .st ds ∧ HasTys P ds (fs.toList.map (·.type)) := by
  cases d with
  | int k' n => unfold HasTy at h; rw [hu] at h; injection h.1 with h; cases h
  | bool b => unfold HasTy at h; rw [hu] at h; injection h with h; cases h
  | str s => unfold HasTy at h; rw [hu] at h; injection h.1 with h; cases h
  | st ds => unfold HasTy at h; obtain ⟨fs', h, h2⟩ := h; rw [hu] at h; injection h with h; injection h with h; subst h; exact ⟨ds, rfl, h2⟩
  | lst z xs => unfold HasTy at h; obtain ⟨e, h, _⟩ := h; rw [hu] at h; injection h with h; cases h
theorem hasTy_lst {e : TypeId} {z b : Nat} (hu : P.underlying t = some (.slice e)) (hz0 : P.cellsOf e = z) (hb0 : P.bytesOf e = b) (h : HasTy P d t) : ∃ ds, d = .lst z ds ∧ ds.length * b ≤ reachBytes ∧ AllTy P ds e := by
  cases d with
  | int k' n => unfold HasTy at h; rw [hu] at h; injection h.1 with h; cases h
  | bool b => unfold HasTy at h; rw [hu] at h; injection h with h; cases h
  | str s => unfold HasTy at h; rw [hu] at h; injection h.1 with h; cases h
  | st fs => unfold HasTy at h; obtain ⟨fs', h, _⟩ := h; rw [hu] at h; injection h with h; cases h
  | lst z xs => unfold HasTy at h; obtain ⟨e', h, hz, h2, h3⟩ := h; rw [hu] at h; injection h with h; injection h with h; subst h; rw [hz0] at hz; subst hz; rw [hb0] at h2; exact ⟨xs, rfl, h2, h3⟩
theorem hasTys_cons {r : List TypeId} {ds : List D} (h : HasTys P ds (t :: r)) : ∃ d ds', ds = d :: ds' ∧ HasTy P d t ∧ HasTys P ds' r := by
  cases ds with
  | nil => unfold HasTys at h; cases h
  | cons d ds => unfold HasTys at h; obtain ⟨t', r', he, h1, h2⟩ := h; injection he with e1 e2; subst e1 e2; exact ⟨d, ds, rfl, h1, h2⟩
theorem hasTys_nil {ds : List D} (h : HasTys P ds []) : ds = [] := by
  cases ds with
  | nil => rfl
  | cons d ds => unfold HasTys at h; obtain ⟨t', r', he, _⟩ := h; cases he
end

theorem allTy_map {P : Program} {e : TypeId} {α : Type} {enc : α → D} {Q : α → Prop} : ∀ ds : List D, AllTy P ds e → (∀ d ∈ ds, HasTy P d e → ∃ x, d = enc x ∧ Q x) → ∃ xs : List α, ds = xs.map enc ∧ ∀ x ∈ xs, Q x
  | [], _, _ => ⟨[], rfl, by simp⟩
  | d :: ds, h, hd => by
    unfold AllTy at h
    obtain ⟨x, hx, hq⟩ := hd d (by simp) h.1
    obtain ⟨xs, hxs, hqs⟩ := allTy_map ds h.2 fun d' hm ht => hd d' (by simp [hm]) ht
    exact ⟨x :: xs, by rw [hx, hxs]; rfl, by intro y hy; rcases List.mem_cons.1 hy with rfl | hy; exact hq; exact hqs y hy⟩

theorem cellsPat : Tryd.prog.cellsOf 31 = 3 := by kernel_rfl
theorem cellsRule : Tryd.prog.cellsOf 33 = 6 := by kernel_rfl
theorem cellsRules : Tryd.prog.cellsOf 26 = 1 := by kernel_rfl
theorem cellsStr : Tryd.prog.cellsOf 9 = 1 := by kernel_rfl
theorem bytesPat : Tryd.prog.bytesOf 31 = 40 := by kernel_rfl
theorem bytesRule : Tryd.prog.bytesOf 33 = 72 := by kernel_rfl
theorem bytesRules : Tryd.prog.bytesOf 26 = 24 := by kernel_rfl
theorem bytesStr : Tryd.prog.bytesOf 9 = 16 := by kernel_rfl

theorem strs_of {ds : List D} (h : AllTy Tryd.prog ds 9) : ∃ S : List (List UInt8), ds = S.map .str ∧ ∀ s ∈ S, s.length ≤ reachBytes :=
  allTy_map (enc := .str) (Q := fun s => s.length ≤ reachBytes) ds h fun _ _ hd => hasTy_str Tryd.underlying9 hd

def I64 (n : Int) : Prop := (Lit.int .i64 n).wf = true
theorem I64.lo {n : Int} (h : I64 n) : -9223372036854775808 ≤ n := by
  unfold I64 Lit.wf at h
  have h1 : IntKind.i64.min = -9223372036854775808 := rfl
  have h2 : IntKind.i64.max = 9223372036854775807 := rfl
  simp at h; omega
theorem I64.hi {n : Int} (h : I64 n) : n ≤ 9223372036854775807 := by
  unfold I64 Lit.wf at h
  have h1 : IntKind.i64.min = -9223372036854775808 := rfl
  have h2 : IntKind.i64.max = 9223372036854775807 := rfl
  simp at h; omega

mutual
def PatWf : Pat → Prop
  | .mk op nt ks => I64 op ∧ I64 nt ∧ PatsWf ks
def PatsWf : List Pat → Prop
  | [] => True
  | p :: ps => PatWf p ∧ PatsWf ps
end
theorem patsWf_of : ∀ ps : List Pat, (∀ p ∈ ps, PatWf p) → PatsWf ps
  | [], _ => by unfold PatsWf; trivial
  | p :: ps, h => by unfold PatsWf; exact ⟨h p (by simp), patsWf_of ps fun q hq => h q (by simp [hq])⟩
theorem PatsWf.at_ : ∀ {ps : List Pat}, PatsWf ps → ∀ p ∈ ps, PatWf p
  | q :: ps, h, p, hp => by
    unfold PatsWf at h
    rcases List.mem_cons.1 hp with rfl | hp
    · exact h.1
    · exact PatsWf.at_ h.2 p hp

theorem encP_eq (op nt : Int) (ps : List Pat) : encP (.mk op nt ps) = .st [.int .i64 op, .int .i64 nt, .lst 3 (ps.map encP)] := by
  unfold encP; rw [encPs_map]

theorem pat_of : ∀ (d : D), HasTy Tryd.prog d 31 → ∃ p, d = encP p ∧ PatWf p
  | d, h => by
    obtain ⟨ds, hd0, h1⟩ := hasTy_st Tryd.underlying31 h
    obtain ⟨d1, r1, rfl, g1, h2⟩ := hasTys_cons h1
    obtain ⟨d2, r2, rfl, g2, h3⟩ := hasTys_cons h2
    obtain ⟨d3, r3, rfl, g3, h4⟩ := hasTys_cons h3
    obtain rfl := hasTys_nil h4
    obtain ⟨op, rfl, w1⟩ := hasTy_int Tryd.underlying3 g1
    obtain ⟨nt, rfl, w2⟩ := hasTy_int Tryd.underlying3 g2
    obtain ⟨ks, rfl, hl, ha⟩ := hasTy_lst Tryd.underlying29 cellsPat bytesPat g3
    obtain ⟨ps, rfl, hp⟩ := allTy_map (enc := encP) (Q := PatWf) ks ha fun d' hm hd => pat_of d' hd
    refine ⟨.mk op nt ps, ?_, ?_⟩
    · rw [encP_eq]; exact hd0
    · unfold PatWf; exact ⟨w1, w2, patsWf_of ps hp⟩
termination_by d => SizeOf.sizeOf d
decreasing_by
  have := List.sizeOf_lt_of_mem hm
  rw [hd0]
  simp
  omega

def RuleWf (r : Rule) : Prop := I64 r.nt ∧ PatWf r.pat ∧ I64 r.cost ∧ r.form.length ≤ reachBytes

theorem rule_of (d : D) (h : HasTy Tryd.prog d 33) : ∃ r, d = encR r ∧ RuleWf r := by
  obtain ⟨ds, rfl, h1⟩ := hasTy_st Tryd.underlying33 h
  obtain ⟨d1, r1, rfl, g1, h2⟩ := hasTys_cons h1
  obtain ⟨d2, r2, rfl, g2, h3⟩ := hasTys_cons h2
  obtain ⟨d3, r3, rfl, g3, h4⟩ := hasTys_cons h3
  obtain ⟨d4, r4, rfl, g4, h5⟩ := hasTys_cons h4
  obtain rfl := hasTys_nil h5
  obtain ⟨nt, rfl, w1⟩ := hasTy_int Tryd.underlying3 g1
  obtain ⟨p, rfl, w2⟩ := pat_of d2 g2
  obtain ⟨cost, rfl, w3⟩ := hasTy_int Tryd.underlying3 g3
  obtain ⟨form, rfl, w4⟩ := hasTy_str Tryd.underlying9 g4
  exact ⟨⟨nt, p, cost, form⟩, rfl, w1, w2, w3, w4⟩

def encRs (rs : List Rule) : D := .lst 6 (rs.map encR)
def RulesWf (rs : List Rule) : Prop := rs.length ≤ reachBytes ∧ ∀ r ∈ rs, RuleWf r
theorem rules_of (d : D) (h : HasTy Tryd.prog d 26) : ∃ rs, d = encRs rs ∧ RulesWf rs := by
  obtain ⟨ks, rfl, hl, ha⟩ := hasTy_lst Tryd.underlying26 cellsRule bytesRule h
  obtain ⟨rs, rfl, hp⟩ := allTy_map (enc := encR) (Q := RuleWf) ks ha fun d' _ hd => rule_of d' hd
  exact ⟨rs, by unfold encRs; rfl, by rw [List.length_map] at hl; omega, hp⟩

/-- the questions of gantletlaw11: lists of rules, texts -/
def encAsk (L : List (List Rule)) (S : List (List UInt8)) : D := .st [.lst 1 (L.map encRs), .lst 1 (S.map .str)]
def AskWf (L : List (List Rule)) (S : List (List UInt8)) : Prop := L.length ≤ reachBytes ∧ S.length ≤ reachBytes ∧ (∀ rs ∈ L, RulesWf rs) ∧ ∀ s ∈ S, s.length ≤ reachBytes
theorem ask_of (d : D) (h : HasTy Tryd.prog d 25) : ∃ L S, d = encAsk L S ∧ AskWf L S := by
  obtain ⟨ds, rfl, h1⟩ := hasTy_st Tryd.underlying25 h
  obtain ⟨d1, r1, rfl, g1, h2⟩ := hasTys_cons h1
  obtain ⟨d2, r2, rfl, g2, h3⟩ := hasTys_cons h2
  obtain rfl := hasTys_nil h3
  obtain ⟨ks, rfl, hl, ha⟩ := hasTy_lst Tryd.underlying22 cellsRules bytesRules g1
  obtain ⟨L, rfl, hp⟩ := allTy_map (enc := encRs) (Q := RulesWf) ks ha fun d' _ hd => rules_of d' hd
  obtain ⟨ss, rfl, hl2, ha2⟩ := hasTy_lst Tryd.underlying23 cellsStr bytesStr g2
  obtain ⟨S, rfl, hs⟩ := strs_of ha2
  exact ⟨L, S, rfl, by rw [List.length_map] at hl; omega, by rw [List.length_map] at hl2; omega, hp, hs⟩

end

end Go.Proofs.YtaippkdlibampaaDoor

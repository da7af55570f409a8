/- Patterns and rules read back out of memory; a rule's form asked for (rule.found's closure, slices.IndexFunc). -/
import Derived.Test.YthdicdkgfmiepaaGreatDoorRuH
import Derived.BigQuiet
import Derived.Deep.QuietTactic
import Derived.Deep.LoopGhost
namespace Go.Proofs.YthdicdkgfmiepaaGreatDoor
open Go.RowKit

def Pat.op : Pat → Int | .mk op _ _ => op
def Pat.nt : Pat → Int | .mk _ nt _ => nt
def Pat.kids : Pat → List Pat | .mk _ _ kids => kids

theorem encPs_map : ∀ ps : List Pat, encP.encPs ps = ps.map encP
  | [] => by unfold encP.encPs; rfl
  | p :: ps => by unfold encP.encPs; rw [encPs_map ps]; rfl

theorem repAll_inv {w : World} {ok : Nat → Prop} {d : D} {ds : List D} {cs : List Value} (h : RepAll w ok (d :: ds) cs) : ∃ a b : List Value, cs = a ++ b ∧ Rep w ok d a ∧ RepAll w ok ds b := by
  unfold RepAll at h; exact h
theorem repAll_nil {w : World} {ok : Nat → Prop} {cs : List Value} (h : RepAll w ok [] cs) : cs = [] := by
  unfold RepAll at h; exact h
theorem rep_int_inv {w : World} {ok : Nat → Prop} {k : IntKind} {n : Int} {cs : List Value} (h : Rep w ok (.int k n) cs) : cs = [.int k n] := by
  unfold Rep at h; exact h
theorem rep_str_inv {w : World} {ok : Nat → Prop} {s : List UInt8} {cs : List Value} (h : Rep w ok (.str s) cs) : cs = [.string ⟨s.toArray⟩] := by
  unfold Rep at h; exact h
theorem rep_bool_inv {w : World} {ok : Nat → Prop} {b : Bool} {cs : List Value} (h : Rep w ok (.bool b) cs) : cs = [.bool b] := by
  unfold Rep at h; exact h
theorem rep_st_inv {w : World} {ok : Nat → Prop} {ds : List D} {cs : List Value} (h : Rep w ok (.st ds) cs) : RepAll w ok ds cs := by
  unfold Rep at h; exact h
theorem rep_lst_inv {w : World} {ok : Nat → Prop} {z : Nat} {xs : List D} {cs : List Value} (h : Rep w ok (.lst z xs) cs) : ∃ (A : Option Addr) (c : Nat), cs = [.slice A xs.length c] ∧ xs.length ≤ c ∧ c ≤ maxLen ∧ Rep w ok (.lst z xs) [.slice A xs.length c] := by
  have h0 := h
  unfold Rep at h
  obtain ⟨A, c, rfl, hc, hm, _⟩ := h
  exact ⟨A, c, rfl, hc, hm, h0⟩

theorem Rep.setCell {w : World} {ok : Nat → Prop} {d : D} {cs : List Value} {p : Addr} {u : Value} (h : Rep w ok d cs) (hp : ∀ g, ok g → g ≠ p.block) : Rep (w.setCell p u) ok d cs :=
  Rep.keep (fun _ h _ => h) (fun g hg _ => Below.heap_setCell w p u g (hp g hg)) d cs h

theorem rep_pat_inv {w : World} {ok : Nat → Prop} {p : Pat} {cs : List Value} (h : Rep w ok (encP p) cs) :
    ∃ (A : Option Addr) (c : Nat), cs = [.int .i64 p.op, .int .i64 p.nt, .slice A p.kids.length c] ∧ p.kids.length ≤ maxLen ∧ Rep w ok (.lst 3 (p.kids.map encP)) [.slice A p.kids.length c] := by
  obtain ⟨op, nt, kids⟩ := p
  unfold encP at h
  obtain ⟨a, b, rfl, h1, h2⟩ := repAll_inv (rep_st_inv h)
  obtain ⟨a2, b2, rfl, h3, h4⟩ := repAll_inv h2
  obtain ⟨a3, b3, rfl, h5, h6⟩ := repAll_inv h4
  rw [encPs_map] at h5
  obtain ⟨A, c, rfl, hc, hm, h7⟩ := rep_lst_inv h5
  rw [rep_int_inv h1, rep_int_inv h3, repAll_nil h6]
  rw [List.length_map] at hc h7 ⊢
  exact ⟨A, c, rfl, Nat.le_trans hc hm, h7⟩

theorem rep_rule_inv {w : World} {ok : Nat → Prop} {r : Rule} {cs : List Value} (h : Rep w ok (encR r) cs) :
    ∃ (A : Option Addr) (c : Nat), cs = [.int .i64 r.nt, .int .i64 r.pat.op, .int .i64 r.pat.nt, .slice A r.pat.kids.length c, .int .i64 r.cost, .string ⟨r.form.toArray⟩] ∧ r.pat.kids.length ≤ maxLen ∧ Rep w ok (encP r.pat) [.int .i64 r.pat.op, .int .i64 r.pat.nt, .slice A r.pat.kids.length c] := by
  obtain ⟨nt, p, cost, form⟩ := r
  unfold encR at h
  obtain ⟨a, b, rfl, h1, h2⟩ := repAll_inv (rep_st_inv h)
  obtain ⟨a2, b2, rfl, h3, h4⟩ := repAll_inv h2
  obtain ⟨a3, b3, rfl, h5, h6⟩ := repAll_inv h4
  obtain ⟨a4, b4, rfl, h7, h8⟩ := repAll_inv h6
  obtain ⟨A, c, rfl, hc, h9⟩ := rep_pat_inv h3
  rw [rep_int_inv h1, rep_int_inv h5, rep_str_inv h7, repAll_nil h8]
  exact ⟨A, c, rfl, hc, h3⟩

/-- row k of a slice of rules -/
theorem rules_at {w : World} {ok : Nat → Prop} {rs : List Rule} {A : Option Addr} {n c : Nat} (h : Rep w ok (.lst 6 (rs.map encR)) [.slice A n c]) (k : Nat) (hk : k < rs.length) :
    ∃ (g off : Nat) (B : Option Addr) (d : Nat), A = some ⟨g, off, none⟩ ∧ ok g ∧ g < w.heap.size ∧
      (w.cell? ⟨g, off + k * 6, none⟩ = some (.int .i64 rs[k].nt) ∧ w.cell? ⟨g, off + k * 6 + 1, none⟩ = some (.int .i64 rs[k].pat.op) ∧ w.cell? ⟨g, off + k * 6 + 2, none⟩ = some (.int .i64 rs[k].pat.nt) ∧ w.cell? ⟨g, off + k * 6 + 3, none⟩ = some (.slice B rs[k].pat.kids.length d) ∧ w.cell? ⟨g, off + k * 6 + 4, none⟩ = some (.int .i64 rs[k].cost) ∧ w.cell? ⟨g, off + k * 6 + 5, none⟩ = some (.string ⟨rs[k].form.toArray⟩)) ∧
      rs[k].pat.kids.length ≤ maxLen ∧ Rep w ok (encP rs[k].pat) [.int .i64 rs[k].pat.op, .int .i64 rs[k].pat.nt, .slice B rs[k].pat.kids.length d] := by
  obtain ⟨g, off, a, hA, hok, hlt, hl, hr, hc⟩ := h.at_ k (by simpa using hk)
  rw [List.getElem_map] at hr
  obtain ⟨B, d, rfl, hd, hp⟩ := rep_rule_inv hr
  have e : ∀ j, off + (k * 6 + j) = off + k * 6 + j := fun j => by omega
  refine ⟨g, off, B, d, hA, hok, hlt, ⟨?_, ?_, ?_, ?_, ?_, ?_⟩, hd, hp⟩
  · have := hc 0 (by omega); rw [e] at this; exact this
  · have := hc 1 (by omega); rw [e] at this; exact this
  · have := hc 2 (by omega); rw [e] at this; exact this
  · have := hc 3 (by omega); rw [e] at this; exact this
  · have := hc 4 (by omega); rw [e] at this; exact this
  · have := hc 5 (by omega); rw [e] at this; exact this

theorem str_eq (a b : List UInt8) : ((⟨a.toArray⟩ : ByteArray) = ⟨b.toArray⟩) ↔ a = b := by
  constructor
  · intro h; injection h with h; simpa using congrArg Array.toList h
  · rintro rfl; rfl

/-- where the first rule of a form is; -1: nowhere -/
def idxOf (rs : List Rule) (s : List UInt8) : Int := if rs.findIdx (fun r => r.form == s) < rs.length then (rs.findIdx (fun r => r.form == s) : Nat) else -1

theorem idxOf_hit (rs : List Rule) (s : List UInt8) (k : Nat) (hk : k < rs.length) (h : rs[k].form = s) (hb : ∀ j (hj : j < k), (rs[j]'(by omega)).form ≠ s) : idxOf rs s = k := by
  have : rs.findIdx (fun r => r.form == s) = k := by
    rw [List.findIdx_eq hk]
    exact ⟨by simp [h], fun j hj => by simpa using hb j hj⟩
  unfold idxOf
  rw [this, if_pos hk]

theorem idxOf_miss (rs : List Rule) (s : List UInt8) (hb : ∀ j (hj : j < rs.length), rs[j].form ≠ s) : idxOf rs s = -1 := by
  have : rs.findIdx (fun r => r.form == s) = rs.length := by
    rw [List.findIdx_eq_length]
    intro x hx
    obtain ⟨j, hj, rfl⟩ := List.getElem_of_mem hx
    simpa using hb j hj
  unfold idxOf
  rw [this, if_neg (by omega)]

def SomeBoolBelow (b : Bool) (w : World) (e : Ending) (w' : World) : Prop := e = .returned (.bool b) ∧ Below w.heap.size w w'

def IdxPost (i : Int) (w : World) (e : Ending) (w' : World) : Prop := e = .returned (.int .i64 i) ∧ Below w.heap.size w w'

def formOf (s : List UInt8) : Option Rule := formsR.find? (fun r => r.form == s)
def noRule : Rule := ⟨0, .mk 0 0 [], 0, []⟩

theorem formOf_idx (s : List UInt8) : (idxOf formsR s = -1 ∧ formOf s = none) ∨ ∃ (k : Nat) (h : k < formsR.length), idxOf formsR s = k ∧ formOf s = some formsR[k] := by
  unfold idxOf formOf
  by_cases h : formsR.findIdx (fun r => r.form == s) < formsR.length
  · right
    refine ⟨_, h, by rw [if_pos h], ?_⟩
    rw [List.find?_eq_some_iff_getElem]
    refine ⟨List.findIdx_getElem (w := h), _, h, rfl, fun j hj => ?_⟩
    have := List.not_of_lt_findIdx hj
    simpa using this
  · left
    refine ⟨by rw [if_neg h], ?_⟩
    rw [List.find?_eq_none]
    have h2 : formsR.findIdx (fun r => r.form == s) = formsR.length := by
      have := List.findIdx_le_length (xs := formsR) (p := fun r => r.form == s)
      omega
    rw [List.findIdx_eq_length] at h2
    intro x hx
    have := h2 x hx
    simp at this
    simpa using this

/-- a rule that is handed back by value, with a word beside it -/
def RuleRet (B : Nat) (r : Rule) (u : Value) (w : World) (e : Ending) (w' : World) : Prop :=
  ∃ (A : Option Addr) (c : Nat), e = .returned (.tuple #[.agg #[.int .i64 r.nt, .int .i64 r.pat.op, .int .i64 r.pat.nt, .slice A r.pat.kids.length c, .int .i64 r.cost, .string ⟨r.form.toArray⟩], u]) ∧
    Rep w' (fun g => B ≤ g) (encR r) [.int .i64 r.nt, .int .i64 r.pat.op, .int .i64 r.pat.nt, .slice A r.pat.kids.length c, .int .i64 r.cost, .string ⟨r.form.toArray⟩] ∧ Below B w w'

theorem rep_rule_of {w : World} {ok : Nat → Prop} {r : Rule} {A : Option Addr} {c : Nat} (h : Rep w ok (encP r.pat) [.int .i64 r.pat.op, .int .i64 r.pat.nt, .slice A r.pat.kids.length c]) : Rep w ok (encR r) [.int .i64 r.nt, .int .i64 r.pat.op, .int .i64 r.pat.nt, .slice A r.pat.kids.length c, .int .i64 r.cost, .string ⟨r.form.toArray⟩] := by
  obtain ⟨nt, p, cost, form⟩ := r
  exact rep_rule h

end Go.Proofs.YthdicdkgfmiepaaGreatDoor

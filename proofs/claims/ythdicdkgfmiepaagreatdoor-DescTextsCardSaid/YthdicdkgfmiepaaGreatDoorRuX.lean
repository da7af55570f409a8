/- Whether there are enough rules: rule.Whole walked. -/
import Derived.Test.YthdicdkgfmiepaaGreatDoorRuW
namespace Go.Proofs.YthdicdkgfmiepaaGreatDoor
open Go.RowKit

def hasForm (rs : List Rule) (s : List UInt8) : Bool := rs.any fun x => x.form == s

theorem hasForm_idx (rs : List Rule) (s : List UInt8) : (0 ≤ idxOf rs s ∧ hasForm rs s = true) ∨ (idxOf rs s = -1 ∧ hasForm rs s = false) := by
  unfold idxOf hasForm
  by_cases h : rs.findIdx (fun r => r.form == s) < rs.length
  · left
    rw [if_pos h]
    refine ⟨by omega, ?_⟩
    rw [List.any_eq_true]
    exact ⟨_, List.getElem_mem h, List.findIdx_getElem (w := h)⟩
  · right
    rw [if_neg h]
    refine ⟨rfl, ?_⟩
    have h2 : rs.findIdx (fun r => r.form == s) = rs.length := by
      have := List.findIdx_le_length (xs := rs) (p := fun r => r.form == s)
      omega
    rw [List.findIdx_eq_length] at h2
    rw [List.any_eq_false]
    intro x hx
    have := h2 x hx
    simpa using this

def sFit : List UInt8 := [102, 105, 116]
def sUp : List UInt8 := [117, 112]
def sOff : List UInt8 := [111, 102, 102]
def special (s : List UInt8) : Bool := s == sFit || (s == sUp || s == sOff)
def kid1 (r : Rule) : Int := (r.pat.kids.getD 1 (.mk 0 0 [])).nt
/-- must a form be there? -/
def neededR (r : Rule) : Bool := !special r.form && (!isBin r.pat.op || (!Lib.hasSuffix r.form [105] || kid1 r == 0))

def wholeB (rs : List Rule) : Bool := formsR.all fun r => hasForm rs r.form || !neededR r

theorem forms_len (k : Nat) (h : k < formsR.length) : (formsR[k]).form.length ≤ 1000 ∧ (isBin (formsR[k]).pat.op = true → (formsR[k]).pat.kids.length = 2) := by
  have h0 : (formsR.all fun r => decide (r.form.length ≤ 1000) && (!isBin r.pat.op || decide (r.pat.kids.length = 2))) = true := by kernel_rfl
  have h1 := List.all_eq_true.1 h0 _ (List.getElem_mem h)
  simp only [Bool.and_eq_true, decide_eq_true_eq, Bool.or_eq_true, Bool.not_eq_true'] at h1
  refine ⟨h1.1, fun hb => ?_⟩
  rcases h1.2 with h2 | h2
  · rw [hb] at h2; cases h2
  · exact h2

theorem wholeB_bad (rs : List Rule) (k : Nat) (hk : k < formsR.length) (h1 : hasForm rs formsR[k].form = false) (h2 : neededR formsR[k] = true) : wholeB rs = false := by
  unfold wholeB
  rw [List.all_eq_false]
  exact ⟨formsR[k], List.getElem_mem hk, by rw [h1, h2]; simp⟩
theorem wholeB_good (rs : List Rule) (ha : ∀ j (hj : j < formsR.length), (hasForm rs formsR[j].form || !neededR formsR[j]) = true) : wholeB rs = true := by
  unfold wholeB
  rw [List.all_eq_true]
  intro x hx
  obtain ⟨j, hj, rfl⟩ := List.getElem_of_mem hx
  exact ha j hj

def WholeRet (b : Bool) (i : Int) (w : World) (e : Ending) (w' : World) : Prop := e = .returned (.tuple #[.bool b, .int .i64 i]) ∧ Below w.heap.size w w'

end Go.Proofs.YthdicdkgfmiepaaGreatDoor

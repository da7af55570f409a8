/- rule.same, rule.Check and the reference's Check walked. -/
import Derived.Test.YthdicdkgfmiepaaGreatDoorRuU
namespace Go.Proofs.YthdicdkgfmiepaaGreatDoor
open Go.RowKit

/-- is a rule one of the forms' but for its cost? -/
noncomputable def rightR (r : Rule) : Bool :=
  match formOf r.form with
  | none => false
  | some x => decide (x.nt = r.nt) && same x.pat r.pat
noncomputable def checkE (rs : List Rule) : Int := if mayRs rs = false then 1 else if rs.all rightR then 0 else 9

theorem checkE_bad (rs : List Rule) (h : mayRs rs = true) (k : Nat) (hk : k < rs.length) (hb : rightR rs[k] = false) : checkE rs = 9 := by
  unfold checkE
  have : rs.all rightR = false := by
    rw [List.all_eq_false]
    exact ⟨rs[k], List.getElem_mem hk, by simp [hb]⟩
  rw [if_neg (by rw [h]; simp), this]; simp
theorem checkE_good (rs : List Rule) (h : mayRs rs = true) (ha : ∀ j (hj : j < rs.length), rightR rs[j] = true) : checkE rs = 0 := by
  unfold checkE
  have : rs.all rightR = true := by
    rw [List.all_eq_true]
    intro x hx
    obtain ⟨j, hj, rfl⟩ := List.getElem_of_mem hx
    exact ha j hj
  rw [if_neg (by rw [h]; simp), this]; simp

def IntRet (i : Int) (w : World) (e : Ending) (w' : World) : Prop := e = .returned (.int .i64 i) ∧ Below w.heap.size w w'

theorem patIn_of_ret {B : Nat} {r : Rule} {w' : World} {A : Option Addr} {c : Nat} (h : Rep w' (fun g => B ≤ g) (encR r) [.int .i64 r.nt, .int .i64 r.pat.op, .int .i64 r.pat.nt, .slice A r.pat.kids.length c, .int .i64 r.cost, .string ⟨r.form.toArray⟩]) : PatIn w' A c r.pat := by
  obtain ⟨A', c', he, _, hpp⟩ := rep_rule_inv h
  simp only [List.cons.injEq, Value.slice.injEq, true_and, and_true] at he
  obtain ⟨rfl, rfl⟩ := he
  exact ⟨_, hpp⟩

end Go.Proofs.YthdicdkgfmiepaaGreatDoor

/- Patterns and rules as data; their makers walked. -/
import Derived.Test.YthdicdkgfmiepaaGreatDoorRepIn
import Derived.Test.YthdicdkgfmiepaaGreatDoorShelf
import Derived.Outline
namespace Go.Proofs.YthdicdkgfmiepaaGreatDoor
open Go.RowKit

/-- a rule's pattern -/
inductive Pat where
  | mk (op nt : Int) (kids : List Pat)
structure Rule where
  nt : Int
  pat : Pat
  cost : Int
  form : List UInt8

def encP : Pat → D
  | .mk op nt kids => .st [.int .i64 op, .int .i64 nt, .lst 3 (encPs kids)]
where encPs : List Pat → List D
  | [] => []
  | p :: ps => encP p :: encPs ps

def encR (r : Rule) : D := .st [.int .i64 r.nt, encP r.pat, .int .i64 r.cost, .str r.form]

def pN (n : Int) : Pat := .mk 0 n []
def pO (op : Int) (kids : List Pat) : Pat := .mk op 0 kids

theorem rep_pat {w : World} {ok : Nat → Prop} {op nt : Int} {kids : List Pat} {v : Value} (h : Rep w ok (.lst 3 (encP.encPs kids)) [v]) : Rep w ok (encP (.mk op nt kids)) [.int .i64 op, .int .i64 nt, v] := by
  unfold encP Rep RepAll
  refine ⟨[_], [_, _], rfl, by unfold Rep; rfl, ?_⟩
  unfold RepAll
  refine ⟨[_], [_], rfl, by unfold Rep; rfl, ?_⟩
  unfold RepAll
  exact ⟨[_], [], rfl, h, by unfold RepAll; rfl⟩

theorem rep_nil {w : World} {ok : Nat → Prop} {z : Nat} : Rep w ok (.lst z []) [.slice none 0 0] := by
  unfold Rep
  exact ⟨none, 0, rfl, Nat.le_refl _, by simp, fun h => absurd h (by simp)⟩

theorem rep_leaf {w : World} {ok : Nat → Prop} {op nt : Int} : Rep w ok (encP (.mk op nt [])) [.int .i64 op, .int .i64 nt, .slice none 0 0] := rep_pat rep_nil

theorem rep_rule {w : World} {ok : Nat → Prop} {nt cost : Int} {p : Pat} {form : List UInt8} {a b c : Value} (h : Rep w ok (encP p) [a, b, c]) : Rep w ok (encR ⟨nt, p, cost, form⟩) [.int .i64 nt, a, b, c, .int .i64 cost, .string ⟨form.toArray⟩] := by
  unfold encR Rep RepAll
  refine ⟨[_], [a, b, c, _, _], rfl, by unfold Rep; rfl, ?_⟩
  unfold RepAll
  refine ⟨[a, b, c], [_, _], rfl, h, ?_⟩
  unfold RepAll
  refine ⟨[_], [_], rfl, by unfold Rep; rfl, ?_⟩
  unfold RepAll
  exact ⟨[_], [], rfl, by unfold Rep; rfl, by unfold RepAll; rfl⟩

end Go.Proofs.YthdicdkgfmiepaaGreatDoor

/- Patterns and rules as data; their makers walked. -/
import Derived.Test.YthdicdkgfmiepaaDoorRepIn
import Derived.Test.YthdicdkgfmiepaaDoorShelf
import Derived.Outline
namespace Go.Proofs.YthdicdkgfmiepaaDoor
open Go.RowKit

/-- a rule's pattern -/
inductive Pat where
  | mk (op nt : Int) (kids : List Pat)
structure Rule where
  nt : Int
  pat : Pat
  cost : Int
  form : List UInt8

def encP : Pat → D
  | .mk op nt kids => .st [.int .i64 op, .int .i64 nt, .lst 3 (encPs kids)]
where encPs : List Pat → List D
  | [] => []
  | p :: ps => encP p :: encPs ps

def encR (r : Rule) : D := .st [.int .i64 r.nt, encP r.pat, .int .i64 r.cost, .str r.form]

set_option maxHeartbeats 400000 in
theorem refN_any (k : Int) (w : World) :
    Calls Tryd.prog 38 #[.int .i64 k] w fun e w' => e = .returned (.agg #[.int .i64 0, .int .i64 k, .slice none 0 0]) ∧ w.alloc (.cells #[.int .i64 0, .int .i64 k, .slice none 0 0] 31) = w' := by
  go_enter Tryd.func38, Tryd.ntmps38
  go_wp2
  exact bodyPost_ret (v := .agg #[.int .i64 0, .int .i64 k, .slice none 0 0]) (by simp [results, Tryd.results38, go_sem]) rfl ⟨rfl, rfl⟩

set_option maxHeartbeats 400000 in
theorem refO_any (k : Int) (A : Option Addr) (n c : Nat) (w : World) :
    Calls Tryd.prog 39 #[.int .i64 k, .slice A n c] w fun e w' => e = .returned (.agg #[.int .i64 k, .int .i64 0, .slice A n c]) ∧ w.alloc (.cells #[.int .i64 k, .int .i64 0, .slice A n c] 31) = w' := by
  go_enter Tryd.func39, Tryd.ntmps39
  go_wp2
  exact bodyPost_ret (v := .agg #[.int .i64 k, .int .i64 0, .slice A n c]) (by simp [results, Tryd.results39, go_sem]) rfl ⟨rfl, rfl⟩

set_option maxHeartbeats 400000 in
theorem nt_any (k : Int) (w : World) :
    Calls Tryd.prog 70 #[.int .i64 k] w fun e w' => e = .returned (.agg #[.int .i64 0, .int .i64 k, .slice none 0 0]) ∧ w.alloc (.cells #[.int .i64 0, .int .i64 k, .slice none 0 0] 31) = w' := by
  go_enter Tryd.func70, Tryd.ntmps70
  go_wp2
  exact bodyPost_ret (v := .agg #[.int .i64 0, .int .i64 k, .slice none 0 0]) (by simp [results, Tryd.results70, go_sem]) rfl ⟨rfl, rfl⟩

set_option maxHeartbeats 400000 in
theorem op_any (k : Int) (A : Option Addr) (n c : Nat) (w : World) :
    Calls Tryd.prog 110 #[.int .i64 k, .slice A n c] w fun e w' => e = .returned (.agg #[.int .i64 k, .int .i64 0, .slice A n c]) ∧ w.alloc (.cells #[.int .i64 k, .int .i64 0, .slice A n c] 31) = w' := by
  go_enter Tryd.func110, Tryd.ntmps110
  go_wp2
  exact bodyPost_ret (v := .agg #[.int .i64 k, .int .i64 0, .slice A n c]) (by simp [results, Tryd.results110, go_sem]) rfl ⟨rfl, rfl⟩

set_option maxHeartbeats 400000 in
theorem reg_any (s : ByteArray) (k : Int) (A : Option Addr) (n c : Nat) (w : World) :
    Calls Tryd.prog 69 #[.string s, .int .i64 k, .slice A n c] w fun e w' => e = .returned (.agg #[.int .i64 0, .int .i64 k, .int .i64 0, .slice A n c, .int .i64 0, .string s]) ∧ (w.alloc (.cells #[.int .i64 0, .int .i64 k, .int .i64 0, .slice A n c, .int .i64 0, .string s] 33)).alloc (.cells #[.int .i64 k, .int .i64 0, .slice A n c] 31) = w' := by
  go_enter Tryd.func69, Tryd.ntmps69
  go_wp2_with (go_at_call 110; refine (op_any _ _ _ _ _).mono ?_; rintro e w1 ⟨rfl, rfl⟩)
  exact bodyPost_ret (v := .agg #[.int .i64 0, .int .i64 k, .int .i64 0, .slice A n c, .int .i64 0, .string s]) (by simp [results, Tryd.results69, go_sem]) rfl ⟨rfl, rfl⟩

def pN (n : Int) : Pat := .mk 0 n []
def pO (op : Int) (kids : List Pat) : Pat := .mk op 0 kids

theorem rep_pat {w : World} {ok : Nat → Prop} {op nt : Int} {kids : List Pat} {v : Value} (h : Rep w ok (.lst 3 (encP.encPs kids)) [v]) : Rep w ok (encP (.mk op nt kids)) [.int .i64 op, .int .i64 nt, v] := by
  unfold encP Rep RepAll
  refine ⟨[_], [_, _], rfl, by unfold Rep; rfl, ?_⟩
  unfold RepAll
  refine ⟨[_], [_], rfl, by unfold Rep; rfl, ?_⟩
  unfold RepAll
  exact ⟨[_], [], rfl, h, by unfold RepAll; rfl⟩

theorem rep_nil {w : World} {ok : Nat → Prop} {z : Nat} : Rep w ok (.lst z []) [.slice none 0 0] := by
  unfold Rep
  exact ⟨none, 0, rfl, Nat.le_refl _, by simp, fun h => absurd h (by simp)⟩

theorem rep_leaf {w : World} {ok : Nat → Prop} {op nt : Int} : Rep w ok (encP (.mk op nt [])) [.int .i64 op, .int .i64 nt, .slice none 0 0] := rep_pat rep_nil

theorem rep_rule {w : World} {ok : Nat → Prop} {nt cost : Int} {p : Pat} {form : List UInt8} {a b c : Value} (h : Rep w ok (encP p) [a, b, c]) : Rep w ok (encR ⟨nt, p, cost, form⟩) [.int .i64 nt, a, b, c, .int .i64 cost, .string ⟨form.toArray⟩] := by
  unfold encR Rep RepAll
  refine ⟨[_], [a, b, c, _, _], rfl, by unfold Rep; rfl, ?_⟩
  unfold RepAll
  refine ⟨[a, b, c], [_, _], rfl, h, ?_⟩
  unfold RepAll
  refine ⟨[_], [_], rfl, by unfold Rep; rfl, ?_⟩
  unfold RepAll
  exact ⟨[_], [], rfl, by unfold Rep; rfl, by unfold RepAll; rfl⟩

end Go.Proofs.YthdicdkgfmiepaaDoor

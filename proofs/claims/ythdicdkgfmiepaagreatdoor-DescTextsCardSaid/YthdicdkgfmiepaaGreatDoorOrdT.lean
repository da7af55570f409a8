/- Any order of a region's operations, with a condition on memory till the last operation, which waits for all others over others. -/
import Derived.Test.YthdicdkgfmiepaaGreatDoorOrd
namespace Go.Proofs.YthdicdkgfmiepaaGreatDoor
open Go.RowKit

section
variable {P : Program} {ops : Array Oper} {Q : Exit → Act → World → Prop} {md : Region.Mode} {S : World → Prop} {last : Nat}

/-- whom an operation waits for -/
def predsOf (md : Region.Mode) (ops : Array Oper) (k : Nat) : List Nat := match ops[k]? with
  | some o => (o.after.toList.filter fun e => Region.binds md e).map (·.on)
  | none => []
theorem predsOf_mem {k : Nat} {o : Oper} (ho : ops[k]? = some o) {i : Nat} : i ∈ predsOf md ops k ↔ ∃ e ∈ o.after, Region.binds md e = true ∧ e.on = i := by
  unfold predsOf
  rw [ho]
  simp [List.mem_map, List.mem_filter, and_assoc]
/-- each operation but the last is waited for by a later one -/
def SuccB (md : Region.Mode) (ops : Array Oper) (last : Nat) : Bool := (List.range ops.size).all fun i => i == last || (List.range ops.size).any fun k => decide (i < k) && (predsOf md ops k).contains i
/-- whom a listed operation waits for is listed -/
def Closed (md : Region.Mode) (ops : Array Oper) (listed : Array Bool) : Prop := ∀ k o, ops[k]? = some o → listed.getD k false = true → ∀ e ∈ o.after, Region.binds md e = true → listed.getD e.on false = true
def closedB (md : Region.Mode) (ops : Array Oper) (listed : Array Bool) : Bool := (List.range ops.size).all fun k => !(listed.getD k false) || (predsOf md ops k).all fun m => listed.getD m false
theorem closedB_spec {listed : Array Bool} (h : closedB md ops listed = true) : Closed md ops listed := by
  intro k o ho hk e he hb
  have hkl : k < ops.size := (Array.getElem?_eq_some_iff.1 ho).1
  have h1 := List.all_eq_true.1 h k (by simpa using hkl)
  rw [hk, Bool.not_true, Bool.false_or] at h1
  exact List.all_eq_true.1 h1 e.on ((predsOf_mem ho).2 ⟨e, he, hb, rfl⟩)
theorem getD_true {listed : Array Bool} {m : Nat} (j : Nat) (h : listed.getD m false = true) : (listed.setIfInBounds j true).getD m false = true := by
  by_cases hjm : j = m
  · subst hjm
    rcases Nat.lt_or_ge j listed.size with h' | h'
    · simp [Array.getD, h']
    · simp [Array.getD, Nat.not_lt.2 h'] at h
  · rw [getD_set_ne false hjm]; exact h
theorem Closed.list {listed : Array Bool} {j : Nat} (h : Closed md ops listed) (hj : j ∈ Region.ready md ops listed) : Closed md ops (listed.setIfInBounds j true) := by
  intro k o ho hk e he hb
  refine getD_true j ?_
  by_cases hjk : j = k
  · subst hjk
    obtain ⟨_, oj, hoj, hall⟩ := mem_ready.1 hj
    rw [hoj] at ho
    injection ho with ho
    subst ho
    exact hall e he hb
  · rw [getD_set_ne false hjk] at hk
    exact h k o ho hk e he hb
/-- if the last operation's turn has come, all others have been -/
theorem last_all {listed : Array Bool} (hs : SuccB md ops last = true) (hc : Closed md ops listed) (hr : last ∈ Region.ready md ops listed) : ∀ n i, ops.size - i ≤ n → i < ops.size → i ≠ last → listed.getD i false = true
  | 0, i, hn, hi, _ => by omega
  | n + 1, i, hn, hi, hne => by
    have h1 := List.all_eq_true.1 hs i (by simpa using hi)
    rw [Bool.or_eq_true] at h1
    rcases h1 with h1 | h1
    · exact absurd (by simpa using h1) hne
    · obtain ⟨k, hk, h2⟩ := List.any_eq_true.1 h1
      rw [Bool.and_eq_true, decide_eq_true_eq] at h2
      have hkl : k < ops.size := by simpa using hk
      have ho : ops[k]? = some ops[k] := Array.getElem?_eq_getElem hkl
      obtain ⟨e, he, hb, hon⟩ := (predsOf_mem (md := md) ho).1 (by simpa using h2.2)
      rw [← hon]
      by_cases hkL : k = last
      · subst hkL
        obtain ⟨_, oj, hoj, hall⟩ := mem_ready.1 hr
        rw [ho] at hoj
        injection hoj with hoj
        rw [hoj] at he
        exact hall e he hb
      · exact hc k _ ho (last_all hs hc hr n k (by omega) hkl hkL) e he hb

theorem anyJ_firstT (hw : SuccB md ops last = true) {i : Nat} {oi : Oper} {v : Value} (hi : ops[i]? = some oi) (hne : i ≠ last) (hsel : ∀ (j : Nat) (o : Oper) cs b, ops[j]? = some o → o.op ≠ .select cs b)
    (hQ : ∀ c a w, Q (.panic c) (a.put oi.dst v) w → Q (.panic c) a w) :
    ∀ (fuel : Nat) (listed : Array Bool) (a : Act) (w : World), Closed md ops listed →
      (∀ j oj, ops[j]? = some oj → j ≠ i → listed.getD j true = false → (∀ e ∈ oj.after, Region.binds md e = true → e.on ≠ i) → oi.apart ops oj = true) →
      i ∈ Region.ready md ops listed → YieldsIf P ops S oi v a → S w →
      AnyJ P md ops Q S last fuel (listed.setIfInBounds i true) (a.put oi.dst v) w → AnyJ P md ops Q S last (fuel + 1) listed a w := by
  intro fuel
  have hil : i < ops.size := (Array.getElem?_eq_some_iff.1 hi).1
  have hno : ∀ (listed : Array Bool) (j : Nat), Closed md ops listed → i ∈ Region.ready md ops listed → j ∈ Region.ready md ops listed → j ≠ i → (∀ oj, ops[j]? = some oj → ∀ e ∈ oj.after, Region.binds md e = true → e.on ≠ i) ∧ j ≠ last := by
    intro listed j hcl hri hrj hji
    obtain ⟨_, oj, hoj, hall⟩ := mem_ready.1 hrj
    have h0 := (mem_ready.1 hri).1
    have hi2 : listed.getD i false ≠ true := by
      intro h1
      rcases Nat.lt_or_ge i listed.size with h' | h'
      · simp [h'] at h0 h1; rw [h0] at h1; cases h1
      · simp [Array.getElem?_eq_none h'] at h1
    refine ⟨fun o ho e he hb heq => ?_, fun hjl => ?_⟩
    · rw [hoj] at ho
      injection ho with ho
      subst ho
      have h1 := hall e he hb
      rw [heq] at h1
      exact hi2 h1
    · subst hjl
      exact hi2 (last_all hw hcl hrj ops.size i (by omega) hil (Ne.symm hji))
  induction fuel with
  | zero =>
    intro listed a w _ _ hr hy hS H
    refine ⟨fun h => (by rw [h] at hr; cases hr), fun j hj => ?_⟩
    by_cases hji : j = i
    · subst hji; exact hy.wpOp hi hS ⟨fun _ => hS, H⟩
    · have := ready_mono hj hji
      rw [H.1] at this
      cases this
  | succ fuel ih =>
    intro listed a w hcl hfree hr hy hS H
    refine ⟨fun h => (by rw [h] at hr; cases hr), fun j hj => ?_⟩
    by_cases hji : j = i
    · subst hji; exact hy.wpOp hi hS ⟨fun _ => hS, H⟩
    · have h1 := H.2 j (ready_mono hj hji)
      obtain ⟨hjun, oj, hoj, _⟩ := mem_ready.1 hj
      obtain ⟨hnot, hjl⟩ := hno listed j hcl hr hj hji
      have h2 := wpOp_putIf hoj (hfree j oj hoj hji hjun (hnot oj hoj)) (fun cs b => hsel i oi cs b hi) (fun cs b => hsel j oj cs b hoj) hQ hy h1
      have hfree' : ∀ k ok, ops[k]? = some ok → k ≠ i → (listed.setIfInBounds j true).getD k true = false →
          (∀ e ∈ ok.after, Region.binds md e = true → e.on ≠ i) → oi.apart ops ok = true := fun k ok hk hki hun hn => by
        refine hfree k ok hk hki ?_ hn
        by_cases hjk : j = k
        · subst hjk; exact hjun
        · rw [getD_set_ne true hjk] at hun; exact hun
      refine wpOp_mono (fun a' w' h3 => ⟨h3.2.1, ih (listed.setIfInBounds j true) a' w' (hcl.list hj) hfree' (ready_mono hr (Ne.symm hji)) h3.1 (h3.2.1 hjl) ?_⟩) h2
      rw [Array.setIfInBounds_comm _ _ hji]
      exact h3.2.2

def takeOkT (md : Region.Mode) (ops : Array Oper) (listed : Array Bool) (last i : Nat) : Bool := SuccB md ops last && closedB md ops listed && !(i == last) && Region.noSelect ops && Region.free md ops listed i && (Region.ready md ops listed).contains i

theorem takeT {i : Nat} {oi : Oper} {d : Option Tmp} {v : Value} {fuel : Nat} {listed : Array Bool} {a : Act} {w : World} (hk : takeOkT md ops listed last i = true) (hi : ops[i]? = some oi) (hd : oi.dst = d) (hwt : Region.wanted oi (yielded ops a.tmps) = true)
    (hQ : ∀ c a w, Q (.panic c) (a.put d v) w → Q (.panic c) a w) (hS : S w) (hy : ∀ w, S w → (execOp a.eval oi).run P w = .ok (.value v) w)
    (h : AnyJ P md ops Q S last fuel (listed.setIfInBounds i true) (a.put d v) w) : AnyJ P md ops Q S last (fuel + 1) listed a w := by
  unfold takeOkT at hk
  simp only [Bool.and_eq_true, Bool.not_eq_true'] at hk
  obtain ⟨⟨⟨⟨⟨h1, h6⟩, h2⟩, h3⟩, h4⟩, h5⟩ := hk
  subst hd
  exact anyJ_firstT h1 hi (by simpa using h2) (Region.noSelect_spec h3) hQ fuel listed a w (closedB_spec h6) (Region.free_spec hi h4) (by simpa using h5) (.inl ⟨hwt, hy⟩) hS h
end

end Go.Proofs.YthdicdkgfmiepaaGreatDoor

/- Any order of a region's operations, with a condition on memory that holds till the last operation, which waits for all others, has come up. -/
import Derived.Test.YthdicdkgfmiepaaGreatDoorProg
import Derived.OrdersHeld
import Derived.RegionTactic
import Derived.Maps.AppendAt
import Derived.Laws.Tables
import Derived.Laws.Rows
import Derived.Lib.Hide
import Derived.Deep.MidRow
import Derived.Great.BuildSlice
namespace Go.Proofs.YthdicdkgfmiepaaGreatDoor
open Go.RowKit

section
variable {P : Program} {ops : Array Oper} {Q : Exit → Act → World → Prop} {md : Region.Mode} {S : World → Prop} {last : Nat}

/-- whichever order is picked: S holds behind each operation but the last one -/
def AnyJ (P : Program) (md : Region.Mode) (ops : Array Oper) (Q : Exit → Act → World → Prop) (S : World → Prop) (last : Nat) : Nat → Array Bool → Act → World → Prop
  | 0, listed, a, w => Region.ready md ops listed = [] ∧ Q .normal a w
  | fuel + 1, listed, a, w =>
    (Region.ready md ops listed = [] → Q .normal a w) ∧
    ∀ i ∈ Region.ready md ops listed, wpOp P ops Q i (fun a' w' => (i ≠ last → S w') ∧ AnyJ P md ops Q S last fuel (listed.setIfInBounds i true) a' w') a w

theorem anyJ_any : ∀ (fuel : Nat) (listed : Array Bool) (a : Act) (w : World), AnyJ P md ops Q S last fuel listed a w → wpAny P md ops Q fuel listed a w
  | 0, _, _, _, h => h
  | fuel + 1, _, _, _, h => ⟨h.1, fun i hi => wpOp_mono (fun a' w' h' => anyJ_any fuel _ a' w' h'.2) (h.2 i hi)⟩

/-- the last operation waits for all others -/
def Waits (md : Region.Mode) (ops : Array Oper) (last : Nat) : Bool := (List.range ops.size).all fun i => i == last || (match ops[last]? with | some o => o.after.any fun e => Region.binds md e && e.on == i | none => false)

theorem waits_spec (h : Waits md ops last = true) {i : Nat} (hi : i < ops.size) (hne : i ≠ last) : ∃ o, ops[last]? = some o ∧ ∃ e ∈ o.after, Region.binds md e = true ∧ e.on = i := by
  unfold Waits at h
  have h1 := List.all_eq_true.1 h i (by simpa using hi)
  rw [Bool.or_eq_true] at h1
  rcases h1 with h1 | h1
  · exact absurd (by simpa using h1) hne
  · cases ho : ops[last]? with
    | none => rw [ho] at h1; cases h1
    | some o =>
      rw [ho] at h1
      obtain ⟨j, hj, h2⟩ := Array.any_eq_true.1 h1
      rw [Bool.and_eq_true] at h2
      exact ⟨o, rfl, o.after[j], Array.getElem_mem hj, h2.1, by simpa using h2.2⟩

theorem anyJ_first (hw : Waits md ops last = true) {i : Nat} {oi : Oper} {v : Value} (hi : ops[i]? = some oi) (hne : i ≠ last) (hsel : ∀ (j : Nat) (o : Oper) cs b, ops[j]? = some o → o.op ≠ .select cs b)
    (hQ : ∀ c a w, Q (.panic c) (a.put oi.dst v) w → Q (.panic c) a w) :
    ∀ (fuel : Nat) (listed : Array Bool) (a : Act) (w : World),
      (∀ j oj, ops[j]? = some oj → j ≠ i → listed.getD j true = false → (∀ e ∈ oj.after, Region.binds md e = true → e.on ≠ i) → oi.apart ops oj = true) →
      i ∈ Region.ready md ops listed → YieldsIf P ops S oi v a → S w →
      AnyJ P md ops Q S last fuel (listed.setIfInBounds i true) (a.put oi.dst v) w → AnyJ P md ops Q S last (fuel + 1) listed a w := by
  intro fuel
  have hil : i < ops.size := (Array.getElem?_eq_some_iff.1 hi).1
  -- who is ready while i is not listed does not wait for i; so it is not the last one
  have hno : ∀ (listed : Array Bool) (j : Nat), i ∈ Region.ready md ops listed → j ∈ Region.ready md ops listed → j ≠ i → (∀ oj, ops[j]? = some oj → ∀ e ∈ oj.after, Region.binds md e = true → e.on ≠ i) ∧ j ≠ last := by
    intro listed j hri hrj hji
    obtain ⟨_, oj, hoj, hall⟩ := mem_ready.1 hrj
    have h0 := (mem_ready.1 hri).1
    have key : ∀ e ∈ oj.after, Region.binds md e = true → e.on ≠ i := fun e he hb heq => by
      have h1 := hall e he hb
      rw [heq] at h1
      rcases Nat.lt_or_ge i listed.size with h' | h'
      · simp [h'] at h0 h1; rw [h0] at h1; cases h1
      · simp [Array.getElem?_eq_none h'] at h1
    refine ⟨fun o ho => ?_, fun hjl => ?_⟩
    · rw [hoj] at ho
      injection ho with ho
      subst ho
      exact key
    · subst hjl
      obtain ⟨o, ho, e, he, hb, hon⟩ := waits_spec hw hil hne
      rw [hoj] at ho
      injection ho with ho
      subst ho
      exact key e he hb hon
  induction fuel with
  | zero =>
    intro listed a w _ hr hy hS H
    refine ⟨fun h => (by rw [h] at hr; cases hr), fun j hj => ?_⟩
    by_cases hji : j = i
    · subst hji; exact hy.wpOp hi hS ⟨fun _ => hS, H⟩
    · have := ready_mono hj hji
      rw [H.1] at this
      cases this
  | succ fuel ih =>
    intro listed a w hfree hr hy hS H
    refine ⟨fun h => (by rw [h] at hr; cases hr), fun j hj => ?_⟩
    by_cases hji : j = i
    · subst hji; exact hy.wpOp hi hS ⟨fun _ => hS, H⟩
    · have h1 := H.2 j (ready_mono hj hji)
      obtain ⟨hjun, oj, hoj, _⟩ := mem_ready.1 hj
      obtain ⟨hnot, hjl⟩ := hno listed j hr hj hji
      have h2 := wpOp_putIf hoj (hfree j oj hoj hji hjun (hnot oj hoj)) (fun cs b => hsel i oi cs b hi) (fun cs b => hsel j oj cs b hoj) hQ hy h1
      have hfree' : ∀ k ok, ops[k]? = some ok → k ≠ i → (listed.setIfInBounds j true).getD k true = false →
          (∀ e ∈ ok.after, Region.binds md e = true → e.on ≠ i) → oi.apart ops ok = true := fun k ok hk hki hun hn => by
        refine hfree k ok hk hki ?_ hn
        by_cases hjk : j = k
        · subst hjk; exact hjun
        · rw [getD_set_ne true hjk] at hun; exact hun
      refine wpOp_mono (fun a' w' h3 => ⟨h3.2.1, ih (listed.setIfInBounds j true) a' w' hfree' (ready_mono hr (Ne.symm hji)) h3.1 (h3.2.1 hjl) ?_⟩) h2
      rw [Array.setIfInBounds_comm _ _ hji]
      exact h3.2.2

/-- the beginning -/
theorem anyJ_begin {id : Nat} {a : Act} {w : World} (last : Nat) (S : World → Prop) (hm : P.follows .mixedOrders = true) (hS : S w.drew)
    (h : S w.drew → AnyJ P .any ops Q S last ops.size (Array.replicate ops.size false) a w.drew) : (Code.region id ops true).wp P Q a w :=
  wp_region_any hm (anyJ_any _ _ _ _ (h hS))

/-- number i is taken first -/
theorem anyJ_take {i : Nat} {oi : Oper} {d : Option Tmp} {v : Value} {fuel : Nat} {listed : Array Bool} {a : Act} {w : World} (hi : ops[i]? = some oi) (hd : oi.dst = d) (hw : Waits md ops last = true) (hne : (i == last) = false)
    (hs : Region.noSelect ops = true) (hf : Region.free md ops listed i = true) (hr : (Region.ready md ops listed).contains i = true)
    (hQ : ∀ c a w, Q (.panic c) (a.put d v) w → Q (.panic c) a w) (hwt : Region.wanted oi (yielded ops a.tmps) = true) (hy : ∀ w, S w → (execOp a.eval oi).run P w = .ok (.value v) w) (hS : S w)
    (h : AnyJ P md ops Q S last fuel (listed.setIfInBounds i true) (a.put d v) w) : AnyJ P md ops Q S last (fuel + 1) listed a w := by
  subst hd
  exact anyJ_first hw hi (by simpa using hne) (Region.noSelect_spec hs) hQ fuel listed a w (Region.free_spec hi hf) (by simpa using hr) (.inl ⟨hwt, hy⟩) hS h

/-- a way that only one operation may come up -/
theorem anyJ_only {i : Nat} {o : Oper} {d : Option Tmp} {fuel : Nat} {listed : Array Bool} {a : Act} {w : World} (hr : Region.ready md ops listed = [i]) (ho : ops[i]? = some o) (hd : o.dst = d) (hwt : Region.wanted o (yielded ops a.tmps) = true)
    (h : ∀ K' : Act → World → Prop, Hid (∀ v w, (i ≠ last → S w) → ((i ≠ last → S w) → AnyJ P md ops Q S last fuel (listed.setIfInBounds i true) (a.put d v) w) → K' (a.put o.dst v) w) → Oper.wp P o a w K' Q) : AnyJ P md ops Q S last (fuel + 1) listed a w := by
  subst hd
  refine ⟨fun h0 => absurd (hr ▸ h0) (by simp), fun j hj => ?_⟩
  rw [hr] at hj
  obtain rfl : j = i := by simpa using hj
  exact wpOp_step ho (fun K' hK => by rw [if_pos hwt]; exact h K' (Lib.hid (fun v w hS hW => hK _ w ⟨hS, hW hS⟩)))

/-- two operations may come up -/
theorem anyJ_two {i j : Nat} {o p : Oper} {d d2 : Option Tmp} {fuel : Nat} {listed : Array Bool} {a : Act} {w : World} (hr : Region.ready md ops listed = [i, j]) (ho : ops[i]? = some o) (hp : ops[j]? = some p) (hd : o.dst = d) (hd2 : p.dst = d2)
    (hwt : Region.wanted o (yielded ops a.tmps) = true) (hwt2 : Region.wanted p (yielded ops a.tmps) = true)
    (h : ∀ K' : Act → World → Prop, Hid (∀ v w, (i ≠ last → S w) → ((i ≠ last → S w) → AnyJ P md ops Q S last fuel (listed.setIfInBounds i true) (a.put d v) w) → K' (a.put o.dst v) w) → Oper.wp P o a w K' Q)
    (h2 : ∀ K' : Act → World → Prop, Hid (∀ v w, (j ≠ last → S w) → ((j ≠ last → S w) → AnyJ P md ops Q S last fuel (listed.setIfInBounds j true) (a.put d2 v) w) → K' (a.put p.dst v) w) → Oper.wp P p a w K' Q) : AnyJ P md ops Q S last (fuel + 1) listed a w := by
  subst hd hd2
  refine ⟨fun h0 => absurd (hr ▸ h0) (by simp), fun k hk => ?_⟩
  rw [hr] at hk
  have hk : k = i ∨ k = j := by simpa using hk
  rcases hk with rfl | rfl
  · exact wpOp_step ho (fun K' hK => by rw [if_pos hwt]; exact h K' (Lib.hid (fun v w hS hW => hK _ w ⟨hS, hW hS⟩)))
  · exact wpOp_step hp (fun K' hK => by rw [if_pos hwt2]; exact h2 K' (Lib.hid (fun v w hS hW => hK _ w ⟨hS, hW hS⟩)))

theorem anyJ_done {listed : Array Bool} {a : Act} {w : World} (hr : Region.ready md ops listed = []) (h : Q .normal a w) : ∀ fuel, AnyJ P md ops Q S last fuel listed a w
  | 0 => ⟨hr, h⟩
  | _ + 1 => ⟨fun _ => h, by rw [hr]; simp⟩
end

/-- all that a taking asks, in one -/
def takeOk (md : Region.Mode) (ops : Array Oper) (listed : Array Bool) (last i : Nat) : Bool := Waits md ops last && !(i == last) && Region.noSelect ops && Region.free md ops listed i && (Region.ready md ops listed).contains i

section
variable {P : Program} {ops : Array Oper} {Q : Exit → Act → World → Prop} {md : Region.Mode} {S : World → Prop} {last : Nat}

theorem take {i : Nat} {oi : Oper} {d : Option Tmp} {v : Value} {fuel : Nat} {listed : Array Bool} {a : Act} {w : World} (hk : takeOk md ops listed last i = true) (hi : ops[i]? = some oi) (hd : oi.dst = d) (hwt : Region.wanted oi (yielded ops a.tmps) = true)
    (hQ : ∀ c a w, Q (.panic c) (a.put d v) w → Q (.panic c) a w) (hS : S w) (hy : ∀ w, S w → (execOp a.eval oi).run P w = .ok (.value v) w)
    (h : AnyJ P md ops Q S last fuel (listed.setIfInBounds i true) (a.put d v) w) : AnyJ P md ops Q S last (fuel + 1) listed a w := by
  unfold takeOk at hk
  simp only [Bool.and_eq_true, Bool.not_eq_true'] at hk
  obtain ⟨⟨⟨⟨h1, h2⟩, h3⟩, h4⟩, h5⟩ := hk
  exact anyJ_take hi hd h1 h2 h3 h4 h5 hQ hwt hy hS h

theorem wp_go_call {o : Oper} {a : Act} {w : World} {K : Act → World → Prop} (f : FuncId) (xs : Array Operand) (ts : Array TypeId) (ho : o.op = .call { callee := .value (.func f), args := xs, argTypes := ts }) (vs : Array Value) (hv : xs.toList.map a.eval = vs.toList) (hf : ∀ w, (callFunc f vs).run P w = .ok (.enter f vs) w) {Post : Ending → World → Prop}
    (hc : Calls P f vs w Post) (h : ∀ e w', Post e w' → ∃ v, e = .returned v ∧ K (a.put o.dst v) w') : o.wp P a w K Q := by
  have hv2 : xs.map a.eval = vs := by rw [← Array.toList_inj, Array.toList_map]; exact hv
  subst hv2
  unfold Oper.wp execOp
  simp only [ho, resolve, invoke, Act.eval, Sem.run_bind]
  have e1 : (Deferred.ofValue (Value.func (Fn.func f) #[] #[]) (xs.map a.eval)).run P w = .ok { target := .fn (.func f) #[], args := xs.map a.eval } w := by
    simp [Deferred.ofValue]
  rw [e1]
  simp only [Result.andThen_ok, Array.append_empty]
  rw [hf]
  simp only [Oper.upon]
  refine hc.mono fun e w' he => ?_
  obtain ⟨v, rfl, hv⟩ := h e w' he
  exact hv

theorem wp_val {o : Oper} {a : Act} {w w' : World} {K : Act → World → Prop} {v : Value} (hr : (execOp a.eval o).run P w = .ok (.value v) w') (h : K (a.put o.dst v) w') : o.wp P a w K Q := by
  unfold Oper.wp
  rw [hr]
  exact h

theorem wp_skip {o : Oper} {a : Act} {w w' : World} {K : Act → World → Prop} (hr : (execOp a.eval o).run P w = .ok .skip w') (h : K (a.put o.dst undef) w') : o.wp P a w K Q := by
  unfold Oper.wp
  rw [hr]
  exact h
theorem exec_load_row {o : Oper} {a : Act} {w : World} {ty : TypeId} {x : Operand} (ho : o.op = .load ty x) {g : Nat} (hx : a.eval x = .pointer (some ⟨g, 0, none⟩)) {t : TypeId} {cs : Array Value} {fr : Nat × Nat} {d : TypeDesc} (hg : w.heap[g]? = some (.cells cs t fr))
    (hu : P.underlying ty = some d) (hd : (match d with | .struct _ | .array _ _ => true | _ => false) = true) (hi : (P.info? ty).map (·.size) = some cs.size) : (execOp a.eval o).run P w = .ok (.value (.agg cs)) w := by
  unfold execOp
  simp only [ho, hx, Instr.loadAt, Instr.sureAddr, Sem.run_bind, Sem.run_pure, Result.andThen_ok]
  rw [run_loadVar_row w g t ty cs fr d hg hu hd hi]
  rfl

theorem exec_load_mid {o : Oper} {a : Act} {w : World} {ty : TypeId} {x : Operand} (ho : o.op = .load ty x) {b off : Nat} (hx : a.eval x = .pointer (some ⟨b, off, none⟩)) {cs : List Value} {d : TypeDesc} (hg : w.rangeAt b off cs)
    (hu : P.underlying ty = some d) (hd : d.isRow = true) (hi : (P.info? ty).map (·.size) = some cs.length) : (execOp a.eval o).run P w = .ok (.value (.agg cs.toArray)) w := by
  unfold execOp
  simp only [ho, hx, Instr.loadAt, Instr.sureAddr, Sem.run_bind, Sem.run_pure, Result.andThen_ok, run_loadVar_mid w b off ty cs d hg hu hd hi]
end

end Go.Proofs.YthdicdkgfmiepaaGreatDoor

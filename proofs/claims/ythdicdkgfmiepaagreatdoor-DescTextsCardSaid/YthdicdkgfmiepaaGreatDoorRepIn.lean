/- What comes in reads as data: a reading of the form is a datum in memory. -/
import Derived.Test.YthdicdkgfmiepaaGreatDoorRep
import Derived.ProofKit
namespace Go.Proofs.YthdicdkgfmiepaaGreatDoor
open Go.RowKit Go.ChangeShapes Go.WideShapes

mutual
/-- a datum is of a type -/
def HasTy (P : Program) : D → TypeId → Prop
  | .int k n, t => P.underlying t = some (.int k) ∧ (Lit.int k n).wf = true
  | .bool _, t => P.underlying t = some .bool
  | .str s, t => P.underlying t = some .string ∧ s.length ≤ reachBytes
  | .st ds, t => ∃ fs : Array Field, P.underlying t = some (.struct fs) ∧ HasTys P ds (fs.toList.map (·.type))
  | .lst z ds, t => ∃ e, P.underlying t = some (.slice e) ∧ z = P.cellsOf e ∧ ds.length * P.bytesOf e ≤ reachBytes ∧ AllTy P ds e
def HasTys (P : Program) : List D → List TypeId → Prop
  | [], ts => ts = []
  | d :: ds, ts => ∃ t r, ts = t :: r ∧ HasTy P d t ∧ HasTys P ds r
def AllTy (P : Program) : List D → TypeId → Prop
  | [], _ => True
  | d :: ds, e => HasTy P d e ∧ AllTy P ds e
end

/-- fields that lie one behind the other, from a place on, up to a size -/
def inLine (P : Program) : List Field → Nat → Nat → Bool
  | [], at_, size => at_ == size
  | f :: fs, at_, size => f.offset == at_ && inLine P fs (at_ + P.cellsOf f.type) size

/-- types that the reading below can go through: numbers, truth values, texts, structs and slices of these -/
def plainTy (P : Program) (S : List TypeId) (t : TypeId) : Bool :=
  match P.underlying t with
  | some (.int _) => P.cellsOf t == 1
  | some .bool => P.cellsOf t == 1
  | some .string => P.cellsOf t == 1
  | some (.struct fs) => inLine P fs.toList 0 (P.cellsOf t) && fs.toList.all (fun f => S.contains f.type)
  | some (.slice e) => P.cellsOf t == 1 && S.contains e && decide (0 < P.cellsOf e)
  | _ => false

theorem RepRow.of {w : World} {ok : Nat → Prop} {z : Nat} : ∀ (ds : List D) (cs : List Value), (∀ i (h : i < ds.length), ∃ a : List Value, a.length = z ∧ Rep w ok ds[i] a ∧ ∀ j, j < z → cs[i * z + j]? = a[j]?) → RepRow w ok z ds cs
  | [], _, _ => by unfold RepRow; exact trivial
  | d :: ds, cs, h => by
    unfold RepRow
    obtain ⟨a, h1, h2, h3⟩ := h 0 (by simp)
    have e : cs.take z = a := by
      apply List.ext_getElem?
      intro j
      rw [List.getElem?_take]
      by_cases hj : j < z
      · rw [if_pos hj]
        have := h3 j hj
        simpa using this
      · rw [if_neg hj, List.getElem?_eq_none (by omega)]
    refine ⟨a, cs.drop z, by rw [← e, List.take_append_drop], h1, h2, RepRow.of ds _ fun i hi => ?_⟩
    obtain ⟨a', h4, h5, h6⟩ := h (i + 1) (by simpa using hi)
    refine ⟨a', h4, by simpa using h5, fun j hj => ?_⟩
    rw [List.getElem?_drop, ← h6 j hj]
    congr 1
    rw [Nat.add_mul]; omega

theorem exists_list {Q : Nat → D → Prop} : ∀ n : Nat, (∀ i, i < n → ∃ d, Q i d) → ∃ ds : List D, ds.length = n ∧ ∀ i (h : i < ds.length), Q i ds[i]
  | 0, _ => ⟨[], rfl, fun i h => absurd h (by simp)⟩
  | n + 1, h => by
    obtain ⟨ds, h1, h2⟩ := exists_list n fun i hi => h i (by omega)
    obtain ⟨d, hd⟩ := h n (by omega)
    refine ⟨ds ++ [d], by simp [h1], fun i hi => ?_⟩
    by_cases hin : i < ds.length
    · rw [List.getElem_append_left hin]; exact h2 i hin
    · have : i = n := by simp at hi; omega
      subst this
      rw [List.getElem_append_right (by omega)]
      simpa [h1] using hd

theorem allTy_of {P : Program} {e : TypeId} : ∀ ds : List D, (∀ i (h : i < ds.length), HasTy P ds[i] e) → AllTy P ds e
  | [], _ => by unfold AllTy; trivial
  | d :: ds, h => by
    unfold AllTy
    exact ⟨h 0 (by simp), allTy_of ds fun i hi => by have := h (i + 1) (by simpa using hi); simpa using this⟩

theorem add_of_add' (a : Addr) (i j : Nat) : (a.add i).add j = a.add (i + j) := by
  unfold Addr.add
  by_cases hi : i = 0 <;> by_cases hj : j = 0 <;> simp [hi, hj, Nat.add_assoc]

section
variable {H : Type} {enc : TypeId × Value → H} {P : Program} {w : World} {base : Nat} {spare : Nat → Bool} {held : Bool}

/-- no text, no slice that is longer than memory bears -/
def Light (P : Program) (t : TypeId) (x : DataW H) : Prop := ∀ n ∈ x.weights P t, n ≤ reachBytes

theorem light_all {e : TypeId} : ∀ (l : List (DataW H)), (∀ n ∈ DataW.weightsAll P e l, n ≤ reachBytes) → ∀ d ∈ l, Light P e d
  | d :: r, h, d', hd => by
    unfold DataW.weightsAll at h
    rcases List.mem_cons.1 hd with rfl | hd
    · exact fun n hn => h n (List.mem_append_left _ hn)
    · exact light_all r (fun n hn => h n (List.mem_append_right _ hn)) d' hd
theorem light_each : ∀ (ts : List TypeId) (l : List (DataW H)), (∀ n ∈ DataW.weightsEach P ts l, n ≤ reachBytes) → ∀ (i : Nat) t d, ts[i]? = some t → l[i]? = some d → Light P t d
  | [], _, _, i, t, d, ht, _ => by simp at ht
  | _ :: _, [], _, i, t, d, _, hd => by simp at hd
  | t0 :: ts, d0 :: r, h, 0, t, d, ht, hd => by
    unfold DataW.weightsEach at h
    simp only [List.getElem?_cons_zero, Option.some.injEq] at ht hd
    subst ht hd
    exact fun n hn => h n (List.mem_append_left _ hn)
  | t0 :: ts, d0 :: r, h, i + 1, t, d, ht, hd => by
    unfold DataW.weightsEach at h
    exact light_each ts r (fun n hn => h n (List.mem_append_right _ hn)) i t d (by simpa using ht) (by simpa using hd)

theorem rep_fields {S : List TypeId} {n : Nat} (ih : ∀ t cs x, S.contains t = true → Light P t x.1 → DataW.trod enc P w base spare held n t cs = some x → ∃ d, Rep w (fun _ => True) d cs ∧ HasTy P d t ∧ cs.length = P.cellsOf t) :
    ∀ (fs : List Field) (at_ size : Nat) (cs : List Value), inLine P fs at_ size = true → cs.length = size → at_ ≤ size → fs.all (fun f => S.contains f.type) = true →
      (∀ (f : Field), f ∈ fs → ∃ y, Light P f.type y.1 ∧ DataW.trod enc P w base spare held n f.type ((cs.drop f.offset).take (P.cellsOf f.type)) = some y) →
      ∃ ds, RepAll w (fun _ => True) ds (cs.drop at_) ∧ HasTys P ds (fs.map (·.type))
  | [], at_, size, cs, hl, hs, _, _, _ => by
    unfold inLine at hl
    have : at_ = size := by simpa using hl
    refine ⟨[], ?_, ?_⟩
    · unfold RepAll
      rw [this, ← hs, List.drop_length]
    · unfold HasTys; rfl
  | f :: fs, at_, size, cs, hl, hs, hat, ha, hf => by
    unfold inLine at hl
    simp only [Bool.and_eq_true, beq_iff_eq] at hl
    simp only [List.all_cons, Bool.and_eq_true] at ha
    obtain ⟨y, hly, hy⟩ := hf f (by simp)
    obtain ⟨d, h1, h2, h3⟩ := ih _ _ _ ha.1 hly hy
    rw [hl.1] at h1 h3
    have h4 : P.cellsOf f.type ≤ size - at_ := by
      rw [List.length_take, List.length_drop] at h3
      omega
    obtain ⟨ds, h5, h6⟩ := rep_fields ih fs (at_ + P.cellsOf f.type) size cs hl.2 hs (by omega) ha.2 (fun g hg => hf g (by simp [hg]))
    refine ⟨d :: ds, ?_, ?_⟩
    · unfold RepAll
      refine ⟨_, _, ?_, h1, h5⟩
      rw [← List.drop_drop, List.take_append_drop]
    · unfold HasTys
      exact ⟨_, _, rfl, h2, h6⟩

theorem rep_of_trod {S : List TypeId} (hS : S.all (plainTy P S) = true) : ∀ (fuel : Nat) (t : TypeId) (cs : List Value) (x : DataW H × List MemPlace),
    S.contains t = true → Light P t x.1 → DataW.trod enc P w base spare held fuel t cs = some x → ∃ d, Rep w (fun _ => True) d cs ∧ HasTy P d t ∧ cs.length = P.cellsOf t
  | 0, t, cs, x, _, _, h => by simp [DataW.trod] at h
  | n + 1, t, cs, x, ht, hw, h => by
    have hp : plainTy P S t = true := List.all_eq_true.1 hS t (by simpa using ht)
    unfold plainTy at hp
    split at hp
    · rename_i k hu
      obtain ⟨m, rfl, _, hw⟩ := DataW.trod_int hu h
      exact ⟨.int k m, by unfold Rep; rfl, by unfold HasTy; exact ⟨hu, hw⟩, by simpa using (beq_iff_eq.1 hp).symm⟩
    · rename_i hu
      obtain ⟨b, rfl, _⟩ := DataW.trod_bool hu h
      exact ⟨.bool b, by unfold Rep; rfl, by unfold HasTy; exact hu, by simpa using (beq_iff_eq.1 hp).symm⟩
    · rename_i hu
      obtain ⟨s, rfl, rfl, hs⟩ := DataW.trod_string hu h
      exact ⟨.str s.data.toList, by unfold Rep; rfl, by unfold HasTy; exact ⟨hu, hw _ (by simp [DataW.weights])⟩, by simpa using (beq_iff_eq.1 hp).symm⟩
    · rename_i fs hu
      simp only [Bool.and_eq_true] at hp
      obtain ⟨xs, m, hm, rfl, hlen, hxl, hf⟩ := DataW.trod_struct hu h
      have hm : n = m := by omega
      subst hm
      have hw2 : ∀ n ∈ DataW.weightsEach P (fs.toList.map (·.type)) (xs.map (·.1)), n ≤ reachBytes := fun k hk => hw k (by simp only [DataW.weights, hu]; exact hk)
      obtain ⟨ds, h1, h2⟩ := rep_fields (fun t cs x ht hl h => rep_of_trod hS n t cs x ht hl h) fs.toList 0 (P.cellsOf t) cs hp.1 hlen (Nat.zero_le _) hp.2 (fun f hfm => by
        obtain ⟨i, hi, hfi⟩ := List.getElem_of_mem hfm
        have hi' : i < fs.size := by simpa using hi
        have e : fs[i]? = some f := by rw [Array.getElem?_eq_getElem hi']; simpa using hfi
        have hx : i < xs.length := by omega
        exact ⟨xs[i], light_each _ _ hw2 i f.type xs[i].1 (by rw [List.getElem?_map, Array.getElem?_toList, e]; rfl) (by rw [List.getElem?_map, List.getElem?_eq_getElem hx]; rfl), by rw [hf i f e, List.getElem?_eq_getElem hx]⟩)
      exact ⟨.st ds, by unfold Rep; simpa using h1, by unfold HasTy; exact ⟨fs, hu, h2⟩, hlen⟩
    · rename_i e hu
      simp only [Bool.and_eq_true, beq_iff_eq, decide_eq_true_eq] at hp
      obtain ⟨⟨hc1, he⟩, hz⟩ := hp
      rcases DataW.trod_slice hu h with ⟨rfl, _⟩ | ⟨a, len, cap, elems, rest, m, hm, rfl, rfl, _, hlc, hcm, hel, hrow, _, _⟩
      · exact ⟨.lst (P.cellsOf e) [], by unfold Rep; exact ⟨none, 0, rfl, by simp, by simp, fun h => absurd h (by simp)⟩, by unfold HasTy; exact ⟨e, hu, rfl, by simp, by unfold AllTy; trivial⟩, by simpa using hc1.symm⟩
      · have hm : n = m := by omega
        subst hm
        have hw1 : (elems.length + rest.length) * P.bytesOf e ≤ reachBytes := hw _ (by simp [DataW.weights, hu])
        have hw2 : ∀ n ∈ DataW.weightsAll P e (elems.map (·.1)), n ≤ reachBytes := fun k hk => hw k (by simp only [DataW.weights, hu]; exact List.mem_cons_of_mem _ (List.mem_append_left _ hk))
        obtain ⟨ds, hdl, hds⟩ := exists_list (Q := fun i d => HasTy P d e ∧ ∃ ai : List Value, ai.length = P.cellsOf e ∧ Rep w (fun _ => True) d ai ∧ ∀ j, j < P.cellsOf e → w.cell? (a.add (i * P.cellsOf e + j)) = ai[j]?) len (fun i hi => by
          have h1 := hrow i hi
          rw [List.getElem?_eq_getElem (by omega : i < elems.length)] at h1
          obtain ⟨ci, h2, h3⟩ := Option.bind_eq_some_iff.1 h1
          obtain ⟨_, h4, h5⟩ := World.cells?_some h2
          obtain ⟨d, h6, h7, _⟩ := rep_of_trod hS n e ci _ he (light_all _ hw2 _ (List.mem_map_of_mem (List.getElem_mem _))) h3
          exact ⟨d, h7, ci, h4, h6, fun j hj => by rw [← add_of_add']; exact h5 j hj⟩)
        refine ⟨.lst (P.cellsOf e) ds, ?_, ?_, by simpa using hc1.symm⟩
        · unfold Rep
          refine ⟨some a, cap, by rw [hdl], by omega, by omega, fun hn => ?_⟩
          obtain ⟨_, a0, hl0, _, hc0⟩ := hds 0 hn
          have h0 := hc0 0 hz
          rw [Nat.zero_mul, Nat.zero_add, show a.add 0 = a by simp [Addr.add], List.getElem?_eq_getElem (by omega)] at h0
          obtain ⟨b, off, spot⟩ := a
          have hsp : spot = none := World.cell?_spot h0
          subst hsp
          unfold World.cell? at h0
          split at h0
          · rename_i cur te fr hh
            refine ⟨b, off, cur, te, fr, rfl, trivial, hh, RepRow.of ds _ fun i hi => ?_⟩
            obtain ⟨_, ai, h1, h2, h3⟩ := hds i hi
            refine ⟨ai, h1, h2, fun j hj => ?_⟩
            rw [← h3 j hj, List.getElem?_drop]
            have e1 : (⟨b, off, none⟩ : Addr).add (i * P.cellsOf e + j) = ⟨b, off + (i * P.cellsOf e + j), none⟩ := by
              unfold Addr.add
              split
              · rename_i h; rw [h]; simp
              · rfl
            rw [e1, cell_of_row w b _ cur te fr hh]
            simp
          · cases h0
        · unfold HasTy
          exact ⟨e, hu, rfl, by rw [hdl, ← hel]; exact Nat.le_trans (Nat.mul_le_mul_right _ (Nat.le_add_right _ _)) hw1, allTy_of ds fun i hi => (hds i hi).1⟩
    · cases hp
end

end Go.Proofs.YthdicdkgfmiepaaGreatDoor

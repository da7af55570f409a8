/- Regions that draw: whatever order; equal answers; what is laid into memory late. Regions that draw: what the row's states hold. Regions that draw: what holds while they come up. Regions that draw: each operation keeps the invariant. Regions that draw: one that may do anything. Regions that draw: sound. -/
import Derived.Test.YtfmlgiafkbakcaaGreatDoorVe
namespace Go.Proofs.YtfmlgiafkbakcaaGreatDoor.Ev

theorem filter_less {p q : Nat → Bool} (hqp : ∀ x, q x = true → p x = true) {i : Nat} (hp : p i = true) (hq : q i = false) : ∀ {l : List Nat}, i ∈ l → (l.filter q).length < (l.filter p).length := by
  have hle : ∀ l : List Nat, (l.filter q).length ≤ (l.filter p).length := by
    intro l
    induction l with
    | nil => exact Nat.le_refl _
    | cons x l ih =>
      cases hx : q x with
      | true => simp only [List.filter_cons, hx, hqp x hx, if_true, List.length_cons]; omega
      | false =>
        cases hy : p x with
        | true => simp only [List.filter_cons, hx, hy, if_true, Bool.false_eq_true, if_false, List.length_cons]; omega
        | false => simpa only [List.filter_cons, hx, hy, Bool.false_eq_true, if_false] using ih
  intro l
  induction l with
  | nil => intro h; cases h
  | cons x l ih =>
    intro h
    rcases List.mem_cons.1 h with rfl | h
    · simp only [List.filter_cons, hp, hq, if_true, Bool.false_eq_true, if_false, List.length_cons]
      have := hle l
      omega
    · have := ih h
      cases hx : q x with
      | true => simp only [List.filter_cons, hx, hqp x hx, if_true, List.length_cons]; omega
      | false =>
        cases hy : p x with
        | true => simp only [List.filter_cons, hx, hy, if_true, Bool.false_eq_true, if_false, List.length_cons]; omega
        | false => simpa only [List.filter_cons, hx, hy, Bool.false_eq_true, if_false] using this

section
variable {P : Program} {ops : Array Oper} {Q : Exit → Act → World → Prop}

theorem ready_spec {listed : Array Bool} {i : Nat} (h : i ∈ Region.ready .any ops listed) : i < ops.size ∧ listed.getD i true = false ∧ ∃ o, ops.toList[i]? = some o ∧ ∀ e ∈ edges o, listed.getD e false = true := by
  unfold Region.ready at h
  obtain ⟨h1, h2⟩ := List.mem_filter.1 h
  have hi := List.mem_range.1 h1
  simp only [Bool.and_eq_true, Bool.not_eq_true'] at h2
  refine ⟨hi, h2.1, ?_⟩
  have ho : ops[i]? = some ops[i] := Array.getElem?_eq_getElem hi
  refine ⟨ops[i], by rw [Array.getElem?_toList]; exact ho, fun e he => ?_⟩
  have h3 := h2.2
  rw [ho] at h3
  simp only [Option.map_some, Option.getD_some] at h3
  unfold edges at he
  obtain ⟨x, hx, rfl⟩ := List.mem_map.1 he
  obtain ⟨hx1, hx2⟩ := List.mem_filter.1 hx
  have := Array.all_eq_true_iff_forall_mem.1 h3 x (by simpa using hx1)
  simpa [hx2] using this

/-- an invariant that each operation keeps, in whatever order they come up -/
theorem any_inv {Inv : Array Bool → Act → World → Prop} (hsz : ∀ listed a w, Inv listed a w → listed.size = ops.size)
    (hdone : ∀ listed a w, Inv listed a w → Region.ready .any ops listed = [] → Q .normal a w)
    (hstep : ∀ listed a w i, Inv listed a w → i ∈ Region.ready .any ops listed → wpOp P ops Q i (fun a' w' => Inv (listed.setIfInBounds i true) a' w') a w) :
    ∀ (fuel : Nat) (listed : Array Bool) (a : Act) (w : World), Inv listed a w → ((List.range ops.size).filter fun i => !listed.getD i true).length ≤ fuel → wpAny P .any ops Q fuel listed a w
  | 0, listed, a, w, hI, hf => by
    have h0 : Region.ready .any ops listed = [] := by
      have h1 : ((List.range ops.size).filter fun i => !listed.getD i true) = [] := List.eq_nil_of_length_eq_zero (by omega)
      refine List.eq_nil_iff_forall_not_mem.2 fun i hi => ?_
      obtain ⟨h2, h3, _⟩ := ready_spec hi
      have h4 : i ∈ ((List.range ops.size).filter fun i => !listed.getD i true) := List.mem_filter.2 ⟨List.mem_range.2 h2, by simp only [h3]; rfl⟩
      rw [h1] at h4
      cases h4
    exact ⟨h0, hdone _ _ _ hI h0⟩
  | fuel + 1, listed, a, w, hI, hf => by
    refine ⟨hdone _ _ _ hI, fun i hi => wpOp_mono (fun a' w' hI' => any_inv hsz hdone hstep fuel _ a' w' hI' ?_) (hstep _ _ _ i hI hi)⟩
    obtain ⟨h2, h3, _⟩ := ready_spec hi
    have hs := hsz _ _ _ hI
    have := filter_less (p := fun i => !listed.getD i true) (q := fun j => !(listed.setIfInBounds i true).getD j true) (i := i) (fun x hx => by
      by_cases hxi : x = i
      · subst hxi
        simp only [h3]
        rfl
      · simp only [Array.getD_eq_getD_getElem?, Array.getElem?_setIfInBounds_ne (Ne.symm hxi)] at hx ⊢
        exact hx) (by simp only [h3]; rfl) (by simp [hs, h2]) (List.mem_range.2 h2)
    omega

end

/-! ### equal answers -/

theorem eqB_eq {a b : Bool} (h : (match a, b with | true, b => b | false, b => not b) = true) : a = b := by cases a <;> cases b <;> simp_all

theorem eqAV_eq : ∀ (u v : AV), eqAV u v = true → u = v := by
  intro u
  induction u with
  | int k n =>
    intro v h
    cases v <;> simp only [eqAV, Bool.and_eq_true, Bool.false_eq_true] at h
    have h1 := kindN_inj h.1
    have h2 := h.2
    rw [eqI_eq, beq_iff_eq] at h2
    subst h1 h2
    rfl
  | bool a => intro v h; cases v <;> simp only [eqAV, Bool.false_eq_true] at h; rename_i b; cases a <;> cases b <;> simp_all
  | str l a => intro v h; cases v <;> simp only [eqAV, Bool.and_eq_true, Nat.beq_eq, Bool.false_eq_true] at h; rw [h.1, h.2]
  | nilp => intro v h; cases v <;> first | rfl | (simp only [eqAV, Bool.false_eq_true] at h)
  | ptr i a => intro v h; cases v <;> simp only [eqAV, Bool.and_eq_true, Nat.beq_eq, Bool.false_eq_true] at h; rw [h.1, h.2]
  | nils => intro v h; cases v <;> first | rfl | (simp only [eqAV, Bool.false_eq_true] at h)
  | sl i a l z x =>
    intro v h
    cases v <;> simp only [eqAV, Bool.and_eq_true, Nat.beq_eq, Bool.false_eq_true] at h
    rename_i j b m y u
    obtain ⟨⟨⟨⟨h1, h2⟩, h3⟩, h4⟩, h5⟩ := h
    subst h1 h2 h3 h4
    cases x <;> cases u <;> simp_all
  | slen a => intro v h; cases v <;> simp only [eqAV, Nat.beq_eq, Bool.false_eq_true] at h; rw [h]
  | nilm => intro v h; cases v <;> first | rfl | (simp only [eqAV, Bool.false_eq_true] at h)
  | map a => intro v h; cases v <;> simp only [eqAV, Nat.beq_eq, Bool.false_eq_true] at h; rw [h]
  | nilf => intro v h; cases v <;> first | rfl | (simp only [eqAV, Bool.false_eq_true] at h)
  | nili => intro v h; cases v <;> first | rfl | (simp only [eqAV, Bool.false_eq_true] at h)
  | fn f a b iha ihb =>
    intro v h
    cases v <;> simp only [eqAV, Bool.and_eq_true, Nat.beq_eq, Bool.false_eq_true] at h
    rw [h.1.1, iha _ h.1.2, ihb _ h.2]
  | ifc i a iha =>
    intro v h
    cases v <;> simp only [eqAV, Bool.and_eq_true, Nat.beq_eq, Bool.false_eq_true] at h
    rw [h.1, iha _ h.2]
  | agg a iha => intro v h; cases v <;> simp only [eqAV, Bool.false_eq_true] at h; rw [iha _ h]
  | tup a iha => intro v h; cases v <;> simp only [eqAV, Bool.false_eq_true] at h; rw [iha _ h]
  | nil => intro v h; cases v <;> first | rfl | (simp only [eqAV, Bool.false_eq_true] at h)
  | cons a b iha ihb =>
    intro v h
    cases v <;> simp only [eqAV, Bool.and_eq_true, Bool.false_eq_true] at h
    rw [iha _ h.1, ihb _ h.2]

theorem sameO_eq {r : O} {v : AV} (h : sameO r v = true) : ∃ h', r = .ok v h' := by
  cases r with
  | ok u h' => exact ⟨h', by rw [eqAV_eq u v h]⟩
  | no w => cases h

/-! ### what is laid into memory late -/

theorem mergeP_rest {A : List Nat} {base i : Nat} : ∀ (l : List (Nat × AObj)) (t : Tr AObj), (mergeP A base i l t).2 = l.filter fun x => !isAnc A x.1 i
  | [], _ => rfl
  | (j, o) :: l, t => by
    simp only [mergeP]
    have ih := mergeP_rest (A := A) (base := base) (i := i) l t
    cases hm : mergeP A base i l t with
    | mk t' r =>
      rw [hm] at ih
      simp only at ih
      cases hj : isAnc A j i with
      | true => simp [hj, ih]
      | false => simp [hj, ih]

theorem mergeP_get {A : List Nat} {base i : Nat} {id : Nat} {o : AObj} : ∀ (l : List (Nat × AObj)) (t : Tr AObj), (mergeP A base i l t).1.get id = some o → t.get id = some o ∨ ∃ j, id = base + j ∧ (j, o) ∈ l ∧ isAnc A j i = true
  | [], _, h => .inl h
  | (j, ob) :: l, t, h => by
    simp only [mergeP] at h
    have ih := mergeP_get (A := A) (base := base) (i := i) (id := id) (o := o) l t
    cases hm : mergeP A base i l t with
    | mk t' r =>
      rw [hm] at ih h
      simp only at ih h
      have later : t'.get id = some o → t.get id = some o ∨ ∃ j', id = base + j' ∧ (j', o) ∈ (j, ob) :: l ∧ isAnc A j' i = true := fun h => (ih h).imp _root_.id fun ⟨j', h1, h2, h3⟩ => ⟨j', h1, List.mem_cons_of_mem _ h2, h3⟩
      cases hj : isAnc A j i with
      | true =>
        rw [hj] at h
        simp only at h
        by_cases hid : id = base + j
        · subst hid
          have h' : (t'.set (some ob) (base + j)).get (base + j) = some o := h
          rw [Tr.get_set] at h'
          injection h' with h'
          subst h'
          exact .inr ⟨j, rfl, List.mem_cons_self, hj⟩
        · have h' : (t'.set (some ob) (base + j)).get id = some o := h
          rw [Tr.get_set_ne _ _ _ _ hid] at h'
          exact later h'
      | false => rw [hj] at h; exact later h

theorem mergeAll_get {base : Nat} {id : Nat} {o : AObj} : ∀ (l : List (Nat × AObj)) (t : Tr AObj), (mergeAll base l t).get id = some o → t.get id = some o ∨ ∃ j, id = base + j ∧ (j, o) ∈ l
  | [], _, h => .inl h
  | (j, ob) :: l, t, h => by
    simp only [mergeAll] at h
    by_cases hid : id = base + j
    · subst hid
      have h' : ((mergeAll base l t).set (some ob) (base + j)).get (base + j) = some o := h
      rw [Tr.get_set] at h'
      injection h' with h'
      subst h'
      exact .inr ⟨j, rfl, List.mem_cons_self⟩
    · have h' : ((mergeAll base l t).set (some ob) (base + j)).get id = some o := h
      rw [Tr.get_set_ne _ _ _ _ hid] at h'
      exact (mergeAll_get l t h').imp _root_.id fun ⟨j', h1, h2⟩ => ⟨j', h1, List.mem_cons_of_mem _ h2⟩

end Go.Proofs.YtfmlgiafkbakcaaGreatDoor.Ev

namespace Go.Proofs.YtfmlgiafkbakcaaGreatDoor.Ev

section
variable {P : Program} {N : Nat} {ops : Array Oper} {base : Nat} {ih : CF} {st : Nat → DS}

/-- number j made this -/
def Made (P : Program) (ops : Array Oper) (base : Nat) (ih : CF) (st : Nat → DS) (j : Nat) (ob : AObj) : Prop :=
  ∃ o v, ops.toList[j]? = some o ∧ kindOp o.op = 2 ∧ wantedA ops o (st j).e = some true ∧ allocA ((copK P o.op).run ih (st j).e) (base + j) (st j).h.objs = some (v, ob)

/-- what number j made is in memory behind the first i -/
def MergedBy (ops : Array Oper) (i j : Nat) : Prop := ∃ x o, x < i ∧ ops.toList[x]? = some o ∧ kindOp o.op = 3 ∧ isAnc (ancs ops.toList []) j x = true

theorem Made.one {j : Nat} {ob ob' : AObj} (h : Made P ops base ih st j ob) (h' : Made P ops base ih st j ob') : ob = ob' := by
  obtain ⟨o, v, h1, _, _, h2⟩ := h
  obtain ⟨o', v', h1', _, _, h2'⟩ := h'
  rw [h1] at h1'
  injection h1' with h1'
  subst h1'
  rw [h2] at h2'
  injection h2' with h2'
  injection h2'

theorem mem_zipIdx {l : List Oper} {j : Nat} {o : Oper} (h : l[j]? = some o) : (o, j) ∈ l.zipIdx := by
  rw [List.mem_iff_getElem?]
  exact ⟨j, by simp [h]⟩

theorem of_zipIdx {l : List Oper} {x : Oper × Nat} (h : x ∈ l.zipIdx) : l[x.2]? = some x.1 := by
  rw [List.mem_iff_getElem?] at h
  obtain ⟨k, hk⟩ := h
  rw [List.getElem?_zipIdx] at hk
  cases hl : l[k]? with
  | none => rw [hl] at hk; cases hk
  | some o =>
    rw [hl] at hk
    simp only [Option.map_some, Option.some.injEq, Nat.zero_add] at hk
    subst hk
    exact hl

theorem mergedB_iff {i j : Nat} : mergedB ops.toList (ancs ops.toList []) i j = true ↔ MergedBy ops (i + 1) j := by
  unfold mergedB MergedBy
  rw [List.any_eq_true]
  constructor
  · rintro ⟨x, hx, h⟩
    simp only [Bool.and_eq_true, Nat.ble_eq, Nat.beq_eq] at h
    exact ⟨x.2, x.1, by omega, of_zipIdx hx, h.1.2, h.2⟩
  · rintro ⟨x, o, h1, h2, h3, h4⟩
    refine ⟨(o, x), mem_zipIdx h2, ?_⟩
    simp only [Bool.and_eq_true, Nat.ble_eq, Nat.beq_eq]
    exact ⟨⟨by omega, h3⟩, h4⟩

theorem MergedBy.succ {i j : Nat} {o : Oper} (ho : ops.toList[i]? = some o) : MergedBy ops (i + 1) j ↔ MergedBy ops i j ∨ (kindOp o.op = 3 ∧ isAnc (ancs ops.toList []) j i = true) := by
  constructor
  · rintro ⟨x, o', h1, h2, h3, h4⟩
    by_cases hx : x = i
    · subst hx
      rw [ho] at h2
      injection h2 with h2
      subst h2
      exact .inr ⟨h3, h4⟩
    · exact .inl ⟨x, o', by omega, h2, h3, h4⟩
  · rintro (⟨x, o', h1, h2, h3, h4⟩ | ⟨h3, h4⟩)
    · exact ⟨x, o', by omega, h2, h3, h4⟩
    · exact ⟨i, o, by omega, ho, h3, h4⟩

theorem pendOk_spec {A : List Nat} {i : Nat} : ∀ {l : List (Nat × AObj)}, pendOk ops.toList A i l = true → ∀ {j : Nat} {ob : AObj}, (j, ob) ∈ l → isAnc A j i = true → ∀ {x : Nat} {ox : Oper}, i < x → ops.toList[x]? = some ox → kindOp ox.op = 3 → isAnc A j x = true → isAnc A i x = true
  | (j', ob') :: l, h, j, ob, hm, hji, x, ox, hix, hox, hk, hjx => by
    simp only [pendOk, Bool.and_eq_true] at h
    rcases List.mem_cons.1 hm with e | hm
    · injection e with e1 e2
      subst e1
      have h1 := h.1
      rw [hji] at h1
      simp only [Bool.not_true, Bool.false_or] at h1
      have h2 := List.all_eq_true.1 h1 (ox, x) (mem_zipIdx hox)
      have hb : Nat.blt i x = true := by simpa using hix
      simpa [hb, hk, hjx] using h2
    · exact pendOk_spec h.2 hm hji hix hox hk hjx
  | [], _, j, ob, hm, _, _, _, _, _, _, _ => by cases hm

theorem mergeP_none {A : List Nat} {i : Nat} : ∀ (l : List (Nat × AObj)) (t : Tr AObj), (∀ j ob, (j, ob) ∈ l → isAnc A j i = false) → (mergeP A base i l t).1 = t
  | [], _, _ => rfl
  | (j, o) :: l, t, h => by
    simp only [mergeP]
    have h1 := mergeP_none l t fun j ob hm => h j ob (List.mem_cons_of_mem _ hm)
    cases hm : mergeP A base i l t with
    | mk t' r =>
      rw [hm] at h1
      simp only at h1 ⊢
      rw [h j o List.mem_cons_self]
      exact h1

theorem Row0.op_at (i : Nat) (hi : i < ops.toList.length) : ∃ o, ops.toList[i]? = some o := ⟨_, List.getElem?_eq_getElem hi⟩

theorem allocA_spec {r : H → O} {id : Nat} {objs : Tr AObj} {v : AV} {ob : AObj} (h : allocA r id objs = some (v, ob)) : ∃ h', r ⟨objs, id⟩ = .ok v h' ∧ h'.objs.get id = some ob := by
  unfold allocA at h
  split at h
  case h_2 => cases h
  rename_i u h' hr
  split at h
  case h_2 => cases h
  rename_i o ho
  injection h with h
  injection h with h1 h2
  subst h1 h2
  exact ⟨h', hr, ho⟩

/-- where a row begins -/
structure Start (s : DS) (h : H) (base n : Nat) : Prop where
  mem : s.h = ⟨h.objs, base + n⟩
  snaps : s.snaps = [(0, s.h)]
  pend : s.pend = []
  next : h.next = base

variable (R : Row0 P N ops base ih st)
include R

theorem Row0.pend_iff {h : H} (S : Start (st 0) h base ops.toList.length) : ∀ i, i ≤ ops.toList.length → ∀ j ob, (j, ob) ∈ (st i).pend ↔ j < i ∧ Made P ops base ih st j ob ∧ ¬ MergedBy ops i j := by
  intro i
  induction i with
  | zero =>
    intro _ j ob
    rw [S.pend]
    simp
  | succ i ihi =>
    intro hi j ob
    obtain ⟨o, ho⟩ := Row0.op_at (ops := ops) i (by omega)
    obtain ⟨b, v, T⟩ := R.told ho
    have hI := ihi (by omega)
    by_cases h3 : kindOp o.op = 3
    · obtain ⟨t, rest, hm, hp, _⟩ := T.eff h3
      have hr := mergeP_rest (A := ancs ops.toList []) (base := base) (i := i) (st i).pend (st i).h.objs
      rw [hm] at hr
      simp only at hr
      rw [hp, hr, List.mem_filter, hI, MergedBy.succ ho]
      constructor
      · rintro ⟨⟨h1, h2, h4⟩, h5⟩
        refine ⟨by omega, h2, fun h => ?_⟩
        rcases h with h | ⟨_, h⟩
        · exact h4 h
        · simp [h] at h5
      · rintro ⟨h1, h2, h4⟩
        have hji : j ≠ i := by
          rintro rfl
          obtain ⟨o', _, h6, h7, _⟩ := h2
          rw [ho] at h6
          injection h6 with h6
          subst h6
          omega
        refine ⟨⟨by omega, h2, fun h => h4 (.inl h)⟩, ?_⟩
        cases hc : isAnc (ancs ops.toList []) j i with
        | false => rfl
        | true => exact absurd (.inr ⟨h3, hc⟩) h4
    · have hmm : ∀ j, MergedBy ops (i + 1) j ↔ MergedBy ops i j := fun j => by
        rw [MergedBy.succ ho]
        exact ⟨fun h => h.elim id fun h => absurd h.1 h3, .inl⟩
      rw [hmm]
      by_cases hb : b = true ∧ kindOp o.op = 2
      · obtain ⟨hb, h2⟩ := hb
        subst hb
        obtain ⟨ob', hal, hp⟩ := T.make rfl h2
        rw [hp, List.mem_cons, hI]
        have hmade : Made P ops base ih st i ob' := ⟨o, v, ho, h2, T.want, hal⟩
        constructor
        · rintro (h | ⟨h1, h4, h5⟩)
          · injection h with e1 e2
            subst e1 e2
            refine ⟨by omega, hmade, fun ⟨x, o', h6, _, _, h7⟩ => ?_⟩
            have := isAnc_lt R.edges x j h7
            omega
          · exact ⟨by omega, h4, h5⟩
        · rintro ⟨h1, h4, h5⟩
          by_cases hji : j = i
          · subst hji
            rw [h4.one hmade]
            exact .inl rfl
          · exact .inr ⟨by omega, h4, h5⟩
      · have hp := T.pend h3 (by
          by_cases hb1 : b = false
          · exact .inl hb1
          · exact .inr fun h2 => hb ⟨by simpa using hb1, h2⟩)
        rw [hp, hI]
        constructor
        · rintro ⟨h1, h4, h5⟩
          exact ⟨by omega, h4, h5⟩
        · rintro ⟨h1, h4, h5⟩
          refine ⟨?_, h4, h5⟩
          have hji : j ≠ i := by
            rintro rfl
            obtain ⟨o', v', h6, h7, h8, _⟩ := h4
            rw [ho] at h6
            injection h6 with h6
            subst h6
            rw [T.want] at h8
            injection h8 with h8
            exact hb ⟨h8, h7⟩
          omega

/-- between those that may do anything memory stays -/
theorem Row0.h_same (m : Nat) : ∀ i, m ≤ i → i ≤ ops.toList.length → (∀ y o, m ≤ y → y < i → ops.toList[y]? = some o → kindOp o.op ≠ 3) → (st i).h = (st m).h := by
  intro i
  induction i with
  | zero => intro h1 _ _; rw [show m = 0 by omega]
  | succ i ihi =>
    intro h1 h2 h3
    by_cases hm : m = i + 1
    · rw [hm]
    · obtain ⟨o, ho⟩ := Row0.op_at (ops := ops) i (by omega)
      obtain ⟨b, v, T⟩ := R.told ho
      rw [(T.keep (h3 i o (by omega) (by omega) ho)).1]
      exact ihi (by omega) (by omega) fun y o' a b => h3 y o' a (by omega)

theorem Row0.snap {h : H} (S : Start (st 0) h base ops.toList.length) : ∀ m, m ≤ ops.toList.length → ∃ m', m' ≤ m ∧ (m', (st m).h) ∈ (st m).snaps ∧ ∀ y o, m' ≤ y → y < m → ops.toList[y]? = some o → kindOp o.op ≠ 3 := by
  intro m
  induction m with
  | zero => intro _; exact ⟨0, Nat.le_refl _, by rw [S.snaps]; exact List.mem_singleton.2 rfl, fun y o _ h => absurd h (by omega)⟩
  | succ m ihm =>
    intro hm
    obtain ⟨o, ho⟩ := Row0.op_at (ops := ops) m (by omega)
    obtain ⟨b, v, T⟩ := R.told ho
    by_cases h3 : kindOp o.op = 3
    · obtain ⟨t, rest, _, _, _, _, hs, _⟩ := T.eff h3
      exact ⟨m + 1, Nat.le_refl _, by rw [hs]; exact List.mem_cons_self, fun y o a b => absurd b (by omega)⟩
    · obtain ⟨m', h1, h2, h4⟩ := ihm (by omega)
      obtain ⟨k1, k2⟩ := T.keep h3
      refine ⟨m', by omega, by rw [k1, k2]; exact h2, fun y o' a b hy => ?_⟩
      by_cases hym : y = m
      · subst hym
        rw [ho] at hy
        injection hy with hy
        subst hy
        exact h3
      · exact h4 y o' a (by omega) hy

theorem Row0.snaps_mono {x : Nat × H} (m : Nat) : ∀ i, m ≤ i → i ≤ ops.toList.length → x ∈ (st m).snaps → x ∈ (st i).snaps := by
  intro i
  induction i with
  | zero => intro h1 _ h; rwa [show m = 0 by omega] at h
  | succ i ihi =>
    intro h1 h2 h
    by_cases hm : m = i + 1
    · rwa [hm] at h
    · obtain ⟨o, ho⟩ := Row0.op_at (ops := ops) i (by omega)
      obtain ⟨b, v, T⟩ := R.told ho
      have := ihi (by omega) (by omega) h
      by_cases h3 : kindOp o.op = 3
      · obtain ⟨t, rest, _, _, _, _, hs, _⟩ := T.eff h3
        rw [hs]
        exact List.mem_cons_of_mem _ this
      · rw [(T.keep h3).2]
        exact this

theorem Row0.tail_mono {x : Nat × H} (m : Nat) : ∀ i, m ≤ i → i ≤ ops.toList.length → x ∈ (st m).snaps.tail → x ∈ (st i).snaps.tail := by
  intro i
  induction i with
  | zero => intro h1 _ h; rwa [show m = 0 by omega] at h
  | succ i ihi =>
    intro h1 h2 h
    by_cases hm : m = i + 1
    · rwa [hm] at h
    · obtain ⟨o, ho⟩ := Row0.op_at (ops := ops) i (by omega)
      obtain ⟨b, v, T⟩ := R.told ho
      have := ihi (by omega) (by omega) h
      by_cases h3 : kindOp o.op = 3
      · obtain ⟨t, rest, _, _, _, _, hs, _⟩ := T.eff h3
        rw [hs, List.tail_cons]
        exact List.mem_of_mem_tail this
      · rw [(T.keep h3).2]
        exact this

theorem Row0.watch_mono {x : Watch} (m : Nat) : ∀ i, m ≤ i → i ≤ ops.toList.length → x ∈ (st m).watch → x ∈ (st i).watch := by
  intro i
  induction i with
  | zero => intro h1 _ h; rwa [show m = 0 by omega] at h
  | succ i ihi =>
    intro h1 h2 h
    by_cases hm : m = i + 1
    · rwa [hm] at h
    · obtain ⟨o, ho⟩ := Row0.op_at (ops := ops) i (by omega)
      obtain ⟨b, v, T⟩ := R.told ho
      exact T.watch _ (ihi (by omega) (by omega) h)

/-- a reader answers alike at whatever stage it may come up -/
theorem Row0.reader {h : H} (S : Start (st 0) h base ops.toList.length) {i m : Nat} {o : Oper} {v : AV} (ho : ops.toList[i]? = some o) (T : Told P N ops base ih i o (st i) (st (i + 1)) true v) (hk : kindOp o.op = 1) (hm : m ≤ ops.toList.length)
    (hb : ∀ y o', m ≤ y → y < i → ops.toList[y]? = some o' → kindOp o'.op = 3 → isAnc (ancs ops.toList []) y i = false) (hf : ∀ y o', i < y → y < m → ops.toList[y]? = some o' → kindOp o'.op = 3 → isAnc (ancs ops.toList []) i y = false) :
    ∃ h', lookD P ops base ih i o (st i) (st m).h = .ok v h' := by
  obtain ⟨⟨h1, hrun⟩, hback, hw, _⟩ := T.read rfl hk
  have hi : i < ops.toList.length := (List.getElem?_eq_some_iff.1 ho).1
  by_cases hmi : m ≤ i
  · by_cases hno : ∀ y o, m ≤ y → y < i → ops.toList[y]? = some o → kindOp o.op ≠ 3
    · rw [← R.h_same m i hmi (by omega) hno]
      exact ⟨h1, hrun⟩
    obtain ⟨y0, hy0⟩ := Classical.not_forall.1 hno
    obtain ⟨o0, hy0⟩ := Classical.not_forall.1 hy0
    simp only [Classical.not_imp, ne_eq, Classical.not_not] at hy0
    obtain ⟨j1, j2, j3, j4⟩ := hy0
    obtain ⟨m', k1, k2, k3⟩ := R.snap S m hm
    have hin := R.snaps_mono m y0 j1 (by omega) k2
    obtain ⟨b0, v0, T0⟩ := R.told j3
    obtain ⟨t0, rest0, _, _, _, _, hsn, _⟩ := T0.eff j4
    refine sameO_eq (hback _ (R.tail_mono (y0 + 1) i (by omega) (by omega) (by rw [hsn]; exact hin)) ?_)
    unfold backNeed
    rw [Bool.not_eq_true']
    cases hc : (ops.toList.zipIdx).any fun x => Nat.ble m' x.2 && Nat.blt x.2 i && Nat.beq (kindOp x.1.op) 3 && isAnc (ancs ops.toList []) x.2 i with
    | false => rfl
    | true =>
      obtain ⟨x, hx, hx2⟩ := List.any_eq_true.1 hc
      simp only [Bool.and_eq_true, Nat.ble_eq, Nat.blt_eq, Nat.beq_eq] at hx2
      obtain ⟨⟨⟨q1, q2⟩, q3⟩, q4⟩ := hx2
      have hx3 := of_zipIdx hx
      by_cases hxm : x.2 < m
      · exact absurd q3 (k3 x.2 x.1 q1 hxm hx3)
      · rw [hb x.2 x.1 (by omega) q2 hx3 q3] at q4
        cases q4
  · have key : ∀ m, i + 1 ≤ m → m ≤ ops.toList.length → (∀ y o', i < y → y < m → ops.toList[y]? = some o' → kindOp o'.op = 3 → isAnc (ancs ops.toList []) i y = false) → ∃ h', lookD P ops base ih i o (st i) (st m).h = .ok v h' := by
      intro m
      induction m with
      | zero => intro h; omega
      | succ m ihm =>
        intro q1 q2 q3
        obtain ⟨o', ho'⟩ := Row0.op_at (ops := ops) m (by omega)
        obtain ⟨b', v', T'⟩ := R.told ho'
        by_cases hmi : m = i
        · subst hmi
          rw [(T.keep (by omega)).1]
          exact ⟨h1, hrun⟩
        · by_cases h3 : kindOp o'.op = 3
          · obtain ⟨t, rest, _, _, _, _, _, _, hwat, _⟩ := T'.eff h3
            refine sameO_eq (hwat _ (R.watch_mono (i + 1) m (by omega) (by omega) hw) ?_)
            unfold fwdNeed
            rw [Bool.not_eq_true']
            cases hc : (ops.toList.zipIdx).any fun x => Nat.blt i x.2 && Nat.ble x.2 m && Nat.beq (kindOp x.1.op) 3 && isAnc (ancs ops.toList []) i x.2 with
            | false => rfl
            | true =>
              obtain ⟨x, hx, hx2⟩ := List.any_eq_true.1 hc
              simp only [Bool.and_eq_true, Nat.ble_eq, Nat.blt_eq, Nat.beq_eq] at hx2
              obtain ⟨⟨⟨p1, p2⟩, p3⟩, p4⟩ := hx2
              rw [q3 x.2 x.1 p1 (by omega) (of_zipIdx hx) p3] at p4
              cases p4
          · rw [(T'.keep h3).1]
            exact ihm (by omega) (by omega) fun y o'' a b => q3 y o'' a (by omega)
    exact key m (by omega) hm hf

/-- what is made is not in memory ahead of its time -/
theorem Row0.unborn {h : H} (S : Start (st 0) h base ops.toList.length) (hfresh : ∀ id, base ≤ id → h.objs.get id = none) : ∀ m, m ≤ ops.toList.length → ∀ j o, ops.toList[j]? = some o → kindOp o.op = 2 → ¬ MergedBy ops m j → (st m).h.objs.get (base + j) = none := by
  intro m
  induction m with
  | zero => intro _ j o _ _ _; rw [S.mem]; exact hfresh _ (by omega)
  | succ m ihm =>
    intro hm j o hj hk hno
    obtain ⟨o', ho'⟩ := Row0.op_at (ops := ops) m (by omega)
    obtain ⟨b', v', T'⟩ := R.told ho'
    by_cases h3 : kindOp o'.op = 3
    · obtain ⟨t, rest, _, _, _, _, _, hun, _⟩ := T'.eff h3
      refine hun (o, j) (mem_zipIdx hj) hk ?_
      cases hc : mergedB ops.toList (ancs ops.toList []) m j with
      | false => rfl
      | true => exact absurd (mergedB_iff.1 hc) hno
    · rw [(T'.keep h3).1]
      exact ihm (by omega) j o hj hk fun hc => hno ((MergedBy.succ ho').2 (.inl hc))

end
end Go.Proofs.YtfmlgiafkbakcaaGreatDoor.Ev

namespace Go.Proofs.YtfmlgiafkbakcaaGreatDoor.Ev

/-- some things laid over a tree -/
theorem over (base : Nat) (X : Nat → Option AObj) (t : Tr AObj) : ∀ n, ∃ t' : Tr AObj, (∀ j ob, j < n → X j = some ob → t'.get (base + j) = some ob) ∧ ∀ id, (∀ j, j < n → X j ≠ none → id ≠ base + j) → t'.get id = t.get id
  | 0 => ⟨t, fun j ob h => absurd h (by omega), fun id _ => rfl⟩
  | n + 1 => by
    obtain ⟨t', h1, h2⟩ := over base X t n
    cases hx : X n with
    | none =>
      refine ⟨t', fun j ob hj ho => ?_, fun id hid => h2 id fun j hj => hid j (by omega)⟩
      by_cases hjn : j = n
      · subst hjn; rw [hx] at ho; cases ho
      · exact h1 j ob (by omega) ho
    | some ob' =>
      refine ⟨t'.set (some ob') (base + n), fun j ob hj ho => ?_, fun id hid => ?_⟩
      · by_cases hjn : j = n
        · subst hjn
          rw [hx] at ho
          injection ho with ho
          subst ho
          exact Tr.get_set _ _ _
        · rw [Tr.get_set_ne _ _ _ _ (by omega)]
          exact h1 j ob (by omega) ho
      · rw [Tr.get_set_ne _ _ _ _ (hid n (by omega) (by rw [hx]; intro h; cases h))]
        exact h2 id fun j hj => hid j (by omega)

/-- a new block under a number that was kept for it -/
theorem HR.pushAt {h : H} {ι : Io} {w w' : World} (hr : HR h ι w) (k : Nat) (o : AObj) (ob : Obj) (base size : Nat) (hk1 : k < h.next) (hn : ι k = none) (hk : h.objs.get k = none) (hw : w'.heap = w.heap.push ob)
    (ho : OR w' (upd ι k ⟨w.heap.size, base, size⟩) k o) : HR ⟨h.objs.set (some o) k, h.next⟩ (upd ι k ⟨w.heap.size, base, size⟩) w' := by
  have he : Ext ι (upd ι k ⟨w.heap.size, base, size⟩) := upd_ext hn
  have hlt : ∀ id l, ι id = some l → l.g < w.heap.size := hr.lt
  refine ⟨fun id o' hg => ?_, fun i j oi oj a b hi hj hij hown ha hb hab => ?_, fun id hid => ?_, fun id l hl => ?_⟩
  · by_cases hik : id = k
    · subst hik
      rw [Tr.get_set] at hg
      injection hg with hg
      subst hg
      exact ho
    · rw [Tr.get_set_ne _ _ _ _ hik] at hg
      refine (hr.obj id o' hg).ext he fun l hl => ?_
      rw [hw, get_push w ob (hlt id l hl)]
  · by_cases hki : i = k
    · subst hki
      rw [upd_same] at ha
      rw [upd_ne (Ne.symm hij)] at hb
      injection ha with ha
      subst ha
      have := hlt j b hb
      simp only at hab
      omega
    · rw [Tr.get_set_ne _ _ _ _ hki] at hi
      rw [upd_ne hki] at ha
      by_cases hkj : j = k
      · subst hkj
        rw [upd_same] at hb
        injection hb with hb
        subst hb
        have := hlt i a ha
        simp only at hab
        omega
      · rw [Tr.get_set_ne _ _ _ _ hkj] at hj
        rw [upd_ne hkj] at hb
        exact hr.share i j oi oj a b hi hj hij hown ha hb hab
  · have hid' : h.next ≤ id := hid
    have hik : id ≠ k := by omega
    rw [Tr.get_set_ne _ _ _ _ hik, upd_ne hik]
    exact hr.fresh id hid'
  · rw [hw, Array.size_push]
    by_cases hik : id = k
    · subst hik
      rw [upd_same] at hl
      injection hl with hl
      subst hl
      exact Nat.lt_succ_self _
    · rw [upd_ne hik] at hl
      exact Nat.lt_succ_of_lt (hlt id l hl)

theorem Stp.pushAt {h0 h : H} {ι0 ι : Io} {w0 w w' : World} (s : Stp h0 ι0 w0 h ι w) (k : Nat) (o : AObj) (ob : Obj) (base size : Nat) (hk0 : h0.next ≤ k) (hn : ι k = none) (hw : w' = w.alloc ob) :
    Stp h0 ι0 w0 ⟨h.objs.set (some o) k, h.next⟩ (upd ι k ⟨w.heap.size, base, size⟩) w' where
  ext := s.ext.trans (upd_ext hn)
  size := by
    have : w'.heap.size = w.heap.size + 1 := by rw [hw]; exact Array.size_push _
    have := s.size
    omega
  blk g hg hno := by
    rw [← s.blk g hg hno, hw]
    exact get_push w ob (Nat.lt_of_lt_of_le hg s.size)
  own g hg := by
    obtain ⟨id, l, hl, hlg, hown⟩ := hg
    by_cases hik : id = k
    · subst hik
      rw [upd_same] at hl
      injection hl with hl
      subst hl
      subst hlg
      exact .inl s.size
    · rw [upd_ne hik] at hl
      simp only at hown
      rw [Tr.get_set_ne _ _ _ _ hik] at hown
      exact s.own g ⟨id, l, hl, hlg, hown⟩
  os := by rw [hw]; exact s.os
  tape := by rw [hw]; exact s.tape
  output := by rw [hw]; exact s.output
  next := s.next
  new id l hl hl0 := by
    by_cases hik : id = k
    · subst hik
      rw [upd_same] at hl
      injection hl with hl
      subst hl
      exact ⟨hk0, .inl s.size⟩
    · rw [upd_ne hik] at hl
      exact s.new id l hl hl0

/-- numbers kept -/
theorem HR.raise {h : H} {ι : Io} {w : World} (hr : HR h ι w) (n : Nat) : HR ⟨h.objs, h.next + n⟩ ι w ∧ Stp h ι w ⟨h.objs, h.next + n⟩ ι w :=
  ⟨⟨hr.obj, hr.share, fun id hid => hr.fresh id (by have : h.next + n ≤ id := hid; omega), hr.lt⟩, ⟨Ext.refl _, Nat.le_refl _, fun _ _ _ => rfl, fun _ hg => .inr hg, rfl, rfl, rfl, Nat.le_add_right _ _, fun id l a b => by rw [b] at a; cases a⟩⟩

section
variable {P : Program} {N : Nat} {ops : Array Oper} {base : Nat} {ih : CF} {st : Nat → DS}

abbrev Lst (listed : Array Bool) (i : Nat) : Prop := listed.getD i false = true

/-- made, come up, not yet in memory -/
def Pnd (P : Program) (ops : Array Oper) (base : Nat) (ih : CF) (st : Nat → DS) (listed : Array Bool) (m j : Nat) (ob : AObj) : Prop := Lst listed j ∧ Made P ops base ih st j ob ∧ ¬ MergedBy ops m j

/-- places and memory while they come up -/
structure Mid (P : Program) (N : Nat) (ops : Array Oper) (base : Nat) (ih : CF) (st : Nat → DS) (h0 : H) (ι0 : Io) (w0 : World) (listed : Array Bool) (m : Nat) (eD : E) (ι : Io) (hD : H) (a : Act) (w : World) : Prop where
  le : m ≤ ops.toList.length
  stage : ∀ j o, ops.toList[j]? = some o → kindOp o.op = 3 → (Lst listed j ↔ j < m)
  envW : ∀ t, t < 1024 → (∃ j o, Lst listed j ∧ ops.toList[j]? = some o ∧ o.dst = some t) → getE t eD = getE t (st ops.toList.length).e
  envN : ∀ t, t < 1024 → (¬ ∃ j o, Lst listed j ∧ ops.toList[j]? = some o ∧ o.dst = some t) → getE t eD = getE t (st 0).e
  er : ER N ι eD a
  next : hD.next = (st m).h.next
  room : base + ops.toList.length ≤ hD.next
  get1 : ∀ j ob, Pnd P ops base ih st listed m j ob → hD.objs.get (base + j) = some ob
  get2 : ∀ id, (∀ j ob, Pnd P ops base ih st listed m j ob → id ≠ base + j) → hD.objs.get id = (st m).h.objs.get id
  hr : HR hD ι w
  stp : Stp h0 ι0 w0 hD ι w
  names : ∀ j, j < ops.toList.length → ¬ Lst listed j → ι (base + j) = none
  excl : ∀ j ob, Pnd P ops base ih st listed m j ob → ∀ l, ι (base + j) = some l → ∀ id l', id ≠ base + j → ι id = some l' → l'.g ≠ l.g
  own1 : ∀ j ob, Pnd P ops base ih st listed m j ob → isOwn (some ob) = true

structure Inv (P : Program) (N : Nat) (ops : Array Oper) (base : Nat) (ih : CF) (st : Nat → DS) (h0 : H) (ι0 : Io) (w0 : World) (listed : Array Bool) (a : Act) (w : World) : Prop where
  size : listed.size = ops.size
  closed : ∀ i o, ops.toList[i]? = some o → Lst listed i → ∀ e ∈ edges o, Lst listed e
  mid : ∃ m eD ι hD, Mid P N ops base ih st h0 ι0 w0 listed m eD ι hD a w

theorem lst_set {listed : Array Bool} {i j : Nat} (hi : i < listed.size) : Lst (listed.setIfInBounds i true) j ↔ j = i ∨ Lst listed j := by
  by_cases hj : j = i
  · subst hj
    simp [Lst, hi]
  · simp [Lst, Array.getD_eq_getD_getElem?, Array.getElem?_setIfInBounds_ne (Ne.symm hj), hj]

/-- one that is about to come up -/
structure Turn (ops : Array Oper) (listed : Array Bool) (i : Nat) (o : Oper) : Prop where
  op : ops.toList[i]? = some o
  size : listed.size = ops.size
  off : ¬ Lst listed i
  anc : ∀ j, isAnc (ancs ops.toList []) j i = true → Lst listed j
  desc : ∀ j, Lst listed j → isAnc (ancs ops.toList []) i j = false

theorem Turn.lt {listed : Array Bool} {i : Nat} {o : Oper} (U : Turn ops listed i o) : i < listed.size := by
  have := (List.getElem?_eq_some_iff.1 U.op).1
  rw [U.size]
  simpa using this

theorem Turn.of {h0 : H} {ι0 : Io} {w0 : World} (hk : edgesOk 0 ops.toList = true) {listed : Array Bool} {a : Act} {w : World} (I : Inv P N ops base ih st h0 ι0 w0 listed a w) {i : Nat} (hi : i ∈ Region.ready .any ops listed) :
    ∃ o, Turn ops listed i o ∧ ∀ e ∈ edges o, Lst listed e := by
  obtain ⟨h1, h2, o, h3, h4⟩ := ready_spec hi
  have hs := I.size
  have hoff : ¬ Lst listed i := by
    intro hl
    have : i < listed.size := by rw [hs]; exact h1
    simp only [Lst, Array.getD_eq_getD_getElem?, Array.getElem?_eq_getElem this, Option.getD_some] at hl h2
    rw [hl] at h2
    cases h2
  refine ⟨o, ⟨h3, hs, hoff, isAnc_in hk (D := Lst listed) (fun i o hi hl => I.closed i o hi hl) i o h3 h4, fun j hj => ?_⟩, h4⟩
  cases hc : isAnc (ancs ops.toList []) i j with
  | false => rfl
  | true =>
    obtain ⟨oj, hoj⟩ := isAnc_some hc
    exact absurd (isAnc_in hk (D := Lst listed) (fun i o hi hl => I.closed i o hi hl) j oj hoj (I.closed j oj hoj hj) i hc) hoff

section
variable {h0 : H} {ι0 : Io} {w0 : World} {listed : Array Bool} {m : Nat} {eD : E} {ι : Io} {hD : H} {a : Act} {w : World}

/-- the places that it looks at hold what they held in the row -/
theorem Mid.looked (R : Row0 P N ops base ih st) (M : Mid P N ops base ih st h0 ι0 w0 listed m eD ι hD a w) {i : Nat} {o : Oper} (U : Turn ops listed i o) {t : Nat} (ht : t < 1024) (hl : t ∈ looks ops o) : getE t eD = getE t (st i).e := by
  have hi : i < ops.toList.length := (List.getElem?_eq_some_iff.1 U.op).1
  obtain ⟨k1, k2⟩ := R.env_at ht i (by omega)
  by_cases hw : ∃ j o, Lst listed j ∧ ops.toList[j]? = some o ∧ o.dst = some t
  · rw [M.envW t ht hw]
    obtain ⟨j, oj, hj, hoj, hd⟩ := hw
    have hij : i ≠ j := fun e => U.off (e ▸ hj)
    have hs := (slots_spec R.slots U.op hoj hij hd).2 hl
    by_cases hlt : j < i
    · exact (k1 ⟨j, oj, hlt, hoj, hd⟩).symm
    · rw [if_neg hlt, U.desc j hj] at hs
      cases hs
  · rw [M.envN t ht hw]
    refine (k2 fun ⟨j, oj, hj, hoj, hd⟩ => hw ⟨j, oj, ?_, hoj, hd⟩).symm
    have hs := (slots_spec R.slots U.op hoj (by omega) hd).2 hl
    rw [if_pos hj] at hs
    exact U.anc j hs

theorem Mid.same_run (R : Row0 P N ops base ih st) (M : Mid P N ops base ih st h0 ι0 w0 listed m eD ι hD a w) {i : Nat} {o : Oper} (U : Turn ops listed i o) (h : H) : (copK P o.op).run ih eD h = (copK P o.op).run ih (st i).e h := by
  unfold copK
  split
  · rename_i hops
    refine cop_congr (fun x hx => ?_) h
    cases x with
    | tmp t =>
      have ht : t < 1024 := by
        have := List.all_eq_true.1 hops _ hx
        simpa [okOp] using this
      have hl : t ∈ looks ops o := by
        unfold looks Oper.looksAt
        refine List.mem_append.2 (.inl (List.mem_filterMap.2 ⟨_, hx, rfl⟩))
      exact M.looked R U ht hl
    | const v => simp only [cget]; cases avOf v <;> rfl
    | global g => rfl
    | func f => rfl
  · rfl

theorem Mid.same_want (R : Row0 P N ops base ih st) (M : Mid P N ops base ih st h0 ι0 w0 listed m eD ι hD a w) {i : Nat} {o : Oper} (U : Turn ops listed i o) {b : Bool} (hb : wantedA ops o (st i).e = some b) : Region.wanted o (yielded ops a.tmps) = b := by
  unfold wantedA at hb
  split at hb
  · rename_i hg
    injection hb with hb
    subst hb
    simp [Region.wanted, hg]
  · rename_i j want hg
    split at hb
    case h_2 => cases hb
    rename_i d hd
    split at hb
    case h_2 => cases hb
    rename_i hlt
    have hlt : d < 1024 := by simpa using hlt
    have hl : d ∈ looks ops o := by
      unfold looks Oper.looksAt
      refine List.mem_append.2 (.inr ?_)
      rw [hg]
      simp [hd]
    have he := M.looked R U hlt hl
    obtain ⟨hy1, hy2⟩ := yielded_bool M.er hd hlt
    have hget : (cgetT d).get (st i).e = getE d eD := he.symm
    rw [hget] at hb
    split at hb
    · rename_i hv
      injection hb with hb
      subst hb
      have := hy1 _ hv
      cases want <;> simp [Region.wanted, hg, this]
    · rename_i hv
      injection hb with hb
      subst hb
      have := hy1 _ hv
      cases want <;> simp [Region.wanted, hg, this]
    · rename_i hv
      injection hb with hb
      subst hb
      have := hy2 hv
      cases want <;> simp [Region.wanted, hg, this]
    · cases hb

/-- the places behind it -/
theorem Mid.env_put (R : Row0 P N ops base ih st) (M : Mid P N ops base ih st h0 ι0 w0 listed m eD ι hD a w) {i : Nat} {o : Oper} (U : Turn ops listed i o) {b : Bool} {v : AV} (T : Told P N ops base ih i o (st i) (st (i + 1)) b v) :
    (∀ t, t < 1024 → (∃ j o, Lst (listed.setIfInBounds i true) j ∧ ops.toList[j]? = some o ∧ o.dst = some t) → getE t ((csetO o.dst).set v eD) = getE t (st ops.toList.length).e) ∧ ∀ t, t < 1024 → (¬ ∃ j o, Lst (listed.setIfInBounds i true) j ∧ ops.toList[j]? = some o ∧ o.dst = some t) → getE t ((csetO o.dst).set v eD) = getE t (st 0).e := by
  have hi : i < ops.toList.length := (List.getElem?_eq_some_iff.1 U.op).1
  have hset : ∀ e : E, ∀ t, t < 1024 → (o.dst = some t → getE t ((csetO o.dst).set v e) = v) ∧ (o.dst ≠ some t → getE t ((csetO o.dst).set v e) = getE t e) := by
    intro e t ht
    cases hd : o.dst with
    | none => exact ⟨fun h => (by cases h), fun _ => rfl⟩
    | some d =>
      have h1 := T.dst
      rw [hd] at h1
      simp only [okDst, Bool.and_eq_true, Nat.blt_eq] at h1
      refine ⟨fun h => ?_, fun h => ?_⟩
      · injection h with h
        subst h
        exact get_set_same _ _ _
      · have hdt : t ≠ d := fun e => h (by rw [e])
        exact get_set_ne h1.2 ht hdt v _
  refine ⟨fun t ht hw => ?_, fun t ht hw => ?_⟩
  · by_cases hd : o.dst = some t
    · rw [(hset eD t ht).1 hd, ← (R.env_at ht (i + 1) (by omega)).1 ⟨i, o, by omega, U.op, hd⟩, T.env, (hset _ t ht).1 hd]
    · rw [(hset eD t ht).2 hd]
      obtain ⟨j, oj, hj, hoj, hdj⟩ := hw
      refine M.envW t ht ⟨j, oj, ?_, hoj, hdj⟩
      rcases (lst_set U.lt).1 hj with rfl | hj
      · rw [U.op] at hoj
        injection hoj with hoj
        subst hoj
        exact absurd hdj hd
      · exact hj
  · have hd : o.dst ≠ some t := fun hd => hw ⟨i, o, (lst_set U.lt).2 (.inl rfl), U.op, hd⟩
    rw [(hset eD t ht).2 hd]
    exact M.envN t ht fun ⟨j, oj, hj, hoj, hdj⟩ => hw ⟨j, oj, (lst_set U.lt).2 (.inr hj), hoj, hdj⟩

/-- those ahead of the stage are ahead of it, those behind are not -/
theorem Mid.back (M : Mid P N ops base ih st h0 ι0 w0 listed m eD ι hD a w) {i : Nat} {o : Oper} (U : Turn ops listed i o) : ∀ y o', m ≤ y → ops.toList[y]? = some o' → kindOp o'.op = 3 → isAnc (ancs ops.toList []) y i = false := by
  intro y o' h1 h2 h3
  cases hc : isAnc (ancs ops.toList []) y i with
  | false => rfl
  | true =>
    have := (M.stage y o' h2 h3).1 (U.anc y hc)
    omega

theorem Mid.fwd (M : Mid P N ops base ih st h0 ι0 w0 listed m eD ι hD a w) {i : Nat} {o : Oper} (U : Turn ops listed i o) : ∀ y o', y < m → ops.toList[y]? = some o' → kindOp o'.op = 3 → isAnc (ancs ops.toList []) i y = false := by
  intro y o' h1 h2 h3
  exact U.desc y ((M.stage y o' h2 h3).2 h1)

end
end
end Go.Proofs.YtfmlgiafkbakcaaGreatDoor.Ev

namespace Go.Proofs.YtfmlgiafkbakcaaGreatDoor.Ev

section
variable {P : Program} {N : Nat} {ops : Array Oper} {base : Nat} {ih : CF} {st : Nat → DS}
variable {h0 : H} {ι0 : Io} {w0 : World} {listed : Array Bool} {m : Nat} {eD : E} {ι : Io} {hD : H} {a : Act} {w : World}

theorem Inv.of_mid (I : Inv P N ops base ih st h0 ι0 w0 listed a w) {i : Nat} {o : Oper} (U : Turn ops listed i o) (he : ∀ e ∈ edges o, Lst listed e) {m' : Nat} {e' : E} {ι' : Io} {h' : H} {a' : Act} {w' : World}
    (M : Mid P N ops base ih st h0 ι0 w0 (listed.setIfInBounds i true) m' e' ι' h' a' w') : Inv P N ops base ih st h0 ι0 w0 (listed.setIfInBounds i true) a' w' := by
  refine ⟨by rw [Array.size_setIfInBounds]; exact U.size, fun j oj hj hl e hm => ?_, ⟨m', e', ι', h', M⟩⟩
  refine (lst_set U.lt).2 (.inr ?_)
  rcases (lst_set U.lt).1 hl with rfl | hl
  · rw [U.op] at hj
    injection hj with hj
    subst hj
    exact he e hm
  · exact I.closed j oj hj hl e hm

theorem not_lst_set {i j : Nat} (hi : i < listed.size) (h : ¬ Lst (listed.setIfInBounds i true) j) : j ≠ i ∧ ¬ Lst listed j :=
  ⟨fun e => h ((lst_set hi).2 (.inl e)), fun e => h ((lst_set hi).2 (.inr e))⟩

/-- one that makes nothing and leaves all as it is -/
theorem Mid.quiet (R : Row0 P N ops base ih st) (M : Mid P N ops base ih st h0 ι0 w0 listed m eD ι hD a w) {i : Nat} {o : Oper} (U : Turn ops listed i o) {b : Bool} {v : AV} (T : Told P N ops base ih i o (st i) (st (i + 1)) b v)
    (hk : kindOp o.op ≠ 3) (hno : ∀ ob, ¬ Made P ops base ih st i ob) {u : Value} (hv : VR ι v u) : Mid P N ops base ih st h0 ι0 w0 (listed.setIfInBounds i true) m ((csetO o.dst).set v eD) ι hD (a.put o.dst u) w := by
  have hp : ∀ j ob, Pnd P ops base ih st (listed.setIfInBounds i true) m j ob ↔ Pnd P ops base ih st listed m j ob := fun j ob => by
    unfold Pnd
    rw [lst_set U.lt]
    constructor
    · rintro ⟨h1 | h1, h2, h3⟩
      · subst h1
        exact absurd h2 (hno ob)
      · exact ⟨h1, h2, h3⟩
    · rintro ⟨h1, h2, h3⟩
      exact ⟨.inr h1, h2, h3⟩
  obtain ⟨e1, e2⟩ := M.env_put R U T
  refine ⟨M.le, fun j oj hj h3 => ?_, e1, e2, M.er.putO T.dst hv, M.next, M.room, fun j ob h => M.get1 j ob ((hp j ob).1 h), fun id h => M.get2 id fun j ob hq => h j ob ((hp j ob).2 hq), M.hr, M.stp, fun j hj hl => M.names j hj (not_lst_set U.lt hl).2, fun j ob h => M.excl j ob ((hp j ob).1 h), fun j ob h => M.own1 j ob ((hp j ob).1 h)⟩
  rw [lst_set U.lt]
  have hji : j ≠ i := by
    rintro rfl
    rw [U.op] at hj
    injection hj with hj
    subst hj
    exact hk h3
  simp only [hji, false_or]
  exact M.stage j oj hj h3

/-- one that makes memory -/
theorem Mid.make (R : Row0 P N ops base ih st) (S : Start (st 0) h0 base ops.toList.length) (hfresh : ∀ id, base ≤ id → h0.objs.get id = none) (M : Mid P N ops base ih st h0 ι0 w0 listed m eD ι hD a w) {i : Nat} {o : Oper} (U : Turn ops listed i o) {v : AV} (T : Told P N ops base ih i o (st i) (st (i + 1)) true v)
    (hk : kindOp o.op = 2) {ob : AObj} (hmade : Made P ops base ih st i ob) (hown : isOwn (some ob) = true) {obj : Obj} {b size : Nat} {u : Value} (hv : VR (upd ι (base + i) ⟨w.heap.size, b, size⟩) v u) (ho : OR (w.alloc obj) (upd ι (base + i) ⟨w.heap.size, b, size⟩) (base + i) ob) :
    Mid P N ops base ih st h0 ι0 w0 (listed.setIfInBounds i true) m ((csetO o.dst).set v eD) (upd ι (base + i) ⟨w.heap.size, b, size⟩) ⟨hD.objs.set (some ob) (base + i), hD.next⟩ (a.put o.dst u) (w.alloc obj) := by
  have hi : i < ops.toList.length := (List.getElem?_eq_some_iff.1 U.op).1
  have hn : ι (base + i) = none := M.names i hi U.off
  have hnm : ¬ MergedBy ops m i := by
    rintro ⟨x, ox, hx, hox, h3, hanc⟩
    have := M.fwd U x ox hx hox h3
    rw [this] at hanc
    cases hanc
  have hget : hD.objs.get (base + i) = none := by
    rw [M.get2 (base + i) fun j ob hp hj => U.off (by rw [show i = j by omega]; exact hp.1)]
    exact R.unborn S hfresh m M.le i o U.op hk hnm
  have hp : ∀ j ob', Pnd P ops base ih st (listed.setIfInBounds i true) m j ob' ↔ (j = i ∧ ob' = ob) ∨ (j ≠ i ∧ Pnd P ops base ih st listed m j ob') := fun j ob' => by
    unfold Pnd
    rw [lst_set U.lt]
    constructor
    · rintro ⟨h1, h2, h3⟩
      by_cases hji : j = i
      · subst hji
        exact .inl ⟨rfl, h2.one hmade⟩
      · exact .inr ⟨hji, h1.resolve_left hji, h2, h3⟩
    · rintro (⟨rfl, rfl⟩ | ⟨_, h1, h2, h3⟩)
      · exact ⟨.inl rfl, hmade, hnm⟩
      · exact ⟨.inr h1, h2, h3⟩
  have hext : Ext ι (upd ι (base + i) ⟨w.heap.size, b, size⟩) := upd_ext hn
  obtain ⟨e1, e2⟩ := M.env_put R U T
  refine ⟨M.le, fun j oj hj h3 => ?_, e1, e2, (M.er.ext hext).putO T.dst hv, M.next, M.room, fun j ob' h => ?_, fun id h => ?_, M.hr.pushAt (base + i) ob obj b size (by have := M.room; omega) hn hget rfl ho, M.stp.pushAt (base + i) ob obj b size (by have := S.next; omega) hn rfl, fun j hj hl => ?_, fun j ob' h l hl id l' hid hl' => ?_, fun j ob' h => ?_⟩
  · rw [lst_set U.lt]
    have hji : j ≠ i := by
      rintro rfl
      rw [U.op] at hj
      injection hj with hj
      subst hj
      omega
    simp only [hji, false_or]
    exact M.stage j oj hj h3
  · rcases (hp j ob').1 h with ⟨rfl, rfl⟩ | ⟨hji, h⟩
    · exact Tr.get_set _ _ _
    · show (hD.objs.set (some ob) (base + i)).get (base + j) = some ob'
      rw [Tr.get_set_ne _ _ _ _ (by omega)]
      exact M.get1 j ob' h
  · have hidi : id ≠ base + i := h i ob ((hp i ob).2 (.inl ⟨rfl, rfl⟩))
    show (hD.objs.set (some ob) (base + i)).get id = _
    rw [Tr.get_set_ne _ _ _ _ hidi]
    refine M.get2 id fun j ob' hq => h j ob' ((hp j ob').2 (.inr ⟨fun e => U.off (e ▸ hq.1), hq⟩))
  · obtain ⟨h1, h2⟩ := not_lst_set U.lt hl
    rw [upd_ne (by omega)]
    exact M.names j hj h2
  · rcases (hp j ob').1 h with ⟨rfl, rfl⟩ | ⟨hji, h⟩
    · rw [upd_same] at hl
      injection hl with hl
      subst hl
      rw [upd_ne hid] at hl'
      have := M.hr.lt id l' hl'
      simp only
      omega
    · rw [upd_ne (by omega)] at hl
      by_cases hidi : id = base + i
      · subst hidi
        rw [upd_same] at hl'
        injection hl' with hl'
        subst hl'
        have := M.hr.lt _ l hl
        simp only
        omega
      · rw [upd_ne hidi] at hl'
        exact M.excl j ob' h l hl id l' hid hl'
  · rcases (hp j ob').1 h with ⟨rfl, rfl⟩ | ⟨_, h⟩
    · exact hown
    · exact M.own1 j ob' h

/-- memory without what is not due yet -/
theorem Mid.due (R : Row0 P N ops base ih st) (S : Start (st 0) h0 base ops.toList.length) (hfresh : ∀ id, base ≤ id → h0.objs.get id = none) (M : Mid P N ops base ih st h0 ι0 w0 listed m eD ι hD a w) : HR (st m).h ι w ∧ Stp hD ι w (st m).h ι w := by
  refine M.hr.sub (fun id ob hid => ?_) M.next.symm
  rw [← hid]
  refine M.get2 id fun j ob' hp hj => ?_
  subst hj
  obtain ⟨_, ⟨oj, _, hoj, hk, _⟩, hm⟩ := hp
  rw [R.unborn S hfresh m M.le j oj hoj hk hm] at hid
  cases hid

/-- memory as a reader sees it -/
theorem Mid.seen (R : Row0 P N ops base ih st) (S : Start (st 0) h0 base ops.toList.length) (hfresh : ∀ id, base ≤ id → h0.objs.get id = none) (M : Mid P N ops base ih st h0 ι0 w0 listed m eD ι hD a w) {i : Nat} {o : Oper} (U : Turn ops listed i o)
    (hpk : pendOk ops.toList (ancs ops.toList []) i (st i).pend = true) : HR ⟨(mergeP (ancs ops.toList []) base i (st i).pend (st m).h.objs).1, (st m).h.next⟩ ι w := by
  have hi : i < ops.toList.length := (List.getElem?_eq_some_iff.1 U.op).1
  refine (M.hr.sub (h' := ⟨(mergeP (ancs ops.toList []) base i (st i).pend (st m).h.objs).1, (st m).h.next⟩) (fun id ob hid => ?_) M.next.symm).1
  rcases mergeP_get _ _ hid with h | ⟨j, rfl, hj, hanc⟩
  · rw [← h]
    refine M.get2 id fun j ob' hp hj => ?_
    subst hj
    obtain ⟨_, ⟨oj, _, hoj, hk, _⟩, hm⟩ := hp
    rw [R.unborn S hfresh m M.le j oj hoj hk hm] at h
    cases h
  · obtain ⟨h1, h2, h3⟩ := (R.pend_iff S i (by omega) j ob).1 hj
    refine M.get1 j ob ⟨U.anc j hanc, h2, fun ⟨x, ox, hx, hox, hkx, hax⟩ => ?_⟩
    by_cases hxi : x < i
    · exact h3 ⟨x, ox, hxi, hox, hkx, hax⟩
    · have hne : i ≠ x := by
        rintro rfl
        have := isAnc_lt R.edges _ _ hanc
        have hf := M.fwd U
        exact absurd ((M.stage i ox hox hkx).2 hx) U.off
      have h4 := pendOk_spec hpk hj hanc (by omega) hox hkx hax
      rw [M.fwd U x ox hx hox hkx] at h4
      cases h4

end
end Go.Proofs.YtfmlgiafkbakcaaGreatDoor.Ev

namespace Go.Proofs.YtfmlgiafkbakcaaGreatDoor.Ev

section
variable {P : Program} {N : Nat} {ops : Array Oper} {base : Nat} {ih : CF} {st : Nat → DS}
variable {h0 : H} {ι0 : Io} {w0 : World} {listed : Array Bool} {m : Nat} {eD : E} {ι : Io} {hD : H} {a : Act} {w : World}

theorem effs_spec {A : List Nat} (h : effsOk ops A = true) {i j : Nat} {oi oj : Oper} (hi : ops.toList[i]? = some oi) (hj : ops.toList[j]? = some oj) (hij : i < j) (h1 : kindOp oi.op = 3) (h2 : kindOp oj.op = 3) : isAnc A i j = true := by
  have hi' : i < ops.size := by have := (List.getElem?_eq_some_iff.1 hi).1; simpa using this
  have hj' : j < ops.size := by have := (List.getElem?_eq_some_iff.1 hj).1; simpa using this
  unfold effsOk at h
  have h3 := List.all_eq_true.1 (List.all_eq_true.1 h i (List.mem_range.2 hi')) j (List.mem_range.2 hj')
  have hoi : ops[i]? = some oi := by simpa using hi
  have hoj : ops[j]? = some oj := by simpa using hj
  simp only [hoi, hoj, h1, h2] at h3
  have hb : Nat.blt i j = true := by simpa using hij
  simpa [hb] using h3

/-- all those ahead of it in the row that may do anything have come up -/
def Behind (ops : Array Oper) (listed : Array Bool) (i : Nat) : Prop := ∀ y o, y < i → ops.toList[y]? = some o → kindOp o.op = 3 → Lst listed y

/-- where it stands -/
theorem Mid.here (R : Row0 P N ops base ih st) (M : Mid P N ops base ih st h0 ι0 w0 listed m eD ι hD a w) {i : Nat} {o : Oper} (U : Turn ops listed i o) (hk : kindOp o.op = 3) (hb : Behind ops listed i) : m ≤ i ∧ (∀ y o', m ≤ y → y < i → ops.toList[y]? = some o' → kindOp o'.op ≠ 3) ∧ (st i).h = (st m).h ∧ ∀ j, MergedBy ops i j ↔ MergedBy ops m j := by
  have hi : i < ops.toList.length := (List.getElem?_eq_some_iff.1 U.op).1
  have hmi : m ≤ i := by
    refine Nat.le_of_not_lt fun h => U.off ((M.stage i o U.op hk).2 h)
  have hno : ∀ y o', m ≤ y → y < i → ops.toList[y]? = some o' → kindOp o'.op ≠ 3 := fun y o' h1 h2 h3 h4 => by
    have h5 := (M.stage y o' h3 h4).1 (hb y o' h2 h3 h4)
    omega
  refine ⟨hmi, hno, R.h_same m i hmi (by omega) hno, fun j => ⟨fun ⟨x, ox, h1, h2, h3, h4⟩ => ⟨x, ox, ?_, h2, h3, h4⟩, fun ⟨x, ox, h1, h2, h3, h4⟩ => ⟨x, ox, by omega, h2, h3, h4⟩⟩⟩
  exact Nat.lt_of_not_le fun h => hno x ox h h1 h2 h3

/-- the memory that it finds -/
theorem Mid.find (R : Row0 P N ops base ih st) (S : Start (st 0) h0 base ops.toList.length) (hfresh : ∀ id, base ≤ id → h0.objs.get id = none) (M : Mid P N ops base ih st h0 ι0 w0 listed m eD ι hD a w) {i : Nat} {o : Oper} (U : Turn ops listed i o) (hk : kindOp o.op = 3) (hb : Behind ops listed i)
    {t : Tr AObj} {rest : List (Nat × AObj)} (hm : mergeP (ancs ops.toList []) base i (st i).pend (st i).h.objs = (t, rest)) :
    (HR ⟨t, (st i).h.next⟩ ι w ∧ Stp hD ι w ⟨t, (st i).h.next⟩ ι w) ∧ ∀ j ob, Made P ops base ih st j ob → ¬ MergedBy ops (i + 1) j → t.get (base + j) = none := by
  have hi : i < ops.toList.length := (List.getElem?_eq_some_iff.1 U.op).1
  obtain ⟨hmi, hno, hh, hmb⟩ := M.here R U hk hb
  have hpend := R.pend_iff S i (by omega)
  refine ⟨M.hr.sub (fun id ob hid => ?_) (by rw [M.next, hh]), fun j ob hj hn => ?_⟩
  · have hid' : (mergeP (ancs ops.toList []) base i (st i).pend (st i).h.objs).1.get id = some ob := by rw [hm]; exact hid
    rcases mergeP_get _ _ hid' with h | ⟨j, rfl, hj, hanc⟩
    · rw [hh] at h
      rw [← h]
      refine M.get2 id fun j ob' hp hj => ?_
      subst hj
      obtain ⟨_, ⟨oj, _, hoj, hkj, _⟩, hmj⟩ := hp
      rw [R.unborn S hfresh m M.le j oj hoj hkj hmj] at h
      cases h
    · obtain ⟨h1, h2, h3⟩ := (hpend j ob).1 hj
      exact M.get1 j ob ⟨U.anc j hanc, h2, fun h => h3 ((hmb j).2 h)⟩
  · have hni : ¬ MergedBy ops i j := fun h => hn ((MergedBy.succ U.op).2 (.inl h))
    have hna : isAnc (ancs ops.toList []) j i = false := by
      cases hc : isAnc (ancs ops.toList []) j i with
      | false => rfl
      | true => exact absurd ((MergedBy.succ U.op).2 (.inr ⟨hk, hc⟩)) hn
    cases hg : t.get (base + j) with
    | none => rfl
    | some ob' =>
      exfalso
      have hid' : (mergeP (ancs ops.toList []) base i (st i).pend (st i).h.objs).1.get (base + j) = some ob' := by rw [hm]; exact hg
      rcases mergeP_get _ _ hid' with h | ⟨j', hjj, hj', hanc⟩
      · obtain ⟨oj, _, hoj, hkj, _⟩ := hj
        rw [R.unborn S hfresh i (by omega) j oj hoj hkj hni] at h
        cases h
      · rw [show j = j' by omega, hanc] at hna
        cases hna

/-- one that may do anything -/
theorem Mid.effect (R : Row0 P N ops base ih st) (S : Start (st 0) h0 base ops.toList.length) (hfresh : ∀ id, base ≤ id → h0.objs.get id = none) (M : Mid P N ops base ih st h0 ι0 w0 listed m eD ι hD a w) {i : Nat} {o : Oper} (U : Turn ops listed i o) (hk : kindOp o.op = 3) (hb : Behind ops listed i)
    {b : Bool} {v : AV} (T : Told P N ops base ih i o (st i) (st (i + 1)) b v) {t : Tr AObj} {rest : List (Nat × AObj)} (hm : mergeP (ancs ops.toList []) base i (st i).pend (st i).h.objs = (t, rest))
    {ι' : Io} {u : Value} {w' : World} (hv : VR ι' v u) (hh' : HR (st (i + 1)).h ι' w') (hs : Stp ⟨t, (st i).h.next⟩ ι w (st (i + 1)).h ι' w') :
    ∃ hD', Mid P N ops base ih st h0 ι0 w0 (listed.setIfInBounds i true) (i + 1) ((csetO o.dst).set v eD) ι' hD' (a.put o.dst u) w' := by
  have hi : i < ops.toList.length := (List.getElem?_eq_some_iff.1 U.op).1
  obtain ⟨hmi, hno, hhe, hmb⟩ := M.here R U hk hb
  obtain ⟨⟨hf1, hf2⟩, hf3⟩ := M.find R S hfresh U hk hb hm
  have hroom : base + ops.toList.length ≤ (st (i + 1)).h.next := by
    have h1 := M.room
    have h2 := hf2.next
    have h3 := hs.next
    omega
  have hroomI : base + ops.toList.length ≤ (st i).h.next := by
    have h1 := M.room
    have h2 := hf2.next
    simp only at h2
    omega
  -- who waits
  have hp : ∀ j ob, Pnd P ops base ih st (listed.setIfInBounds i true) (i + 1) j ob → Pnd P ops base ih st listed m j ob ∧ ¬ MergedBy ops (i + 1) j := fun j ob ⟨h1, h2, h3⟩ => by
    refine ⟨⟨?_, h2, fun h => h3 ((MergedBy.succ U.op).2 (.inl ((hmb j).2 h)))⟩, h3⟩
    rcases (lst_set U.lt).1 h1 with rfl | h1
    · obtain ⟨oj, _, hoj, hkj, _⟩ := h2
      rw [U.op] at hoj
      injection hoj with hoj
      subst hoj
      omega
    · exact h1
  have hcl : ∃ X : Nat → Option AObj, ∀ j ob, X j = some ob ↔ Pnd P ops base ih st (listed.setIfInBounds i true) (i + 1) j ob := by
    classical
    refine ⟨fun j => if hx : ∃ ob, Pnd P ops base ih st (listed.setIfInBounds i true) (i + 1) j ob then some hx.choose else none, fun j ob => ?_⟩
    by_cases hx : ∃ ob, Pnd P ops base ih st (listed.setIfInBounds i true) (i + 1) j ob
    · simp only [hx, dif_pos, Option.some.injEq]
      constructor
      · intro e
        subst e
        exact hx.choose_spec
      · intro h
        exact hx.choose_spec.2.1.one h.2.1
    · simp only [hx, dif_neg, not_false_iff]
      exact ⟨fun h => (by cases h), fun h => absurd ⟨ob, h⟩ hx⟩
  obtain ⟨X, hX⟩ := hcl
  obtain ⟨t', k1, k2⟩ := over base X (st (i + 1)).h.objs ops.toList.length
  have hlt : ∀ j ob, X j = some ob → j < ops.toList.length := fun j ob h => by
    obtain ⟨_, ⟨oj, _, hoj, _⟩, _⟩ := (hX j ob).1 h
    exact (List.getElem?_eq_some_iff.1 hoj).1
  -- a waiting one's block
  have hblk : ∀ j ob, X j = some ob → ∃ l, ι (base + j) = some l ∧ l.g < w.heap.size ∧ OR w ι (base + j) ob ∧ isOwn (hD.objs.get (base + j)) = true ∧ ¬ Owned ⟨t, (st i).h.next⟩ ι l.g ∧ ∀ id l', id ≠ base + j → ι' id = some l' → l'.g ≠ l.g := fun j ob hx => by
    obtain ⟨hpn, hnm⟩ := hp j ob ((hX j ob).1 hx)
    have hg := M.get1 j ob hpn
    have hor := M.hr.obj _ _ hg
    obtain ⟨l, hl, hlg⟩ := hor.lt
    have hex := M.excl j ob hpn l hl
    have hnown : ¬ Owned ⟨t, (st i).h.next⟩ ι l.g := by
      rintro ⟨id, l', h1, h2, h3⟩
      by_cases hid : id = base + j
      · subst hid
        simp only at h3
        rw [hf3 j ob hpn.2.1 hnm] at h3
        cases h3
      · exact hex id l' hid h1 h2
    have hown : isOwn (hD.objs.get (base + j)) = true := by
      rw [hg]
      exact M.own1 j ob hpn
    refine ⟨l, hl, hlg, hor, hown, hnown, fun id l' hid hl' => ?_⟩
    cases hi0 : ι id with
    | some l'' =>
      have := hs.ext _ _ hi0
      rw [hl'] at this
      injection this with this
      subst this
      exact hex id _ hid hi0
    | none =>
      rcases (hs.new id l' hl' hi0).2 with h1 | h1
      · omega
      · exact fun e => hnown (e ▸ h1)
  have hg1 : ∀ j ob, X j = some ob → t'.get (base + j) = some ob := fun j ob hx => k1 j ob (hlt j ob hx) hx
  have hcases : ∀ id ob, t'.get id = some ob → (∃ j, id = base + j ∧ X j = some ob) ∨ (st (i + 1)).h.objs.get id = some ob ∧ ∀ j, X j ≠ none → id ≠ base + j := fun id ob hid => by
    by_cases hx : ∃ j, X j ≠ none ∧ id = base + j
    · obtain ⟨j, hj, rfl⟩ := hx
      cases hxj : X j with
      | none => exact absurd hxj hj
      | some ob' =>
        rw [hg1 j ob' hxj] at hid
        injection hid with hid
        subst hid
        exact .inl ⟨j, rfl, hxj⟩
    · have hx' : ∀ j, X j ≠ none → id ≠ base + j := fun j h1 h2 => hx ⟨j, h1, h2⟩
      rw [k2 id fun j _ h => hx' j h] at hid
      exact .inr ⟨hid, hx'⟩
  have hs2 : Stp h0 ι0 w0 (st (i + 1)).h ι' w' := (M.stp.trans hf2).trans hs
  obtain ⟨e1, e2⟩ := M.env_put R U T
  refine ⟨⟨t', (st (i + 1)).h.next⟩, ⟨by omega, fun j oj hj h3 => ?_, e1, e2, (M.er.ext hs.ext).putO T.dst hv, rfl, hroom, fun j ob h => hg1 j ob ((hX j ob).2 h), fun id h => k2 id fun j _ hx => ?_, ⟨fun id ob hid => ?_, fun x y ox oy la lb hx hy hxy hown hla hlb hg => ?_, fun id hid => ?_, hh'.lt⟩, ⟨hs2.ext, hs2.size, hs2.blk, fun g hg => ?_, hs2.os, hs2.tape, hs2.output, hs2.next, hs2.new⟩, fun j hj hl => ?_, fun j ob h l hl id l' hid hl' => ?_, fun j ob h => M.own1 j ob (hp j ob h).1⟩⟩
  · rw [lst_set U.lt]
    constructor
    · rintro (rfl | hl)
      · omega
      · have := (M.stage j oj hj h3).1 hl
        omega
    · intro hlt2
      by_cases hji : j = i
      · exact .inl hji
      · exact .inr (hb j oj (by omega) hj h3)
  · cases hxj : X j with
    | none => exact absurd hxj hx
    | some ob => exact h j ob ((hX j ob).1 hxj)
  · rcases hcases id ob hid with ⟨j, rfl, hxj⟩ | ⟨h1, _⟩
    · obtain ⟨l, hl, hlg, hor, _, hno', _⟩ := hblk j ob hxj
      refine hor.ext hs.ext fun l' hl' => ?_
      rw [hl] at hl'
      injection hl' with hl'
      subst hl'
      exact hs.blk _ hlg hno'
    · exact hh'.obj id ob h1
  · rcases hcases x ox hx with ⟨j, rfl, hxj⟩ | ⟨h1, _⟩
    · obtain ⟨l, hl, _, _, _, _, hex⟩ := hblk j ox hxj
      rw [hs.ext _ _ hl] at hla
      injection hla with hla
      subst hla
      exact absurd hg.symm (hex y lb (Ne.symm hxy) hlb)
    · rcases hcases y oy hy with ⟨j, rfl, hyj⟩ | ⟨h2, _⟩
      · obtain ⟨l, hl, _, _, _, _, hex⟩ := hblk j oy hyj
        rw [hs.ext _ _ hl] at hlb
        injection hlb with hlb
        subst hlb
        exact absurd hg (hex x la hxy hla)
      · exact hh'.share x y ox oy la lb h1 h2 hxy hown hla hlb hg
  · have hid' : (st (i + 1)).h.next ≤ id := hid
    obtain ⟨h1, h2⟩ := hh'.fresh id hid'
    refine ⟨?_, h2⟩
    show t'.get id = none
    rw [k2 id fun j hj _ => by omega]
    exact h1
  · obtain ⟨id, l, hl, hlg, hown⟩ := hg
    cases hid : t'.get id with
    | none => simp only at hown; rw [hid] at hown; cases hown
    | some ob =>
      rcases hcases id ob hid with ⟨j, rfl, hxj⟩ | ⟨h1, _⟩
      · obtain ⟨l', hl', _, _, hown', _, _⟩ := hblk j ob hxj
        rw [hs.ext _ _ hl'] at hl
        injection hl with hl
        subst hl
        exact M.stp.own g ⟨base + j, l', hl', hlg, hown'⟩
      · refine hs2.own g ⟨id, l, hl, hlg, ?_⟩
        rw [h1]
        simp only at hown
        rwa [hid] at hown
  · obtain ⟨h1, h2⟩ := not_lst_set U.lt hl
    have hn := M.names j hj h2
    cases hc : ι' (base + j) with
    | none => rfl
    | some l =>
      have := (hs.new _ l hc hn).1
      simp only at this
      omega
  · obtain ⟨l0, hl0, _, _, _, _, hex⟩ := hblk j ob ((hX j ob).2 h)
    rw [hs.ext _ _ hl0] at hl
    injection hl with hl
    subst hl
    exact hex id l' hid hl'

end
end Go.Proofs.YtfmlgiafkbakcaaGreatDoor.Ev

namespace Go.Proofs.YtfmlgiafkbakcaaGreatDoor.Ev

section
variable {P : Program} {N : Nat} {ops : Array Oper} {base : Nat} {ih : CF} {st : Nat → DS}
variable {h0 : H} {ι0 : Io} {w0 : World} {listed : Array Bool}

theorem copK_pure [LaidOut P] {ih : CF} {a : Act} {o : Oper} {ι : Io} {w : World} {h h' : H} {v : AV} (hh : HR h ι w) {e : E} (hE : ER N ι e a) (hk : kindOp o.op ≤ 1) (hr : (copK P o.op).run ih e h = .ok v h') : PureR P a o v h ι w h' := by
  unfold copK at hr
  split at hr
  · rename_i hops; exact cop_pure hh hE hops hk hr
  · simp only [no] at hr; cases hr

theorem copK_heap0 {ih : CF} {o : Oper} {h h' : H} {v : AV} {e : E} (hk : kindOp o.op = 0) (hnil : ∀ id, h.objs.get id = none) (hr : (copK P o.op).run ih e h = .ok v h') (h2 : H) : (copK P o.op).run ih e h2 = .ok v h2 := by
  unfold copK at hr ⊢
  split at hr
  · exact cop_heap0 hk hnil hr h2
  · simp only [no] at hr; cases hr

theorem Inv.step [LaidOut P] {Q : Exit → Act → World → Prop} {K : Keep} (hi : SoundCF P K ih) (hK0 : K.ok h0 ι0 w0) (R : Row0 P N ops base ih st) (S : Start (st 0) h0 base ops.toList.length) (hfresh : ∀ id, base ≤ id → h0.objs.get id = none) {a : Act} {w : World} (I : Inv P N ops base ih st h0 ι0 w0 listed a w) {i : Nat} {o : Oper} (U : Turn ops listed i o) (he : ∀ e ∈ edges o, Lst listed e) (hbe : kindOp o.op = 3 → Behind ops listed i) :
    wpOp P ops Q i (fun a' w' => Inv P N ops base ih st h0 ι0 w0 (listed.setIfInBounds i true) a' w') a w := by
  obtain ⟨m, eD, ι, hD, M⟩ := I.mid
  obtain ⟨b, v, T⟩ := R.told U.op
  have hw := M.same_want R U T.want
  have hoi : ops[i]? = some o := by simpa using U.op
  have hil : i < ops.toList.length := (List.getElem?_eq_some_iff.1 U.op).1
  unfold wpOp
  rw [hoi]
  simp only
  cases b with
  | false =>
    rw [if_neg (by rw [hw]; decide)]
    have hvn := T.idle rfl
    subst hvn
    have hv : ∀ ι, VR ι (.tup .nil) undef := fun _ => ⟨[], rfl, rfl⟩
    by_cases h3 : kindOp o.op = 3
    · obtain ⟨t, rest, hm, _, _, hh, _⟩ := T.eff h3
      obtain ⟨⟨hf1, _⟩, _⟩ := M.find R S hfresh U h3 (hbe h3) hm
      have hh := hh rfl
      rw [← hh] at hf1
      obtain ⟨hD', M'⟩ := M.effect R S hfresh U h3 (hbe h3) T hm (hv ι) hf1 (by rw [hh]; exact Stp.refl _ _ _)
      exact I.of_mid U he M'
    · refine I.of_mid U he (M.quiet R U T h3 (fun ob hmade => ?_) (hv ι))
      obtain ⟨o', v', h1, _, h2, _⟩ := hmade
      rw [U.op] at h1
      injection h1 with h1
      subst h1
      have := T.want
      rw [h2] at this
      cases this
  | true =>
    rw [if_pos hw]
    refine .inl ?_
    have hquiet : kindOp o.op ≤ 1 → ∀ h, HR h ι w → (∃ h', (copK P o.op).run ih eD h = .ok v h') → o.wp P a w (fun a' w' => Inv P N ops base ih st h0 ι0 w0 (listed.setIfInBounds i true) a' w') Q := by
      rintro hk h hh ⟨h', hr⟩
      obtain ⟨_, u, hrun, hv⟩ := copK_pure (N := N) hh M.er hk hr
      unfold Oper.wp
      rw [hrun]
      refine I.of_mid U he (M.quiet R U T (by omega) (fun ob hmade => ?_) hv)
      obtain ⟨o', v', h1, h2, _⟩ := hmade
      rw [U.op] at h1
      injection h1 with h1
      subst h1
      omega
    have hk3 := kind_le o.op
    by_cases k0 : kindOp o.op = 0
    · obtain ⟨h', hr⟩ := T.pure0 rfl k0
      refine hquiet (by omega) hD M.hr ⟨hD, ?_⟩
      rw [M.same_run R U]
      exact copK_heap0 k0 (fun _ => rfl) hr hD
    · by_cases k1 : kindOp o.op = 1
      · obtain ⟨_, _, _, hpk⟩ := T.read rfl k1
        refine hquiet (by omega) _ (M.seen R S hfresh U hpk) ?_
        rw [M.same_run R U]
        exact R.reader S U.op T k1 M.le (fun y o' h1 _ h2 h3 => M.back U y o' h1 h2 h3) (fun y o' _ h1 h2 h3 => M.fwd U y o' h1 h2 h3)
      · by_cases k2 : kindOp o.op = 2
        · obtain ⟨ob, hal, _⟩ := T.make rfl k2
          have hmade : Made P ops base ih st i ob := ⟨o, v, U.op, k2, T.want, hal⟩
          obtain ⟨h1, hrun, hob⟩ := allocA_spec hal
          rw [← M.same_run R U] at hrun
          obtain ⟨hown, obj, b, size, u, hr, hpost⟩ := alloc_core (w := w) M.er k2 hrun hob
          obtain ⟨hv, ho⟩ := hpost (upd ι (base + i) ⟨w.heap.size, b, size⟩) (upd_ext (M.names i hil U.off)) upd_same
          unfold Oper.wp
          rw [hr]
          exact I.of_mid U he (M.make R S hfresh U T k2 hmade hown hv ho)
        · have h3 : kindOp o.op = 3 := by omega
          obtain ⟨t, rest, hm, _, hrun, _⟩ := T.eff h3
          obtain ⟨⟨hf1, hf2⟩, _⟩ := M.find R S hfresh U h3 (hbe h3) hm
          have hrun := hrun rfl
          rw [← M.same_run R U] at hrun
          refine copK_ok hi hf1 (K.step hK0 (M.stp.trans hf2)) M.er hrun _ _ fun ι' u w' hv hh hs => ?_
          obtain ⟨hD', M'⟩ := M.effect R S hfresh U h3 (hbe h3) T hm hv hh hs
          exact I.of_mid U he M'

theorem all_listed (hk : edgesOk 0 ops.toList = true) (hsz : listed.size = ops.size) (hr : Region.ready .any ops listed = []) : ∀ i, i < ops.size → Lst listed i := by
  intro i
  induction i using Nat.strongRecOn with
  | _ i ihi =>
    intro hi
    cases hc : listed.getD i false with
    | true => exact hc
    | false =>
      exfalso
      have hm : i ∈ Region.ready .any ops listed := by
        unfold Region.ready
        refine List.mem_filter.2 ⟨List.mem_range.2 hi, ?_⟩
        have hil : i < listed.size := by omega
        have h1 : listed.getD i true = false := by
          simpa [Array.getD_eq_getD_getElem?, Array.getElem?_eq_getElem hil] using hc
        rw [h1, Array.getElem?_eq_getElem hi]
        simp only [Bool.not_false, Bool.true_and, Option.map_some, Option.getD_some]
        refine Array.all_eq_true_iff_forall_mem.2 fun x hx => ?_
        cases hb : Region.binds .any x with
        | false => rfl
        | true =>
          have ho : ops.toList[i]? = some ops[i] := by simp [hi]
          have hx2 : x.on ∈ edges ops[i] := by
            unfold edges
            exact List.mem_map.2 ⟨x, List.mem_filter.2 ⟨by simpa using hx, hb⟩, rfl⟩
          have hlt := edgesOk_spec _ 0 hk i _ ho x.on hx2
          have := ihi x.on (by omega) (by omega)
          simp only [Bool.not_true, Bool.false_or]
          exact this
      rw [hr] at hm
      cases hm

theorem Inv.done (R : Row0 P N ops base ih st) (S : Start (st 0) h0 base ops.toList.length) (hfresh : ∀ id, base ≤ id → h0.objs.get id = none) {a : Act} {w : World} (I : Inv P N ops base ih st h0 ι0 w0 listed a w) (hr : Region.ready .any ops listed = []) :
    PostR N h0 ι0 w0 (.norm (st ops.toList.length).e ⟨mergeAll base (st ops.toList.length).pend (st ops.toList.length).h.objs, (st ops.toList.length).h.next⟩) .normal a w := by
  have hall := all_listed R.edges I.size hr
  obtain ⟨m, eD, ι, hD, M⟩ := I.mid
  have hlen : ops.toList.length = ops.size := by simp
  have hl : ∀ j o, ops.toList[j]? = some o → Lst listed j := fun j o hj => hall j (by have := (List.getElem?_eq_some_iff.1 hj).1; omega)
  have hno : ∀ y o', m ≤ y → y < ops.toList.length → ops.toList[y]? = some o' → kindOp o'.op ≠ 3 := fun y o' h1 _ h2 h3 => by
    have := (M.stage y o' h2 h3).1 (hl y o' h2)
    omega
  have hh := R.h_same m _ M.le (Nat.le_refl _) hno
  have hmb : ∀ j, MergedBy ops m j → MergedBy ops ops.toList.length j := fun j ⟨x, ox, h1, h2, h3, h4⟩ => ⟨x, ox, by have := M.le; omega, h2, h3, h4⟩
  obtain ⟨h1, h2⟩ := M.hr.sub (h' := ⟨mergeAll base (st ops.toList.length).pend (st ops.toList.length).h.objs, (st ops.toList.length).h.next⟩) (fun id ob hid => by
    rcases mergeAll_get _ _ hid with h | ⟨j, rfl, hj⟩
    · rw [hh] at h
      rw [← h]
      refine M.get2 id fun j ob' hp hj => ?_
      subst hj
      obtain ⟨_, ⟨oj, _, hoj, hk, _⟩, hm⟩ := hp
      rw [R.unborn S hfresh m M.le j oj hoj hk hm] at h
      cases h
    · obtain ⟨q1, q2, q3⟩ := (R.pend_iff S _ (Nat.le_refl _) j ob).1 hj
      exact M.get1 j ob ⟨hall j (by omega), q2, fun h => q3 (hmb j h)⟩) (by rw [M.next, hh])
  refine ⟨rfl, ι, ⟨M.er.size, M.er.defers, fun t ht => ?_⟩, h1, M.stp.trans h2⟩
  have hE : getE t eD = getE t (st ops.toList.length).e := by
    by_cases hw : ∃ j o, Lst listed j ∧ ops.toList[j]? = some o ∧ o.dst = some t
    · exact M.envW t ht hw
    · rw [M.envN t ht hw]
      refine ((R.env_at ht _ (Nat.le_refl _)).2 fun ⟨j, o, _, hj, hd⟩ => hw ⟨j, o, hl j o hj, hj, hd⟩).symm
  rw [← hE]
  exact M.er.at_ t ht

end

/-- a region that draws its order -/
theorem dops1_ok {P : Program} [LaidOut P] {K : Keep} {N : Nat} (hm : P.follows .mixedOrders = true) (id : Nat) (ops : Array Oper) : SoundC P K N (.region id ops true) (dops1 P N ops) := by
  intro ih hi e h ι a w hE hh hK hg
  unfold dops1 at hg ⊢
  have hdi : ∀ A b, dinfo ops = ⟨b, A⟩ → b = true → A = ancs ops.toList [] ∧ edgesOk 0 ops.toList = true ∧ slotsOk ops (ancs ops.toList []) = true ∧ effsOk ops (ancs ops.toList []) = true := by
    intro A b hd hb
    unfold dinfo at hd
    injection hd with h1 h2
    subst h2 hb
    simp only [Bool.and_eq_true] at h1
    exact ⟨rfl, h1.1.1.1, h1.1.1.2, h1.1.2⟩
  cases hd : dinfo ops with
  | mk b A =>
    rw [hd] at hg
    obtain ⟨k0, k1, k2, k3⟩ | hb : (A = ancs ops.toList [] ∧ edgesOk 0 ops.toList = true ∧ slotsOk ops (ancs ops.toList []) = true ∧ effsOk ops (ancs ops.toList []) = true) ∨ b = false := by
      cases b with
      | true => exact .inl (hdi A true hd rfl)
      | false => exact .inr rfl
    rotate_left
    · subst hb
      cases hg
    cases b with
    | false => cases hg
    | true =>
      subst k0
      simp only at hg ⊢
      cases hr : dgo P N ops (ancs ops.toList []) h.next ih 0 ops.toList ⟨e, ⟨h.objs, Nat.add h.next ops.size⟩, [(0, ⟨h.objs, Nat.add h.next ops.size⟩)], [], []⟩ with
      | fail y => rw [hr] at hg; cases hg
      | ok s =>
        simp only
        obtain ⟨st, s0, s1, s2⟩ := dgo_spec _ _ _ _ hr
        have hlen : ops.toList.length = ops.size := by simp
        have R : Row P N ops h.next ih st := ⟨⟨k1, k2, fun i o hio => by simpa using s2 i o hio⟩, k3⟩
        have S : Start (st 0) h h.next ops.toList.length := by
          rw [s0]
          exact ⟨by rw [hlen]; rfl, rfl, rfl, rfl⟩
        have hfresh : ∀ id, h.next ≤ id → h.objs.get id = none := fun id hid => (hh.fresh id hid).1
        rw [Nat.zero_add] at s1
        rw [← s1]
        refine wp_region_any hm ?_
        refine any_inv (Inv := fun listed a' w' => Inv P N ops h.next ih st h ι w listed a' w') (fun _ _ _ I => I.size) (fun _ _ _ I hrd => I.done R.toRow0 S hfresh hrd) (fun _ _ _ _ I hrd => by
          obtain ⟨o, U, he⟩ := Turn.of R.edges I hrd
          exact I.step hi hK R.toRow0 S hfresh U he fun hk y oy hy hoy h3 => U.anc y (effs_spec R.effs hoy U.op hy h3 hk)) ops.size _ _ _ ?_ (by
          refine Nat.le_trans (List.length_filter_le _ _) (by simp))
        have hnl : ∀ j, ¬ Lst (Array.replicate ops.size false) j := by
          intro j hj
          simp only [Lst, Array.getD_eq_getD_getElem?, Array.getElem?_replicate] at hj
          split at hj <;> cases hj
        have hw' : ({ w with drawn := w.drawn + 1 } : World).heap = w.heap := rfl
        have hhd := hh.same (w' := { w with drawn := w.drawn + 1 }) hw'
        obtain ⟨r1, r2⟩ := hhd.raise ops.toList.length
        refine ⟨by simp, fun i o _ hl => absurd hl (hnl i), 0, e, ι, ⟨h.objs, h.next + ops.toList.length⟩, ⟨Nat.zero_le _, fun j o _ _ => ⟨fun hl => absurd hl (hnl j), fun hl => absurd hl (by omega)⟩, fun t _ ⟨j, o, hl, _⟩ => absurd hl (hnl j), fun t _ _ => by rw [s0], hE, by rw [S.mem], Nat.le_refl _, fun j ob hp => absurd hp.1 (hnl j), fun id _ => by rw [S.mem], r1, ?_, fun j _ _ => (hh.fresh _ (Nat.le_add_right _ _)).2, fun j ob hp => absurd hp.1 (hnl j), fun j ob hp => absurd hp.1 (hnl j)⟩⟩
        exact (Stp.same (h := h) (ι := ι) (w := w) (w' := { w with drawn := w.drawn + 1 }) rfl rfl rfl rfl).trans r2

end Go.Proofs.YtfmlgiafkbakcaaGreatDoor.Ev

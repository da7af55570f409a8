/- Regions that draw: two stores that nothing orders. -/
import Derived.Test.YtfmlgiafkbakcaaGreatDoorVf
namespace Go.Proofs.YtfmlgiafkbakcaaGreatDoor.Ev

theorem eqOA_eq : ∀ {a b : Option AV}, eqOA a b = true → a = b
  | none, none, _ => rfl
  | some a, some b, h => by rw [eqAV_eq a b h]
  | none, some _, h => by cases h
  | some _, none, h => by cases h

theorem eqTA_eq : ∀ (a b : Tr AV), eqTA a b = true → a = b := by
  intro a
  induction a with
  | nil => intro b h; cases b <;> first | rfl | cases h
  | full v =>
    intro t h
    cases t with
    | nil => cases h
    | full v' => simp only [eqTA] at h; rw [eqAV_eq _ _ h]
    | node v' a' b' c' d' => cases h
  | node v a b c d iha ihb ihc ihd =>
    intro t h
    cases t with
    | nil => cases h
    | full v' => cases h
    | node v' a' b' c' d' =>
      simp only [eqTA, Bool.and_eq_true] at h
      obtain ⟨⟨⟨⟨h1, h2⟩, h3⟩, h4⟩, h5⟩ := h
      rw [eqOA_eq h1, iha _ h2, ihb _ h3, ihc _ h4, ihd _ h5]

theorem eqB_iff {a b : Bool} (h : eqB a b = true) : a = b := by cases a <;> cases b <;> simp_all [eqB]

theorem eqNs_eq : ∀ {l m : List Nat}, eqNs l m = true → l = m
  | [], [], _ => rfl
  | a :: l, b :: m, h => by
    simp only [eqNs, Bool.and_eq_true, Nat.beq_eq] at h
    rw [h.1, eqNs_eq h.2]
  | [], _ :: _, h => by cases h
  | _ :: _, [], h => by cases h

theorem eqObj_eq : ∀ {a b : AObj}, eqObj a b = true → a = b
  | .cells c n o l, .cells c' n' o' l', h => by
    simp only [eqObj, Bool.and_eq_true, Nat.beq_eq] at h
    obtain ⟨⟨⟨h1, h2⟩, h3⟩, h4⟩ := h
    rw [h1, eqB_iff h2, eqNs_eq h3, eqTA_eq _ _ h4]
  | .map a, .map b, h => by rw [eqAV_eq a b h]
  | .cells .., .map _, h => by cases h
  | .map _, .cells .., h => by cases h

/-! ### places while they come up -/

structure Env (N : Nat) (ops : Array Oper) (st : Nat → DS) (listed : Array Bool) (eD : E) (ι : Io) (a : Act) : Prop where
  envW : ∀ t, t < 1024 → (∃ j o, Lst listed j ∧ ops.toList[j]? = some o ∧ o.dst = some t) → getE t eD = getE t (st ops.toList.length).e
  envN : ∀ t, t < 1024 → (¬ ∃ j o, Lst listed j ∧ ops.toList[j]? = some o ∧ o.dst = some t) → getE t eD = getE t (st 0).e
  er : ER N ι eD a

section
variable {P : Program} {N : Nat} {ops : Array Oper} {base : Nat} {ih : CF} {st : Nat → DS}
variable {listed : Array Bool} {eD : E} {ι : Io} {a : Act} {w : World}

/-- the places that it looks at hold what they held in the row -/
theorem Env.looked (R : Row0 P N ops base ih st) (M : Env N ops st listed eD ι a) {i : Nat} {o : Oper} (U : Turn ops listed i o) {t : Nat} (ht : t < 1024) (hl : t ∈ looks ops o) : getE t eD = getE t (st i).e := by
  have hi : i < ops.toList.length := (List.getElem?_eq_some_iff.1 U.op).1
  obtain ⟨k1, k2⟩ := R.env_at ht i (by omega)
  by_cases hw : ∃ j o, Lst listed j ∧ ops.toList[j]? = some o ∧ o.dst = some t
  · rw [M.envW t ht hw]
    obtain ⟨j, oj, hj, hoj, hd⟩ := hw
    have hij : i ≠ j := fun e => U.off (e ▸ hj)
    have hs := (slots_spec R.slots U.op hoj hij hd).2 hl
    by_cases hlt : j < i
    · exact (k1 ⟨j, oj, hlt, hoj, hd⟩).symm
    · rw [if_neg hlt, U.desc j hj] at hs
      cases hs
  · rw [M.envN t ht hw]
    refine (k2 fun ⟨j, oj, hj, hoj, hd⟩ => hw ⟨j, oj, ?_, hoj, hd⟩).symm
    have hs := (slots_spec R.slots U.op hoj (by omega) hd).2 hl
    rw [if_pos hj] at hs
    exact U.anc j hs

theorem Env.same_run (R : Row0 P N ops base ih st) (M : Env N ops st listed eD ι a) {i : Nat} {o : Oper} (U : Turn ops listed i o) (h : H) : (copK P o.op).run ih eD h = (copK P o.op).run ih (st i).e h := by
  unfold copK
  split
  · rename_i hops
    refine cop_congr (fun x hx => ?_) h
    cases x with
    | tmp t =>
      have ht : t < 1024 := by
        have := List.all_eq_true.1 hops _ hx
        simpa [okOp] using this
      have hl : t ∈ looks ops o := by
        unfold looks Oper.looksAt
        refine List.mem_append.2 (.inl (List.mem_filterMap.2 ⟨_, hx, rfl⟩))
      exact M.looked R U ht hl
    | const v => simp only [cget]; cases avOf v <;> rfl
    | global g => rfl
    | func f => rfl
  · rfl

theorem Env.same_want (R : Row0 P N ops base ih st) (M : Env N ops st listed eD ι a) {i : Nat} {o : Oper} (U : Turn ops listed i o) {b : Bool} (hb : wantedA ops o (st i).e = some b) : Region.wanted o (yielded ops a.tmps) = b := by
  unfold wantedA at hb
  split at hb
  · rename_i hg
    injection hb with hb
    subst hb
    simp [Region.wanted, hg]
  · rename_i j want hg
    split at hb
    case h_2 => cases hb
    rename_i d hd
    split at hb
    case h_2 => cases hb
    rename_i hlt
    have hlt : d < 1024 := by simpa using hlt
    have hl : d ∈ looks ops o := by
      unfold looks Oper.looksAt
      refine List.mem_append.2 (.inr ?_)
      rw [hg]
      simp [hd]
    have he := M.looked R U hlt hl
    obtain ⟨hy1, hy2⟩ := yielded_bool M.er hd hlt
    have hget : (cgetT d).get (st i).e = getE d eD := he.symm
    rw [hget] at hb
    split at hb
    · rename_i hv
      injection hb with hb
      subst hb
      have := hy1 _ hv
      cases want <;> simp [Region.wanted, hg, this]
    · rename_i hv
      injection hb with hb
      subst hb
      have := hy1 _ hv
      cases want <;> simp [Region.wanted, hg, this]
    · rename_i hv
      injection hb with hb
      subst hb
      have := hy2 hv
      cases want <;> simp [Region.wanted, hg, this]
    · cases hb

/-- the places behind it -/
theorem Env.env_put (R : Row0 P N ops base ih st) (M : Env N ops st listed eD ι a) {i : Nat} {o : Oper} (U : Turn ops listed i o) {b : Bool} {v : AV} (T : Told P N ops base ih i o (st i) (st (i + 1)) b v) :
    (∀ t, t < 1024 → (∃ j o, Lst (listed.setIfInBounds i true) j ∧ ops.toList[j]? = some o ∧ o.dst = some t) → getE t ((csetO o.dst).set v eD) = getE t (st ops.toList.length).e) ∧ ∀ t, t < 1024 → (¬ ∃ j o, Lst (listed.setIfInBounds i true) j ∧ ops.toList[j]? = some o ∧ o.dst = some t) → getE t ((csetO o.dst).set v eD) = getE t (st 0).e := by
  have hi : i < ops.toList.length := (List.getElem?_eq_some_iff.1 U.op).1
  have hset : ∀ e : E, ∀ t, t < 1024 → (o.dst = some t → getE t ((csetO o.dst).set v e) = v) ∧ (o.dst ≠ some t → getE t ((csetO o.dst).set v e) = getE t e) := by
    intro e t ht
    cases hd : o.dst with
    | none => exact ⟨fun h => (by cases h), fun _ => rfl⟩
    | some d =>
      have h1 := T.dst
      rw [hd] at h1
      simp only [okDst, Bool.and_eq_true, Nat.blt_eq] at h1
      refine ⟨fun h => ?_, fun h => ?_⟩
      · injection h with h
        subst h
        exact get_set_same _ _ _
      · have hdt : t ≠ d := fun e => h (by rw [e])
        exact get_set_ne h1.2 ht hdt v _
  refine ⟨fun t ht hw => ?_, fun t ht hw => ?_⟩
  · by_cases hd : o.dst = some t
    · rw [(hset eD t ht).1 hd, ← (R.env_at ht (i + 1) (by omega)).1 ⟨i, o, by omega, U.op, hd⟩, T.env, (hset _ t ht).1 hd]
    · rw [(hset eD t ht).2 hd]
      obtain ⟨j, oj, hj, hoj, hdj⟩ := hw
      refine M.envW t ht ⟨j, oj, ?_, hoj, hdj⟩
      rcases (lst_set U.lt).1 hj with rfl | hj
      · rw [U.op] at hoj
        injection hoj with hoj
        subst hoj
        exact absurd hdj hd
      · exact hj
  · have hd : o.dst ≠ some t := fun hd => hw ⟨i, o, (lst_set U.lt).2 (.inl rfl), U.op, hd⟩
    rw [(hset eD t ht).2 hd]
    exact M.envN t ht fun ⟨j, oj, hj, hoj, hdj⟩ => hw ⟨j, oj, (lst_set U.lt).2 (.inr hj), hoj, hdj⟩


theorem Env.put (R : Row0 P N ops base ih st) (M : Env N ops st listed eD ι a) {i : Nat} {o : Oper} (U : Turn ops listed i o) {b : Bool} {v : AV} (T : Told P N ops base ih i o (st i) (st (i + 1)) b v) {ι' : Io} (hx : Ext ι ι') {u : Value} (hv : VR ι' v u) :
    Env N ops st (listed.setIfInBounds i true) ((csetO o.dst).set v eD) ι' (a.put o.dst u) := by
  obtain ⟨e1, e2⟩ := M.env_put R U T
  exact ⟨e1, e2, (M.er.ext hx).putO T.dst hv⟩

end

/-! ### a store -/

theorem store_spec {P : Program} {ih : CF} {op : Op} {x : Operand} {e : E} {h h' : H} {v : AV} {a off : Nat} (hop : storeTo op = some x) (hr : (copK P op).run ih e h = .ok v h') (hx : (cget x).get e = .ptr a off) (hn : noAnc h a = true) :
    v = .tup .nil ∧ ∃ ob, h' = ⟨h.objs.set (some ob) a, h.next⟩ := by
  cases op <;> simp only [storeTo, Option.some.injEq, reduceCtorEq] at hop
  rename_i t y z
  subst hop
  unfold copK at hr
  split at hr
  case h_2 => simp only [no, reduceCtorEq] at hr
  simp only [cop] at hr
  split at hr
  case h_2 => simp only [no, reduceCtorEq] at hr
  simp only [hx, storeA] at hr
  split at hr
  case h_2 => cases hr
  rename_i cs hcs
  split at hr
  case h_2 => cases hr
  split at hr
  case h_2 => cases hr
  rename_i h2 hp
  injection hr with e1 e2
  subst e1 e2
  refine ⟨rfl, ?_⟩
  unfold putA at hp
  unfold noAnc at hn
  split at hp
  case h_2 => cases hp
  rename_i c n own l ho
  rw [ho] at hn
  split at hp
  case h_2 => cases hp
  injection hp with hp
  subst hp
  cases l with
  | nil => exact ⟨_, rfl⟩
  | cons _ _ => cases hn

theorem sameObj_eq {h h' : H} {id : Nat} (hs : sameObj h h' id = true) : h.objs.get id = h'.objs.get id := by
  unfold sameObj at hs
  split at hs
  · rename_i a b ha hb
    rw [ha, hb, eqObj_eq hs]
  · cases hs

/-! ### the row, gone through in pieces -/

section
variable {P : Program} {N : Nat} {ops : Array Oper} {A : List Nat} {base : Nat} {ih : CF}

theorem dgo_append : ∀ (l1 l2 : List Oper) (i : Nat) (s s1 s2 : DS), dgo P N ops A base ih i l1 s = .ok s1 → dgo P N ops A base ih (i + l1.length) l2 s1 = .ok s2 → dgo P N ops A base ih i (l1 ++ l2) s = .ok s2
  | [], l2, i, s, s1, s2, h1, h2 => by
    simp only [dgo] at h1
    injection h1 with h1
    subst h1
    exact h2
  | x :: l1, l2, i, s, s1, s2, h1, h2 => by
    simp only [dgo, List.cons_append] at h1 ⊢
    cases hx : dstep P N ops A base ih i x s with
    | fail w => rw [hx] at h1; cases h1
    | ok s' =>
      rw [hx] at h1
      simp only [goD] at h1 ⊢
      refine dgo_append l1 l2 (i + 1) s' s1 s2 h1 ?_
      rw [← h2]
      congr 1
      simp only [List.length_cons]
      omega

theorem dgo_det : ∀ (l : List Oper) (i : Nat) (s s' : DS), dgo P N ops A base ih i l s = .ok s' → ∀ st : Nat → DS, st i = s → (∀ k o, l[k]? = some o → dstep P N ops A base ih (i + k) o (st (i + k)) = .ok (st (i + k + 1))) → s' = st (i + l.length)
  | [], i, s, s', h, st, h0, _ => by
    simp only [dgo] at h
    injection h with h
    subst h
    exact h0.symm
  | x :: l, i, s, s', h, st, h0, hs => by
    simp only [dgo] at h
    have hx := hs 0 x rfl
    rw [Nat.add_zero, h0] at hx
    rw [hx] at h
    simp only [goD] at h
    have := dgo_det l (i + 1) _ s' h st rfl fun k o hk => by
      have := hs (k + 1) o (by simpa using hk)
      rw [show i + 1 + k = i + (k + 1) by omega]
      exact this
    rw [this]
    congr 1
    simp only [List.length_cons]
    omega

end

/-! ### what holds while they come up -/

/-- the two, and what was seen of them -/
structure Pair (P : Program) (ops : Array Oper) (ih : CF) (st : Nat → DS) (i j : Nat) (oi oj : Oper) (hA h3 : H) : Prop where
  lt : i < j
  opi : ops.toList[i]? = some oi
  opj : ops.toList[j]? = some oj
  ki : kindOp oi.op = 3
  kj : kindOp oj.op = 3
  dsti : oi.dst = none
  dstj : oj.dst = none
  guardi : oi.guard = none
  guardj : oj.guard = none
  effs : ∀ (x y : Nat) (ox oy : Oper), ops.toList[x]? = some ox → ops.toList[y]? = some oy → x < y → kindOp ox.op = 3 → kindOp oy.op = 3 → isAnc (ancs ops.toList []) x y = true ∨ (x = i ∧ y = j)
  laid : ∀ (x : Nat) (ox : Oper), ops.toList[x]? = some ox → kindOp ox.op = 2 → isAnc (ancs ops.toList []) x j = true ∧ MergedBy ops i x
  gap : ∀ (x : Nat) (ox : Oper), ops.toList[x]? = some ox → i < x → x < j → kindOp ox.op ≠ 3
  runj : (copK P oj.op).run ih (st j).e (st i).h = .ok (.tup .nil) hA
  runi : (copK P oi.op).run ih (st i).e hA = .ok (.tup .nil) h3
  same : ∀ id, (st (j + 1)).h.objs.get id = h3.objs.get id
  next : (st (j + 1)).h.next = h3.next
  look : ∀ x ∈ (st ops.toList.length).watch, isAnc (ancs ops.toList []) x.i j = false → isAnc (ancs ops.toList []) i x.i = false → sameO (x.look hA) x.val = true

section
variable {P : Program} {N : Nat} {ops : Array Oper} {base : Nat} {ih : CF} {st : Nat → DS} {h0 : H} {ι0 : Io} {w0 : World} {listed : Array Bool}

theorem Inv.of_mid' (hc : ∀ i o, ops.toList[i]? = some o → Lst listed i → ∀ e ∈ edges o, Lst listed e) {i : Nat} {o : Oper} (U : Turn ops listed i o) (he : ∀ e ∈ edges o, Lst listed e) {m' : Nat} {e' : E} {ι' : Io} {h' : H} {a' : Act} {w' : World}
    (M : Mid P N ops base ih st h0 ι0 w0 (listed.setIfInBounds i true) m' e' ι' h' a' w') : Inv P N ops base ih st h0 ι0 w0 (listed.setIfInBounds i true) a' w' := by
  refine ⟨by rw [Array.size_setIfInBounds]; exact U.size, fun j oj hj hl e hm => ?_, ⟨m', e', ι', h', M⟩⟩
  refine (lst_set U.lt).2 (.inr ?_)
  rcases (lst_set U.lt).1 hl with rfl | hl
  · rw [U.op] at hj
    injection hj with hj
    subst hj
    exact he e hm
  · exact hc j oj hj hl e hm

end

/-- where they begin -/
theorem Inv.start {P : Program} {N : Nat} {ops : Array Oper} {ih : CF} {st : Nat → DS} {e : E} {h : H} {ι : Io} {a : Act} {w : World} (S : Start (st 0) h h.next ops.toList.length) (s0 : st 0 = ⟨e, ⟨h.objs, Nat.add h.next ops.size⟩, [(0, ⟨h.objs, Nat.add h.next ops.size⟩)], [], []⟩) (hE : ER N ι e a) (hh : HR h ι w) :
    Inv P N ops h.next ih st h ι w (Array.replicate ops.size false) a { w with drawn := w.drawn + 1 } := by
  have hnl : ∀ j, ¬ Lst (Array.replicate ops.size false) j := by
    intro j hj
    simp only [Lst, Array.getD_eq_getD_getElem?, Array.getElem?_replicate] at hj
    split at hj <;> cases hj
  have hw' : ({ w with drawn := w.drawn + 1 } : World).heap = w.heap := rfl
  have hhd := hh.same (w' := { w with drawn := w.drawn + 1 }) hw'
  obtain ⟨r1, r2⟩ := hhd.raise ops.toList.length
  refine ⟨by simp, fun i o _ hl => absurd hl (hnl i), 0, e, ι, ⟨h.objs, h.next + ops.toList.length⟩, ⟨Nat.zero_le _, fun j o _ _ => ⟨fun hl => absurd hl (hnl j), fun hl => absurd hl (by omega)⟩, fun t _ ⟨j, o, hl, _⟩ => absurd hl (hnl j), fun t _ _ => by rw [s0], hE, by rw [S.mem], Nat.le_refl _, fun j ob hp => absurd hp.1 (hnl j), fun id _ => by rw [S.mem], r1, ?_, fun j _ _ => (hh.fresh _ (Nat.le_add_right _ _)).2, fun j ob hp => absurd hp.1 (hnl j), fun j ob hp => absurd hp.1 (hnl j)⟩⟩
  exact (Stp.same (h := h) (ι := ι) (w := w) (w' := { w with drawn := w.drawn + 1 }) rfl rfl rfl rfl).trans r2

/-- the second of the two has come up, but not the first -/
structure Alt (N : Nat) (ops : Array Oper) (base : Nat) (st : Nat → DS) (i j : Nat) (hA h0 : H) (ι0 : Io) (w0 : World) (listed : Array Bool) (m : Nat) (eD : E) (ι : Io) (a : Act) (w : World) : Prop where
  le : m ≤ i
  near : ∀ y o, ops.toList[y]? = some o → m ≤ y → y < i → kindOp o.op ≠ 3
  stage : ∀ y o, ops.toList[y]? = some o → kindOp o.op = 3 → (Lst listed y ↔ y < m ∨ y = j)
  made : ∀ y o, ops.toList[y]? = some o → kindOp o.op = 2 → Lst listed y
  env : Env N ops st listed eD ι a
  hr : HR hA ι w
  stp : Stp h0 ι0 w0 hA ι w
  room : base + ops.toList.length ≤ hA.next
  names : ∀ x, x < ops.toList.length → ¬ Lst listed x → ι (base + x) = none

structure Inv2 (P : Program) (N : Nat) (ops : Array Oper) (base : Nat) (ih : CF) (st : Nat → DS) (i j : Nat) (hA h0 : H) (ι0 : Io) (w0 : World) (listed : Array Bool) (a : Act) (w : World) : Prop where
  size : listed.size = ops.size
  closed : ∀ i o, ops.toList[i]? = some o → Lst listed i → ∀ e ∈ edges o, Lst listed e
  two : Inv P N ops base ih st h0 ι0 w0 listed a w ∨ ∃ m eD ι, Alt N ops base st i j hA h0 ι0 w0 listed m eD ι a w

section
variable {P : Program} {N : Nat} {ops : Array Oper} {base : Nat} {ih : CF} {st : Nat → DS}
variable {h0 hA h3 : H} {ι0 : Io} {w0 : World} {listed : Array Bool} {i j : Nat} {oi oj : Oper}

theorem Inv2.turn (hk : edgesOk 0 ops.toList = true) {a : Act} {w : World} (I : Inv2 P N ops base ih st i j hA h0 ι0 w0 listed a w) {x : Nat} (hi : x ∈ Region.ready .any ops listed) :
    ∃ o, Turn ops listed x o ∧ ∀ e ∈ edges o, Lst listed e := by
  obtain ⟨h1, h2, o, h3, h4⟩ := ready_spec hi
  have hs := I.size
  have hoff : ¬ Lst listed x := by
    intro hl
    have : x < listed.size := by rw [hs]; exact h1
    simp only [Lst, Array.getD_eq_getD_getElem?, Array.getElem?_eq_getElem this, Option.getD_some] at hl h2
    rw [hl] at h2
    cases h2
  refine ⟨o, ⟨h3, hs, hoff, isAnc_in hk (D := Lst listed) (fun i o hi hl => I.closed i o hi hl) x o h3 h4, fun j hj => ?_⟩, h4⟩
  cases hc : isAnc (ancs ops.toList []) x j with
  | false => rfl
  | true =>
    obtain ⟨oj, hoj⟩ := isAnc_some hc
    exact absurd (isAnc_in hk (D := Lst listed) (fun i o hi hl => I.closed i o hi hl) j oj hoj (I.closed j oj hoj hj) x hc) hoff

theorem Inv2.of_alt {a : Act} {w : World} (I : Inv2 P N ops base ih st i j hA h0 ι0 w0 listed a w) {x : Nat} {o : Oper} (U : Turn ops listed x o) (he : ∀ e ∈ edges o, Lst listed e) {a' : Act} {w' : World}
    (M : Inv P N ops base ih st h0 ι0 w0 (listed.setIfInBounds x true) a' w' ∨ ∃ m e' ι', Alt N ops base st i j hA h0 ι0 w0 (listed.setIfInBounds x true) m e' ι' a' w') : Inv2 P N ops base ih st i j hA h0 ι0 w0 (listed.setIfInBounds x true) a' w' := by
  refine ⟨by rw [Array.size_setIfInBounds]; exact U.size, fun j oj hj hl e hm => ?_, M⟩
  refine (lst_set U.lt).2 (.inr ?_)
  rcases (lst_set U.lt).1 hl with rfl | hl
  · rw [U.op] at hj
    injection hj with hj
    subst hj
    exact he e hm
  · exact I.closed j oj hj hl e hm

theorem Pair.merged (B : Pair P ops ih st i j oi oj hA h3) {x y : Nat} (hx : i ≤ x) {ob : AObj} (hm : Made P ops base ih st y ob) : MergedBy ops x y := by
  obtain ⟨o, v, h1, h2, _⟩ := hm
  obtain ⟨_, z, oz, h4, h5⟩ := B.laid y o h1 h2
  exact ⟨z, oz, by omega, h5⟩

/-- nothing waits to be laid into memory -/
theorem Pair.pend (B : Pair P ops ih st i j oi oj hA h3) (R : Row0 P N ops base ih st) {h : H} (S : Start (st 0) h base ops.toList.length) {x : Nat} (hx : x ≤ ops.toList.length) (hix : i ≤ x) : (st x).pend = [] := by
  refine List.eq_nil_iff_forall_not_mem.2 fun y hy => ?_
  obtain ⟨_, hm, hn⟩ := (R.pend_iff S x hx y.1 y.2).1 hy
  exact hn (B.merged hix hm)

variable {m : Nat} {eD : E} {ι : Io} {a : Act} {w : World}

/-- one that does nothing to memory -/
theorem Alt.quiet (R : Row0 P N ops base ih st) (M : Alt N ops base st i j hA h0 ι0 w0 listed m eD ι a w) {x : Nat} {o : Oper} (U : Turn ops listed x o) {b : Bool} {v : AV} (T : Told P N ops base ih x o (st x) (st (x + 1)) b v) (hk : kindOp o.op ≠ 3) {u : Value} (hv : VR ι v u) :
    Alt N ops base st i j hA h0 ι0 w0 (listed.setIfInBounds x true) m ((csetO o.dst).set v eD) ι (a.put o.dst u) w := by
  refine ⟨M.le, M.near, fun y oy hy h3 => ?_, fun y oy hy h2 => (lst_set U.lt).2 (.inr (M.made y oy hy h2)), M.env.put R U T (Ext.refl _) hv, M.hr, M.stp, M.room, fun y hy hl => M.names y hy (not_lst_set U.lt hl).2⟩
  rw [lst_set U.lt]
  have hyx : y ≠ x := by
    rintro rfl
    rw [U.op] at hy
    injection hy with hy
    subst hy
    exact hk h3
  simp only [hyx, false_or]
  exact M.stage y oy hy h3

theorem Inv2.step [LaidOut P] {Q : Exit → Act → World → Prop} {K : Keep} (hi : SoundCF P K ih) (hK0 : K.ok h0 ι0 w0) (B : Pair P ops ih st i j oi oj hA h3) (R : Row0 P N ops base ih st) (S : Start (st 0) h0 base ops.toList.length) (hfresh : ∀ id, base ≤ id → h0.objs.get id = none) (I : Inv2 P N ops base ih st i j hA h0 ι0 w0 listed a w) {x : Nat} (hrd : x ∈ Region.ready .any ops listed) :
    wpOp P ops Q x (fun a' w' => Inv2 P N ops base ih st i j hA h0 ι0 w0 (listed.setIfInBounds x true) a' w') a w := by
  obtain ⟨o, U, he⟩ := I.turn R.edges hrd
  obtain ⟨b, v, T⟩ := R.told U.op
  have hoi : ops[x]? = some o := by simpa using U.op
  have hxl : x < ops.toList.length := (List.getElem?_eq_some_iff.1 U.op).1
  have hil : i < ops.toList.length := (List.getElem?_eq_some_iff.1 B.opi).1
  have hjl : j < ops.toList.length := (List.getElem?_eq_some_iff.1 B.opj).1
  have hlt := B.lt
  have hwant : ∀ {o' : Oper}, o'.guard = none → wantedA ops o' (st x).e = some true := fun hg => by simp only [wantedA, hg]
  rcases I.two with IM | ⟨m, eD, ι, M⟩
  · by_cases hn : x = j ∧ ¬ Lst listed i
    · obtain ⟨hxj, hno⟩ := hn
      subst hxj
      have ho : o = oj := by have := U.op; rw [B.opj] at this; injection this with this; exact this.symm
      subst ho
      obtain ⟨m, eD, ι, hD, M⟩ := IM.mid
      have hw := M.same_want R U T.want
      have hb : b = true := by
        have := T.want
        rw [hwant B.guardj] at this
        injection this with this
        exact this.symm
      subst hb
      have hmi : m ≤ i := Nat.le_of_not_lt fun h => hno ((M.stage i oi B.opi B.ki).2 h)
      have hgap : ∀ y oy, ops.toList[y]? = some oy → m ≤ y → y < i → kindOp oy.op ≠ 3 := fun y oy hy h1 h2 hk => by
        rcases B.effs y x oy o hy U.op (by omega) hk B.kj with h | ⟨h, _⟩
        · have := (M.stage y oy hy hk).1 (U.anc y h)
          omega
        · omega
      have hsame := R.h_same m i hmi (by omega) fun y oy h1 h2 h3 => hgap y oy h3 h1 h2
      obtain ⟨d1, d2⟩ := M.due R S hfresh
      rw [← hsame] at d1 d2
      have hroom : base + ops.toList.length ≤ (st i).h.next := by
        have := M.room
        have := M.next
        rw [hsame]
        omega
      have hrun := B.runj
      rw [← M.same_run R U] at hrun
      unfold wpOp
      rw [hoi]
      simp only
      rw [if_pos hw]
      refine .inl (copK_ok hi d1 (K.step hK0 (M.stp.trans d2)) M.er hrun _ _ fun ι' u w' hv hh hs => ?_)
      have hput : Env N ops st (listed.setIfInBounds x true) eD ι' (a.put o.dst u) := by
        have hd := B.dstj
        obtain ⟨e1, e2⟩ := M.env_put R U T
        rw [hd] at e1 e2 ⊢
        exact ⟨e1, e2, M.er.ext hs.ext⟩
      refine I.of_alt U he (.inr ⟨m, eD, ι', ⟨hmi, hgap, fun y oy hy hk => ?_, fun y oy hy h2 => (lst_set U.lt).2 (.inr (U.anc y (B.laid y oy hy h2).1)), hput, hh, (M.stp.trans d2).trans hs, ?_, fun y hy hl => ?_⟩⟩)
      · rw [lst_set U.lt, M.stage y oy hy hk]
        exact or_comm
      · have := hs.next
        omega
      · obtain ⟨q1, q2⟩ := not_lst_set U.lt hl
        have hn := M.names y hy q2
        cases hc : ι' (base + y) with
        | none => rfl
        | some l =>
          have := (hs.new _ l hc hn).1
          omega
    · refine wpOp_mono (fun a' w' I' => I.of_alt U he (.inl I')) (IM.step hi hK0 R S hfresh U he fun hk y oy hyx hy h3 => ?_)
      rcases B.effs y x oy o hy U.op hyx h3 hk with h | ⟨rfl, rfl⟩
      · exact U.anc y h
      · exact Classical.byContradiction fun h => hn ⟨rfl, h⟩
  · have hnoi : ¬ Lst listed i := fun hl => by
      have := M.le
      rcases (M.stage i oi B.opi B.ki).1 hl with h | h <;> omega
    have hj : Lst listed j := (M.stage j oj B.opj B.kj).2 (.inr rfl)
    have hxi : kindOp o.op = 3 → x = i := by
      intro hk
      have hmx : m ≤ x := Nat.le_of_not_lt fun h => U.off ((M.stage x o U.op hk).2 (.inl h))
      have hxj : x ≠ j := fun e => U.off (e ▸ hj)
      refine Classical.byContradiction fun hxi => ?_
      by_cases hlt : x < i
      · exact M.near x o U.op hmx hlt hk
      · rcases B.effs i x oi o B.opi U.op (by omega) B.ki hk with h | ⟨_, h⟩
        · exact hnoi (U.anc i h)
        · exact hxj h
    have hw := M.env.same_want R U T.want
    unfold wpOp
    rw [hoi]
    simp only
    cases b with
    | false =>
      rw [if_neg (by rw [hw]; decide)]
      have hvn := T.idle rfl
      subst hvn
      have hk : kindOp o.op ≠ 3 := fun h3 => by
        have hxi := hxi h3
        subst hxi
        have ho : o = oi := by have := U.op; rw [B.opi] at this; injection this with this; exact this.symm
        subst ho
        have := T.want
        rw [hwant B.guardi] at this
        cases this
      exact I.of_alt U he (.inr ⟨m, _, ι, M.quiet R U T hk ⟨[], rfl, rfl⟩⟩)
    | true =>
      rw [if_pos hw]
      refine .inl ?_
      have hquiet : kindOp o.op ≤ 1 → (∃ h', (copK P o.op).run ih eD hA = .ok v h') → o.wp P a w (fun a' w' => Inv2 P N ops base ih st i j hA h0 ι0 w0 (listed.setIfInBounds x true) a' w') Q := by
        rintro hk ⟨h', hr⟩
        obtain ⟨_, u, hrun, hv⟩ := copK_pure (N := N) M.hr M.env.er hk hr
        unfold Oper.wp
        rw [hrun]
        exact I.of_alt U he (.inr ⟨m, _, ι, M.quiet R U T (by omega) hv⟩)
      have hk3 := kind_le o.op
      by_cases k0 : kindOp o.op = 0
      · obtain ⟨h', hr⟩ := T.pure0 rfl k0
        refine hquiet (by omega) ⟨hA, ?_⟩
        rw [M.env.same_run R U]
        exact copK_heap0 k0 (fun _ => rfl) hr _
      · by_cases k1 : kindOp o.op = 1
        · refine hquiet (by omega) ?_
          rw [M.env.same_run R U]
          obtain ⟨_, _, hwat, hpk⟩ := T.read rfl k1
          have hmem := R.watch_mono (x + 1) ops.toList.length (by omega) (Nat.le_refl _) hwat
          have hsame : lookD P ops base ih x o (st x) hA = (copK P o.op).run ih (st x).e hA := by
            unfold lookD
            rw [mergeP_none _ _ fun p ob hp => ?_]
            cases hc : isAnc (ancs ops.toList []) p x with
            | false => rfl
            | true =>
              exfalso
              have hx : x < ops.toList.length := (List.getElem?_eq_some_iff.1 U.op).1
              obtain ⟨_, ⟨op, _, hop, hkp, _⟩, hnm⟩ := (R.pend_iff S x (by omega) p ob).1 hp
              obtain ⟨_, y, oy, hyi, hoy, hky, hay⟩ := B.laid p op hop hkp
              have hxy : x < y := by
                refine Nat.lt_of_not_le fun h => ?_
                by_cases hyx : y = x
                · subst hyx
                  rw [U.op] at hoy
                  injection hoy with hoy
                  subst hoy
                  omega
                · exact hnm ⟨y, oy, by omega, hoy, hky, hay⟩
              have h4 := pendOk_spec hpk hp hc hxy hoy hky hay
              have hym : y < m := Nat.lt_of_not_le fun h => M.near y oy hoy h hyi hky
              rw [U.desc y ((M.stage y oy hoy hky).2 (.inl hym))] at h4
              cases h4
          rw [← hsame]
          refine sameO_eq (B.look _ hmem (U.desc j hj) ?_)
          cases hc : isAnc (ancs ops.toList []) i x with
          | false => rfl
          | true => exact absurd (U.anc i hc) hnoi
        · by_cases k2 : kindOp o.op = 2
          · exact absurd (M.made x o U.op k2) U.off
          · have k3 : kindOp o.op = 3 := by omega
            have hxi := hxi k3
            subst hxi
            have ho : o = oi := by have := U.op; rw [B.opi] at this; injection this with this; exact this.symm
            subst ho
            have hrun := B.runi
            rw [← M.env.same_run R U] at hrun
            refine copK_ok hi M.hr (K.step hK0 M.stp) M.env.er hrun _ _ fun ι' u w' hv hh hs => ?_
            obtain ⟨q1, q2⟩ := hh.sub (h' := (st (j + 1)).h) (fun id o ho => by rw [← B.same id]; exact ho) B.next
            have hput : Env N ops st (listed.setIfInBounds x true) eD ι' (a.put o.dst u) := by
              have hd := B.dsti
              obtain ⟨e1, e2⟩ := M.env.env_put R U T
              rw [hd] at e1 e2 ⊢
              exact ⟨e1, e2, M.env.er.ext hs.ext⟩
            have hnp : ∀ y ob, ¬ Pnd P ops base ih st (listed.setIfInBounds x true) (j + 1) y ob := fun y ob hp => hp.2.2 (B.merged (by omega) hp.2.1)
            refine I.of_alt U he (.inl (Inv.of_mid' I.closed U he (m' := j + 1) (h' := (st (j + 1)).h) ⟨by omega, fun y oy hy hk => ?_, hput.envW, hput.envN, hput.er, rfl, ?_, fun y ob hp => absurd hp (hnp y ob), fun _ _ => rfl, q1, (M.stp.trans hs).trans q2, fun y hy hl => ?_, fun y ob hp => absurd hp (hnp y ob), fun y ob hp => absurd hp (hnp y ob)⟩))
            · rw [lst_set U.lt, M.stage y oy hy hk]
              have hle := M.le
              constructor
              · rintro (h | h | h) <;> omega
              · intro h
                by_cases hyj : y = j
                · exact .inr (.inr hyj)
                · by_cases hyi : y = x
                  · exact .inl hyi
                  · by_cases hyi2 : y < x
                    · by_cases hym : y < m
                      · exact .inr (.inl hym)
                      · exact absurd hk (M.near y oy hy (by omega) hyi2)
                    · exact absurd hk (B.gap y oy hy (by omega) (by omega))
            · have h1 := M.room
              have h2 := hs.next
              have h3 := B.next
              omega
            · obtain ⟨q1, q2⟩ := not_lst_set U.lt hl
              have hn := M.names y hy q2
              cases hc : ι' (base + y) with
              | none => rfl
              | some l =>
                have h1 := (hs.new _ l hc hn).1
                have h2 := M.room
                omega

theorem Inv2.done (B : Pair P ops ih st i j oi oj hA h3) (R : Row0 P N ops base ih st) (S : Start (st 0) h0 base ops.toList.length) (hfresh : ∀ id, base ≤ id → h0.objs.get id = none) (I : Inv2 P N ops base ih st i j hA h0 ι0 w0 listed a w) (hr : Region.ready .any ops listed = []) :
    PostR N h0 ι0 w0 (.norm (st ops.toList.length).e ⟨mergeAll base (st ops.toList.length).pend (st ops.toList.length).h.objs, (st ops.toList.length).h.next⟩) .normal a w := by
  rcases I.two with IM | ⟨m, eD, ι, M⟩
  · exact IM.done R S hfresh hr
  · exfalso
    have hl : Lst listed i := all_listed R.edges I.size hr i (by have := (List.getElem?_eq_some_iff.1 B.opi).1; simpa using this)
    have := M.le
    have := B.lt
    rcases (M.stage i oi B.opi B.ki).1 hl with h | h <;> omega

end

theorem effsBut_spec {ops : Array Oper} {A : List Nat} {i j : Nat} (h : effsBut ops A i j = true) {x y : Nat} {ox oy : Oper} (hx : ops.toList[x]? = some ox) (hy : ops.toList[y]? = some oy) (hxy : x < y) (h1 : kindOp ox.op = 3) (h2 : kindOp oy.op = 3) : isAnc A x y = true ∨ (x = i ∧ y = j) := by
  have hx' : x < ops.size := by have := (List.getElem?_eq_some_iff.1 hx).1; simpa using this
  have hy' : y < ops.size := by have := (List.getElem?_eq_some_iff.1 hy).1; simpa using this
  unfold effsBut at h
  have h3 := List.all_eq_true.1 (List.all_eq_true.1 h x (List.mem_range.2 hx')) y (List.mem_range.2 hy')
  have hox : ops[x]? = some ox := by simpa using hx
  have hoy : ops[y]? = some oy := by simpa using hy
  simp only [hox, hoy, h1, h2] at h3
  have hb : Nat.blt x y = true := by simpa using hxy
  simpa [hb] using h3

theorem swap_spec {P : Program} {N : Nat} {ops : Array Oper} {base : Nat} {ih : CF} {st : Nat → DS} {i j : Nat} {oi oj : Oper} {h : H} (R : Row0 P N ops base ih st) (S : Start (st 0) h base ops.toList.length) (hp : pairOk ops (ancs ops.toList []) i j oi oj = true) (hoi : ops.toList[i]? = some oi) (hoj : ops.toList[j]? = some oj)
    (hs : swapOk P (ancs ops.toList []) ih i j oi oj (st i) (st j) (st ops.toList.length) = true) : ∃ hA h3, Pair P ops ih st i j oi oj hA h3 := by
  simp only [pairOk, Bool.and_eq_true, Option.isNone_iff_eq_none] at hp
  obtain ⟨⟨⟨⟨⟨⟨⟨⟨⟨⟨⟨⟨_, _⟩, p1⟩, p2⟩, p3⟩, p4⟩, p5⟩, p6⟩, p7⟩, p8⟩, p9⟩, p10⟩, _⟩ := hp
  have hij : i < j := by simpa using p2
  have hki : kindOp oi.op = 3 := by simpa using p3
  have hkj : kindOp oj.op = 3 := by simpa using p4
  have hn2 : ∀ (x : Nat) (ox : Oper), ops.toList[x]? = some ox → kindOp ox.op = 2 → isAnc (ancs ops.toList []) x j = true ∧ MergedBy ops i x := fun x ox hx hk => by
    have := List.all_eq_true.1 p9 (ox, x) (mem_zipIdx hx)
    simp only [hk, Bool.or_eq_true, Bool.and_eq_true, List.any_eq_true] at this
    rcases this with h | ⟨h1, y, hy, ⟨h2, h3⟩, h4⟩
    · cases h
    · exact ⟨h1, y.2, y.1, by simpa using h2, of_zipIdx hy, by simpa using h3, h4⟩
  have hgap : ∀ (x : Nat) (ox : Oper), ops.toList[x]? = some ox → i < x → x < j → kindOp ox.op ≠ 3 := fun x ox hx h1 h2 hk => by
    have := List.all_eq_true.1 p10 (ox, x) (mem_zipIdx hx)
    have b1 : Nat.blt i x = true := by simpa using h1
    have b2 : Nat.blt x j = true := by simpa using h2
    simp only [hk, b1, b2] at this
    cases this
  unfold swapOk at hs
  split at hs
  case h_2 => cases hs
  rename_i x y hx hy
  split at hs
  case h_2 => cases hs
  rename_i a off b off' ha hb
  split at hs
  case h_2 => cases hs
  rename_i va hA hrA
  split at hs
  case h_2 => cases hs
  rename_i v3 h3 v2 h2 hr3 hr2
  simp only [Bool.and_eq_true] at hs
  obtain ⟨⟨⟨⟨⟨⟨n1, n2⟩, n3⟩, n4⟩, e1⟩, e2⟩, hl⟩ := hs
  obtain ⟨rfl, obA, hhA⟩ := store_spec hy hrA hb n3
  obtain ⟨rfl, ob3, hh3⟩ := store_spec hx hr3 ha n4
  obtain ⟨rfl, ob2, hh2⟩ := store_spec hy hr2 hb n2
  have hpend : ∀ x, i ≤ x → x ≤ ops.toList.length → (st x).pend = [] := fun x hix hx => by
    refine List.eq_nil_iff_forall_not_mem.2 fun y hy => ?_
    obtain ⟨_, ⟨o, v, h1, h2, _⟩, hno⟩ := (R.pend_iff S x hx y.1 y.2).1 hy
    obtain ⟨_, z, oz, h4, h5⟩ := hn2 y.1 o h1 h2
    exact hno ⟨z, oz, by omega, h5⟩
  have heff : ∀ {x : Nat} {o : Oper}, i ≤ x → ops.toList[x]? = some o → kindOp o.op = 3 → o.guard = none → ∃ v, (copK P o.op).run ih (st x).e (st x).h = .ok v (st (x + 1)).h := by
    intro x o hix hx hk hg
    obtain ⟨b, v, T⟩ := R.told hx
    have hb : b = true := by
      have := T.want
      simp only [wantedA, hg] at this
      injection this with this
      exact this.symm
    obtain ⟨t, rest, hm, _, h1, _⟩ := T.eff hk
    rw [hpend x hix (by have := (List.getElem?_eq_some_iff.1 hx).1; omega)] at hm
    simp only [mergeP, Prod.mk.injEq] at hm
    obtain ⟨rfl, _⟩ := hm
    exact ⟨v, h1 hb⟩
  obtain ⟨vi, hri⟩ := heff (Nat.le_refl _) hoi hki p5
  obtain ⟨vj, hrj⟩ := heff (by omega) hoj hkj p6
  obtain ⟨_, ob1, hh1⟩ := store_spec hx hri ha n1
  rw [hr2] at hrj
  injection hrj with _ hrj
  have hjl : j < ops.toList.length := (List.getElem?_eq_some_iff.1 hoj).1
  have hmid : (st j).h = (st (i + 1)).h := R.h_same (i + 1) j (by omega) (by omega) fun x ox q1 q2 q3 => hgap x ox q3 (by omega) q2
  have hall : ∀ id, h2.objs.get id = h3.objs.get id := fun id => by
    by_cases hia : id = a
    · subst hia; exact sameObj_eq e1
    · by_cases hib : id = b
      · subst hib; exact sameObj_eq e2
      · rw [hh2, hh3, Tr.get_set_ne _ _ _ _ hib, Tr.get_set_ne _ _ _ _ hia, hmid, hh1, hhA, Tr.get_set_ne _ _ _ _ hia, Tr.get_set_ne _ _ _ _ hib]
  refine ⟨hA, h3, ⟨hij, hoi, hoj, hki, hkj, p7, p8, p5, p6, fun x y ox oy hx hy hxy q1 q2 => effsBut_spec p1 hx hy hxy q1 q2, hn2, hgap, hrA, hr3, fun id => by rw [← hrj]; exact hall id, ?_, fun x hx q1 q2 => ?_⟩⟩
  · rw [← hrj, hh2, hh3, hmid, hh1, hhA]
  · have := List.all_eq_true.1 hl x hx
    simpa [q1, q2] using this

theorem dpair_ok {P : Program} [LaidOut P] {K : Keep} {N : Nat} (hm : P.follows .mixedOrders = true) (id : Nat) (ops : Array Oper) {i j : Nat} {oi oj : Oper} (hoi : ops.toList[i]? = some oi) (hoj : ops.toList[j]? = some oj) (hp : pairOk ops (ancs ops.toList []) i j oi oj = true) :
    SoundC P K N (.region id ops true) ⟨fun ih e h => dpair P N ops (ancs ops.toList []) i j oi oj ih e h⟩ := by
  intro ih hi e h ι a w hE hh hK hg
  simp only at hg ⊢
  unfold dpair at hg ⊢
  split at hg
  case h_1 => cases hg
  rename_i si hsi
  split at hg
  case h_2 => cases hg
  case h_3 => cases hg
  rename_i s sj hs hsj
  split at hg
  case h_2 => cases hg
  rename_i hsw
  have hil : i < ops.toList.length := (List.getElem?_eq_some_iff.1 hoi).1
  have hjl : j < ops.toList.length := (List.getElem?_eq_some_iff.1 hoj).1
  have hij : i < j := by
    simp only [pairOk, Bool.and_eq_true] at hp
    simpa using hp.1.1.1.1.1.1.1.1.1.2
  have hti : (ops.toList.take i).length = i := by rw [List.length_take]; omega
  have hwhole : dgo P N ops (ancs ops.toList []) h.next ih 0 (ops.toList.take i ++ ops.toList.drop i) _ = .ok s := dgo_append _ _ _ _ _ _ hsi (by rw [hti, Nat.zero_add]; exact hs)
  rw [List.take_append_drop] at hwhole
  obtain ⟨st, s0, s1, s2⟩ := dgo_spec _ _ _ _ hwhole
  have hlen : ops.toList.length = ops.size := by simp
  simp only [Nat.zero_add] at s1 s2
  have esi : si = st i := by
    have := dgo_det _ _ _ _ hsi st s0 fun k o hk => by
      rw [Nat.zero_add]
      refine s2 k o ?_
      rw [List.getElem?_take] at hk
      split at hk
      · exact hk
      · cases hk
    rw [this, hti, Nat.zero_add]
  have esj : sj = st j := by
    have := dgo_det _ _ _ _ hsj st esi.symm fun k o hk => by
      refine s2 (i + k) o ?_
      rw [List.getElem?_take] at hk
      split at hk
      · rw [List.getElem?_drop] at hk
        exact hk
      · cases hk
    rw [this]
    congr 1
    rw [List.length_take, List.length_drop]
    have : Nat.sub j i = j - i := rfl
    omega
  have hp' := hp
  simp only [pairOk, Bool.and_eq_true] at hp'
  have R : Row0 P N ops h.next ih st := ⟨hp'.1.1.1.1.1.1.1.1.1.1.1.1, hp'.1.1.1.1.1.1.1.1.1.1.1.2, fun x o hxo => s2 x o hxo⟩
  have S : Start (st 0) h h.next ops.toList.length := by
    rw [s0]
    exact ⟨by rw [hlen]; rfl, rfl, rfl, rfl⟩
  subst esi esj
  rw [← s1] at hsw
  obtain ⟨hA, h3, B⟩ := swap_spec R S hp hoi hoj hsw
  rw [← s1]
  refine wp_region_any hm ?_
  have hfresh : ∀ id, h.next ≤ id → h.objs.get id = none := fun id hid => (hh.fresh id hid).1
  refine any_inv (Inv := fun listed a' w' => Inv2 P N ops h.next ih st i j hA h ι w listed a' w') (fun _ _ _ I => I.size) (fun _ _ _ I hrd => I.done B R S hfresh hrd) (fun _ _ _ _ I hrd => Inv2.step hi hK B R S hfresh I hrd) ops.size _ _ _ ?_ (by
    refine Nat.le_trans (List.length_filter_le _ _) (by simp))
  have hnl : ∀ j, ¬ Lst (Array.replicate ops.size false) j := by
    intro j hj
    simp only [Lst, Array.getD_eq_getD_getElem?, Array.getElem?_replicate] at hj
    split at hj <;> cases hj
  exact ⟨by simp, fun i o _ hl => absurd hl (hnl i), .inl (Inv.start S s0 hE hh)⟩

theorem soundC_fail {P : Program} {K : Keep} {N : Nat} {c : Code} (k : Nat) : SoundC P K N c ⟨fun _ _ _ => .fail k⟩ := fun _ _ _ _ _ _ _ _ _ _ hg => by cases hg

/-- a region that draws its order -/
theorem dops_ok {P : Program} [LaidOut P] {K : Keep} {N : Nat} (hm : P.follows .mixedOrders = true) (id : Nat) (ops : Array Oper) : SoundC P K N (.region id ops true) (dops P N ops) := by
  unfold dops
  have hA : (dinfo ops).A = ancs ops.toList [] := rfl
  cases hd : dinfo ops with
  | mk b A =>
    rw [hd] at hA
    simp only at hA
    subst hA
    cases b with
    | true => exact dops1_ok hm id ops
    | false =>
      simp only
      unfold dops2
      split
      case h_2 => exact soundC_fail _
      rename_i i j _
      split
      case h_2 => exact soundC_fail _
      rename_i oi oj hoi hoj
      split
      case h_2 => exact soundC_fail _
      rename_i hp
      exact dpair_ok hm id ops hoi hoj hp

end Go.Proofs.YtfmlgiafkbakcaaGreatDoor.Ev

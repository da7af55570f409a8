/- Answers that are the same numbers, though not the same terms. -/
import Derived.Test.YtjpgogmnabkgnaaGreatVg
namespace Go.Proofs.YtjpgogmnabkgnaaGreat.Ev

def eqvN [SEnv] (x y : AV) : Bool := match tmOf x, tmOf y with
  | some (k, t), some (j, u) => and (Nat.beq (kindN k) (kindN j)) (match decEq t u with
    | some true => true
    | _ => false)
  | _, _ => false

def eqvAV [SEnv] : AV → AV → Bool
  | .cons a b, .cons c d => and (eqvAV a c) (eqvAV b d)
  | .agg a, .agg b => eqvAV a b
  | .tup a, .tup b => eqvAV a b
  | .sstr a, .sstr b => eqvAV a b
  | x, y => or (eqAV x y) (eqvN x y)

def SimV [SEnv0] (x y : AV) : Prop := ∀ ι, (∀ v, VR ι x v → VR ι y v) ∧ (∀ l, VRl ι x l → VRl ι y l)

theorem VR.of_tm [SEnv] {y : AV} {k : IntKind} {t : Tm} (h : tmOf y = some (k, t)) {ι : Io} {u : Value} (e : u = .int k t.den) : VR ι y u := by
  unfold tmOf at h
  split at h
  · injection h with h
    injection h with h1 h2
    subst h1 h2
    simpa only [VR, Tm.den] using e
  · injection h with h
    injection h with h1 h2
    subst h1 h2
    simpa only [VR] using e
  · cases h

theorem eqvN_ok [SEnv] {x y : AV} (h : eqvN x y = true) : SimV x y := by
  intro ι
  unfold eqvN at h
  split at h
  case h_2 => cases h
  rename_i k t j u h1 h2
  simp only [Bool.and_eq_true] at h
  obtain ⟨hk, hd⟩ := h
  have := kindN_inj hk
  subst this
  split at hd
  case h_2 => cases hd
  rename_i hq
  have e : t.den = u.den := by simpa using decEq_ok hq
  refine ⟨fun v hv => VR.of_tm h2 (by rw [tmOf_spec h1 hv, e]), fun l hl => ?_⟩
  exfalso
  unfold tmOf at h1
  split at h1
  · simp only [VRl] at hl
  · simp only [VRl] at hl
  · cases h1

theorem eqvAV_ok [SEnv] : ∀ {x y : AV}, eqvAV x y = true → SimV x y := by
  intro x
  have base : ∀ {x y : AV}, or (eqAV x y) (eqvN x y) = true → SimV x y := by
    intro x y h
    simp only [Bool.or_eq_true] at h
    rcases h with h | h
    · have := eqAV_eq _ _ h
      subst this
      exact fun ι => ⟨fun _ h => h, fun _ h => h⟩
    · exact eqvN_ok h
  induction x with
  | cons a b iha ihb =>
    intro y h
    cases y <;> simp only [eqvAV] at h <;> try exact base h
    simp only [Bool.and_eq_true] at h
    intro ι
    refine ⟨fun v hv => by simp only [VR] at hv, fun l hl => ?_⟩
    simp only [VRl] at hl ⊢
    obtain ⟨v, m, rfl, h1, h2⟩ := hl
    exact ⟨v, m, rfl, (iha h.1 ι).1 _ h1, (ihb h.2 ι).2 _ h2⟩
  | agg a iha =>
    intro y h
    cases y <;> simp only [eqvAV] at h <;> try exact base h
    intro ι
    refine ⟨fun v hv => ?_, fun l hl => by simp only [VRl] at hl⟩
    simp only [VR] at hv ⊢
    obtain ⟨l, h1, h2, h3⟩ := hv
    exact ⟨l, h1, (iha h ι).2 _ h2, h3⟩
  | tup a iha =>
    intro y h
    cases y <;> simp only [eqvAV] at h <;> try exact base h
    intro ι
    refine ⟨fun v hv => ?_, fun l hl => by simp only [VRl] at hl⟩
    simp only [VR] at hv ⊢
    obtain ⟨l, h1, h2⟩ := hv
    exact ⟨l, h1, (iha h ι).2 _ h2⟩
  | sstr a iha =>
    intro y h
    cases y <;> simp only [eqvAV] at h <;> try exact base h
    intro ι
    refine ⟨fun v hv => ?_, fun l hl => by simp only [VRl] at hl⟩
    simp only [VR] at hv ⊢
    obtain ⟨l, h1, h2⟩ := hv
    exact ⟨l, h1, (iha h ι).2 _ h2⟩
  | _ => intro y h; exact base (by cases y <;> simpa only [eqvAV] using h)

def eqvOA [SEnv] : Option AV → Option AV → Bool
  | none, none => true
  | some a, some b => eqvAV a b
  | _, _ => false

def eqvT [SEnv] : Tr AV → Tr AV → Bool
  | .nil, .nil => true
  | .node v a b c d, .node v' a' b' c' d' => and (eqvOA v v') (and (eqvT a a') (and (eqvT b b') (and (eqvT c c') (eqvT d d'))))
  | _, _ => false

theorem eqvOA_ok [SEnv] {x y : Option AV} (h : eqvOA x y = true) {b : AV} (hy : y = some b) : ∃ a, x = some a ∧ SimV a b := by
  subst hy
  cases x with
  | none => cases h
  | some a => exact ⟨a, rfl, eqvAV_ok h⟩

theorem eqvT_ok [SEnv] : ∀ {s t : Tr AV}, eqvT s t = true → ∀ (k : Nat) (b : AV), t.get k = some b → ∃ a, s.get k = some a ∧ SimV a b := by
  intro s
  induction s with
  | nil => intro t h k b hb; cases t <;> simp only [eqvT, Bool.false_eq_true] at h; simp [Tr.get] at hb
  | node v a b c d iha ihb ihc ihd =>
    intro t h k x hx
    cases t <;> simp only [eqvT, Bool.false_eq_true, Bool.and_eq_true] at h
    obtain ⟨h0, h1, h2, h3, h4⟩ := h
    cases k with
    | zero => simp only [Tr.get] at hx ⊢; exact eqvOA_ok h0 hx
    | succ m =>
      simp only [Tr.get] at hx ⊢
      split at hx
      · exact iha h1 _ _ hx
      · exact ihb h2 _ _ hx
      · exact ihc h3 _ _ hx
      · exact ihd h4 _ _ hx

def eqvObj [SEnv] : AObj → AObj → Bool
  | .cells c n o l, .cells c' n' o' l' => and (Nat.beq n n') (and (eqB o o') (and (eqNs l l') (eqvT c c')))
  | .map a, .map b => eqAV a b
  | .spine b x, .spine c y => and (Nat.beq b c) (eqAV x y)
  | _, _ => false

theorem eqB_ok {a b : Bool} (h : eqB a b = true) : a = b := by cases a <;> cases b <;> simp_all [eqB]

def SimO [SEnv0] : AObj → AObj → Prop
  | .cells c n o l, .cells c' n' o' l' => n = n' ∧ o = o' ∧ l = l' ∧ ∀ (k : Nat) (b : AV), c'.get k = some b → ∃ a, c.get k = some a ∧ SimV a b
  | .map a, .map b => a = b
  | .spine b x, .spine c y => b = c ∧ x = y
  | _, _ => False

theorem eqNs_ok : ∀ {l m : List Nat}, eqNs l m = true → l = m
  | [], [], _ => rfl
  | a :: l, b :: m, h => by
    simp only [eqNs, Bool.and_eq_true, Nat.beq_eq] at h
    rw [h.1, eqNs_ok h.2]
  | [], _ :: _, h => by cases h
  | _ :: _, [], h => by cases h

theorem eqvObj_ok [SEnv] {a b : AObj} (h : eqvObj a b = true) : SimO a b := by
  cases a <;> cases b <;> simp only [eqvObj, Bool.false_eq_true] at h
  · simp only [Bool.and_eq_true, Nat.beq_eq] at h
    exact ⟨h.1, eqB_ok h.2.1, eqNs_ok h.2.2.1, eqvT_ok h.2.2.2⟩
  · exact eqAV_eq _ _ h
  · simp only [Bool.and_eq_true, Nat.beq_eq] at h
    exact ⟨h.1, eqAV_eq _ _ h.2⟩

theorem SimO.or [SEnv] {a b : AObj} (h : SimO a b) {w : World} {ι : Io} {id : Nat} (ho : OR w ι id a) : OR w ι id b := by
  cases a <;> cases b <;> first | exact h.elim | skip
  · obtain ⟨rfl, _, _, h4⟩ := h
    obtain ⟨l, arr, t, q1, q2, q3, q4, q5⟩ := ho
    refine ⟨l, arr, t, q1, q2, q3, q4, fun i x hi hx => ?_⟩
    obtain ⟨y, hy, hs⟩ := h4 i x hx
    obtain ⟨v, r1, r2, r3⟩ := q5 i y hi hy
    exact ⟨v, r1, (hs ι).1 _ r2, r3⟩
  · cases h
    exact ho
  · obtain ⟨rfl, rfl⟩ := h
    exact ho

theorem SimO.own [SEnv] {a b : AObj} (h : SimO a b) : isOwn (some a) = isOwn (some b) := by
  cases a <;> cases b <;> first | exact h.elim | skip
  · exact h.2.1
  · rfl
  · rfl

theorem Anc.cells {c c2 c3 c4 : Tr AV} {n n' : Nat} {o o' : Bool} {l l' : List Nat} {j : Nat} {x y : Loc} (k : Anc (.cells c n o l) j (.cells c2 n' o' l') x y) : Anc (.cells c3 n o l) j (.cells c4 n' o' l') x y := by
  cases o <;> cases o' <;> exact k

theorem SimO.anc [SEnv] {a b a' b' : AObj} (h : SimO a b) (h' : SimO a' b') {j : Nat} {x y : Loc} (k : Anc a j a' x y) : Anc b j b' x y := by
  cases a <;> cases b <;> first | exact h.elim | skip
  · cases a' <;> cases b' <;> first | exact h'.elim | skip
    · obtain ⟨rfl, rfl, rfl, _⟩ := h
      obtain ⟨rfl, rfl, rfl, _⟩ := h'
      exact k.cells
    all_goals exact absurd k (by simp [Anc])
  all_goals exact absurd k (by simp [Anc])

theorem HR.sim [SEnv] {h h' : H} {ι : Io} {w : World} (hr : HR h ι w) (hs : ∀ id o', h'.objs.get id = some o' → ∃ o, h.objs.get id = some o ∧ SimO o o') (hn : h'.next = h.next) : HR h' ι w ∧ Stp h ι w h' ι w := by
  refine ⟨⟨fun id o' ho => ?_, fun i j oi oj a b hi hj hij hown ha hb hab => ?_, fun id hid => ?_, hr.lt⟩, ⟨Ext.refl _, Nat.le_refl _, fun _ _ _ => rfl, fun g hg => .inr ?_, rfl, rfl, rfl, by rw [hn]; exact Nat.le_refl _, fun id l a b => by rw [b] at a; cases a⟩⟩
  · obtain ⟨o, h1, h2⟩ := hs id o' ho
    exact h2.or (hr.obj id o h1)
  · obtain ⟨x, h1, h2⟩ := hs i oi hi
    obtain ⟨y, h3, h4⟩ := hs j oj hj
    exact h2.anc h4 (hr.share i j x y a b h1 h3 hij (by rw [h2.own]; exact hown) ha hb hab)
  · rw [hn] at hid
    obtain ⟨h1, h2⟩ := hr.fresh id hid
    refine ⟨?_, h2⟩
    cases hg : h'.objs.get id with
    | none => rfl
    | some o' =>
      obtain ⟨o, h3, _⟩ := hs id o' hg
      rw [h3] at h1
      cases h1
  · obtain ⟨id, l, hl, hlg, ho⟩ := hg
    refine ⟨id, l, hl, hlg, ?_⟩
    cases hg : h'.objs.get id with
    | none => rw [hg] at ho; cases ho
    | some o' =>
      obtain ⟨o, h3, h4⟩ := hs id o' hg
      rw [h3, h4.own, ← hg]
      exact ho

def holdsE [SEnv] (t : Tr AObj) : List (Nat × AObj) → Bool
  | [] => true
  | (k, o) :: l => and (match t.get k with
    | some o' => eqvObj o' o
    | none => false) (holdsE t l)

theorem holdsE_get [SEnv] {t : Tr AObj} : ∀ {l : List (Nat × AObj)}, holdsE t l = true → ∀ x ∈ l, ∃ o, t.get x.1 = some o ∧ SimO o x.2
  | [], _, x, hx => by cases hx
  | (k, o) :: l, h, x, hx => by
    simp only [holdsE, Bool.and_eq_true] at h
    rcases List.mem_cons.1 hx with rfl | hx
    · have h1 := h.1
      split at h1
      · rename_i o' ho
        exact ⟨o', ho, eqvObj_ok h1⟩
      · cases h1
    · exact holdsE_get h.2 x hx

def HL.inE [SEnv] (m : HL) (h : H) : Bool := and (Nat.beq m.next h.next) (holdsE h.objs m.objs)

section
variable {P : Program} {K : Keep}

/-- does the evaluator answer what the entry says, number for number? -/
def Ent.checkE [SEnv] (P : Program) (X : Known) (T : Tab) (n : Nat) (x : Ent) : Bool := and (match callT P X T n x.f x.args x.m.lay with
  | .ok v h' => and (eqvAV v x.v) (x.m'.inE h')
  | .no _ => false) x.fit

theorem Ent.ok_ofE [SEnv] (hm : P.follows .mixedOrders = true) {X : Known} (hX : X.Ok P K) {T : Tab} (hT : T.Ok P K) {n : Nat} {x : Ent} (hx : x.checkE P X T n = true) : x.Ok P K := by
  unfold Ent.checkE at hx
  simp only [Bool.and_eq_true] at hx
  obtain ⟨hx, hf⟩ := hx
  refine ⟨?_, hf⟩
  split at hx
  case h_2 => cases hx
  rename_i v h' hr
  simp only [Bool.and_eq_true] at hx
  have hv := eqvAV_ok hx.1
  have hE := hx.2
  simp only [HL.inE, Bool.and_eq_true, Nat.beq_eq] at hE
  intro ι w vs hh hK hvs
  refine (callT_ok hm hX hT n _ _ _ _ _ hr ι w vs hh hK hvs).mono fun e w' ⟨ι', u, he, hu, hr, hs⟩ => ?_
  obtain ⟨q3, q4⟩ := hr.sim (h' := x.m'.lay) (fun id o' ho => holdsE_get hE.2 (id, o') (layL_get ho)) hE.1
  exact ⟨ι', u, he, (hv ι').1 _ hu, q3, hs.trans q4⟩

end
end Go.Proofs.YtjpgogmnabkgnaaGreat.Ev

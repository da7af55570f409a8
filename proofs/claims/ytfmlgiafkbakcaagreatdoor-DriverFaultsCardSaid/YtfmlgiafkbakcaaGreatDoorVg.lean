/- Calls that were proved one by one: a table that the evaluator looks into. -/
import Derived.Test.YtfmlgiafkbakcaaGreatDoorVp
namespace Go.Proofs.YtfmlgiafkbakcaaGreatDoor.Ev

/-- memory written out: number, object; the next number -/
structure HL where
  objs : List (Nat × AObj)
  next : Nat

def layL : List (Nat × AObj) → Tr AObj
  | [] => .nil
  | (k, o) :: l => (layL l).set (some o) k

def HL.lay (m : HL) : H := ⟨layL m.objs, m.next⟩

def holdsL (t : Tr AObj) : List (Nat × AObj) → Bool
  | [] => true
  | (k, o) :: l => (match t.get k with
    | some o' => eqObj o' o
    | none => false) && holdsL t l

/-- memory that holds what is written out -/
def HL.inH (m : HL) (h : H) : Bool := Nat.beq m.next h.next && holdsL h.objs m.objs

theorem layL_get {id : Nat} {o : AObj} : ∀ {l : List (Nat × AObj)}, (layL l).get id = some o → (id, o) ∈ l
  | [], h => by cases h
  | (k, ob) :: l, h => by
    simp only [layL] at h
    by_cases hk : id = k
    · subst hk
      rw [Tr.get_set] at h
      injection h with h
      subst h
      exact List.mem_cons_self
    · rw [Tr.get_set_ne _ _ _ _ hk] at h
      exact List.mem_cons_of_mem _ (layL_get h)

theorem holdsL_get {t : Tr AObj} : ∀ {l : List (Nat × AObj)}, holdsL t l = true → ∀ x ∈ l, t.get x.1 = some x.2
  | [], _, x, hx => by cases hx
  | (k, o) :: l, h, x, hx => by
    simp only [holdsL, Bool.and_eq_true] at h
    rcases List.mem_cons.1 hx with rfl | hx
    · have h1 := h.1
      split at h1
      · rename_i o' ho
        rw [ho, eqObj_eq h1]
      · cases h1
    · exact holdsL_get h.2 x hx

theorem HL.sub {m : HL} {h : H} (hm : m.inH h = true) : (∀ id o, m.lay.objs.get id = some o → h.objs.get id = some o) ∧ m.lay.next = h.next := by
  simp only [HL.inH, Bool.and_eq_true, Nat.beq_eq] at hm
  exact ⟨fun id o ho => holdsL_get hm.2 _ (layL_get ho), hm.1⟩

/-- for writing out -/
abbrev nu (n : Int) : AV := .int .i64 n
abbrev lf (v : AV) : Tr AV := .node (some v) .nil .nil .nil .nil

def setL (t : Tr AV) (k : Nat) : List AV → Tr AV
  | [] => t
  | a :: l => setL (t.set (some a) k) (Nat.succ k) l

/-- cells in a row -/
def cl (l : List AV) (own : Bool) (ancs : List Nat) : AObj := .cells (setL .nil 0 l) l.length own ancs

def avs : List AV → AV
  | [] => .nil
  | a :: l => .cons a (avs l)

section
variable {P : Program} {K : Keep}

/-- a call that was proved -/
structure Ent where
  f : FuncId
  args : AV
  m : HL
  v : AV
  m' : HL

/-- whom an object of ours was before -/
def deadO : AObj → List Nat
  | .cells _ _ true l => l
  | _ => []

/-- all of these, and whom they were before, away -/
def killL (t : Tr AObj) : List (Nat × AObj) → Tr AObj
  | [] => t
  | (k, o) :: l => kill (deadO o) ((killL t l).set none k)

/-- these laid over it -/
def overL (t : Tr AObj) : List (Nat × AObj) → Tr AObj
  | [] => t
  | (k, o) :: l => (overL t l).set (some o) k

/-- memory behind the call: what it did not know of stays -/
def Ent.out (x : Ent) (h : H) : H := ⟨overL (killL h.objs x.m.objs) x.m'.objs, x.m'.next⟩

/-- what it leaves is what it knew of, or new; what it may not write is no longer than it was -/
def Ent.fit (x : Ent) : Bool := x.m'.objs.all fun y => (match x.m.lay.objs.get y.1 with
  | some (.cells _ n false _) => (match y.2 with
    | .cells _ k false _ => Nat.ble k n
    | _ => false)
  | some _ => true
  | none => Nat.ble x.m.next y.1)

/-- what a proof of one says -/
def Ent.Ok (P : Program) (K : Keep) (x : Ent) : Prop := SoundCall P K x.f x.args x.m.lay x.v x.m'.lay ∧ x.fit = true

theorem kill_get {id : Nat} {o : AObj} : ∀ {l : List Nat} {t : Tr AObj}, (kill l t).get id = some o → t.get id = some o ∧ id ∉ l
  | [], _, h => ⟨h, List.not_mem_nil⟩
  | k :: l, t, h => by
    obtain ⟨h1, h2⟩ := kill_get (l := l) h
    by_cases hk : id = k
    · subst hk
      rw [Tr.get_set] at h1
      cases h1
    · rw [Tr.get_set_ne _ _ _ _ hk] at h1
      exact ⟨h1, fun hm => (List.mem_cons.1 hm).elim hk h2⟩

theorem killL_get {id : Nat} {o : AObj} {t : Tr AObj} : ∀ {l : List (Nat × AObj)}, (killL t l).get id = some o → t.get id = some o ∧ ∀ x ∈ l, id ≠ x.1 ∧ id ∉ deadO x.2
  | [], h => ⟨h, fun x hx => by cases hx⟩
  | (k, ob) :: l, h => by
    simp only [killL] at h
    obtain ⟨h1, h2⟩ := kill_get h
    by_cases hk : id = k
    · subst hk
      rw [Tr.get_set] at h1
      cases h1
    · rw [Tr.get_set_ne _ _ _ _ hk] at h1
      obtain ⟨h3, h4⟩ := killL_get h1
      refine ⟨h3, fun x hx => ?_⟩
      rcases List.mem_cons.1 hx with rfl | hx
      · exact ⟨hk, h2⟩
      · exact h4 x hx

theorem overL_get {id : Nat} {t : Tr AObj} : ∀ {l : List (Nat × AObj)}, (overL t l).get id = (match (layL l).get id with
    | some o => some o
    | none => t.get id)
  | [] => rfl
  | (k, ob) :: l => by
    simp only [overL, layL]
    by_cases hk : id = k
    · subst hk
      rw [Tr.get_set, Tr.get_set]
    · rw [Tr.get_set_ne _ _ _ _ hk, Tr.get_set_ne _ _ _ _ hk]
      exact overL_get

theorem mem_layL {id : Nat} {o : AObj} : ∀ {l : List (Nat × AObj)}, (id, o) ∈ l → ∃ o', (layL l).get id = some o'
  | [], h => by cases h
  | (k, ob) :: l, h => by
    simp only [layL]
    by_cases hk : id = k
    · subst hk
      exact ⟨ob, Tr.get_set _ _ _⟩
    · rw [Tr.get_set_ne _ _ _ _ hk]
      rcases List.mem_cons.1 h with h | h
      · injection h with h1 h2
        exact absurd h1 hk
      · exact mem_layL h

theorem Ent.fit_new {x : Ent} (hf : x.fit = true) {id : Nat} {o : AObj} (h : x.m'.lay.objs.get id = some o) : (∃ o0, x.m.lay.objs.get id = some o0) ∨ x.m.next ≤ id := by
  have := List.all_eq_true.1 hf _ (layL_get h)
  split at this
  · exact .inl ⟨_, by assumption⟩
  · exact .inl ⟨_, by assumption⟩
  · exact .inr (by simpa using this)

theorem Ent.fit_old {x : Ent} (hf : x.fit = true) {id : Nat} {o : AObj} (h : x.m'.lay.objs.get id = some o) {c : Tr AV} {n : Nat} {l : List Nat} (h0 : x.m.lay.objs.get id = some (.cells c n false l)) : ∃ c' k l', o = .cells c' k false l' ∧ k ≤ n := by
  have := List.all_eq_true.1 hf _ (layL_get h)
  rw [h0] at this
  simp only at this
  split at this
  · exact ⟨_, _, _, rfl, by simpa using this⟩
  · cases this

/-- what a call does not know of stays -/
theorem Ent.frame {x : Ent} (hx : x.Ok P K) {h : H} (hm : x.m.inH h = true) : SoundCall P K x.f x.args h x.v (x.out h) := by
  obtain ⟨hs0, hf⟩ := hx
  intro ι w vs hh hK hv
  obtain ⟨k1, k2⟩ := HL.sub hm
  obtain ⟨q1, q2⟩ := hh.sub k1 k2
  have hnx : x.m.next = h.next := k2
  refine (hs0 ι w vs q1 (K.step hK q2) hv).mono fun e w' ⟨ι', u, he, hu, hr, hs⟩ => ⟨ι', u, he, hu, ?_⟩
  -- one that it did not know of
  have hout : ∀ id o, (x.out h).objs.get id = some o → x.m'.lay.objs.get id = some o ∨ (x.m'.lay.objs.get id = none ∧ h.objs.get id = some o ∧ x.m.lay.objs.get id = none ∧ ∀ y oy, x.m.lay.objs.get y = some oy → id ∉ deadO oy) := fun id o ho => by
    have h1 : (overL (killL h.objs x.m.objs) x.m'.objs).get id = some o := ho
    rw [overL_get] at h1
    split at h1
    · rename_i o' ho'
      injection h1 with h1
      subst h1
      exact .inl ho'
    · rename_i hn
      obtain ⟨h2, h3⟩ := killL_get h1
      refine .inr ⟨hn, h2, ?_, fun y oy hy => (h3 (y, oy) (layL_get hy)).2⟩
      cases hc : x.m.lay.objs.get id with
      | none => rfl
      | some o' => exact absurd rfl (h3 (id, o') (layL_get hc)).1
  have hloc : ∀ id o, h.objs.get id = some o → x.m.lay.objs.get id = none → (∀ y oy, x.m.lay.objs.get y = some oy → id ∉ deadO oy) → ∃ l, ι id = some l ∧ l.g < w.heap.size ∧ ¬ Owned x.m.lay ι l.g := fun id o ho hn hd => by
    obtain ⟨l, hl, hlg⟩ := (hh.obj id o ho).lt
    refine ⟨l, hl, hlg, fun ⟨y, b, hb, hbg, hown⟩ => ?_⟩
    cases hy : x.m.lay.objs.get y with
    | none => rw [hy] at hown; cases hown
    | some oy =>
      rw [hy] at hown
      have hne : y ≠ id := fun e => by rw [e, hn] at hy; cases hy
      have hanc := hh.share y id oy o b l (k1 y oy hy) ho hne hown hb hl hbg
      have hd' := hd y oy hy
      cases oy with
      | map _ => exact hanc
      | cells c n own anc =>
        have : own = true := hown
        subst this
        cases o with
        | map _ => exact hanc
        | cells c2 n2 own2 anc2 => cases own2 with
          | true => exact hanc
          | false => exact hd' hanc.1
  have hnew : ∀ id b, ι' id = some b → ι id = none → ∀ l : Loc, l.g < w.heap.size → ¬ Owned x.m.lay ι l.g → b.g ≠ l.g := fun id b hb hn l h1 h2 e => by
    rcases (hs.new id b hb hn).2 with h3 | h3
    · omega
    · exact h2 (e ▸ h3)
  have hownm : ∀ g, Owned x.m.lay ι g → Owned h ι g := fun g ⟨y, b, hb, hbg, hown⟩ => by
    refine ⟨y, b, hb, hbg, ?_⟩
    cases hy : x.m.lay.objs.get y with
    | none => rw [hy] at hown; cases hown
    | some oy => rw [k1 y oy hy]; rw [hy] at hown; exact hown
  refine ⟨⟨fun id o ho => ?_, fun i j oi oj a b hi hj hij hown ha hb hab => ?_, fun id hid => ?_, hr.lt⟩, ⟨hs.ext, hs.size, fun g hg hno => hs.blk g hg fun hc => hno (hownm g hc), fun g hg => ?_, hs.os, hs.tape, hs.output, ?_, fun id l hl hn => ?_⟩⟩
  · rcases hout id o ho with h1 | ⟨_, h2, h3, h4⟩
    · exact hr.obj id o h1
    · obtain ⟨l, hl, hlg, hno⟩ := hloc id o h2 h3 h4
      refine (hh.obj id o h2).ext hs.ext fun l' hl' => ?_
      rw [hl] at hl'
      injection hl' with hl'
      subst hl'
      exact hs.blk _ hlg hno
  · rcases hout i oi hi with i1 | ⟨_, i2, i3, i4⟩
    · rcases hout j oj hj with j1 | ⟨_, j2, j3, j4⟩
      · exact hr.share i j oi oj a b i1 j1 hij hown ha hb hab
      · exfalso
        obtain ⟨l, hl, hlg, hno⟩ := hloc j oj j2 j3 j4
        rw [hs.ext _ _ hl] at hb
        injection hb with hb
        subst hb
        rcases hs.own a.g ⟨i, a, ha, rfl, by rw [i1]; exact hown⟩ with h1 | h1
        · omega
        · exact hno (hab ▸ h1)
    · obtain ⟨l, hl, hlg, hno⟩ := hloc i oi i2 i3 i4
      have ha' := ha
      rw [hs.ext _ _ hl] at ha'
      injection ha' with ha'
      subst ha'
      rcases hout j oj hj with j1 | ⟨_, j2, j3, j4⟩
      · cases hj0 : ι j with
        | none => exact absurd hab.symm (hnew j b hb hj0 _ hlg hno)
        | some b' =>
          have hb' := hb
          rw [hs.ext _ _ hj0] at hb'
          injection hb' with hb'
          subst hb'
          rcases Ent.fit_new hf j1 with ⟨o0, h0⟩ | h0
          · have hanc := hh.share i j oi o0 _ _ i2 (k1 j o0 h0) hij hown hl hj0 hab
            cases oi with
            | map _ => exact absurd hanc (by simp [Anc])
            | cells c n own anc =>
              have : own = true := hown
              subst this
              cases o0 with
              | map _ => exact absurd hanc (by simp [Anc])
              | cells c2 n2 own2 anc2 => cases own2 with
                | true => exact absurd hanc (by simp [Anc])
                | false =>
                  obtain ⟨c', k, l', rfl, hk⟩ := Ent.fit_old hf j1 h0
                  obtain ⟨z1, z2⟩ := hanc
                  exact ⟨z1, by omega⟩
          · have := (hh.fresh j (by omega)).2
            rw [hj0] at this
            cases this
      · obtain ⟨lj, hlj, _, _⟩ := hloc j oj j2 j3 j4
        rw [hs.ext _ _ hlj] at hb
        injection hb with hb
        subst hb
        exact hh.share i j oi oj _ _ i2 j2 hij hown hl hlj hab
  · have hid' : x.m'.next ≤ id := hid
    obtain ⟨h1, h2⟩ := hr.fresh id hid'
    refine ⟨?_, h2⟩
    cases hc : (x.out h).objs.get id with
    | none => rfl
    | some o =>
      rcases hout id o hc with h3 | ⟨_, h3, _, _⟩
      · rw [h1] at h3; cases h3
      · have hle : x.m.next ≤ x.m'.next := hs.next
        rw [(hh.fresh id (by omega)).1] at h3
        cases h3
  · obtain ⟨id, l, hl, hlg, hown⟩ := hg
    cases hc : (x.out h).objs.get id with
    | none => rw [hc] at hown; cases hown
    | some o =>
      rw [hc] at hown
      rcases hout id o hc with h1 | ⟨_, h2, h3, h4⟩
      · rcases hs.own g ⟨id, l, hl, hlg, by rw [h1]; exact hown⟩ with h5 | h5
        · exact .inl h5
        · exact .inr (hownm g h5)
      · obtain ⟨l', hl', _, _⟩ := hloc id o h2 h3 h4
        rw [hs.ext _ _ hl'] at hl
        injection hl with hl
        subst hl
        exact .inr ⟨id, _, hl', hlg, by rw [h2]; exact hown⟩
  · have hle : x.m.next ≤ x.m'.next := hs.next
    show h.next ≤ x.m'.next
    omega
  · obtain ⟨h1, h2⟩ := hs.new id l hl hn
    have h1' : x.m.next ≤ id := h1
    refine ⟨by omega, ?_⟩
    rcases h2 with h2 | h2
    · exact .inl h2
    · exact .inr (hownm _ h2)

/-- calls that were proved, by function -/
abbrev Tab := List (FuncId × List Ent)

def Tab.Ok (P : Program) (K : Keep) (T : Tab) : Prop := ∀ g ∈ T, ∀ x ∈ g.2, x.Ok P K

def lookE (args : AV) (h : H) : List Ent → Option (AV × H)
  | [] => none
  | x :: l => match eqAV x.args args && x.m.inH h with
    | true => some (x.v, x.out h)
    | false => lookE args h l

def lookT : Tab → FuncId → AV → H → Option (AV × H)
  | [], _, _, _ => none
  | (g, l) :: T, f, args, h => match Nat.beq g f with
    | true => lookE args h (l.filter fun x => Nat.beq x.f f)
    | false => lookT T f args h

theorem lookE_ok {f : FuncId} {args : AV} {h : H} {v : AV} {h' : H} : ∀ {l : List Ent}, (∀ x ∈ l, x.Ok P K ∧ x.f = f) → lookE args h l = some (v, h') → SoundCall P K f args h v h'
  | [], _, hr => by cases hr
  | x :: l, hl, hr => by
    simp only [lookE] at hr
    split at hr
    · rename_i hc
      simp only [Bool.and_eq_true] at hc
      obtain ⟨h2, h3⟩ := hc
      injection hr with hr
      injection hr with e1 e2
      subst e1 e2
      obtain ⟨h1, hf⟩ := hl x List.mem_cons_self
      have h2 := eqAV_eq _ _ h2
      subst hf h2
      exact Ent.frame h1 h3
    · exact lookE_ok (fun y hy => hl y (List.mem_cons_of_mem _ hy)) hr

theorem lookT_ok : ∀ {T : Tab}, T.Ok P K → ∀ {f : FuncId} {args : AV} {h : H} {v : AV} {h' : H}, lookT T f args h = some (v, h') → SoundCall P K f args h v h'
  | [], _, _, _, _, _, _, hr => by cases hr
  | (g, l) :: T, hT, f, args, h, v, h', hr => by
    simp only [lookT] at hr
    split at hr
    · refine lookE_ok (fun x hx => ?_) hr
      obtain ⟨h1, h2⟩ := List.mem_filter.1 hx
      exact ⟨hT (g, l) List.mem_cons_self x h1, by simpa using h2⟩
    · exact lookT_ok (fun y hy => hT y (List.mem_cons_of_mem _ hy)) hr

/-- calls that are known by other means -/
abbrev Known := FuncId → AV → H → Option (AV × H)

def Known.Ok (P : Program) (K : Keep) (X : Known) : Prop := ∀ {f args h v h'}, X f args h = some (v, h') → SoundCall P K f args h v h'

/-- the evaluator with a table -/
def callT (P : Program) (X : Known) (T : Tab) : Nat → FuncId → AV → H → O
  | 0, _, _, _ => .no 115
  | n + 1, f, args, h => match lookT T f args h with
    | some (v, h') => .ok v h'
    | none => match X f args h with
      | some (v, h') => .ok v h'
      | none => (finfo P f).run (callT P X T n) args h

theorem finfo_ok [LaidOut P] (hd : ∀ N id ops, SoundC P K N (.region id ops true) (dops P N ops)) {ih : CF} (hi : SoundCF P K ih) {f : FuncId} {args : AV} {h : H} {v : AV} {h' : H} (hr : (finfo P f).run ih args h = .ok v h') : SoundCall P K f args h v h' := by
  intro ι w vs hh hK hv
  simp only [finfo] at hr
  split at hr
  case h_2 => cases hr
  rename_i fn hfn
  split at hr
  case h_2 => cases hr
  rename_i c hb
  simp only at hr
  split at hr
  case h_2 => cases hr
  rename_i e he
  have hE := ER.enter hv he fn.ntmps
  have hg : ((comp P fn.ntmps c).run ih e h).good = true := by
    generalize (comp P fn.ntmps c).run ih e h = r at hr
    cases r <;> first | rfl | cases hr
  refine calls_of_wp hfn hb (Go.wp_mono (comp_ok (hd fn.ntmps) c ih hi e h ι _ w hE hh hK hg) fun x a' w' p => ?_)
  generalize (comp P fn.ntmps c).run ih e h = r at hr p
  cases r with
  | fail y => cases hr
  | exit i e' h'' => cases hr
  | norm e' h'' =>
    obtain ⟨rfl, ι', hE', hh', hs⟩ := p
    simp only [endR] at hr
    split at hr
    case h_2 => cases hr
    rename_i rl hrl
    injection hr with e1 e2
    subst e1 e2
    obtain ⟨u, h1, h2⟩ := results_ok (P := P) hE' hh' hrl
    exact ⟨hE'.defers, u, h1, ι', u, rfl, h2, hh', hs⟩
  | ret e' h'' =>
    obtain ⟨rfl, ι', hE', hh', hs⟩ := p
    simp only [endR] at hr
    split at hr
    case h_2 => cases hr
    rename_i rl hrl
    injection hr with e1 e2
    subst e1 e2
    obtain ⟨u, h1, h2⟩ := results_ok (P := P) hE' hh' hrl
    exact ⟨hE'.defers, u, h1, ι', u, rfl, h2, hh', hs⟩

theorem callT_ok [LaidOut P] (hm : P.follows .mixedOrders = true) {X : Known} (hX : X.Ok P K) {T : Tab} (hT : T.Ok P K) : ∀ n, SoundCF P K (callT P X T n)
  | 0 => fun f args h v h' hr => by cases hr
  | n + 1 => by
    intro f args h v h' hr
    simp only [callT] at hr
    split at hr
    · rename_i v1 h1 hl
      injection hr with e1 e2
      subst e1 e2
      exact lookT_ok hT hl
    · split at hr
      · rename_i v1 h1 hl
        injection hr with e1 e2
        subst e1 e2
        exact hX hl
      · exact finfo_ok (fun N id ops => dops_ok hm id ops) (callT_ok hm hX hT n) hr

/-- does the evaluator answer what the entry says? -/
def Ent.check (P : Program) (X : Known) (T : Tab) (n : Nat) (x : Ent) : Bool := (match callT P X T n x.f x.args x.m.lay with
  | .ok v h' => eqAV v x.v && x.m'.inH h'
  | .no _ => false) && x.fit

theorem Ent.ok_of [LaidOut P] (hm : P.follows .mixedOrders = true) {X : Known} (hX : X.Ok P K) {T : Tab} (hT : T.Ok P K) {n : Nat} {x : Ent} (hx : x.check P X T n = true) : x.Ok P K := by
  unfold Ent.check at hx
  simp only [Bool.and_eq_true] at hx
  obtain ⟨hx, hf⟩ := hx
  refine ⟨?_, hf⟩
  split at hx
  case h_2 => cases hx
  rename_i v h' hr
  simp only [Bool.and_eq_true] at hx
  have hv := eqAV_eq _ _ hx.1
  subst hv
  intro ι w vs hh hK hv
  obtain ⟨k3, k4⟩ := HL.sub hx.2
  refine (callT_ok hm hX hT n _ _ _ _ _ hr ι w vs hh hK hv).mono fun e w' ⟨ι', u, he, hu, hr, hs⟩ => ?_
  obtain ⟨q3, q4⟩ := hr.sub k3 k4
  exact ⟨ι', u, he, hu, q3, hs.trans q4⟩

theorem Tab.ok_nil : Tab.Ok P K [] := fun _ h => by cases h

theorem Tab.ok_cons {f : FuncId} {l : List Ent} {T : Tab} (h : ∀ x ∈ l, x.Ok P K) (hT : T.Ok P K) : Tab.Ok P K ((f, l) :: T) := fun g hg => by
  rcases List.mem_cons.1 hg with rfl | hg
  · exact h
  · exact hT g hg

theorem Ent.ok_nil : ∀ x ∈ ([] : List Ent), x.Ok P K := fun _ h => by cases h

theorem Ent.ok_cons {x : Ent} {l : List Ent} (hx : x.Ok P K) (hl : ∀ y ∈ l, y.Ok P K) : ∀ y ∈ x :: l, y.Ok P K := fun y hy => by
  rcases List.mem_cons.1 hy with rfl | hy
  · exact hx
  · exact hl y hy

end
end Go.Proofs.YtfmlgiafkbakcaaGreatDoor.Ev

/- Calls that were proved one by one: a table that the evaluator looks into. -/
import Derived.Test.YtpepepkfjimoeaaGreatVf
namespace Go.Proofs.YtpepepkfjimoeaaGreat.Ev

/-! ### equal memory -/

def eqOA : Option AV → Option AV → Bool
  | none, none => true
  | some a, some b => eqAV a b
  | _, _ => false

def eqTA : Tr AV → Tr AV → Bool
  | .nil, .nil => true
  | .node v a b c d, .node v' a' b' c' d' => eqOA v v' && eqTA a a' && eqTA b b' && eqTA c c' && eqTA d d'
  | _, _ => false

def eqB (a b : Bool) : Bool := match a with
  | true => b
  | false => not b

def eqNs : List Nat → List Nat → Bool
  | [], [] => true
  | a :: l, b :: m => Nat.beq a b && eqNs l m
  | _, _ => false

def eqObj : AObj → AObj → Bool
  | .cells c n o l, .cells c' n' o' l' => Nat.beq n n' && eqB o o' && eqNs l l' && eqTA c c'
  | .map a, .map b => eqAV a b
  | _, _ => false

theorem eqOA_eq : ∀ {a b : Option AV}, eqOA a b = true → a = b
  | none, none, _ => rfl
  | some a, some b, h => by rw [eqAV_eq a b h]
  | none, some _, h => by cases h
  | some _, none, h => by cases h

theorem eqTA_eq : ∀ (a b : Tr AV), eqTA a b = true → a = b := by
  intro a
  induction a with
  | nil => intro b h; cases b <;> first | rfl | cases h
  | node v a b c d iha ihb ihc ihd =>
    intro t h
    cases t with
    | nil => cases h
    | node v' a' b' c' d' =>
      simp only [eqTA, Bool.and_eq_true] at h
      obtain ⟨⟨⟨⟨h1, h2⟩, h3⟩, h4⟩, h5⟩ := h
      rw [eqOA_eq h1, iha _ h2, ihb _ h3, ihc _ h4, ihd _ h5]

theorem eqB_iff {a b : Bool} (h : eqB a b = true) : a = b := by cases a <;> cases b <;> simp_all [eqB]

theorem eqNs_eq : ∀ {l m : List Nat}, eqNs l m = true → l = m
  | [], [], _ => rfl
  | a :: l, b :: m, h => by
    simp only [eqNs, Bool.and_eq_true, Nat.beq_eq] at h
    rw [h.1, eqNs_eq h.2]
  | [], _ :: _, h => by cases h
  | _ :: _, [], h => by cases h

theorem eqObj_eq : ∀ {a b : AObj}, eqObj a b = true → a = b
  | .cells c n o l, .cells c' n' o' l', h => by
    simp only [eqObj, Bool.and_eq_true, Nat.beq_eq] at h
    obtain ⟨⟨⟨h1, h2⟩, h3⟩, h4⟩ := h
    rw [h1, eqB_iff h2, eqNs_eq h3, eqTA_eq _ _ h4]
  | .map a, .map b, h => by rw [eqAV_eq a b h]
  | .cells .., .map _, h => by cases h
  | .map _, .cells .., h => by cases h

/-- memory written out: number, object; the next number -/
structure HL where
  objs : List (Nat × AObj)
  next : Nat

def layL : List (Nat × AObj) → Tr AObj
  | [] => .nil
  | (k, o) :: l => (layL l).set (some o) k

def HL.lay (m : HL) : H := ⟨layL m.objs, m.next⟩

def holdsL (t : Tr AObj) : List (Nat × AObj) → Bool
  | [] => true
  | (k, o) :: l => (match t.get k with
    | some o' => eqObj o' o
    | none => false) && holdsL t l

/-- memory that holds what is written out -/
def HL.inH (m : HL) (h : H) : Bool := Nat.beq m.next h.next && holdsL h.objs m.objs

theorem layL_get {id : Nat} {o : AObj} : ∀ {l : List (Nat × AObj)}, (layL l).get id = some o → (id, o) ∈ l
  | [], h => by cases h
  | (k, ob) :: l, h => by
    simp only [layL] at h
    by_cases hk : id = k
    · subst hk
      rw [Tr.get_set] at h
      injection h with h
      subst h
      exact List.mem_cons_self
    · rw [Tr.get_set_ne _ _ _ _ hk] at h
      exact List.mem_cons_of_mem _ (layL_get h)

theorem holdsL_get {t : Tr AObj} : ∀ {l : List (Nat × AObj)}, holdsL t l = true → ∀ x ∈ l, t.get x.1 = some x.2
  | [], _, x, hx => by cases hx
  | (k, o) :: l, h, x, hx => by
    simp only [holdsL, Bool.and_eq_true] at h
    rcases List.mem_cons.1 hx with rfl | hx
    · have h1 := h.1
      split at h1
      · rename_i o' ho
        rw [ho, eqObj_eq h1]
      · cases h1
    · exact holdsL_get h.2 x hx

theorem HL.sub {m : HL} {h : H} (hm : m.inH h = true) : (∀ id o, m.lay.objs.get id = some o → h.objs.get id = some o) ∧ m.lay.next = h.next := by
  simp only [HL.inH, Bool.and_eq_true, Nat.beq_eq] at hm
  exact ⟨fun id o ho => holdsL_get hm.2 _ (layL_get ho), hm.1⟩

/-- for writing out -/
abbrev nu (n : Int) : AV := .int .i64 n
abbrev lf (v : AV) : Tr AV := .node (some v) .nil .nil .nil .nil

section
variable {P : Program}

/-- with less on either side -/
theorem SoundCall.weak {f : FuncId} {args : AV} {m m' : HL} {v : AV} {h' : H} (s : SoundCall P f args m.lay v h') (hm' : m'.inH h' = true) {h : H} (hm : m.inH h = true) : SoundCall P f args h v m'.lay := by
  intro ι w vs hh hv
  obtain ⟨k1, k2⟩ := HL.sub hm
  obtain ⟨k3, k4⟩ := HL.sub hm'
  obtain ⟨q1, q2⟩ := hh.sub k1 k2
  refine (s ι w vs q1 hv).mono fun e w' ⟨ι', u, he, hu, hr, hs⟩ => ?_
  obtain ⟨q3, q4⟩ := hr.sub k3 k4
  exact ⟨ι', u, he, hu, q3, (q2.trans hs).trans q4⟩

/-- a call that was proved -/
structure Ent where
  f : FuncId
  args : AV
  m : HL
  v : AV
  m' : HL

/-- what a proof of one says -/
def Ent.Ok (P : Program) (x : Ent) : Prop := ∀ h, x.m.inH h = true → SoundCall P x.f x.args h x.v x.m'.lay

def lookT : List Ent → FuncId → AV → H → Option (AV × H)
  | [], _, _, _ => none
  | x :: l, f, args, h => match Nat.beq x.f f && eqAV x.args args && x.m.inH h with
    | true => some (x.v, x.m'.lay)
    | false => lookT l f args h

theorem lookT_ok : ∀ {T : List Ent}, (∀ x ∈ T, x.Ok P) → ∀ {f : FuncId} {args : AV} {h : H} {v : AV} {h' : H}, lookT T f args h = some (v, h') → SoundCall P f args h v h'
  | [], _, _, _, _, _, _, hr => by cases hr
  | x :: l, hT, f, args, h, v, h', hr => by
    simp only [lookT] at hr
    split at hr
    · rename_i hc
      simp only [Bool.and_eq_true, Nat.beq_eq] at hc
      obtain ⟨⟨h1, h2⟩, h3⟩ := hc
      injection hr with hr
      injection hr with e1 e2
      subst e1 e2
      have h2 := eqAV_eq _ _ h2
      subst h1 h2
      exact hT x List.mem_cons_self h h3
    · exact lookT_ok (fun y hy => hT y (List.mem_cons_of_mem _ hy)) hr

/-- the evaluator with a table -/
def callT (P : Program) (T : List Ent) : Nat → FuncId → AV → H → O
  | 0, _, _, _ => .no 115
  | n + 1, f, args, h => match lookT T f args h with
    | some (v, h') => .ok v h'
    | none => (finfo P f).run (callT P T n) args h

theorem finfo_ok (hd : ∀ N id ops, SoundC P N (.region id ops true) (dops P N ops)) {ih : CF} (hi : SoundCF P ih) {f : FuncId} {args : AV} {h : H} {v : AV} {h' : H} (hr : (finfo P f).run ih args h = .ok v h') : SoundCall P f args h v h' := by
  intro ι w vs hh hv
  simp only [finfo] at hr
  split at hr
  case h_2 => cases hr
  rename_i fn hfn
  split at hr
  case h_2 => cases hr
  rename_i c hb
  simp only at hr
  split at hr
  case h_2 => cases hr
  rename_i e he
  have hE := ER.enter hv he fn.ntmps
  have hg : ((comp P fn.ntmps c).run ih e h).good = true := by
    generalize (comp P fn.ntmps c).run ih e h = r at hr
    cases r <;> first | rfl | cases hr
  refine calls_of_wp hfn hb (Go.wp_mono (comp_ok (hd fn.ntmps) c ih hi e h ι _ w hE hh hg) fun x a' w' p => ?_)
  generalize (comp P fn.ntmps c).run ih e h = r at hr p
  cases r with
  | fail y => cases hr
  | exit i e' h'' => cases hr
  | norm e' h'' =>
    obtain ⟨rfl, ι', hE', hh', hs⟩ := p
    simp only [endR] at hr
    split at hr
    case h_2 => cases hr
    rename_i rl hrl
    injection hr with e1 e2
    subst e1 e2
    obtain ⟨u, h1, h2⟩ := results_ok (P := P) hE' hh' hrl
    exact ⟨hE'.defers, u, h1, ι', u, rfl, h2, hh', hs⟩
  | ret e' h'' =>
    obtain ⟨rfl, ι', hE', hh', hs⟩ := p
    simp only [endR] at hr
    split at hr
    case h_2 => cases hr
    rename_i rl hrl
    injection hr with e1 e2
    subst e1 e2
    obtain ⟨u, h1, h2⟩ := results_ok (P := P) hE' hh' hrl
    exact ⟨hE'.defers, u, h1, ι', u, rfl, h2, hh', hs⟩

theorem callT_ok (hm : P.follows .mixedOrders = true) {T : List Ent} (hT : ∀ x ∈ T, x.Ok P) : ∀ n, SoundCF P (callT P T n)
  | 0 => fun f args h v h' hr => by cases hr
  | n + 1 => by
    intro f args h v h' hr
    simp only [callT] at hr
    split at hr
    · rename_i v1 h1 hl
      injection hr with e1 e2
      subst e1 e2
      exact lookT_ok hT hl
    · exact finfo_ok (fun N id ops => dops_ok hm id ops) (callT_ok hm hT n) hr

/-- does the evaluator answer what the entry says? -/
def Ent.check (P : Program) (T : List Ent) (n : Nat) (x : Ent) : Bool := match callT P T n x.f x.args x.m.lay with
  | .ok v h' => eqAV v x.v && x.m'.inH h'
  | .no _ => false

theorem Ent.ok_of (hm : P.follows .mixedOrders = true) {T : List Ent} (hT : ∀ x ∈ T, x.Ok P) {n : Nat} {x : Ent} (hx : x.check P T n = true) : x.Ok P := by
  intro h hh
  unfold Ent.check at hx
  split at hx
  case h_2 => cases hx
  rename_i v h' hr
  simp only [Bool.and_eq_true] at hx
  have hv := eqAV_eq _ _ hx.1
  subst hv
  exact SoundCall.weak (callT_ok hm hT n _ _ _ _ _ hr) hx.2 hh

end
end Go.Proofs.YtpepepkfjimoeaaGreat.Ev

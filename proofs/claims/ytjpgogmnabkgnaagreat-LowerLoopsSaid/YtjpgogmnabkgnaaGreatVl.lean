/- Loops whose rounds begin alike: a round's end is told anew as the next one's beginning. -/
import Derived.Test.YtjpgogmnabkgnaaGreatVq
namespace Go.Proofs.YtjpgogmnabkgnaaGreat.Ev

/-! ### code with a loop that is known -/

def compX [SEnv] (P : Program) (N : Nat) (ov : C) : Code → C
  | .seq a b => ⟨fun ih e h => seqR ((compX P N ov a).run ih e h) ((compX P N ov b).run ih)⟩
  | .cond c a b => match okOp c with
    | true => ⟨fun ih e h => condR ((cget c).get e) (fun _ => (compX P N ov a).run ih e h) (fun _ => (compX P N ov b).run ih e h)⟩
    | false => ⟨fun _ _ _ => .fail 107⟩
  | .block id c => ⟨fun ih e h => blockR id ((compX P N ov c).run ih e h)⟩
  | .loop _ => ov
  | c => comp P N c

def loopsOf : Code → List Code
  | .seq a b => loopsOf a ++ loopsOf b
  | .cond _ a b => loopsOf a ++ loopsOf b
  | .block _ c => loopsOf c
  | .loop c => [c]
  | _ => []

section
variable {P : Program} {K : Keep}

theorem compX_ok [SEnv] {N : Nat} (hd : ∀ id ops, SoundC P K N (.region id ops true) (dops P N ops)) {ov : C} : ∀ c : Code, (∀ b ∈ loopsOf c, SoundC P K N (.loop b) ov) → SoundC P K N c (compX P N ov c)
  | .skip, _ => comp_ok hd _
  | .label _, _ => comp_ok hd _
  | .region _ _ _, _ => comp_ok hd _
  | .seq c d, h => seq_ok (compX_ok hd c fun b hb => h b (List.mem_append_left _ hb)) (compX_ok hd d fun b hb => h b (List.mem_append_right _ hb))
  | .cond x c d, h => by
    intro ih hi e hm ι a w hE hh hK hg
    simp only [compX] at hg ⊢
    split at hg
    · rename_i hx
      exact cond_ok hx (compX_ok hd c fun b hb => h b (List.mem_append_left _ hb)) (compX_ok hd d fun b hb => h b (List.mem_append_right _ hb)) ih hi e hm ι a w hE hh hK hg
    · cases hg
  | .block id c, h => block_ok (compX_ok hd c h)
  | .loop c, h => h c List.mem_cons_self
  | .exit _, _ => comp_ok hd _
  | .ret, _ => comp_ok hd _
  | .rangeFunc _ _ _ _, _ => comp_ok hd _
  | .scope _, _ => comp_ok hd _
  | .goto _, _ => comp_ok hd _
  | .refuse _, _ => comp_ok hd _

/-- a function with a loop that is known -/
def finfoX [SEnv] (P : Program) (ov : C) (f : FuncId) : FI := match P.funcs[f]? with
  | some fn => match fn.body with
    | some c => ⟨fun ih args h => match argsE args 0 e0 with
      | some e => endR (cres P fn.results.toList).get ((compX P fn.ntmps ov c).run ih e h)
      | none => .no 116⟩
    | none => ⟨fun _ _ _ => .no 113⟩
  | none => ⟨fun _ _ _ => .no 114⟩

theorem finfoX_ok [SEnv] (hd : ∀ N id ops, SoundC P K N (.region id ops true) (dops P N ops)) {ih : CF} (hi : SoundCF P K ih) {f : FuncId} {ov : C} (hov : ∀ fn c, P.funcs[f]? = some fn → fn.body = some c → ∀ b ∈ loopsOf c, SoundC P K fn.ntmps (.loop b) ov)
    {args : AV} {h : H} {v : AV} {h' : H} (hr : (finfoX P ov f).run ih args h = .ok v h') : SoundCall P K f args h v h' := by
  intro ι w vs hh hK hv
  simp only [finfoX] at hr
  split at hr
  case h_2 => cases hr
  rename_i fn hfn
  split at hr
  case h_2 => cases hr
  rename_i c hb
  simp only at hr
  split at hr
  case h_2 => cases hr
  rename_i e he
  have hE := ER.enter hv he fn.ntmps
  have hg : ((compX P fn.ntmps ov c).run ih e h).good = true := by
    generalize (compX P fn.ntmps ov c).run ih e h = r at hr
    cases r <;> first | rfl | cases hr
  refine calls_of_wp hfn hb (Go.wp_mono (compX_ok (hd fn.ntmps) c (hov fn c hfn hb) ih hi e h ι _ w hE hh hK hg) fun x a' w' p => ?_)
  generalize (compX P fn.ntmps ov c).run ih e h = r at hr p
  cases r with
  | fail y => cases hr
  | exit i e' h'' => cases hr
  | norm e' h'' =>
    obtain ⟨rfl, ι', hE', hh', hs⟩ := p
    simp only [endR] at hr
    split at hr
    case h_2 => cases hr
    rename_i rl hrl
    injection hr with e1 e2
    subst e1 e2
    obtain ⟨u, h1, h2⟩ := results_ok (P := P) hE' hh' hrl
    exact ⟨hE'.defers, u, h1, ι', u, rfl, h2, hh', hs⟩
  | ret e' h'' =>
    obtain ⟨rfl, ι', hE', hh', hs⟩ := p
    simp only [endR] at hr
    split at hr
    case h_2 => cases hr
    rename_i rl hrl
    injection hr with e1 e2
    subst e1 e2
    obtain ⟨u, h1, h2⟩ := results_ok (P := P) hE' hh' hrl
    exact ⟨hE'.defers, u, h1, ι', u, rfl, h2, hh', hs⟩

def Ent.checkX [SEnv] (P : Program) (ov : C) (X : Known) (T : Tab) (n : Nat) (x : Ent) : Bool := (match (finfoX P ov x.f).run (callT P X T n) x.args x.m.lay with
  | .ok v h' => eqAV v x.v && x.m'.inH h'
  | .no _ => false) && x.fit

theorem Ent.ok_ofX [SEnv] (hm : P.follows .mixedOrders = true) {X : Known} (hX : X.Ok P K) {T : Tab} (hT : T.Ok P K) {n : Nat} {ov : C} {x : Ent} (hov : ∀ fn c, P.funcs[x.f]? = some fn → fn.body = some c → ∀ b ∈ loopsOf c, SoundC P K fn.ntmps (.loop b) ov)
    (hx : x.checkX P ov X T n = true) : x.Ok P K := by
  unfold Ent.checkX at hx
  simp only [Bool.and_eq_true] at hx
  obtain ⟨hx, hf⟩ := hx
  refine ⟨?_, hf⟩
  split at hx
  case h_2 => cases hx
  rename_i v h' hr
  simp only [Bool.and_eq_true] at hx
  have hv := eqAV_eq _ _ hx.1
  subst hv
  intro ι w vs hh hK hv
  obtain ⟨k3, k4⟩ := HL.sub hx.2
  refine (finfoX_ok (fun N id ops => dops_ok hm id ops) (callT_ok hm hX hT n) hov hr ι w vs hh hK hv).mono fun e w' ⟨ι', u, he, hu, hr, hs⟩ => ?_
  obtain ⟨q3, q4⟩ := hr.sub k3 k4
  exact ⟨ι', u, he, hu, q3, hs.trans q4⟩
end

/-! ### values and memory told by other names -/

/-- our numbers, lists and blocks by those of another telling -/
structure Sb where
  nums : List (Nat × Tm)
  lists : List (Nat × Option (Nat × AV))
  ids : List (Nat × Nat)

def look {α : Type} : List (Nat × α) → Nat → Option α
  | [], _ => none
  | (k, x) :: l, i => match Nat.beq k i with
    | true => some x
    | false => look l i

theorem look_mem {α : Type} {i : Nat} {x : α} : ∀ {l : List (Nat × α)}, look l i = some x → (i, x) ∈ l
  | [], h => by cases h
  | (k, y) :: l, h => by
    simp only [look] at h
    split at h
    · rename_i hk
      have hk : k = i := by simpa using hk
      injection h with h
      subst hk h
      exact List.mem_cons_self
    · exact List.mem_cons_of_mem _ (look_mem h)

structure SymOk (ρ0 ρ1 : SEnv0) (s : Sb) : Prop where
  app : ρ0.app = ρ1.app
  nums : ∀ i t, look s.nums i = some t → ρ0.rho i = @Tm.den ρ1 t
  lsts : ∀ b c ts, look s.lists b = some (some (c, ts)) → ∃ m, @denL ρ1 ts = some m ∧ ρ0.lst b = ρ1.lst c ++ m
  emps : ∀ b, look s.lists b = some none → ρ0.lst b = []

structure SbOk (ρ0 ρ1 : SEnv0) (ι0 ι1 : Io) (s : Sb) : Prop extends SymOk ρ0 ρ1 s where
  ids : ∀ i j, look s.ids i = some j → ∀ l, ι1 j = some l → ι0 i = some l

def eqBB (a b : Bool) : Bool := match a with
  | true => b
  | false => not b

theorem eqBB_eq {a b : Bool} (h : eqBB a b = true) : a = b := by cases a <;> cases b <;> simp_all [eqBB]

def isAt (l : List (Nat × Nat)) (i j : Nat) : Bool := match look l i with
  | some k => Nat.beq k j
  | none => false

theorem isAt_eq {l : List (Nat × Nat)} {i j : Nat} (h : isAt l i j = true) : look l i = some j := by
  unfold isAt at h
  split at h
  · rename_i k hk
    have : k = j := by simpa using h
    rw [hk, this]
  · cases h

/-- a number that both tell alike -/
def fixV (s : Sb) (i : Nat) : Bool := match look s.nums i with
  | some (.var j) => Nat.beq i j
  | _ => false

def fixT (s : Sb) : Tm → Bool
  | .var i => fixV s i
  | .lit _ => true
  | .lin _ l => l.all fun x => fixV s x.1
  | .bin _ _ a b => and (fixT s a) (fixT s b)
  | .wrap _ a => fixT s a
  | .ap _ a b => and (fixT s a) (fixT s b)

def mtchN (s : Sb) (k : IntKind) (t : Tm) (y : AV) : Bool := match tmOf y with
  | some (j, u) => and (Nat.beq (kindN k) (kindN j)) (match t with
    | .var i => (match look s.nums i with
      | some u' => eqTm u u'
      | none => false)
    | t => and (eqTm t u) (fixT s t))
  | none => false

/-- is a value told so, too? (ours ahead) -/
def mtch (s : Sb) : AV → AV → Bool
  | .any, y => (match y with
    | .nil => false
    | .cons _ _ => false
    | _ => true)
  | .int k n, y => (match y with
    | .int j m => and (Nat.beq (kindN k) (kindN j)) (eqI n m)
    | _ => false)
  | .sym k t, y => mtchN s k t y
  | .sstr a, y => (match y with
    | .sstr b => mtch s a b
    | _ => false)
  | .bool a, y => (match y with
    | .bool b => eqBB a b
    | _ => false)
  | .str l a, y => (match y with
    | .str m b => and (Nat.beq l m) (Nat.beq a b)
    | _ => false)
  | .nilp, y => (match y with
    | .nilp => true
    | _ => false)
  | .ptr i a, y => (match y with
    | .ptr j b => and (isAt s.ids i j) (Nat.beq a b)
    | _ => false)
  | .nils, y => (match y with
    | .nils => true
    | _ => false)
  | .sl i a l z x, y => (match y with
    | .sl j b m z' u => and (and (isAt s.ids i j) (Nat.beq a b)) (and (Nat.beq l m) (and (Nat.beq z z') (eqBB x u)))
    | _ => false)
  | .slen _, _ => false
  | .ssl i b ts, y => (match ts, y with
    | .nil, .nils => (match look s.lists b with
      | some none => true
      | _ => false)
    | .nil, .ssl j c us => and (isAt s.ids i j) (match look s.lists b with
      | some (some (c', us')) => and (Nat.beq c c') (eqAV us us')
      | _ => false)
    | _, _ => false)
  | .nilm, y => (match y with
    | .nilm => true
    | _ => false)
  | .map i, y => (match y with
    | .map j => isAt s.ids i j
    | _ => false)
  | .nilf, y => (match y with
    | .nilf => true
    | _ => false)
  | .nili, y => (match y with
    | .nili => true
    | _ => false)
  | .fn f a b, y => (match y with
    | .fn g c d => and (Nat.beq f g) (and (mtch s a c) (mtch s b d))
    | _ => false)
  | .agg a, y => (match y with
    | .agg b => mtch s a b
    | _ => false)
  | .tup a, y => (match y with
    | .tup b => mtch s a b
    | _ => false)
  | .nil, y => (match y with
    | .nil => true
    | _ => false)
  | .cons a b, y => (match y with
    | .cons c d => and (mtch s a c) (mtch s b d)
    | _ => false)

section
variable {ρ0 ρ1 : SEnv0} {ι0 ι1 : Io} {s : Sb}

theorem fixV_ok (hs : SbOk ρ0 ρ1 ι0 ι1 s) {i : Nat} (h : fixV s i = true) : ρ0.rho i = ρ1.rho i := by
  unfold fixV at h
  split at h
  · rename_i j hj
    have : i = j := by simpa using h
    subst this
    exact hs.nums _ _ hj
  · cases h

theorem fixL_ok (hs : SbOk ρ0 ρ1 ι0 ι1 s) : ∀ {l : List (Nat × Int)}, l.all (fun x => fixV s x.1) = true → @linD ρ0 l = @linD ρ1 l
  | [], _ => rfl
  | (i, c) :: l, h => by
    simp only [List.all_cons, Bool.and_eq_true] at h
    have h1 := fixV_ok hs h.1
    have h2 := fixL_ok hs h.2
    simp only [linD]
    rw [h2]
    show c * ρ0.rho i + _ = c * ρ1.rho i + _
    rw [h1]

theorem fixT_ok (hs : SbOk ρ0 ρ1 ι0 ι1 s) : ∀ (t : Tm), fixT s t = true → @Tm.den ρ0 t = @Tm.den ρ1 t
  | .var i, h => fixV_ok hs h
  | .lit n, _ => rfl
  | .lin c l, h => by simp only [Tm.den]; rw [fixL_ok hs h]
  | .bin op k a b, h => by
    simp only [fixT, Bool.and_eq_true] at h
    simp only [Tm.den]
    rw [fixT_ok hs a h.1, fixT_ok hs b h.2]
  | .wrap k a, h => by simp only [Tm.den]; rw [fixT_ok hs a h]
  | .ap g a b, h => by
    simp only [fixT, Bool.and_eq_true] at h
    simp only [Tm.den]
    rw [fixT_ok hs a h.1, fixT_ok hs b h.2]
    show ρ0.app g _ _ = ρ1.app g _ _
    rw [hs.app]

theorem tm_value {ρ : SEnv0} {ι : Io} {y : AV} {j : IntKind} {u : Tm} (h : tmOf y = some (j, u)) : (∀ v, @VR ρ ι y v → v = .int j (@Tm.den ρ u)) ∧ ∀ l, ¬ @VRl ρ ι y l := by
  cases y <;> simp only [tmOf, Option.some.injEq, Prod.mk.injEq, reduceCtorEq] at h
  · obtain ⟨rfl, rfl⟩ := h
    exact ⟨fun v hv => by simpa only [VR, Tm.den] using hv, fun l hl => by simp only [VRl] at hl⟩
  · obtain ⟨rfl, rfl⟩ := h
    exact ⟨fun v hv => by simpa only [VR] using hv, fun l hl => by simp only [VRl] at hl⟩

theorem mtchN_ok (hs : SbOk ρ0 ρ1 ι0 ι1 s) {k : IntKind} {t : Tm} {y : AV} (h : mtchN s k t y = true) : (∀ v, @VR ρ1 ι1 y v → @VR ρ0 ι0 (.sym k t) v) ∧ (∀ l, @VRl ρ1 ι1 y l → @VRl ρ0 ι0 (.sym k t) l) := by
  unfold mtchN at h
  split at h
  case h_2 => cases h
  rename_i j u hy
  simp only [Bool.and_eq_true] at h
  obtain ⟨hk, h⟩ := h
  have hk := kindN_inj hk
  subst hk
  obtain ⟨h1, h2⟩ := tm_value (ρ := ρ1) (ι := ι1) hy
  refine ⟨fun v hv => ?_, fun l hl => absurd hl (h2 l)⟩
  rw [h1 v hv]
  simp only [VR]
  split at h
  · rename_i i
    split at h
    case h_2 => cases h
    rename_i u' hu
    have hu' := eqTm_eq _ _ h
    subst hu'
    have := hs.nums i u hu
    show Value.int _ _ = Value.int _ (ρ0.rho i)
    rw [this]
  · simp only [Bool.and_eq_true] at h
    have h3 := eqTm_eq _ _ h.1
    subst h3
    rw [fixT_ok hs _ h.2]

theorem mtch_ok (hs : SbOk ρ0 ρ1 ι0 ι1 s) : ∀ (a b : AV), mtch s a b = true → (∀ v, @VR ρ1 ι1 b v → @VR ρ0 ι0 a v) ∧ (∀ l, @VRl ρ1 ι1 b l → @VRl ρ0 ι0 a l) := by
  intro a
  induction a with
  | any =>
    intro b h
    refine ⟨fun v _ => by simp only [VR], fun l hl => ?_⟩
    cases b <;> first | (simp only [VRl] at hl; done) | (simp only [mtch, Bool.false_eq_true] at h)
  | int k n =>
    intro b h
    cases b <;> simp only [mtch, Bool.false_eq_true] at h
    simp only [Bool.and_eq_true] at h
    have h1 := kindN_inj h.1
    have h2 := h.2
    rw [eqI_eq, beq_iff_eq] at h2
    subst h1 h2
    exact ⟨fun v hv => by simpa only [VR] using hv, fun l hl => by simp only [VRl] at hl⟩
  | sym k t => intro b h; exact mtchN_ok hs h
  | sstr a iha =>
    intro b h
    cases b <;> simp only [mtch, Bool.false_eq_true] at h
    obtain ⟨_, h2⟩ := iha _ h
    refine ⟨fun v hv => ?_, fun l hl => by simp only [VRl] at hl⟩
    simp only [VR] at hv ⊢
    obtain ⟨bs, h3, h4⟩ := hv
    exact ⟨bs, h3, h2 _ h4⟩
  | bool a =>
    intro b h
    cases b <;> simp only [mtch, Bool.false_eq_true] at h
    rw [eqBB_eq h]
    exact ⟨fun v hv => by simpa only [VR] using hv, fun l hl => by simp only [VRl] at hl⟩
  | str l a =>
    intro b h
    cases b <;> simp only [mtch, Bool.and_eq_true, Nat.beq_eq, Bool.false_eq_true] at h
    rw [h.1, h.2]
    exact ⟨fun v hv => by simpa only [VR] using hv, fun l hl => by simp only [VRl] at hl⟩
  | nilp =>
    intro b h
    cases b <;> simp only [mtch, Bool.false_eq_true] at h
    exact ⟨fun v hv => by simpa only [VR] using hv, fun l hl => by simp only [VRl] at hl⟩
  | ptr i a =>
    intro b h
    cases b <;> simp only [mtch, Bool.and_eq_true, Nat.beq_eq, Bool.false_eq_true] at h
    obtain ⟨h1, rfl⟩ := h
    refine ⟨fun v hv => ?_, fun l hl => by simp only [VRl] at hl⟩
    simp only [VR] at hv ⊢
    obtain ⟨l, h2, h3⟩ := hv
    exact ⟨l, hs.ids _ _ (isAt_eq h1) l h2, h3⟩
  | nils =>
    intro b h
    cases b <;> simp only [mtch, Bool.false_eq_true] at h
    exact ⟨fun v hv => by simpa only [VR] using hv, fun l hl => by simp only [VRl] at hl⟩
  | sl i a l z x =>
    intro b h
    cases b <;> simp only [mtch, Bool.and_eq_true, Nat.beq_eq, Bool.false_eq_true] at h
    obtain ⟨⟨h1, rfl⟩, rfl, rfl, h2⟩ := h
    have h2 := eqBB_eq h2
    subst h2
    refine ⟨fun v hv => ?_, fun l hl => by simp only [VRl] at hl⟩
    simp only [VR] at hv ⊢
    obtain ⟨l, ad, cap, h3, h4⟩ := hv
    exact ⟨l, ad, cap, hs.ids _ _ (isAt_eq h1) l h3, h4⟩
  | slen n => intro b h; simp only [mtch, Bool.false_eq_true] at h
  | ssl i b ts _ =>
    intro y h
    cases ts <;> cases y <;> simp only [mtch, Bool.and_eq_true, Bool.false_eq_true] at h
    · split at h
      case h_2 => cases h
      rename_i hl
      refine ⟨fun v hv => ?_, fun l hl => by simp only [VRl] at hl⟩
      simp only [VR] at hv ⊢
      refine ⟨[], by simp [denL], .inl ⟨?_, hv⟩⟩
      rw [List.append_nil]
      exact hs.emps b hl
    · obtain ⟨h1, h2⟩ := h
      split at h2
      case h_2 => cases h2
      rename_i c' us' hl
      simp only [Bool.and_eq_true, Nat.beq_eq] at h2
      obtain ⟨rfl, h3⟩ := h2
      have h3 := eqAV_eq _ _ h3
      subst h3
      refine ⟨fun v hv => ?_, fun l hl => by simp only [VRl] at hl⟩
      simp only [VR] at hv ⊢
      obtain ⟨m, h4, h5⟩ := hv
      obtain ⟨m', h6, h7⟩ := hs.lsts b _ _ hl
      rw [h4] at h6
      injection h6 with h6
      subst h6
      refine ⟨[], by simp [denL], ?_⟩
      rw [List.append_nil, h7]
      exact h5.imp_right fun ⟨h8, l, cap, h9, h10⟩ => ⟨h8, l, cap, hs.ids _ _ (isAt_eq h1) l h9, h10⟩
  | nilm =>
    intro b h
    cases b <;> simp only [mtch, Bool.false_eq_true] at h
    exact ⟨fun v hv => by simpa only [VR] using hv, fun l hl => by simp only [VRl] at hl⟩
  | map i =>
    intro b h
    cases b <;> simp only [mtch, Bool.false_eq_true] at h
    refine ⟨fun v hv => ?_, fun l hl => by simp only [VRl] at hl⟩
    simp only [VR] at hv ⊢
    obtain ⟨l, h2, h3⟩ := hv
    exact ⟨l, hs.ids _ _ (isAt_eq h) l h2, h3⟩
  | nilf =>
    intro b h
    cases b <;> simp only [mtch, Bool.false_eq_true] at h
    exact ⟨fun v hv => by simpa only [VR] using hv, fun l hl => by simp only [VRl] at hl⟩
  | nili =>
    intro b h
    cases b <;> simp only [mtch, Bool.false_eq_true] at h
    exact ⟨fun v hv => by simpa only [VR] using hv, fun l hl => by simp only [VRl] at hl⟩
  | fn f a b iha ihb =>
    intro y h
    cases y <;> simp only [mtch, Bool.and_eq_true, Nat.beq_eq, Bool.false_eq_true] at h
    obtain ⟨rfl, h1, h2⟩ := h
    refine ⟨fun v hv => ?_, fun l hl => by simp only [VRl] at hl⟩
    simp only [VR] at hv ⊢
    obtain ⟨x, y, h3, h4, h5⟩ := hv
    exact ⟨x, y, h3, (iha _ h1).2 _ h4, (ihb _ h2).2 _ h5⟩
  | agg a iha =>
    intro b h
    cases b <;> simp only [mtch, Bool.false_eq_true] at h
    refine ⟨fun v hv => ?_, fun l hl => by simp only [VRl] at hl⟩
    simp only [VR] at hv ⊢
    obtain ⟨l, h1, h2, h3⟩ := hv
    exact ⟨l, h1, (iha _ h).2 _ h2, h3⟩
  | tup a iha =>
    intro b h
    cases b <;> simp only [mtch, Bool.false_eq_true] at h
    refine ⟨fun v hv => ?_, fun l hl => by simp only [VRl] at hl⟩
    simp only [VR] at hv ⊢
    obtain ⟨l, h1, h2⟩ := hv
    exact ⟨l, h1, (iha _ h).2 _ h2⟩
  | nil =>
    intro b h
    cases b <;> simp only [mtch, Bool.false_eq_true] at h
    exact ⟨fun v hv => by simp only [VR] at hv, fun l hl => by simpa only [VRl] using hl⟩
  | cons a b iha ihb =>
    intro y h
    cases y <;> simp only [mtch, Bool.and_eq_true, Bool.false_eq_true] at h
    refine ⟨fun v hv => by simp only [VR] at hv, fun l hl => ?_⟩
    simp only [VRl] at hl ⊢
    obtain ⟨v, m, h1, h2, h3⟩ := hl
    exact ⟨v, m, h1, (iha _ h.1).1 _ h2, (ihb _ h.2).2 _ h3⟩
end

/-! ### memory told by other names -/

def mtchOA (s : Sb) : Option AV → Option AV → Bool
  | none, _ => true
  | some a, some b => mtch s a b
  | some _, none => false

def mtchT (s : Sb) : Tr AV → Tr AV → Bool
  | .nil, _ => true
  | .node v a b c d, .node v' a' b' c' d' => and (mtchOA s v v') (and (mtchT s a a') (and (mtchT s b b') (and (mtchT s c c') (mtchT s d d'))))
  | .node _ _ _ _ _, .nil => false

theorem mtchT_ok {s : Sb} : ∀ {p t : Tr AV}, mtchT s p t = true → ∀ (k : Nat) (a : AV), p.get k = some a → ∃ b, t.get k = some b ∧ mtch s a b = true
  | .nil, _, _, k, a, h => by simp [Tr.get] at h
  | .node v a b c d, .nil, h, _, _, _ => by cases h
  | .node v a b c d, .node v' a' b' c' d', h, k, x, hx => by
    simp only [mtchT, Bool.and_eq_true] at h
    obtain ⟨h0, h1, h2, h3, h4⟩ := h
    cases k with
    | zero =>
      simp only [Tr.get] at hx ⊢
      subst hx
      cases v' with
      | none => cases h0
      | some y => exact ⟨y, rfl, h0⟩
    | succ m =>
      simp only [Tr.get] at hx ⊢
      rcases h5 : Nat.mod m 4 with _ | _ | _ | q <;> rw [h5] at hx <;> simp only at hx ⊢
      · exact mtchT_ok h1 _ _ hx
      · exact mtchT_ok h2 _ _ hx
      · exact mtchT_ok h3 _ _ hx
      · exact mtchT_ok h4 _ _ hx

def isNilN : List Nat → Bool
  | [] => true
  | _ => false

def mtchO (s : Sb) : AObj → AObj → Bool
  | .cells c n own anc, o => (match o with
    | .cells c' n' own' _ => and (and (Nat.beq n n') (eqBB own own')) (and (isNilN anc) (mtchT s c c'))
    | _ => false)
  | .spine b ts, o => (match ts, o with
    | .nil, .spine c us => (match look s.lists b with
      | some (some (c', us')) => and (Nat.beq c c') (eqAV us us')
      | _ => false)
    | _, _ => false)
  | .map _, _ => false

def noAncs (l : List (Nat × Nat)) : AObj → Bool
  | .cells _ _ true anc => l.all fun y => not (memN y.2 anc)
  | _ => true

def nilSpine (s : Sb) : AObj → Bool
  | .spine b .nil => (match look s.lists b with
    | some none => true
    | _ => false)
  | _ => false

def injB (l : List (Nat × Nat)) : Bool := l.all fun x => l.all fun y => or (Nat.beq x.1 y.1) (not (Nat.beq x.2 y.2))

/-- is memory told so, too? -/
def mtchH (s : Sb) (m : HL) (h : H) : Bool :=
  and (and (injB s.ids) (s.ids.all fun x => Nat.blt x.1 m.next)) (m.objs.all fun x => and (Nat.blt x.1 m.next) (match look s.ids x.1 with
    | some j => (match h.objs.get j with
      | some o => and (mtchO s x.2 o) (noAncs s.ids o)
      | none => false)
    | none => nilSpine s x.2))

def ioOf (s : Sb) (n : Nat) (ι : Io) : Io := fun id => if id < n then (look s.ids id).bind ι else none

theorem memN_mem {k : Nat} : ∀ {l : List Nat}, k ∈ l → memN k l = true
  | [], h => by cases h
  | a :: l, h => by
    simp only [memN]
    cases hk : Nat.beq k a with
    | true => rfl
    | false =>
      rcases List.mem_cons.1 h with rfl | h
      · rw [Nat.beq_refl] at hk; cases hk
      · exact memN_mem h

theorem rematch [SEnv] {ρ0 ρ1 : SEnv0} {s : Sb} {m : HL} {h : H} {ι : Io} {w : World} (hy : SymOk ρ0 ρ1 s) (hh : @HR ρ1 h ι w) (hm : mtchH s m h = true) :
    @HR ρ0 m.lay (ioOf s m.next ι) w ∧ (∀ g, Owned m.lay (ioOf s m.next ι) g → Owned h ι g) ∧ SbOk ρ0 ρ1 (ioOf s m.next ι) ι s := by
  simp only [mtchH, Bool.and_eq_true, List.all_eq_true, Nat.blt_eq] at hm
  obtain ⟨⟨hinj, hids⟩, hobj⟩ := hm
  have hio : ∀ i a, ioOf s m.next ι i = some a → ∃ j, look s.ids i = some j ∧ ι j = some a := fun i a hi => by
    unfold ioOf at hi
    split at hi
    · obtain ⟨j, h1, h2⟩ := Option.bind_eq_some_iff.1 hi
      exact ⟨j, h1, h2⟩
    · cases hi
  have hb : SbOk ρ0 ρ1 (ioOf s m.next ι) ι s := ⟨hy, fun i j hij l hl => by
    unfold ioOf
    rw [if_pos (hids _ (look_mem hij)), hij]
    exact hl⟩
  have hget : ∀ i o, m.lay.objs.get i = some o → i < m.next ∧ ((∃ j o', look s.ids i = some j ∧ h.objs.get j = some o' ∧ mtchO s o o' = true ∧ noAncs s.ids o' = true) ∨ (look s.ids i = none ∧ nilSpine s o = true)) := fun i o ho => by
    obtain ⟨h1, h2⟩ := hobj (i, o) (layL_get ho)
    refine ⟨h1, ?_⟩
    simp only at h2
    split at h2
    · rename_i j hj
      split at h2
      · rename_i o' ho'
        exact .inl ⟨j, o', hj, ho', (Bool.and_eq_true _ _ ▸ h2).1, (Bool.and_eq_true _ _ ▸ h2).2⟩
      · cases h2
    · rename_i hj
      exact .inr ⟨hj, h2⟩
  have hown : ∀ {o o' : AObj}, mtchO s o o' = true → isOwn (some o) = true → isOwn (some o') = true := fun {o o'} hm ho => by
    cases o with
    | cells c n own anc =>
      cases o' <;> simp only [mtchO, Bool.false_eq_true] at hm
      simp only [Bool.and_eq_true] at hm
      have := eqBB_eq hm.1.2
      subst this
      exact ho
    | map es => simp [mtchO] at hm
    | spine b ts => cases ts <;> cases o' <;> simp only [mtchO, Bool.false_eq_true] at hm <;> rfl
  refine ⟨@HR.mk ρ0 m.lay (ioOf s m.next ι) w (fun i o ho => ?_) (fun i j oi oj a b hi hj hij how ha hb' hab => ?_) (fun i hi => ?_) (fun i l hl => ?_), fun g hg => ?_, hb⟩
  · obtain ⟨_, ⟨j, o', h1, h2, h3, _⟩ | ⟨h1, h2⟩⟩ := hget i o ho
    · have hor := hh.obj j o' h2
      cases o with
      | cells c n own anc =>
        cases o' <;> simp only [mtchO, Bool.false_eq_true] at h3
        simp only [Bool.and_eq_true, Nat.beq_eq] at h3
        obtain ⟨⟨rfl, _⟩, _, h4⟩ := h3
        obtain ⟨l, arr, t, q1, q2, q3, q4, q5⟩ := hor
        refine ⟨l, arr, t, hb.ids i j h1 l q1, q2, q3, q4, fun k a hk ha => ?_⟩
        obtain ⟨b, h5, h6⟩ := mtchT_ok h4 k a ha
        obtain ⟨v, h7, h8, h9⟩ := q5 k b hk h5
        exact ⟨v, h7, (mtch_ok hb a b h6).1 v h8, h9⟩
      | map es => simp [mtchO] at h3
      | spine b ts =>
        cases ts <;> cases o' <;> simp only [mtchO, Bool.false_eq_true] at h3
        split at h3
        case h_2 => cases h3
        rename_i c' us' hl
        simp only [Bool.and_eq_true, Nat.beq_eq] at h3
        obtain ⟨rfl, h4⟩ := h3
        have h4 := eqAV_eq _ _ h4
        subst h4
        obtain ⟨mm, h5, h6⟩ := hor
        obtain ⟨m', h7, h8⟩ := hy.lsts b _ _ hl
        rw [h5] at h7
        injection h7 with h7
        subst h7
        refine ⟨[], by simp [denL], ?_⟩
        rw [List.append_nil, h8]
        exact h6.imp_right fun ⟨l, arr, t, h9, h10⟩ => ⟨l, arr, t, hb.ids i j h1 l h9, h10⟩
    · cases o with
      | cells c n own anc => cases h2
      | map es => cases h2
      | spine b ts =>
        cases ts <;> simp only [nilSpine, Bool.false_eq_true] at h2
        split at h2
        case h_2 => cases h2
        rename_i hl
        exact ⟨[], by simp [denL], .inl (by rw [List.append_nil]; exact hy.emps b hl)⟩
  · exfalso
    obtain ⟨i', hi1, hi2⟩ := hio i a ha
    obtain ⟨j', hj1, hj2⟩ := hio j b hb'
    obtain ⟨_, ⟨_, oi', h1, h2, h3, h4⟩ | ⟨h1, _⟩⟩ := hget i oi hi
    · rw [hi1] at h1
      injection h1 with h1
      subst h1
      obtain ⟨_, ⟨_, oj', k1, k2, k3, k4⟩ | ⟨k1, _⟩⟩ := hget j oj hj
      · rw [hj1] at k1
        injection k1 with k1
        subst k1
        have hne : i' ≠ j' := fun e => by
          simp only [injB, List.all_eq_true, Bool.or_eq_true, Nat.beq_eq] at hinj
          rcases hinj _ (look_mem hi1) _ (look_mem hj1) with h5 | h5
          · exact hij h5
          · simp only [e, Nat.beq_refl, Bool.not_true, Bool.false_eq_true] at h5
        have hanc := hh.share i' j' oi' oj' a b h2 k2 hne (hown h3 how) hi2 hj2 hab
        cases oi' with
        | map _ => exact hanc
        | spine _ _ => exact hanc
        | cells c n own anc =>
          have : own = true := hown h3 how
          subst this
          cases oj' with
          | map _ => exact hanc
          | spine _ _ => exact hanc
          | cells c2 n2 own2 anc2 => cases own2 with
            | true => exact hanc
            | false =>
              simp only [noAncs, List.all_eq_true, Bool.not_eq_true'] at h4
              have h5 := h4 _ (look_mem hj1)
              rw [memN_mem hanc.1] at h5
              cases h5
      · rw [hj1] at k1; cases k1
    · rw [hi1] at h1; cases h1
  · have hi : m.next ≤ i := hi
    refine ⟨?_, ?_⟩
    · cases hg : m.lay.objs.get i with
      | none => rfl
      | some o => have := (hget i o hg).1; omega
    · unfold ioOf
      rw [if_neg (by omega)]
  · obtain ⟨j, _, h2⟩ := hio i l hl
    exact hh.lt j l h2
  · obtain ⟨i, l, hl, hlg, ho⟩ := hg
    cases hgi : m.lay.objs.get i with
    | none => rw [hgi] at ho; cases ho
    | some o =>
      rw [hgi] at ho
      obtain ⟨j, h1, h2⟩ := hio i l hl
      obtain ⟨_, ⟨_, o', k1, k2, k3, _⟩ | ⟨k1, _⟩⟩ := hget i o hgi
      · rw [h1] at k1
        injection k1 with k1
        subst k1
        exact ⟨_, l, h2, hlg, by rw [k2]; exact hown k3 ho⟩
      · rw [h1] at k1; cases k1

/-! ### a call's places told by other names -/

def anyE : E := u4 (u4 (u4 (u4 (u4 .any))))
def frameE : List (Nat × AV) → E
  | [] => anyE
  | (t, v) :: l => (cset t).set v (frameE l)

def mtchE (s : Sb) (l : List (Nat × AV)) (e : E) : Bool := l.all fun x => and (Nat.blt x.1 1024) (mtch s x.2 ((cgetT x.1).get e))

theorem getE_anyE [SEnv] (t : Nat) : getE t anyE = .any := by
  rw [getE_eq, anyE]
  simp only [pj_u4]

theorem frameE_get [SEnv] {t : Nat} (ht : t < 1024) : ∀ {l : List (Nat × AV)}, (∀ x ∈ l, x.1 < 1024) → getE t (frameE l) = (look l t).getD .any
  | [], _ => getE_anyE t
  | (k, v) :: l, h => by
    simp only [frameE, look]
    by_cases hk : k = t
    · subst hk
      rw [get_set_same, Nat.beq_refl]
      rfl
    · have : Nat.beq k t = false := by
        cases hb : Nat.beq k t with
        | true => exact absurd (by simpa using hb) hk
        | false => rfl
      rw [get_set_ne (h _ List.mem_cons_self) ht (Ne.symm hk), this]
      exact frameE_get ht fun x hx => h x (List.mem_cons_of_mem _ hx)

theorem frame_ok [SEnv] {ρ0 ρ1 : SEnv0} {ι0 ι1 : Io} {s : Sb} (hs : SbOk ρ0 ρ1 ι0 ι1 s) {N : Nat} {e : E} {a : Act} (hE : @ER ρ1 N ι1 e a) {l : List (Nat × AV)} (hl : mtchE s l e = true) : @ER ρ0 N ι0 (frameE l) a := by
  simp only [mtchE, List.all_eq_true, Bool.and_eq_true, Nat.blt_eq] at hl
  refine @ER.mk ρ0 _ _ _ _ hE.size hE.defers fun t ht => ?_
  rw [frameE_get ht fun x hx => (hl x hx).1]
  cases hk : look l t with
  | none => show @VR ρ0 ι0 .any _; simp only [VR]
  | some v =>
    have h1 := (hl _ (look_mem hk)).2
    exact (mtch_ok hs _ _ h1).1 _ (hE.at_ t ht)

end Go.Proofs.YtjpgogmnabkgnaaGreat.Ev

/- Loops that come back to their beginning after some rounds; one loop of several in a function. -/
import Derived.Test.YtjpgogmnabkgnaaGreatVm
namespace Go.Proofs.YtjpgogmnabkgnaaGreat.Ev

/-! ### one loop of several -/

def nLoops : Code → Nat
  | .seq a b => Nat.add (nLoops a) (nLoops b)
  | .cond _ a b => Nat.add (nLoops a) (nLoops b)
  | .block _ c => nLoops c
  | .loop _ => 1
  | _ => 0

def loopAt : Nat → Code → Option Code
  | k, .seq a b => match Nat.blt k (nLoops a) with
    | true => loopAt k a
    | false => loopAt (Nat.sub k (nLoops a)) b
  | k, .cond _ a b => match Nat.blt k (nLoops a) with
    | true => loopAt k a
    | false => loopAt (Nat.sub k (nLoops a)) b
  | k, .block _ c => loopAt k c
  | _, .loop c => some c
  | _, _ => none

/-- the loop of that number is known -/
def compI [SEnv] (P : Program) (N : Nat) (ov : C) : Nat → Code → C
  | k, .seq a b => match Nat.blt k (nLoops a) with
    | true => ⟨fun ih e h => seqR ((compI P N ov k a).run ih e h) ((comp P N b).run ih)⟩
    | false => ⟨fun ih e h => seqR ((comp P N a).run ih e h) ((compI P N ov (Nat.sub k (nLoops a)) b).run ih)⟩
  | k, .cond c a b => match okOp c with
    | true => (match Nat.blt k (nLoops a) with
      | true => ⟨fun ih e h => condR ((cget c).get e) (fun _ => (compI P N ov k a).run ih e h) (fun _ => (comp P N b).run ih e h)⟩
      | false => ⟨fun ih e h => condR ((cget c).get e) (fun _ => (comp P N a).run ih e h) (fun _ => (compI P N ov (Nat.sub k (nLoops a)) b).run ih e h)⟩)
    | false => ⟨fun _ _ _ => .fail 107⟩
  | k, .block id c => ⟨fun ih e h => blockR id ((compI P N ov k c).run ih e h)⟩
  | _, .loop _ => ov
  | _, c => comp P N c

section
variable {P : Program} {K : Keep}

theorem compI_ok [SEnv] {N : Nat} (hd : ∀ id ops, SoundC P K N (.region id ops true) (dops P N ops)) {ov : C} : ∀ (c : Code) (k : Nat), (∀ b, loopAt k c = some b → SoundC P K N (.loop b) ov) → SoundC P K N c (compI P N ov k c)
  | .skip, _, _ => comp_ok hd _
  | .label _, _, _ => comp_ok hd _
  | .region _ _ _, _, _ => comp_ok hd _
  | .seq c d, k, h => by
    simp only [loopAt] at h
    simp only [compI]
    split at h
    · exact seq_ok (compI_ok hd c k h) (comp_ok hd d)
    · exact seq_ok (comp_ok hd c) (compI_ok hd d _ h)
  | .cond x c d, k, h => by
    intro ih hi e hm ι a w hE hh hK hg
    cases hx : okOp x
    · simp only [compI, hx] at hg
      cases hg
    · cases hk : Nat.blt k (nLoops c)
      · simp only [loopAt, hk] at h
        simp only [compI, hx, hk] at hg ⊢
        exact cond_ok hx (comp_ok hd c) (compI_ok hd d _ h) ih hi e hm ι a w hE hh hK hg
      · simp only [loopAt, hk] at h
        simp only [compI, hx, hk] at hg ⊢
        exact cond_ok hx (compI_ok hd c k h) (comp_ok hd d) ih hi e hm ι a w hE hh hK hg
  | .block id c, k, h => block_ok (compI_ok hd c k h)
  | .loop c, _, h => h c rfl
  | .exit _, _, _ => comp_ok hd _
  | .ret, _, _ => comp_ok hd _
  | .rangeFunc _ _ _ _, _, _ => comp_ok hd _
  | .scope _, _, _ => comp_ok hd _
  | .goto _, _, _ => comp_ok hd _
  | .refuse _, _, _ => comp_ok hd _

/-- a function with a loop that is known -/
def finfoI [SEnv] (P : Program) (k : Nat) (ov : C) (f : FuncId) : FI := match P.funcs[f]? with
  | some fn => match fn.body with
    | some c => ⟨fun ih args h => match argsE args 0 e0 with
      | some e => endR (cres P fn.results.toList).get ((compI P fn.ntmps ov k c).run ih e h)
      | none => .no 116⟩
    | none => ⟨fun _ _ _ => .no 113⟩
  | none => ⟨fun _ _ _ => .no 114⟩

theorem finfoI_ok [SEnv] (hd : ∀ N id ops, SoundC P K N (.region id ops true) (dops P N ops)) {ih : CF} (hi : SoundCF P K ih) {f : FuncId} {k : Nat} {ov : C} (hov : ∀ fn c, P.funcs[f]? = some fn → fn.body = some c → ∀ b, loopAt k c = some b → SoundC P K fn.ntmps (.loop b) ov)
    {args : AV} {h : H} {v : AV} {h' : H} (hr : (finfoI P k ov f).run ih args h = .ok v h') : SoundCall P K f args h v h' := by
  intro ι w vs hh hK hv
  simp only [finfoI] at hr
  split at hr
  case h_2 => cases hr
  rename_i fn hfn
  split at hr
  case h_2 => cases hr
  rename_i c hb
  simp only at hr
  split at hr
  case h_2 => cases hr
  rename_i e he
  have hE := ER.enter hv he fn.ntmps
  have hg : ((compI P fn.ntmps ov k c).run ih e h).good = true := by
    generalize (compI P fn.ntmps ov k c).run ih e h = r at hr
    cases r <;> first | rfl | cases hr
  refine calls_of_wp hfn hb (Go.wp_mono (compI_ok (hd fn.ntmps) c k (hov fn c hfn hb) ih hi e h ι _ w hE hh hK hg) fun x a' w' p => ?_)
  generalize (compI P fn.ntmps ov k c).run ih e h = r at hr p
  cases r with
  | fail y => cases hr
  | exit i e' h'' => cases hr
  | norm e' h'' =>
    obtain ⟨rfl, ι', hE', hh', hs⟩ := p
    simp only [endR] at hr
    split at hr
    case h_2 => cases hr
    rename_i rl hrl
    injection hr with e1 e2
    subst e1 e2
    obtain ⟨u, h1, h2⟩ := results_ok (P := P) hE' hh' hrl
    exact ⟨hE'.defers, u, h1, ι', u, rfl, h2, hh', hs⟩
  | ret e' h'' =>
    obtain ⟨rfl, ι', hE', hh', hs⟩ := p
    simp only [endR] at hr
    split at hr
    case h_2 => cases hr
    rename_i rl hrl
    injection hr with e1 e2
    subst e1 e2
    obtain ⟨u, h1, h2⟩ := results_ok (P := P) hE' hh' hrl
    exact ⟨hE'.defers, u, h1, ι', u, rfl, h2, hh', hs⟩

def Ent.checkI [SEnv] (P : Program) (k : Nat) (ov : C) (X : Known) (T : Tab) (n : Nat) (x : Ent) : Bool := (match (finfoI P k ov x.f).run (callT P X T n) x.args x.m.lay with
  | .ok v h' => eqAV v x.v && x.m'.inH h'
  | .no _ => false) && x.fit

theorem Ent.ok_ofI [SEnv] (hm : P.follows .mixedOrders = true) {X : Known} (hX : X.Ok P K) {T : Tab} (hT : T.Ok P K) {n : Nat} {k : Nat} {ov : C} {x : Ent} (hov : ∀ fn c, P.funcs[x.f]? = some fn → fn.body = some c → ∀ b, loopAt k c = some b → SoundC P K fn.ntmps (.loop b) ov)
    (hx : x.checkI P k ov X T n = true) : x.Ok P K := by
  unfold Ent.checkI at hx
  simp only [Bool.and_eq_true] at hx
  obtain ⟨hx, hf⟩ := hx
  refine ⟨?_, hf⟩
  split at hx
  case h_2 => cases hx
  rename_i v h' hr
  simp only [Bool.and_eq_true] at hx
  have hv := eqAV_eq _ _ hx.1
  subst hv
  intro ι w vs hh hK hv
  obtain ⟨k3, k4⟩ := HL.sub hx.2
  refine (finfoI_ok (fun N id ops => dops_ok hm id ops) (callT_ok hm hX hT n) hov hr ι w vs hh hK hv).mono fun e w' ⟨ι', u, he, hu, hr, hs⟩ => ?_
  obtain ⟨q3, q4⟩ := hr.sub k3 k4
  exact ⟨ι', u, he, hu, q3, hs.trans q4⟩
end

/-! ### rounds, one behind the other -/

def iterR (f : E → H → R) : Nat → E → H → R
  | 0, e, h => .norm e h
  | n + 1, e, h => seqR (f e h) (iterR f n)

section
variable {P : Program} {N : Nat}

/-- what a loop leaves, from where it was begun -/
def GoalJ (ρs : SEnv0) (N : Nat) (keep : List Nat) (hb : H) (So : List (Nat × AV)) (mo : HL) (ι : Io) (w : World) (a' : Act) (w' : World) : Prop :=
  ∃ ιo, @ER ρs N ιo (frameE So) a' ∧ @HR ρs mo.lay ιo w' ∧ StpX keep hb ι w mo.lay ιo w'

/-- how some rounds end: at the beginning again, with less to come; or behind the loop -/
def EndsJ (ρs : SEnv0) {D : Type} (env : D → SEnv0) (Inv : D → Prop) (μ : D → Nat) (keep : List Nat) (S : List (Nat × AV)) (m : HL) (X : Exit) (So : List (Nat × AV)) (mo : HL) (ρ : SEnv0) (B : Nat) (r : R) : Prop :=
  (∃ s d, Inv d ∧ μ d < B ∧ roundB s keep S m r = true ∧ SymOk (env d) ρ s) ∨ (∃ s, endB s keep m So mo X r = true ∧ SymOk ρs ρ s)

/-- what a loop's beginning promises -/
def HeadJ (P : Program) (N : Nat) (ρs : SEnv0) {D : Type} (env : D → SEnv0) (Inv : D → Prop) (μ : D → Nat) (keep : List Nat) (S : List (Nat × AV)) (m : HL) (X : Exit) (So : List (Nat × AV)) (mo : HL) (c : Code) (J : Nat) (d : D) : Prop :=
  ∃ (E1 : SEnv) (ih : CF) (n : Nat), E1.toSEnv0 = env d ∧ 1 ≤ n ∧ n ≤ J ∧ @SoundCF E1.toSEnv0 P Keep.none ih ∧ EndsJ ρs env Inv μ keep S m X So mo E1.toSEnv0 (μ d) (iterR ((@comp E1 P N c).run ih) n (frameE S) m.lay)

/-- on the way -/
def MidJ (P : Program) (N : Nat) (ρs : SEnv0) {D : Type} (env : D → SEnv0) (Inv : D → Prop) (μ : D → Nat) (keep : List Nat) (S : List (Nat × AV)) (m : HL) (X : Exit) (So : List (Nat × AV)) (mo : HL) (c : Code) (J : Nat) (hb : H) (ι : Io) (w : World) (k : Nat) (a' : Act) (w' : World) : Prop :=
  ∃ (E1 : SEnv) (ih : CF) (B n : Nat) (e' : E) (h' : H) (ι' : Io), k = B * (J + 1) + n ∧ 1 ≤ n ∧ n ≤ J ∧ @SoundCF E1.toSEnv0 P Keep.none ih ∧ @ER E1.toSEnv0 N ι' e' a' ∧ @HR E1.toSEnv0 h' ι' w' ∧ StpX keep hb ι w h' ι' w' ∧ (∀ id ∈ keep, id < h'.next) ∧
    EndsJ ρs env Inv μ keep S m X So mo E1.toSEnv0 B (iterR ((@comp E1 P N c).run ih) n e' h')

theorem stpx_of {keep : List Nat} {h h' : H} {ι ι' : Io} {w w' : World} (hs : Stp h ι w h' ι' w') (hk : ∀ id ∈ keep, id < h.next) : StpX keep h ι w h' ι' w' :=
  ⟨fun id hid => by
    cases hc : ι id with
    | some l => exact hs.ext _ _ hc
    | none =>
      cases hc' : ι' id with
      | none => rfl
      | some l => have := (hs.new id l hc' hc).1; have := hk id hid; omega,
    hs.size, hs.blk, hs.own, hs.os, hs.tape, hs.output⟩

theorem stpx_told {s : Sb} {keep : List Nat} {m : HL} {h : H} {ι : Io} {w : World} (hk : ∀ id ∈ keep, look s.ids id = some id ∧ id < m.next) (q2 : ∀ g, Owned m.lay (ioOf s m.next ι) g → Owned h ι g) : StpX keep h ι w m.lay (ioOf s m.next ι) w :=
  ⟨fun id hid => by
    obtain ⟨h1, h2⟩ := hk id hid
    unfold ioOf
    rw [if_pos h2, h1]
    rfl, Nat.le_refl _, fun _ _ _ => rfl, fun g hg => .inr (q2 g hg), rfl, rfl, rfl⟩

theorem loop_ruleJ [SEnv] {ρs : SEnv0} {D : Type} {env : D → SEnv0} {Inv : D → Prop} {μ : D → Nat} {keep : List Nat} {S : List (Nat × AV)} {m : HL} {X : Exit} {So : List (Nat × AV)} {mo : HL} {c : Code} {J : Nat} {hb : H} (hX : X ≠ .normal) (hm : P.follows .mixedOrders = true)
    (hkm : ∀ id ∈ keep, id < m.next) (head : ∀ d, Inv d → HeadJ P N ρs env Inv μ keep S m X So mo c J d) {ι : Io} {a : Act} {w : World} {k : Nat} (h0 : MidJ P N ρs env Inv μ keep S m X So mo c J hb ι w k a w) :
    (Code.loop c).wp P (fun x a' w' => x = X ∧ GoalJ ρs N keep hb So mo ι w a' w') a w := by
  classical
  let Pn := MidJ P N ρs env Inv μ keep S m X So mo c J hb ι w
  let μ' : Act → World → Nat := fun a' w' => if hx : ∃ n, Pn n a' w' then Classical.choose (least hx) else 0
  refine wp_loop (fun a' w' => ∃ n, Pn n a' w') μ' ⟨k, h0⟩ fun a1 w1 hx => ?_
  have hspec := (Classical.choose_spec (least hx)).1
  have hμ : μ' a1 w1 = Classical.choose (least hx) := dif_pos hx
  generalize Classical.choose (least hx) = n0 at hspec hμ
  obtain ⟨E1, ih, B, n, e1, h1, ι1, hn0, hn1, hn2, hi, hE1, hh1, hs1, hnx, hends⟩ := hspec
  obtain ⟨n, rfl⟩ : ∃ q, n = q + 1 := ⟨n - 1, by omega⟩
  simp only [iterR] at hends
  generalize hrr : (@comp E1 P N c).run ih e1 h1 = r at hends
  have hgood : ((@comp E1 P N c).run ih e1 h1).good = true := by
    rw [hrr]
    cases r with
    | fail y =>
      rcases hends with ⟨s, d, _, _, h, _⟩ | ⟨s, h, _⟩
      · cases h
      · cases X <;> cases h
    | norm e h => rfl
    | exit i e h => rfl
    | ret e h => rfl
  have hc := @comp_ok P Keep.none N E1 (fun id ops => @dops_ok E1 P Keep.none N hm id ops) c ih hi e1 h1 ι1 a1 w1 hE1 hh1 trivial hgood
  rw [hrr] at hc
  have hdec : ∀ {q : Nat} {a2 : Act} {w2 : World}, q < n0 → Pn q a2 w2 → (∃ n, Pn n a2 w2) ∧ μ' a2 w2 < μ' a1 w1 := fun {q a2 w2} hq hP => by
    have hex : ∃ n, Pn n a2 w2 := ⟨_, hP⟩
    refine ⟨hex, ?_⟩
    have h5 : μ' a2 w2 = Classical.choose (least hex) := dif_pos hex
    rw [h5, hμ]
    exact Nat.lt_of_le_of_lt ((Classical.choose_spec (least hex)).2 _ hP) hq
  -- a way that ends
  have hend : ∀ {e : E} {h : H} {s : Sb} {a2 : Act} {w2 : World} {r : R}, isX X r = some (e, h) → endB s keep m So mo X r = true → SymOk ρs E1.toSEnv0 s → (∃ ι', @ER E1.toSEnv0 N ι' e a2 ∧ @HR E1.toSEnv0 h ι' w2 ∧ Stp h1 ι1 w1 h ι' w2) → GoalJ ρs N keep hb So mo ι w a2 w2 := fun {e h s a2 w2 r} hx he hy p => by
    obtain ⟨ι2, hE2, hh2, hs2⟩ := p
    unfold endB at he
    rw [hx] at he
    simp only [Bool.and_eq_true, List.all_eq_true, Nat.blt_eq] at he
    obtain ⟨q1, q2, q3⟩ := he
    obtain ⟨r1, r2, r3⟩ := rematch hy hh2 q2
    exact ⟨_, frame_ok r3 hE2 q1, r1, (hs1.trans (stpx_of hs2 hnx)).trans (stpx_told (fun id hid => ⟨isAt_eq (q3 id hid).1, (q3 id hid).2.2⟩) r2)⟩
  refine Go.wp_mono hc fun x a2 w2 p => ?_
  cases r with
  | fail y => exact p.elim
  | norm e2 h2 =>
    obtain ⟨rfl, ι2, hE2, hh2, hs2⟩ := p
    have hs12 := hs1.trans (stpx_of hs2 hnx)
    have hnx2 : ∀ id ∈ keep, id < h2.next := fun id hid => Nat.lt_of_lt_of_le (hnx id hid) hs2.next
    simp only [seqR] at hends
    cases n with
    | succ n =>
      exact hdec (q := B * (J + 1) + (n + 1)) (by omega) ⟨E1, ih, B, n + 1, e2, h2, ι2, rfl, by omega, by omega, hi, hE2, hh2, hs12, hnx2, hends⟩
    | zero =>
      simp only [iterR] at hends
      rcases hends with ⟨s, d, hid, hlt, hr, hy⟩ | ⟨s, he, _⟩
      · simp only [roundB, Bool.and_eq_true, List.all_eq_true, Nat.blt_eq] at hr
        obtain ⟨q1, q2, q3⟩ := hr
        obtain ⟨r1, r2, r3⟩ := rematch hy hh2 q2
        obtain ⟨E2, ih2, n2, henv, k1, k2, hi2, hends2⟩ := head d hid
        have hEd := frame_ok r3 hE2 q1
        rw [← henv] at r1 hEd
        have hB : (μ d + 1) * (J + 1) ≤ B * (J + 1) := Nat.mul_le_mul_right _ hlt
        rw [Nat.add_mul, Nat.one_mul] at hB
        exact hdec (q := μ d * (J + 1) + n2) (by omega) ⟨E2, ih2, μ d, n2, _, _, _, rfl, k1, k2, hi2, hEd, r1, hs12.trans (stpx_told (fun id hid => ⟨isAt_eq (q3 id hid).1, (q3 id hid).2⟩) r2), hkm, hends2⟩
      · cases X <;> cases he
  | exit i e2 h2 =>
    obtain ⟨rfl, p⟩ := p
    simp only [seqR] at hends
    rcases hends with ⟨s, d, _, _, hr, _⟩ | ⟨s, he, hy⟩
    · cases hr
    · cases hix : isX X (.exit i e2 h2) with
      | none => unfold endB at he; rw [hix] at he; cases he
      | some z =>
        have hxi := hix
        cases X <;> simp only [isX, reduceCtorEq] at hix
        split at hix
        case h_2 => cases hix
        rename_i hij
        injection hix with hix
        subst hix
        have hij := Nat.eq_of_beq_eq_true hij
        subst hij
        exact ⟨rfl, hend hxi he hy p⟩
  | ret e2 h2 =>
    obtain ⟨rfl, p⟩ := p
    simp only [seqR] at hends
    rcases hends with ⟨s, d, _, _, hr, _⟩ | ⟨s, he, hy⟩
    · cases hr
    · cases hix : isX X (.ret e2 h2) with
      | none => unfold endB at he; rw [hix] at he; cases he
      | some z =>
        have hxi := hix
        cases X <;> simp only [isX, reduceCtorEq] at hix
        injection hix with hix
        subst hix
        exact ⟨rfl, hend hxi he hy p⟩

/-- a loop that is known, begun some rounds ahead -/
def ovJ [SEnv] (P : Program) (N : Nat) (c : Code) (j0 : Nat) (s0 sid : Sb) (keep : List Nat) (S : List (Nat × AV)) (m : HL) (X : Exit) (So : List (Nat × AV)) (mo : HL) : C := ⟨fun ih e h =>
  match roundB s0 keep S m (iterR ((comp P N c).run ih) j0 e h) with
  | true => (match and (Nat.ble h.next mo.next) (and (outB s0 sid keep h.next So mo) (idsB sid keep mo)) with
    | true => exitR X (frameE So) mo.lay
    | false => .fail 190)
  | false => .fail 192⟩

theorem loop_soundJ [E0 : SEnv] {D : Type} {env : D → SEnv0} {Inv : D → Prop} {μ : D → Nat} {keep : List Nat} {S : List (Nat × AV)} {m : HL} {X : Exit} {So : List (Nat × AV)} {mo : HL} {c : Code} {J j0 : Nat} {s0 sid : Sb} {d : D} (hX : X ≠ .normal) (hm : P.follows .mixedOrders = true)
    (hkm : (keep.all fun id => Nat.blt id m.next) = true) (head : ∀ d, Inv d → HeadJ P N E0.toSEnv0 env Inv μ keep S m X So mo c J d) (hd : Inv d) (hj : 1 ≤ j0 ∧ j0 ≤ J) (hy : SymOk (env d) E0.toSEnv0 s0) (hid : SymOk E0.toSEnv0 E0.toSEnv0 sid) :
    SoundC P Keep.none N (.loop c) (ovJ P N c j0 s0 sid keep S m X So mo) := by
  intro ih hi e h ι a w hE hh _ hg
  simp only [ovJ] at hg ⊢
  split at hg
  case h_2 => cases hg
  rename_i hr
  split at hg
  case h_2 => cases hg
  rename_i hc
  simp only [Bool.and_eq_true, Nat.ble_eq] at hc
  obtain ⟨c3, c4, c5⟩ := hc
  simp only [outB, Bool.and_eq_true, List.all_eq_true, Nat.blt_eq, Bool.or_eq_true, Nat.ble_eq] at c4
  obtain ⟨o1, o2, o3, o4⟩ := c4
  simp only [idsB, List.all_eq_true, Bool.and_eq_true, Nat.beq_eq, Bool.or_eq_true, List.any_eq_true] at c5
  simp only [List.all_eq_true, Nat.blt_eq] at hkm
  refine Go.wp_mono (loop_ruleJ (ρs := E0.toSEnv0) (hb := h) (ι := ι) (k := (μ d + 1) * (J + 1) + j0) hX hm hkm head ⟨E0, ih, μ d + 1, j0, e, h, ι, rfl, hj.1, hj.2, hi, hE, hh, StpX.refl _ _ _ _, fun id hid => (o1 id hid).2, .inl ⟨s0, d, hd, Nat.lt_succ_self _, hr, hy⟩⟩) fun x a' w' p => ?_
  obtain ⟨rfl, ιo, p1, p2, p3⟩ := p
  have hkeep : ∀ id ∈ keep, ιo id = ι id ∧ id < h.next := fun id hid => ⟨p3.ids id hid, (o1 id hid).2⟩
  -- the places that are told behind it
  let ι' : Io := fun id => if id < h.next then ι id else if (mo.lay.objs.get id).isSome then ιo id else none
  have hnew : ∀ id o, mo.lay.objs.get id = some o → (id ∈ keep ∧ ι' id = ιo id) ∨ (h.next ≤ id ∧ isOwn (some o) = true ∧ ι' id = ιo id) := fun id o ho => by
    rcases o4 _ (layL_get ho) with h1 | ⟨h1, h2⟩
    · have hk := mem_memN h1
      obtain ⟨k1, k2⟩ := hkeep id hk
      refine .inl ⟨hk, ?_⟩
      show (if id < h.next then ι id else _) = _
      rw [if_pos k2, k1]
    · refine .inr ⟨h1, h2, ?_⟩
      show (if id < h.next then ι id else _) = _
      have h1 : h.next ≤ id := h1
      rw [if_neg (by omega), ho]
      rfl
  obtain ⟨r1, _, r3⟩ := rematch hid p2 o3
  -- told by numbers that stay
  have hsub : ∀ id l, ioOf sid mo.next ιo id = some l → ι' id = some l ∧ ιo id = some l := fun id l hl => by
    unfold ioOf at hl
    split at hl
    case isFalse => cases hl
    obtain ⟨j, h1, h2⟩ := Option.bind_eq_some_iff.1 hl
    obtain ⟨h3, h4⟩ := c5 _ (look_mem h1)
    have h3 : id = j := h3
    subst h3
    rcases h4 with h4 | ⟨y, h4, h5⟩
    · obtain ⟨k1, k2⟩ := hkeep id (mem_memN h4)
      refine ⟨?_, h2⟩
      show (if id < h.next then ι id else _) = _
      rw [if_pos k2, ← k1, h2]
    · have h5 : y.1 = id := by simpa using h5
      have h6 : (y.1, y.2) ∈ mo.objs := h4
      rw [h5] at h6
      obtain ⟨o, ho⟩ := mem_layL h6
      have ho' : mo.lay.objs.get id = some o := ho
      refine ⟨?_, h2⟩
      rcases hnew id o ho' with ⟨_, h7⟩ | ⟨_, _, h7⟩ <;> rw [h7, h2]
  have hsb : SbOk E0.toSEnv0 E0.toSEnv0 ι' (ioOf sid mo.next ιo) ⟨sid.nums, sid.lists, sid.ids⟩ := ⟨hid, fun i j hij l hl => by
    have h1 := (c5 _ (look_mem hij)).1
    have h1 : i = j := h1
    subst h1
    exact (hsub i l hl).1⟩
  have hHR : HR mo.lay ι' w' := by
    refine ⟨fun id o ho => ?_, fun i j oi oj a b hi hj hij how ha hb hab => ?_, fun id hid => ?_, fun id l hl => ?_⟩
    · exact (r1.obj id o ho).ext (fun id l hl => (hsub id l hl).1) fun _ _ => rfl
    · have e1 : ιo i = some a := by rcases hnew i oi hi with ⟨_, h7⟩ | ⟨_, _, h7⟩ <;> rw [← h7, ha]
      have e2 : ιo j = some b := by rcases hnew j oj hj with ⟨_, h7⟩ | ⟨_, _, h7⟩ <;> rw [← h7, hb]
      exact p2.share i j oi oj a b hi hj hij how e1 e2 hab
    · have hid : mo.next ≤ id := hid
      obtain ⟨h1, h2⟩ := p2.fresh id hid
      refine ⟨h1, ?_⟩
      show (if id < h.next then ι id else _) = none
      rw [if_neg (by omega), h1]
      rfl
    · by_cases hlt : id < h.next
      · have hl : (if id < h.next then ι id else if (mo.lay.objs.get id).isSome then ιo id else none) = some l := hl
        rw [if_pos hlt] at hl
        exact Nat.lt_of_lt_of_le (hh.lt id l hl) p3.size
      · have hl : (if id < h.next then ι id else if (mo.lay.objs.get id).isSome then ιo id else none) = some l := hl
        rw [if_neg hlt] at hl
        split at hl
        · exact p2.lt id l hl
        · cases hl
  have hER : ER N ι' (frameE So) a' := frame_ok (ρ1 := E0.toSEnv0) (ι1 := ioOf sid mo.next ιo) (s := ⟨sid.nums, sid.lists, sid.ids⟩) hsb (frame_ok r3 p1 o2) o2
  have hStp : Stp h ι w mo.lay ι' w' := by
    refine ⟨fun id l hl => ?_, p3.size, fun g hg hno => p3.blk g hg hno, fun g hg => ?_, p3.os, p3.tape, p3.output, c3, fun id l hl hn => ?_⟩
    · have hlt : id < h.next := Nat.lt_of_not_le fun hge => by rw [(hh.fresh id hge).2] at hl; cases hl
      show (if id < h.next then ι id else _) = some l
      rw [if_pos hlt, hl]
    · obtain ⟨id, l, hl, hlg, ho⟩ := hg
      cases hgi : mo.lay.objs.get id with
      | none => rw [hgi] at ho; cases ho
      | some o =>
        have e1 : ιo id = some l := by rcases hnew id o hgi with ⟨_, h7⟩ | ⟨_, _, h7⟩ <;> rw [← h7, hl]
        rcases p3.own g ⟨id, l, e1, hlg, ho⟩ with h1 | h1
        · exact .inl h1
        · exact .inr h1
    · have hl : (if id < h.next then ι id else if (mo.lay.objs.get id).isSome then ιo id else none) = some l := hl
      by_cases hlt : id < h.next
      · rw [if_pos hlt, hn] at hl; cases hl
      · rw [if_neg hlt] at hl
        refine ⟨by omega, ?_⟩
        cases hgi : mo.lay.objs.get id with
        | none => rw [hgi] at hl; simp at hl
        | some o =>
          rw [hgi] at hl
          have hl : ιo id = some l := hl
          rcases hnew id o hgi with ⟨h7, _⟩ | ⟨_, h7, _⟩
          · exact absurd (hkeep id h7).2 hlt
          · rcases p3.own l.g ⟨id, l, hl, rfl, by rw [hgi]; exact h7⟩ with h1 | h1
            · exact .inl h1
            · exact .inr h1
  cases x <;> first | (simp only [exitR, R.good, Bool.false_eq_true] at hg; done) | exact ⟨rfl, ι', hER, hHR, hStp⟩

end
end Go.Proofs.YtjpgogmnabkgnaaGreat.Ev

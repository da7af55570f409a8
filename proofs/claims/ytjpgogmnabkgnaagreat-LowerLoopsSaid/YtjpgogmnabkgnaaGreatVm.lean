/- The rule for loops whose rounds begin alike. -/
import Derived.Test.YtjpgogmnabkgnaaGreatVl
namespace Go.Proofs.YtjpgogmnabkgnaaGreat.Ev

/-- from memory told one way to memory told another way: what stays -/
structure StpX (keep : List Nat) (h : H) (ι : Io) (w : World) (h' : H) (ι' : Io) (w' : World) : Prop where
  ids : ∀ id ∈ keep, ι' id = ι id
  size : w.heap.size ≤ w'.heap.size
  blk : ∀ g, g < w.heap.size → ¬ Owned h ι g → w'.heap[g]? = w.heap[g]?
  own : ∀ g, Owned h' ι' g → w.heap.size ≤ g ∨ Owned h ι g
  os : w'.os = w.os
  tape : w'.tape = w.tape
  output : w'.output = w.output

theorem StpX.refl (keep : List Nat) (h : H) (ι : Io) (w : World) : StpX keep h ι w h ι w :=
  ⟨fun _ _ => rfl, Nat.le_refl _, fun _ _ _ => rfl, fun _ hg => .inr hg, rfl, rfl, rfl⟩

theorem StpX.trans {keep : List Nat} {h h' h'' : H} {ι ι' ι'' : Io} {w w' w'' : World} (s : StpX keep h ι w h' ι' w') (t : StpX keep h' ι' w' h'' ι'' w'') : StpX keep h ι w h'' ι'' w'' where
  ids id hi := (t.ids id hi).trans (s.ids id hi)
  size := Nat.le_trans s.size t.size
  blk g hg ho := by
    rw [t.blk g (Nat.lt_of_lt_of_le hg s.size) (fun ho' => ?_), s.blk g hg ho]
    rcases s.own g ho' with h1 | h1
    · omega
    · exact ho h1
  own g hg := by
    rcases t.own g hg with h1 | h1
    · exact .inl (Nat.le_trans s.size h1)
    · exact s.own g h1
  os := t.os.trans s.os
  tape := t.tape.trans s.tape
  output := t.output.trans s.output

section
variable {P : Program} {N : Nat}

/-- what a loop leaves -/
def GoalX (ρs : SEnv0) (N : Nat) (keep : List Nat) (m : HL) (So : List (Nat × AV)) (mo : HL) (ι : Io) (w : World) (a' : Act) (w' : World) : Prop :=
  ∃ ιo, @ER ρs N ιo (frameE So) a' ∧ @HR ρs mo.lay ιo w' ∧ StpX keep m.lay ι w mo.lay ιo w'

/-- what a round does -/
def RoundX (ρs : SEnv0) (N : Nat) {D : Type} (env : D → SEnv0) (Inv : D → Prop) (μ : D → Nat) (keep : List Nat) (S : List (Nat × AV)) (m : HL) (X : Exit) (So : List (Nat × AV)) (mo : HL) (d : D) (ι : Io) (w : World) (x : Exit) (a' : Act) (w' : World) : Prop :=
  (x = .normal ∧ ∃ d' ι', Inv d' ∧ μ d' < μ d ∧ @ER (env d') N ι' (frameE S) a' ∧ @HR (env d') m.lay ι' w' ∧ StpX keep m.lay ι w m.lay ι' w') ∨
  (x = X ∧ GoalX ρs N keep m So mo ι w a' w')

theorem Exit.then_of {p : Act → World → Prop} {Q : Exit → Act → World → Prop} {X : Exit} (hX : X ≠ .normal) {a : Act} {w : World} (h : Q X a w) : Exit.then p Q X a w := by
  cases X <;> first | exact absurd rfl hX | exact h

theorem loop_rule {ρs : SEnv0} {D : Type} {env : D → SEnv0} {Inv : D → Prop} {μ : D → Nat} {keep : List Nat} {S : List (Nat × AV)} {m : HL} {X : Exit} {So : List (Nat × AV)} {mo : HL} {c : Code} (hX : X ≠ .normal)
    (round : ∀ d, Inv d → ∀ ι a w, @ER (env d) N ι (frameE S) a → @HR (env d) m.lay ι w → c.wp P (RoundX ρs N env Inv μ keep S m X So mo d ι w) a w)
    {d : D} (hd : Inv d) {ι : Io} {a : Act} {w : World} (hE : @ER (env d) N ι (frameE S) a) (hh : @HR (env d) m.lay ι w) :
    (Code.loop c).wp P (fun x a' w' => x = X ∧ GoalX ρs N keep m So mo ι w a' w') a w := by
  classical
  let Pn : Nat → Act → World → Prop := fun n a' w' => ∃ d ι', μ d = n ∧ Inv d ∧ @ER (env d) N ι' (frameE S) a' ∧ @HR (env d) m.lay ι' w' ∧ StpX keep m.lay ι w m.lay ι' w'
  let μ' : Act → World → Nat := fun a' w' => if hx : ∃ n, Pn n a' w' then Classical.choose (least hx) else 0
  refine wp_loop (fun a' w' => ∃ n, Pn n a' w') μ' ⟨μ d, d, ι, rfl, hd, hE, hh, StpX.refl _ _ _ _⟩ fun a1 w1 hx => ?_
  have hspec := (Classical.choose_spec (least hx)).1
  have hμ : μ' a1 w1 = Classical.choose (least hx) := dif_pos hx
  generalize Classical.choose (least hx) = n at hspec hμ
  obtain ⟨d1, ι1, hn, hi1, hE1, hh1, hs1⟩ := hspec
  refine Go.wp_mono (round d1 hi1 ι1 a1 w1 hE1 hh1) fun x a2 w2 p => ?_
  rcases p with ⟨rfl, d2, ι2, hi2, hlt, hE2, hh2, hs2⟩ | ⟨rfl, ιo, hEo, hho, hso⟩
  · have hP : Pn (μ d2) a2 w2 := ⟨d2, ι2, rfl, hi2, hE2, hh2, hs1.trans hs2⟩
    have hex : ∃ n, Pn n a2 w2 := ⟨_, hP⟩
    refine ⟨hex, ?_⟩
    have h5 : μ' a2 w2 = Classical.choose (least hex) := dif_pos hex
    rw [h5, hμ, ← hn]
    exact Nat.lt_of_le_of_lt ((Classical.choose_spec (least hex)).2 _ hP) hlt
  · exact Exit.then_of hX ⟨rfl, ιo, hEo, hho, hs1.trans hso⟩

/-- how a round ends -/
def roundB (s : Sb) (keep : List Nat) (S : List (Nat × AV)) (m : HL) (r : R) : Bool := match r with
  | .norm e h => and (mtchE s S e) (and (mtchH s m h) (keep.all fun id => and (isAt s.ids id id) (Nat.blt id m.next)))
  | _ => false

def isX (X : Exit) (r : R) : Option (E × H) := match X, r with
  | .ret, .ret e h => some (e, h)
  | .exit i, .exit j e h => match Nat.beq i j with
    | true => some (e, h)
    | false => none
  | _, _ => none

def endB (s : Sb) (keep : List Nat) (m : HL) (So : List (Nat × AV)) (mo : HL) (X : Exit) (r : R) : Bool := match isX X r with
  | some (e, h) => and (mtchE s So e) (and (mtchH s mo h) (keep.all fun id => and (isAt s.ids id id) (and (Nat.blt id m.next) (Nat.blt id mo.next))))
  | none => false

theorem keep_ids {s : Sb} {n : Nat} {h h' : H} {ι ι' : Io} {w w' : World} (hs : Stp h ι w h' ι' w') (_hf : ∀ id, h.next ≤ id → ι id = none) {id : Nat} (h1 : look s.ids id = some id) (h2 : id < n) (h3 : id < h.next) : ioOf s n ι' id = ι id := by
  unfold ioOf
  rw [if_pos h2, h1]
  show ι' id = ι id
  cases hc : ι id with
  | some l => exact hs.ext _ _ hc
  | none =>
    cases hc' : ι' id with
    | none => rfl
    | some l => have := (hs.new id l hc' hc).1; omega

/-- a round that goes on -/
theorem round_norm [E1 : SEnv] {ρs : SEnv0} {D : Type} {env : D → SEnv0} {Inv : D → Prop} {μ : D → Nat} {keep : List Nat} {S : List (Nat × AV)} {m : HL} {X : Exit} {So : List (Nat × AV)} {mo : HL} {c : Code} {d d' : D} (henv : env d = E1.toSEnv0)
    (hm : P.follows .mixedOrders = true) {ih : CF} (hi : @SoundCF E1.toSEnv0 P Keep.none ih) {s : Sb} (hr : roundB s keep S m ((@comp E1 P N c).run ih (frameE S) m.lay) = true) (hy : SymOk (env d') (env d) s) (hd' : Inv d') (hlt : μ d' < μ d)
    {ι : Io} {a : Act} {w : World} (hE : @ER (env d) N ι (frameE S) a) (hh : @HR (env d) m.lay ι w) : c.wp P (RoundX ρs N env Inv μ keep S m X So mo d ι w) a w := by
  rw [henv] at hE hh
  generalize hrr : (@comp E1 P N c).run ih (frameE S) m.lay = r at hr
  have hc := @comp_ok P Keep.none N E1 (fun id ops => @dops_ok E1 P Keep.none N hm id ops) c ih hi (frameE S) m.lay ι a w hE hh trivial (by
    rw [hrr]
    cases r <;> first | rfl | cases hr)
  rw [hrr] at hc
  refine Go.wp_mono hc fun x a2 w2 p => .inl ?_
  cases r with
  | exit i e h => cases hr
  | ret e h => cases hr
  | fail y => cases hr
  | norm e h =>
    obtain ⟨rfl, ι1, hE1, hh1, hs1⟩ := p
    simp only [roundB, Bool.and_eq_true, List.all_eq_true, Nat.blt_eq] at hr
    obtain ⟨h1, h2, h3⟩ := hr
    rw [henv] at hy
    obtain ⟨q1, q2, q3⟩ := rematch hy hh1 h2
    exact ⟨rfl, d', _, hd', hlt, frame_ok q3 hE1 h1, q1, ⟨fun id hid => keep_ids hs1 (fun id hid => (@HR.fresh E1.toSEnv0 _ _ _ hh id hid).2) (isAt_eq (h3 id hid).1) (h3 id hid).2 (h3 id hid).2, hs1.size, hs1.blk, fun g hg => hs1.own g (q2 g hg), hs1.os, hs1.tape, hs1.output⟩⟩

/-- a round that ends it -/
theorem round_end [E1 : SEnv] {ρs : SEnv0} {D : Type} {env : D → SEnv0} {Inv : D → Prop} {μ : D → Nat} {keep : List Nat} {S : List (Nat × AV)} {m : HL} {X : Exit} {So : List (Nat × AV)} {mo : HL} {c : Code} {d : D} (henv : env d = E1.toSEnv0)
    (hm : P.follows .mixedOrders = true) {ih : CF} (hi : @SoundCF E1.toSEnv0 P Keep.none ih) {s : Sb} (hr : endB s keep m So mo X ((@comp E1 P N c).run ih (frameE S) m.lay) = true) (hy : SymOk ρs (env d) s)
    {ι : Io} {a : Act} {w : World} (hE : @ER (env d) N ι (frameE S) a) (hh : @HR (env d) m.lay ι w) : c.wp P (RoundX ρs N env Inv μ keep S m X So mo d ι w) a w := by
  rw [henv] at hE hh hy
  generalize hrr : (@comp E1 P N c).run ih (frameE S) m.lay = r at hr
  have hc := @comp_ok P Keep.none N E1 (fun id ops => @dops_ok E1 P Keep.none N hm id ops) c ih hi (frameE S) m.lay ι a w hE hh trivial (by
    rw [hrr]
    cases r <;> first | rfl | (cases X <;> cases hr))
  rw [hrr] at hc
  unfold endB at hr
  split at hr
  case h_2 => cases hr
  rename_i e h hx
  refine Go.wp_mono hc fun x a2 w2 p => .inr ?_
  have hp : x = X ∧ ∃ ι', @ER E1.toSEnv0 N ι' e a2 ∧ @HR E1.toSEnv0 h ι' w2 ∧ Stp m.lay ι w h ι' w2 := by
    cases X <;> cases r <;> simp only [isX, reduceCtorEq] at hx
    · split at hx
      case h_2 => cases hx
      rename_i hij
      injection hx with hx
      injection hx with e1 e2
      subst e1 e2
      obtain ⟨rfl, p⟩ := p
      have hij := Nat.eq_of_beq_eq_true hij
      exact ⟨by rw [hij], p⟩
    · injection hx with hx
      injection hx with e1 e2
      subst e1 e2
      exact p
  obtain ⟨rfl, ι1, hE1, hh1, hs1⟩ := hp
  simp only [Bool.and_eq_true, List.all_eq_true, Nat.blt_eq] at hr
  obtain ⟨h1, h2, h3⟩ := hr
  obtain ⟨q1, q2, q3⟩ := rematch hy hh1 h2
  exact ⟨rfl, _, frame_ok q3 hE1 h1, q1, ⟨fun id hid => keep_ids hs1 (fun id hid => (@HR.fresh E1.toSEnv0 _ _ _ hh id hid).2) (isAt_eq (h3 id hid).1) (h3 id hid).2.2 (h3 id hid).2.1, hs1.size, hs1.blk, fun g hg => hs1.own g (q2 g hg), hs1.os, hs1.tape, hs1.output⟩⟩

def exitR : Exit → E → H → R
  | .ret, e, h => .ret e h
  | .exit i, e, h => .exit i e h
  | _, _, _ => .fail 191

/-- what is left is told by numbers of blocks that stay, and new ones -/
def outB (s0 sid : Sb) (keep : List Nat) (n : Nat) (So : List (Nat × AV)) (mo : HL) : Bool :=
  and (keep.all fun id => and (isAt s0.ids id id) (Nat.blt id n)) (and (mtchE sid So (frameE So)) (and (mtchH sid mo mo.lay)
    (mo.objs.all fun x => or (memN x.1 keep) (and (Nat.ble n x.1) (isOwn (some x.2))))))
def idsB (sid : Sb) (keep : List Nat) (mo : HL) : Bool := sid.ids.all fun x => and (Nat.beq x.1 x.2) (or (memN x.1 keep) (mo.objs.any fun y => Nat.beq y.1 x.1))

/-- a loop that is known -/
def ovC (s0 sid : Sb) (keep : List Nat) (S : List (Nat × AV)) (m : HL) (X : Exit) (So : List (Nat × AV)) (mo : HL) : C := ⟨fun _ e h =>
  match and (and (mtchE s0 S e) (mtchH s0 m h)) (and (Nat.ble h.next mo.next) (and (outB s0 sid keep h.next So mo) (and (idsB sid keep mo) (keep.all fun id => Nat.blt id m.next)))) with
  | true => exitR X (frameE So) mo.lay
  | false => .fail 190⟩

theorem mem_memN {k : Nat} : ∀ {l : List Nat}, memN k l = true → k ∈ l
  | [], h => by cases h
  | a :: l, h => by
    simp only [memN] at h
    split at h
    · rename_i hk
      have : k = a := by simpa using hk
      subst this
      exact List.mem_cons_self
    · exact List.mem_cons_of_mem _ (mem_memN h)

theorem loop_sound [E0 : SEnv] {D : Type} {env : D → SEnv0} {d : D} {keep : List Nat} {S : List (Nat × AV)} {m : HL} {X : Exit} {So : List (Nat × AV)} {mo : HL} {c : Code} {s0 sid : Sb}
    (hrule : ∀ ι a w, @ER (env d) N ι (frameE S) a → @HR (env d) m.lay ι w → (Code.loop c).wp P (fun x a' w' => x = X ∧ GoalX E0.toSEnv0 N keep m So mo ι w a' w') a w)
    (hy : SymOk (env d) E0.toSEnv0 s0) (hid : SymOk E0.toSEnv0 E0.toSEnv0 sid) : SoundC P Keep.none N (.loop c) (ovC s0 sid keep S m X So mo) := by
  intro ih _ e h ι a w hE hh _ hg
  simp only [ovC] at hg ⊢
  split at hg
  case h_2 => cases hg
  rename_i hc
  simp only [Bool.and_eq_true, Nat.ble_eq] at hc
  obtain ⟨⟨c1, c2⟩, c3, c4, c5, c6⟩ := hc
  obtain ⟨q1, q2, q3⟩ := rematch hy hh c2
  refine Go.wp_mono (hrule _ a w (frame_ok q3 hE c1) q1) fun x a' w' p => ?_
  obtain ⟨rfl, ιo, p1, p2, p3⟩ := p
  simp only [outB, Bool.and_eq_true, List.all_eq_true, Nat.blt_eq, Bool.or_eq_true, Nat.ble_eq] at c4
  obtain ⟨o1, o2, o3, o4⟩ := c4
  simp only [idsB, List.all_eq_true, Bool.and_eq_true, Nat.beq_eq, Bool.or_eq_true, List.any_eq_true] at c5
  simp only [List.all_eq_true, Nat.blt_eq] at c6
  have hkeep : ∀ id ∈ keep, ιo id = ι id ∧ id < h.next := fun id hid => by
    refine ⟨(p3.ids id hid).trans ?_, (o1 id hid).2⟩
    unfold ioOf
    rw [if_pos (c6 id hid), isAt_eq (o1 id hid).1]
    rfl
  -- the places that are told behind it
  let ι' : Io := fun id => if id < h.next then ι id else if (mo.lay.objs.get id).isSome then ιo id else none
  have hnew : ∀ id o, mo.lay.objs.get id = some o → (id ∈ keep ∧ ι' id = ιo id) ∨ (h.next ≤ id ∧ isOwn (some o) = true ∧ ι' id = ιo id) := fun id o ho => by
    rcases o4 _ (layL_get ho) with h1 | ⟨h1, h2⟩
    · have hk := mem_memN h1
      obtain ⟨k1, k2⟩ := hkeep id hk
      refine .inl ⟨hk, ?_⟩
      show (if id < h.next then ι id else _) = _
      rw [if_pos k2, k1]
    · refine .inr ⟨h1, h2, ?_⟩
      show (if id < h.next then ι id else _) = _
      have h1 : h.next ≤ id := h1
      rw [if_neg (by omega), ho]
      rfl
  obtain ⟨r1, r2, r3⟩ := rematch hid p2 o3
  -- told by numbers that stay
  have hsub : ∀ id l, ioOf sid mo.next ιo id = some l → ι' id = some l ∧ ιo id = some l := fun id l hl => by
    unfold ioOf at hl
    split at hl
    case isFalse => cases hl
    obtain ⟨j, h1, h2⟩ := Option.bind_eq_some_iff.1 hl
    obtain ⟨h3, h4⟩ := c5 _ (look_mem h1)
    have h3 : id = j := h3
    subst h3
    rcases h4 with h4 | ⟨y, h4, h5⟩
    · obtain ⟨k1, k2⟩ := hkeep id (mem_memN h4)
      refine ⟨?_, h2⟩
      show (if id < h.next then ι id else _) = _
      rw [if_pos k2, ← k1, h2]
    · have h5 : y.1 = id := by simpa using h5
      have h6 : (y.1, y.2) ∈ mo.objs := h4
      rw [h5] at h6
      obtain ⟨o, ho⟩ := mem_layL h6
      have ho' : mo.lay.objs.get id = some o := ho
      refine ⟨?_, h2⟩
      rcases hnew id o ho' with ⟨_, h7⟩ | ⟨_, _, h7⟩ <;> rw [h7, h2]
  have hsb : SbOk E0.toSEnv0 E0.toSEnv0 ι' (ioOf sid mo.next ιo) ⟨sid.nums, sid.lists, sid.ids⟩ := ⟨hid, fun i j hij l hl => by
    have h1 := (c5 _ (look_mem hij)).1
    have h1 : i = j := h1
    subst h1
    exact (hsub i l hl).1⟩
  have hHR : HR mo.lay ι' w' := by
    refine ⟨fun id o ho => ?_, fun i j oi oj a b hi hj hij how ha hb hab => ?_, fun id hid => ?_, fun id l hl => ?_⟩
    · exact (r1.obj id o ho).ext (fun id l hl => (hsub id l hl).1) fun _ _ => rfl
    · have e1 : ιo i = some a := by rcases hnew i oi hi with ⟨_, h7⟩ | ⟨_, _, h7⟩ <;> rw [← h7, ha]
      have e2 : ιo j = some b := by rcases hnew j oj hj with ⟨_, h7⟩ | ⟨_, _, h7⟩ <;> rw [← h7, hb]
      exact p2.share i j oi oj a b hi hj hij how e1 e2 hab
    · have hid : mo.next ≤ id := hid
      obtain ⟨h1, h2⟩ := p2.fresh id hid
      refine ⟨h1, ?_⟩
      show (if id < h.next then ι id else _) = none
      rw [if_neg (by omega), h1]
      rfl
    · by_cases hlt : id < h.next
      · have hl : (if id < h.next then ι id else if (mo.lay.objs.get id).isSome then ιo id else none) = some l := hl
        rw [if_pos hlt] at hl
        exact Nat.lt_of_lt_of_le (hh.lt id l hl) p3.size
      · have hl : (if id < h.next then ι id else if (mo.lay.objs.get id).isSome then ιo id else none) = some l := hl
        rw [if_neg hlt] at hl
        split at hl
        · exact p2.lt id l hl
        · cases hl
  have hER : ER N ι' (frameE So) a' := frame_ok (ρ1 := E0.toSEnv0) (ι1 := ioOf sid mo.next ιo) (s := ⟨sid.nums, sid.lists, sid.ids⟩) hsb (frame_ok r3 p1 o2) o2
  have hStp : Stp h ι w mo.lay ι' w' := by
    refine ⟨fun id l hl => ?_, p3.size, fun g hg hno => p3.blk g hg fun ho => hno (q2 g ho), fun g hg => ?_, p3.os, p3.tape, p3.output, c3, fun id l hl hn => ?_⟩
    · have hlt : id < h.next := Nat.lt_of_not_le fun hge => by rw [(hh.fresh id hge).2] at hl; cases hl
      show (if id < h.next then ι id else _) = some l
      rw [if_pos hlt, hl]
    · obtain ⟨id, l, hl, hlg, ho⟩ := hg
      cases hgi : mo.lay.objs.get id with
      | none => rw [hgi] at ho; cases ho
      | some o =>
        have e1 : ιo id = some l := by rcases hnew id o hgi with ⟨_, h7⟩ | ⟨_, _, h7⟩ <;> rw [← h7, hl]
        rcases p3.own g ⟨id, l, e1, hlg, ho⟩ with h1 | h1
        · exact .inl h1
        · exact .inr (q2 g h1)
    · have hl : (if id < h.next then ι id else if (mo.lay.objs.get id).isSome then ιo id else none) = some l := hl
      by_cases hlt : id < h.next
      · rw [if_pos hlt, hn] at hl; cases hl
      · rw [if_neg hlt] at hl
        refine ⟨by omega, ?_⟩
        cases hgi : mo.lay.objs.get id with
        | none => rw [hgi] at hl; simp at hl
        | some o =>
          rw [hgi] at hl
          have hl : ιo id = some l := hl
          rcases hnew id o hgi with ⟨h7, _⟩ | ⟨_, h7, _⟩
          · exact absurd (hkeep id h7).2 hlt
          · rcases p3.own l.g ⟨id, l, hl, rfl, by rw [hgi]; exact h7⟩ with h1 | h1
            · exact .inl h1
            · exact .inr (q2 _ h1)
  cases x <;> first | (simp only [exitR, R.good, Bool.false_eq_true] at hg; done) | exact ⟨rfl, ι', hER, hHR, hStp⟩

end
end Go.Proofs.YtjpgogmnabkgnaaGreat.Ev

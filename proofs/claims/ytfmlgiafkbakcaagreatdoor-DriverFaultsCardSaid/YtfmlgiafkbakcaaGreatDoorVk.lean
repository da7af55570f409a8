/- Keys of maps that are structs or arrays of numbers and truth values: when they may be keys. -/
import Derived.Test.YtfmlgiafkbakcaaGreatDoorVc
import Derived.DeepKeys5
import Derived.Maps.Keyed
namespace Go.Proofs.YtfmlgiafkbakcaaGreatDoor.Ev

def okV : Option IntKind → Value → Prop
  | some q, v => ∃ n, v = .int q n ∧ (Lit.int q n).wf = true
  | none, v => ∃ b, v = .bool b

def okAll : List (Option IntKind) → List Value → Prop
  | [], l => l = []
  | k :: ks, l => ∃ v m, l = v :: m ∧ okV k v ∧ okAll ks m

theorem okAll.length : ∀ {ks : List (Option IntKind)} {l : List Value}, okAll ks l → l.length = ks.length
  | [], l, h => by simp only [okAll] at h; subst h; rfl
  | k :: ks, l, h => by obtain ⟨v, m, rfl, _, h2⟩ := h; simp [h2.length]

theorem okAll.split {ks2 : List (Option IntKind)} : ∀ {ks : List (Option IntKind)} {l : List Value}, okAll (ks ++ ks2) l → okAll ks (l.take ks.length) ∧ okAll ks2 (l.drop ks.length)
  | [], l, h => by exact ⟨rfl, h⟩
  | k :: ks, l, h => by
    obtain ⟨v, m, rfl, h1, h2⟩ := h
    obtain ⟨h3, h4⟩ := okAll.split (ks := ks) h2
    exact ⟨⟨v, _, rfl, h1, h3⟩, h4⟩

theorem okAll.rep {ks : List (Option IntKind)} : ∀ {n : Nat} {l : List Value}, okAll (List.replicate n ks).flatten l → ∀ i, i < n → okAll ks ((l.drop (i * ks.length)).take ks.length)
  | 0, _, _, i, hi => absurd hi (by omega)
  | n + 1, l, h, i, hi => by
    rw [List.replicate_succ, List.flatten_cons] at h
    obtain ⟨h1, h2⟩ := h.split
    cases i with
    | zero => simpa using h1
    | succ i =>
      have := okAll.rep h2 i (by omega)
      rwa [List.drop_drop, show ks.length + i * ks.length = (i + 1) * ks.length by rw [Nat.add_mul]; omega] at this

theorem mapM_some {α β : Type} {f : α → Option β} : ∀ (l : List α), (∀ a ∈ l, ∃ b, f a = some b) → ∃ r, l.mapM f = some r
  | [], _ => ⟨[], rfl⟩
  | a :: l, h => by
    obtain ⟨b, hb⟩ := h a (by simp)
    obtain ⟨r, hr⟩ := mapM_some l (fun x hx => h x (by simp [hx]))
    exact ⟨b :: r, by simp [List.mapM_cons, hb, hr]⟩

theorem leafS_ok {P : Program} {d : Nat} (ih : ∀ t ks cs, leafD P d t = some ks → okAll ks cs → ∃ ls, P.keyLits d t cs = some ls) :
    ∀ (fs : List Field) (k : Nat) (ks : List (Option IntKind)) (cs : List Value), leafS P (leafD P d) k fs = some ks → okAll ks (cs.drop k) → ∀ f ∈ fs, ∃ ls, P.keyLits d f.type ((cs.drop f.offset).take (P.cellsOf f.type)) = some ls
  | [], _, _, _, _, _ => by simp
  | f :: fs, k, ks, cs, h, hc => by
    simp only [leafS] at h
    split at h
    case h_2 => cases h
    rename_i k1 hk1
    split at h
    case h_2 => cases h
    rename_i l hb hl
    injection h with h
    subst h
    simp only [Bool.and_eq_true, Nat.beq_eq] at hb
    obtain ⟨hb1, hb2⟩ := hb
    obtain ⟨h1, h2⟩ := hc.split
    intro g hg
    rcases List.mem_cons.1 hg with rfl | hg
    · rw [hb1, ← hb2]
      exact ih _ _ _ hk1 h1
    · refine leafS_ok ih fs (k + k1.length) l cs hl ?_ g hg
      rwa [List.drop_drop] at h2

theorem leafD_ok {P : Program} : ∀ (d : Nat) (t : TypeId) (ks : List (Option IntKind)) (cs : List Value), leafD P d t = some ks → okAll ks cs → ∃ ls, P.keyLits d t cs = some ls
  | 0, _, _, _, h, _ => by simp [leafD] at h
  | d + 1, t, ks, cs, h, hc => by
    have ih := leafD_ok (P := P) d
    simp only [leafD] at h
    split at h
    · rename_i hu
      injection h with h
      subst h
      obtain ⟨v, m, rfl, ⟨b, rfl⟩, h2⟩ := hc
      simp only [okAll] at h2
      subst h2
      exact ⟨[.bool b], by simp [Program.keyLits, hu]⟩
    · rename_i q hu
      injection h with h
      subst h
      obtain ⟨v, m, rfl, ⟨n, rfl, hw⟩, h2⟩ := hc
      simp only [okAll] at h2
      subst h2
      exact ⟨[.int q n], by simp [Program.keyLits, hu, hw]⟩
    · rename_i n e hu
      split at h
      case h_2 => cases h
      rename_i k1 hk1
      split at h
      case h_2 => cases h
      rename_i hb
      injection h with h
      subst h
      simp only [Bool.and_eq_true, Nat.beq_eq] at hb
      obtain ⟨hb1, hb2⟩ := hb
      have hl : cs.length = P.cellsOf t := by
        rw [hc.length, ← hb2]
        simp
      obtain ⟨r, hr⟩ := mapM_some (f := fun i => P.keyLits d e ((cs.drop (i * P.cellsOf e)).take (P.cellsOf e))) (List.range n) (fun i hi => by
        rw [← hb1]
        exact ih _ _ _ hk1 (hc.rep i (by simpa using hi)))
      refine ⟨r.flatten, ?_⟩
      rw [Program.keyLits.eq_def]
      simp only [hu]
      rw [if_pos hl, hr]
      rfl
    · rename_i fs hu
      split at h
      case h_2 => cases h
      rename_i k1 hall hk1
      split at h
      case h_2 => cases h
      rename_i hb
      injection h with h
      subst h
      have hb := Nat.beq_eq.mp hb
      have hl : cs.length = P.cellsOf t := by rw [hc.length, hb]
      obtain ⟨r, hr⟩ := mapM_some (f := fun f => P.keyLits d f.type ((cs.drop f.offset).take (P.cellsOf f.type))) fs.toList (leafS_ok ih fs.toList 0 _ cs hk1 (by simpa using hc))
      refine ⟨r.flatten, ?_⟩
      rw [Program.keyLits.eq_def]
      simp only [hu]
      rw [if_pos ⟨hl, hall⟩, hr]
      rfl
    · cases h

theorem fits_wf {k : IntKind} {n : Int} (h : fits k n = true) : (Lit.int k n).wf = true := by
  unfold fits at h
  split at h <;> first | (cases h; done) | (simp only [Nat.blt_eq] at h; simp [Lit.wf, IntKind.min, IntKind.max, IntKind.bits, IntKind.signed]; omega)

/-- what may be a key -/
theorem keyOf_ok {P : Program} {t : TypeId} (hw : (match P.underlying t with | some (.array _ _) | some (.struct _) => true | _ => false) = true) (hk : P.keyType t = true) {ks : List (Option IntKind)} (hl : leafD P (P.types.size + 1) t = some ks) {cs : List Value} (hc : okAll ks cs) (hn : cs.length = P.cellsOf t) : ∃ l, keyOf P t (.agg cs.toArray) = some l := by
  obtain ⟨ls, h1⟩ := leafD_ok _ _ _ _ hl hc
  have hf : (Value.agg cs.toArray).formed P t = true := by
    unfold Value.formed
    split at hw <;> rename_i hu <;> first | (rw [hu]; simp [hn]) | cases hw
  refine ⟨.string (keyBytes ls), ?_⟩
  unfold keyOf
  have hcell : (Value.agg cs.toArray).cells.toList = cs := by simp [Value.cells]
  split at hw <;> rename_i hu <;> first | (rw [hu]; simp only [hk, hf, Bool.and_self, if_true, hcell, h1]; rfl) | cases hw

/-- cells of such kinds are so -/
theorem cellsK_ok {ι : Io} : ∀ {ks : List (Option IntKind)} {a : AV} {l : List Value}, cellsK ks a = true → VRl ι a l → okAll ks l
  | [], .nil, l, _, h => by simp only [VRl] at h; exact h
  | some q :: ks, .cons (.int k n) b, l, hc, h => by
    simp only [VRl] at h
    obtain ⟨v, m, rfl, h1, h2⟩ := h
    simp only [VR] at h1
    subst h1
    simp only [cellsK] at hc
    split at hc
    case h_2 => cases hc
    rename_i hk hf
    have := kindN_inj hk
    subst this
    exact ⟨_, _, rfl, ⟨n, rfl, fits_wf hf⟩, cellsK_ok hc h2⟩
  | none :: ks, .cons (.bool b) r, l, hc, h => by
    simp only [VRl] at h
    obtain ⟨v, m, rfl, h1, h2⟩ := h
    simp only [VR] at h1
    subst h1
    simp only [cellsK] at hc
    exact ⟨_, _, rfl, ⟨b, rfl⟩, cellsK_ok hc h2⟩

/-- and they are held against each other -/
theorem eqPl_iff {ι : Io} : ∀ {ks : List (Option IntKind)} {a b : AV} {l m : List Value}, cellsK ks a = true → cellsK ks b = true → VRl ι a l → VRl ι b m → (eqPl a b = true ↔ l = m)
  | [], .nil, .nil, l, m, _, _, h1, h2 => by simp only [VRl] at h1 h2; subst h1 h2; simp [eqPl]
  | some q :: ks, .cons (.int k n) a, .cons (.int j p) b, l, m, ha, hb, h1, h2 => by
    simp only [VRl] at h1 h2
    obtain ⟨v, l', rfl, h3, h4⟩ := h1
    obtain ⟨u, m', rfl, h5, h6⟩ := h2
    simp only [VR] at h3 h5
    subst h3 h5
    simp only [cellsK] at ha hb
    split at ha
    case h_2 => cases ha
    rename_i hk1 _
    split at hb
    case h_2 => cases hb
    rename_i hk2 _
    have e1 := kindN_inj hk1
    have e2 := kindN_inj hk2
    subst e1 e2
    have ih := eqPl_iff ha hb h4 h6
    simp only [eqPl]
    rw [eqI_eq]
    by_cases hn : n = p
    · subst hn; simp [ih]
    · have hb2 : (n == p) = false := by simpa using hn
      simp [hb2, hn]
  | none :: ks, .cons (.bool x) a, .cons (.bool y) b, l, m, ha, hb, h1, h2 => by
    simp only [VRl] at h1 h2
    obtain ⟨v, l', rfl, h3, h4⟩ := h1
    obtain ⟨u, m', rfl, h5, h6⟩ := h2
    simp only [VR] at h3 h5
    subst h3 h5
    simp only [cellsK] at ha hb
    have ih := eqPl_iff ha hb h4 h6
    cases x <;> cases y <;> simp [eqPl, ih]

/-- a key that is looked for, if all keys are so, and it stands there once -/
theorem findD_rel {ι : Io} {ks : List (Option IntKind)} {k : AV} {u : List Value} (hk : cellsK ks k = true) (hu : VRl ι k u) : ∀ (es : AV) (l : List MapEntry) (r : Option AV), MR ι es l → findD ks k es = some r →
    (∀ e ∈ l, ∃ cs, e.key = .agg cs.toArray ∧ okAll ks cs) ∧ (r = none → ∀ e ∈ l, e.key ≠ .agg u.toArray) ∧
    (∀ x, r = some x → ∃ j e, l[j]? = some e ∧ e.key = .agg u.toArray ∧ VR ι x e.val ∧ ∀ (j' : Nat) e', l[j']? = some e' → e'.key = .agg u.toArray → j' = j)
  | .nil, l, r, hm, hf => by
    simp only [MR] at hm
    subst hm
    simp only [findD, Option.some.injEq] at hf
    subst hf
    exact ⟨fun e he => (by simp at he), fun _ e he => (by simp at he), fun x hx => (by cases hx)⟩
  | .cons (.cons (.agg a) v) es, l, r, hm, hf => by
    simp only [MR] at hm
    obtain ⟨e, m, rfl, h1, h2, h3⟩ := hm
    simp only [VR] at h1
    obtain ⟨cs, h4, h5, _⟩ := h1
    simp only [findD] at hf
    split at hf
    case h_2 => cases hf
    rename_i r' hc hr'
    obtain ⟨g1, g2, g3⟩ := findD_rel hk hu es m r' h3 hr'
    have heq := eqPl_iff hk hc hu h5
    have hkey : ∀ x ∈ e :: m, ∃ cs, x.key = .agg cs.toArray ∧ okAll ks cs := fun x hx => by
      rcases List.mem_cons.1 hx with rfl | hx
      · exact ⟨cs, h4, cellsK_ok hc h5⟩
      · exact g1 x hx
    have hne : eqPl k a = true ↔ e.key = .agg u.toArray := by
      rw [heq, h4]
      simp only [Value.agg.injEq]
      constructor
      · intro h; rw [h]
      · intro h; simpa using (congrArg Array.toList h).symm
    refine ⟨hkey, ?_⟩
    split at hf
    · rename_i ht
      injection hf with hf
      subst hf
      have he := hne.1 ht
      refine ⟨fun h => (by cases h), fun x hx => ?_⟩
      injection hx with hx
      subst hx
      refine ⟨0, e, rfl, he, h2, fun j' e' hj hk' => ?_⟩
      cases j' with
      | zero => rfl
      | succ j' => exact absurd hk' (g2 rfl e' (List.mem_of_getElem? (by simpa using hj)))
    · cases hf
    · rename_i ht
      injection hf with hf
      subst hf
      have he : e.key ≠ .agg u.toArray := fun h => by rw [hne.2 h] at ht; cases ht
      refine ⟨fun h x hx => ?_, fun x hx => ?_⟩
      · rcases List.mem_cons.1 hx with rfl | hx
        · exact he
        · exact g2 h x hx
      · obtain ⟨j, e', k1, k2, k3, k4⟩ := g3 x hx
        refine ⟨j + 1, e', by simpa using k1, k2, k3, fun j' e2 hj hk' => ?_⟩
        cases j' with
        | zero => simp only [List.getElem?_cons_zero, Option.some.injEq] at hj; subst hj; exact absurd hk' he
        | succ j' => rw [k4 j' e2 (by simpa using hj) hk']
  | .cons (.cons (.int ..) _) _, _, _, _, hf | .cons (.cons (.bool ..) _) _, _, _, _, hf | .cons (.cons (.str ..) _) _, _, _, _, hf => by simp [findD] at hf

/-- a key that is written -/
theorem putD_rel {ι : Io} {ks : List (Option IntKind)} {k x : AV} {u : List Value} {y : Value} (hk : cellsK ks k = true) (hu : VRl ι k u) (hku : VR ι (.agg k) (.agg u.toArray)) (hx : VR ι x y) (clk : Nat) : ∀ (es : AV) (l : List MapEntry) (r : Option AV), MR ι es l → findD ks k es = some r →
    ((∀ e ∈ l, e.key ≠ .agg u.toArray) → MR ι (putD k x es) (l ++ [{ key := .agg u.toArray, val := y, born := clk }])) ∧
    (∀ (j : Nat) e, l[j]? = some e → e.key = .agg u.toArray → (∀ (j' : Nat) e', l[j']? = some e' → e'.key = .agg u.toArray → j' = j) → MR ι (putD k x es) (l.modify j fun e => { e with key := .agg u.toArray, val := y }))
  | .nil, l, r, hm, hf => by
    simp only [MR] at hm
    subst hm
    refine ⟨fun _ => ?_, fun j e hj => by simp at hj⟩
    simp only [putD, MR, List.nil_append]
    exact ⟨_, [], rfl, hku, hx, rfl⟩
  | .cons (.cons (.agg a) v) es, l, r, hm, hf => by
    simp only [MR] at hm
    obtain ⟨e, m, rfl, h1, h2, h3⟩ := hm
    have h1' := h1
    simp only [VR] at h1
    obtain ⟨cs, h4, h5, _⟩ := h1
    simp only [findD] at hf
    split at hf
    case h_2 => cases hf
    rename_i r' hc hr'
    obtain ⟨g1, g2⟩ := putD_rel hk hu hku hx clk es m r' h3 hr'
    have heq := eqPl_iff hk hc hu h5
    have hne : eqPl k a = true ↔ e.key = .agg u.toArray := by
      rw [heq, h4]
      simp only [Value.agg.injEq]
      constructor
      · intro h; rw [h]
      · intro h; simpa using (congrArg Array.toList h).symm
    refine ⟨fun hall => ?_, fun j e' hj hk' huniq => ?_⟩
    · have he : e.key ≠ .agg u.toArray := hall e (by simp)
      have hf2 : eqPl k a = false := by
        cases hq : eqPl k a
        · rfl
        · exact absurd (hne.1 hq) he
      simp only [putD, hf2, MR, List.cons_append]
      exact ⟨e, _, rfl, h1', h2, g1 fun e' h' => hall e' (by simp [h'])⟩
    · cases j with
      | zero =>
        simp only [List.getElem?_cons_zero, Option.some.injEq] at hj
        subst hj
        simp only [putD, hne.2 hk', MR, List.modify_zero_cons]
        exact ⟨_, m, rfl, hku, hx, h3⟩
      | succ j =>
        have he : e.key ≠ .agg u.toArray := fun h => by have := huniq 0 e rfl h; omega
        have hf2 : eqPl k a = false := by
          cases hq : eqPl k a
          · rfl
          · exact absurd (hne.1 hq) he
        simp only [putD, hf2, MR, List.modify_succ_cons]
        refine ⟨e, _, rfl, h1', h2, g2 j e' (by simpa using hj) hk' fun j' e2 h6 h7 => ?_⟩
        have := huniq (j' + 1) e2 (by simpa using h6) h7
        omega

/-- what a type of keys is known to be -/
theorem deepT_spec {P : Program} [LaidOut P] {t : TypeId} {ks : List (Option IntKind)} (h : deepT P t = some ks) : Go.Maps.Keyed P t ∧ ∀ cs, okAll ks cs → ∃ l, keyOf P t (.agg cs.toArray) = some l := by
  unfold deepT at h
  have key : ∀ (hw : (match P.underlying t with | some (.array _ _) | some (.struct _) => true | _ => false) = true), (match P.keyType t && Nat.blt t P.types.size && Nat.ble (P.types.size + 2) 10000, leafD P (P.types.size + 1) t with
    | true, some ks => match Nat.beq ks.length (P.cellsOf t) with
      | true => some ks
      | false => none
    | _, _ => none) = some ks → Go.Maps.Keyed P t ∧ ∀ cs, okAll ks cs → ∃ l, keyOf P t (.agg cs.toArray) = some l := by
    intro hw h
    split at h
    case h_2 => cases h
    rename_i k1 hc hl
    split at h
    case h_2 => cases h
    rename_i hb
    injection h with h
    subst h
    simp only [Bool.and_eq_true, Nat.blt_eq, Nat.ble_eq] at hc
    obtain ⟨⟨h1, h2⟩, h3⟩ := hc
    have hlo : laidOutB P = true := LaidOut.ok
    refine ⟨Go.Maps.Keyed.of_law (deep_law_gate hlo h3 h2 h1 hw), fun cs hcs => keyOf_ok hw h1 hl hcs ?_⟩
    rw [hcs.length]
    exact Nat.beq_eq.mp hb
  split at h
  · rename_i hu; exact key (by rw [hu]) h
  · rename_i hu; exact key (by rw [hu]) h
  · cases h

section
variable {P : Program} {a : Act} {o : Oper} {ι : Io} {w : World} {h h' : H} {v : AV}

theorem lookupDA_ok [LaidOut P] (hh : HR h ι w) {t kt el : TypeId} {m k : Operand} {ok : Bool} (ho : o.op = .lookup t m k ok) (ht : P.underlying t = some (.map kt el)) {zero : AV} (hz : zeroT P el = some zero) {ks : List (Option IntKind)} (hkd : deepT P kt = some ks) {ma ka : AV} (hm : VR ι ma (a.eval m)) (hk : VR ι ka (a.eval k)) (hr : lookupDA ks zero ok ma ka h = .ok v h') : PureR P a o v h ι w h' := by
  obtain ⟨hK, hof⟩ := deepT_spec hkd
  obtain ⟨i, zv, hi, hzv, hav⟩ := zeroT_info hz
  have hzr := VR.of ι hav
  unfold lookupDA at hr
  split at hr
  case h_2 => cases hr
  rename_i id c
  split at hr
  case h_2 => cases hr
  rename_i es hget hck
  obtain ⟨l, ents, clk, hl, hg, hmr⟩ := hh.obj id _ hget
  simp only [VR] at hm
  obtain ⟨l', hl', hmv⟩ := hm
  have : l' = l := by rw [hl] at hl'; injection hl' with hl'; exact hl'.symm
  subst this
  have hk0 := hk
  simp only [VR] at hk
  obtain ⟨u, hku, huv, _⟩ := hk
  obtain ⟨lx, hlx⟩ := hof u (cellsK_ok hck huv)
  split at hr
  case h_3 => cases hr
  · rename_i x hf
    injection hr with e1 e2
    subst e1 e2
    obtain ⟨g1, _, g3⟩ := findD_rel hck huv es ents.toList _ hmr hf
    obtain ⟨j, e, k1, k2, k3, k4⟩ := g3 x rfl
    rcases hK.find w hlx ents.toList (fun e he => by obtain ⟨cs, h1, h2⟩ := g1 e he; rw [h1]; exact hof cs h2) with ⟨_, h2⟩ | ⟨j', e', h1, h2, h3⟩
    · exact absurd k2 (h2 e (List.mem_of_getElem? k1))
    · have hj := k4 j' e' h2 h3
      subst hj
      rw [k1] at h2
      injection h2 with h2
      subst h2
      refine ⟨rfl, (if ok then .tuple #[e.val, .bool true] else e.val), ?_, ?_⟩
      · unfold execOp
        rw [ho]
        simp [hmv, hku, Instr.lookup, run_underlying ht, MapKept.run_getObj_map hg, hK.check w _ hlx, h1]
      · cases ok
        · exact k3
        · exact ⟨[_, _], rfl, by simp only [VRl]; exact ⟨_, _, rfl, k3, _, _, rfl, rfl, rfl⟩⟩
  · rename_i hf
    injection hr with e1 e2
    subst e1 e2
    obtain ⟨g1, g2, _⟩ := findD_rel hck huv es ents.toList _ hmr hf
    rcases hK.find w hlx ents.toList (fun e he => by obtain ⟨cs, h1, h2⟩ := g1 e he; rw [h1]; exact hof cs h2) with ⟨h1, _⟩ | ⟨j', e', h1, h2, h3⟩
    · refine ⟨rfl, (if ok then .tuple #[zv, .bool false] else zv), ?_, ?_⟩
      · unfold execOp
        rw [ho]
        simp [hmv, hku, Instr.lookup, run_underlying ht, MapKept.run_getObj_map hg, hK.check w _ hlx, h1, zeroValue, typeInfo, hi, hzv]
      · cases ok
        · exact hzr
        · exact ⟨[_, _], rfl, by simp only [VRl]; exact ⟨_, _, rfl, hzr, _, _, rfl, rfl, rfl⟩⟩
    · exact absurd h3 (g2 rfl e' (List.mem_of_getElem? h2))

theorem mapUpdateDA_ok [LaidOut P] (hh : HR h ι w) {t kt el : TypeId} {m k x : Operand} (ho : o.op = .mapUpdate t m k x ∨ o.op = .insert t m k x) (ht : P.underlying t = some (.map kt el)) {ks : List (Option IntKind)} (hkd : deepT P kt = some ks) {ma ka xa : AV} (hm : VR ι ma (a.eval m)) (hk : VR ι ka (a.eval k)) (hx : VR ι xa (a.eval x)) (hr : mapUpdateDA ks ma ka xa h = .ok v h') : OpOk P a o v h ι w h' := by
  obtain ⟨hK, hof⟩ := deepT_spec hkd
  unfold mapUpdateDA at hr
  split at hr
  case h_2 => cases hr
  rename_i id c
  split at hr
  case h_2 => cases hr
  rename_i es hget hck
  obtain ⟨l, ents, clk, hl, hg, hmr⟩ := hh.obj id _ hget
  simp only [VR] at hm
  obtain ⟨l', hl', hmv⟩ := hm
  have : l' = l := by rw [hl] at hl'; injection hl' with hl'; exact hl'.symm
  subst this
  have hk0 := hk
  simp only [VR] at hk
  obtain ⟨u, hku, huv, _⟩ := hk
  rw [hku] at hk0
  obtain ⟨lx, hlx⟩ := hof u (cellsK_ok hck huv)
  split at hr
  case h_2 => cases hr
  rename_i r hf
  injection hr with e1 e2
  subst e1 e2
  obtain ⟨g1, g2, g3⟩ := findD_rel hck huv es ents.toList _ hmr hf
  obtain ⟨p1, p2⟩ := putD_rel hck huv hk0 hx clk es ents.toList _ hmr hf
  rcases hK.find w hlx ents.toList (fun e he => by obtain ⟨cs, h1, h2⟩ := g1 e he; rw [h1]; exact hof cs h2) with ⟨h1, h2⟩ | ⟨j, e, h1, h2, h3⟩
  · obtain ⟨h5, h6⟩ := hh.putMap (w' := { w with heap := w.heap.setIfInBounds l'.g (.map (ents.push { key := .agg u.toArray, val := a.eval x, born := clk }) (clk + 1)) }) hget hl hg (by simpa using p1 h2) rfl
    refine .skip ?_ h5 h6
    unfold execOp
    rcases ho with ho | ho <;> (rw [ho]; simp [hmv, hku, Instr.mapUpdate, run_underlying ht, MapKept.run_getObj_map hg, hK.check w false hlx, h1, MapKept.run_setObj_map _ hg])
  · have h2' : ents[j]? = some e := by simpa using h2
    have huniq : ∀ (j' : Nat) e', ents.toList[j']? = some e' → e'.key = .agg u.toArray → j' = j := by
      intro j' e' q1 q2
      cases r with
      | none => exact absurd h3 (g2 rfl e (List.mem_of_getElem? h2))
      | some x =>
        obtain ⟨j0, e0, _, _, _, k4⟩ := g3 x rfl
        rw [k4 j' e' q1 q2, k4 j e h2 h3]
    obtain ⟨h5, h6⟩ := hh.putMap (w' := { w with heap := w.heap.setIfInBounds l'.g (.map (ents.modify j fun e => { e with key := .agg u.toArray, val := a.eval x }) clk) }) hget hl hg (by simpa using p2 j e h2 h3 huniq) rfl
    refine .skip ?_ h5 h6
    unfold execOp
    rcases ho with ho | ho <;> (rw [ho]; simp [hmv, hku, Instr.mapUpdate, run_underlying ht, MapKept.run_getObj_map hg, hK.check w false hlx, h1, MapKept.run_setObj_map _ hg, h2', h3, hK.stays w hlx])

end
end Go.Proofs.YtfmlgiafkbakcaaGreatDoor.Ev

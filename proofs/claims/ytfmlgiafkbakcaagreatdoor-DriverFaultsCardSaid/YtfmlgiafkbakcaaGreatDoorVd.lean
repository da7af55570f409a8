/- Whatever operation. Code. Code, calls. Calls. -/
import Derived.Test.YtfmlgiafkbakcaaGreatDoorVj
namespace Go.Proofs.YtfmlgiafkbakcaaGreatDoor.Ev

/-- what a world keeps that is not in our memory -/
structure Keep where
  ok : H → Io → World → Prop
  step : ∀ {h ι w h' ι' w'}, ok h ι w → Stp h ι w h' ι' w' → ok h' ι' w'

/-- nothing -/
def Keep.none : Keep := ⟨fun _ _ _ => True, fun _ _ => trivial⟩

/-- calls that are what the evaluator says -/
def SoundCall (P : Program) (K : Keep) (f : FuncId) (args : AV) (h : H) (v : AV) (h' : H) : Prop :=
  ∀ (ι : Io) (w : World) (vs : Array Value), HR h ι w → K.ok h ι w → VRl ι args vs.toList → Calls P f vs w fun e w' => ∃ ι' u, e = .returned u ∧ VR ι' v u ∧ HR h' ι' w' ∧ Stp h ι w h' ι' w'

def SoundCF (P : Program) (K : Keep) (ih : CF) : Prop := ∀ f args h v h', ih f args h = .ok v h' → SoundCall P K f args h v h'

section
variable {P : Program} {K : Keep} {a : Act} {o : Oper} {ι : Io} {w : World} {h h' : H} {v : AV}

theorem callable_spec {f : FuncId} (hf : callable P f = true) (vs : Array Value) (w : World) : (callFunc f vs).run P w = .ok (.enter f vs) w := by
  unfold callable at hf
  split at hf
  case h_2 => cases hf
  rename_i fn hfn
  simp only [Bool.and_eq_true, Bool.not_eq_true', Option.isSome_iff_exists] at hf
  obtain ⟨h1, b, h2⟩ := hf
  unfold callFunc
  have h1' : fn.name ≠ "runtime.NumGoroutine" := by simpa using h1
  simp [run_program, hfn, h1', h2]

theorem OpOk.call {ih : CF} (hi : SoundCF P K ih) (hh : HR h ι w) (hK : K.ok h ι w) {f : FuncId} {args : AV} {vs : Array Value} (hv : VRl ι args vs.toList) (hrun : (execOp a.eval o).run P w = .ok (.enter f vs) w) (hr : ih f args h = .ok v h') : OpOk P a o v h ι w h' := by
  intro J Q hJ
  unfold Oper.wp
  rw [hrun]
  simp only [Oper.upon]
  refine (hi f args h v h' hr ι w vs hh hK hv).mono fun e w' he => ?_
  obtain ⟨ι', u, rfl, h1, h2, h3⟩ := he
  exact hJ ι' u w' h1 h2 h3

theorem call_ok {ih : CF} (hi : SoundCF P K ih) (hh : HR h ι w) (hK : K.ok h ι w) {c : Call} {f : FuncId} (ho : o.op = .call c) (hc : c.callee = .value (.func f)) (hf : callable P f = true) {args : AV} (hv : VRl ι args (c.args.toList.map a.eval)) (hr : ih f args h = .ok v h') : OpOk P a o v h ι w h' := by
  refine OpOk.call hi hh hK (vs := c.args.map a.eval) (by simpa using hv) ?_ hr
  unfold execOp
  rw [ho]
  simp only [resolve, hc, Act.eval, Deferred.ofValue, Sem.run_bind, Sem.run_pure, Result.andThen_ok, invoke, Array.append_empty, Array.empty_append]
  exact callable_spec hf _ w

theorem callv_ok {ih : CF} (hi : SoundCF P K ih) (hh : HR h ι w) (hK : K.ok h ι w) {c : Call} {x : Operand} (ho : o.op = .call c) (hc : c.callee = .value x) {fa args : AV} (hx : VR ι fa (a.eval x)) (hv : VRl ι args (c.args.toList.map a.eval)) (hr : callvA P ih fa args h = .ok v h') : OpOk P a o v h ι w h' := by
  unfold callvA at hr
  split at hr
  case h_2 => cases hr
  rename_i f first caps
  split at hr
  case h_2 => cases hr
  rename_i hf
  simp only [VR] at hx
  obtain ⟨p, q, hx, h1, h2⟩ := hx
  refine OpOk.call hi hh hK (vs := p.toArray ++ c.args.map a.eval ++ q.toArray) ?_ ?_ hr
  · simp only [Array.toList_append, Array.toList_map]
    exact VRl.append h2 (VRl.append hv h1)
  · unfold execOp
    rw [ho]
    simp only [resolve, hc, hx, Deferred.ofValue, Sem.run_bind, Sem.run_pure, Result.andThen_ok, invoke]
    exact callable_spec hf _ w

theorem lookM_mem {t : Nat} {f : FuncId} : ∀ {M : List (Nat × FuncId)}, lookM t M = some f → (t, f) ∈ M
  | [], h => by simp [lookM] at h
  | (b, g) :: l, h => by
    simp only [lookM] at h
    split at h
    · rename_i hb
      injection h with h
      subst h
      have := Nat.beq_eq.mp hb
      subst this
      simp
    · exact List.mem_cons_of_mem _ (lookM_mem h)

theorem methsT_spec {name : String} {t : Nat} {f : FuncId} (h : (t, f) ∈ methsT P name) : ∃ i m e, P.info? t = some i ∧ i.methods.find? (·.name == name) = some m ∧ P.underlying t = some (.pointer e) ∧ m.path.toList = [] ∧ m.func = some (f, true) ∧ callable P f = true := by
  unfold methsT at h
  obtain ⟨t', _, h⟩ := List.mem_filterMap.1 h
  split at h
  case h_2 => cases h
  rename_i i hi
  split at h
  case h_2 => cases h
  rename_i m e hm hu
  split at h
  case h_2 => cases h
  rename_i f' hp hf
  split at h
  case isFalse => cases h
  rename_i hc
  injection h with h
  injection h with h1 h2
  subst h1 h2
  exact ⟨i, m, e, hi, hm, hu, hp, hf, hc⟩

theorem invoke_ok {ih : CF} (hi : SoundCF P K ih) (hh : HR h ι w) (hK : K.ok h ι w) {c : Call} {x : Operand} {name : String} (ho : o.op = .call c) (hc : c.callee = .invoke x name) {ra args : AV} (hx : VR ι ra (a.eval x)) (hv : VRl ι args (c.args.toList.map a.eval)) (hr : invokeA (methsT P name) ih ra args h = .ok v h') : OpOk P a o v h ι w h' := by
  unfold invokeA at hr
  split at hr
  case h_2 => cases hr
  rename_i t r
  split at hr
  case h_2 => cases hr
  rename_i f hf
  obtain ⟨i, m, e, h1, h2, h3, h4, h5, h6⟩ := methsT_spec (lookM_mem hf)
  simp only [VR] at hx
  obtain ⟨u, hx, hu⟩ := hx
  refine OpOk.call hi hh hK (vs := #[u] ++ c.args.map a.eval) ?_ ?_ hr
  · simp only [Array.toList_append, Array.toList_map]
    exact ⟨u, _, rfl, hu, hv⟩
  · obtain ⟨n, hn⟩ : ∃ n, P.types.size + Made.depth = n + 1 := ⟨P.types.size + Made.depth - 1, by have h7 : 0 < Made.depth := (by decide); omega⟩
    have hm : (method (n + 1) t u name).run P w = .ok (f, u) w := by
      unfold method
      simp [typeInfo, h1, h2, h4, follow, h5, receiverAt, run_underlying h3, Place.get]
    unfold execOp
    rw [ho]
    have hcf := callable_spec h6 (#[u] ++ c.args.map a.eval) w
    have h0 : (#[Value.iface t u] ++ c.args.map a.eval)[0]? = some (Value.iface t u) := by
      rw [Array.getElem?_append_left (by simp)]
      rfl
    have hx2 : (c.args.map a.eval).extract 0 c.args.size = c.args.map a.eval := by simp
    simp [resolve, hc, hx, invoke, callMethod, run_program, hn, hm, hcf, h0, hx2]

theorem okOps_spec {l : List Operand} (h : okOps l = true) {x : Operand} (hx : x ∈ l) : okOp x = true := List.all_eq_true.1 h x hx

/-- an operation that leaves all as it is -/
theorem cop_pure [LaidOut P] {ih : CF} (hh : HR h ι w) {N : Nat} {e : E} (hE : ER N ι e a) (hops : okOps o.op.operands.toList = true) (hk : kindOp o.op ≤ 1) (hr : (cop P o.op).run ih e h = .ok v h') : PureR P a o v h ι w h' := by
  have op : ∀ {x : Operand}, x ∈ o.op.operands.toList → VR ι ((cget x).get e) (a.eval x) := fun hx => hE.eval (okOps_spec hops hx)
  cases ho : o.op <;> rw [ho] at hr op hops hk <;> first | (exfalso; revert hk; simp only [kindOp]; decide) | (simp only [cop, no] at hr <;> try (cases hr; done))
  case move x =>
    injection hr with e1 e2
    subst e1 e2
    exact move_ok hh (.inl ho) (op (by simp [Op.operands]))
  case assign x =>
    injection hr with e1 e2
    subst e1 e2
    exact move_ok hh (.inr ho) (op (by simp [Op.operands]))
  case pick c x y => exact pick_ok hh ho (op (by simp [Op.operands])) (op (by simp [Op.operands])) (op (by simp [Op.operands])) hr
  case build t ps =>
    have hok2 : (ps.toList.all fun x => okOp x.2) = true := by
      simp only [okOps, Op.operands] at hops
      simpa using hops
    split at hr
    · rename_i fs z hu hz
      split at hr
      case h_2 => cases hr
      rename_i pl hpl
      split at hr
      case h_2 => cases hr
      rename_i l hl
      exact build_ok hh hE ho hu hz hpl hl hok2 hr
    · rename_i n el z hu hz
      split at hr
      case h_2 => cases hr
      rename_i k hk2
      split at hr
      case h_2 => cases hr
      rename_i hlt
      exact buildArr_ok hh hE ho hu hz hk2 hlt hok2 hr
    · cases hr
  case load t x =>
    split at hr
    · rename_i r hrow; exact load_ok hh ho hrow (op (by simp [Op.operands])) hr
    · cases hr
  case nilCheck x => exact nilCheck_ok hh ho (op (by simp [Op.operands])) hr
  case binOp bo t x y t2 =>
    split at hr
    · rename_i hc
      split at hr
      · rename_i ms ht; exact nilEq_ok hh ho hc ht (op (by simp [Op.operands])) (op (by simp [Op.operands])) hr
      · cases hr
    · exact binOp_ok hh ho (op (by simp [Op.operands])) (op (by simp [Op.operands])) hr
  case unOp uo t x => exact unOp_ok hh ho (op (by simp [Op.operands])) hr
  case convert s t x =>
    split at hr
    · rename_i ds k hs hk; exact convert_ok hh ho hk hs (op (by simp [Op.operands])) hr
    · rename_i el hs ht
      split at hr
      · rename_i he; exact bytesStr_ok hh ho hs he ht (op (by simp [Op.operands])) hr
      · cases hr
    · cases hr
  case makeFunc fn first caps =>
    cases fn <;> simp only at hr <;> try (cases hr; done)
    rename_i f
    injection hr with e1 e2
    subst e1 e2
    simp only [okOps, Op.operands, Array.toList_append, List.all_append, Bool.and_eq_true] at hops
    exact makeFunc_ok hh ho (hE.evals hops.1) (hE.evals hops.2)
  case slice t x lo hi2 mx =>
    have hlo0 : OV ι (lo.map fun x => (cget x).get e) (lo.map a.eval) := by
      cases lo
      · trivial
      · exact op (by simp [Op.operands])
    cases mx
    case some mx =>
      cases hi2
      case none => simp only at hr; cases hr
      rename_i hi2
      simp only at hr
      split at hr
      case h_2 => cases hr
      rename_i el hu
      split at hr
      case h_2 => cases hr
      rename_i z hz
      exact slice3_ok hh ho hu hz (op (by simp [Op.operands])) hlo0 (op (by simp [Op.operands])) (op (by simp [Op.operands])) hr
    simp only at hr
    have hlo : OV ι (lo.map fun x => (cget x).get e) (lo.map a.eval) := by
      cases lo
      · trivial
      · exact op (by simp [Op.operands])
    have hhi : OV ι (hi2.map fun x => (cget x).get e) (hi2.map a.eval) := by
      cases hi2
      · trivial
      · exact op (by simp [Op.operands])
    split at hr
    · rename_i hu; exact slice_ok hh ho (.inl ⟨rfl, hu⟩) (op (by simp [Op.operands])) hlo hhi hr
    · rename_i el hu
      split at hr
      case h_2 => cases hr
      rename_i z hz
      exact slice_ok hh ho (.inr ⟨el, rfl, hu, hz⟩) (op (by simp [Op.operands])) hlo hhi hr
    · rename_i n el hu
      split at hr
      case h_2 => cases hr
      rename_i z hz
      exact sliceArr_ok hh ho hu hz (op (by simp [Op.operands])) hlo hhi hr
    · cases hr
  case fieldAddr t x i =>
    split at hr
    case h_2 => cases hr
    rename_i f hf
    split at hr
    case h_2 => cases hr
    rename_i z hz
    exact fieldAddr_ok hh ho hf hz (op (by simp [Op.operands])) hr
  case field t x i =>
    split at hr
    case h_2 => cases hr
    rename_i f hf
    split at hr
    case h_2 => cases hr
    rename_i r hrow
    exact field_ok hh ho hf hrow (op (by simp [Op.operands])) hr
  case indexAddr t x i =>
    split at hr
    · rename_i el hel
      split at hr
      case h_2 => cases hr
      rename_i z hz
      exact indexAddr_ok hh ho hel hz (op (by simp [Op.operands])) (op (by simp [Op.operands])) hr
    · split at hr
      case h_2 => cases hr
      rename_i n el hu
      split at hr
      case h_2 => cases hr
      rename_i z hz
      exact indexAddrArr_ok hh ho hu hz (op (by simp [Op.operands])) (op (by simp [Op.operands])) hr
  case index t x i =>
    split at hr
    · rename_i hu; exact indexStr_ok hh ho hu (op (by simp [Op.operands])) (op (by simp [Op.operands])) hr
    · rename_i n el hu
      split at hr
      case h_2 => cases hr
      rename_i z r hz hrow
      exact indexArr_ok hh ho hu hz hrow (op (by simp [Op.operands])) (op (by simp [Op.operands])) hr
    · cases hr
  case lookup t x k ok =>
    split at hr
    case h_2 => cases hr
    rename_i kt el hu
    split at hr
    · rename_i z kd hz hkd
      exact lookup_ok hh ho hu hz hkd (op (by simp [Op.operands])) (op (by simp [Op.operands])) hr
    · rename_i z hz hkd
      split at hr
      case h_2 => cases hr
      rename_i ks hks
      exact lookupDA_ok hh ho hu hz hks (op (by simp [Op.operands])) (op (by simp [Op.operands])) hr
    · cases hr
  case extract x i => exact extract_ok hh ho (op (by simp [Op.operands])) hr
  case call c =>
    unfold ccall at hr
    have hargs : ∀ x ∈ c.args.toList, okOp x = true := fun x hx => okOps_spec hops (by
      simp only [Op.operands, Call.operands]
      simpa using Or.inr hx)
    simp only [kindOp] at hk
    split at hk
    · rename_i hc
      simp only [hc] at hr
      split at hr <;> simp only [no, reduceCtorEq] at hr <;> try (cases hr; done)
      all_goals first
        | contradiction
        | (rename_i x t h0 h1 h2
           split at hr
           · rename_i hu; exact len_ok hh ho hc h1 h2 (.inl ⟨rfl, hu⟩) (hE.eval (hargs x (by simp [h1]))) hr
           · rename_i el hu; exact len_ok hh ho hc h1 h2 (.inr ⟨rfl, el, hu⟩) (hE.eval (hargs x (by simp [h1]))) hr
           · cases hr)
        | contradiction
    · rename_i hc
      simp only [hc] at hr
      split at hr <;> simp only [no, reduceCtorEq] at hr <;> try (cases hr; done)
      all_goals first
        | contradiction
        | (rename_i x y h0 h1
           exact max_ok hh ho hc h1 (hE.eval (hargs x (by simp [h1]))) (hE.eval (hargs y (by simp [h1]))) hr)
        | contradiction
    · omega

/-- whatever operation -/
theorem cop_ok [LaidOut P] {ih : CF} (hi : SoundCF P K ih) (hh : HR h ι w) (hK : K.ok h ι w) {N : Nat} {e : E} (hE : ER N ι e a) (hops : okOps o.op.operands.toList = true) (hr : (cop P o.op).run ih e h = .ok v h') : OpOk P a o v h ι w h' := by
  have op : ∀ {x : Operand}, x ∈ o.op.operands.toList → VR ι ((cget x).get e) (a.eval x) := fun hx => hE.eval (okOps_spec hops hx)
  cases ho : o.op <;> rw [ho] at hr op hops <;> simp only [cop, no] at hr <;> try (cases hr; done)
  case move x =>
    injection hr with e1 e2
    subst e1 e2
    exact (move_ok hh (.inl ho) (op (by simp [Op.operands]))).ok hh
  case assign x =>
    injection hr with e1 e2
    subst e1 e2
    exact (move_ok hh (.inr ho) (op (by simp [Op.operands]))).ok hh
  case pick c x y => exact (pick_ok hh ho (op (by simp [Op.operands])) (op (by simp [Op.operands])) (op (by simp [Op.operands])) hr).ok hh
  case alloc t =>
    split at hr
    · rename_i z hz; exact alloc_ok hh ho hz hr
    · cases hr
  case box t x => exact box_ok hh ho (op (by simp [Op.operands])) hr
  case build t ps =>
    have hok2 : (ps.toList.all fun x => okOp x.2) = true := by
      simp only [okOps, Op.operands] at hops
      simpa using hops
    split at hr
    · rename_i fs z hu hz
      split at hr
      case h_2 => cases hr
      rename_i pl hpl
      split at hr
      case h_2 => cases hr
      rename_i l hl
      exact PureR.ok (build_ok hh hE ho hu hz hpl hl hok2 hr) hh
    · rename_i n el z hu hz
      split at hr
      case h_2 => cases hr
      rename_i k hk2
      split at hr
      case h_2 => cases hr
      rename_i hlt
      exact PureR.ok (buildArr_ok hh hE ho hu hz hk2 hlt hok2 hr) hh
    · cases hr
  case buildSlice t n ps =>
    split at hr
    case h_2 => cases hr
    rename_i el hel
    split at hr
    case h_2 => cases hr
    rename_i z hz
    split at hr
    case h_2 => cases hr
    rename_i hc
    simp only [Bool.and_eq_true, Nat.beq_eq, Nat.ble_eq, Bool.not_eq_true'] at hc
    obtain ⟨⟨⟨⟨h1, h2⟩, h3⟩, h4⟩, h5⟩ := hc
    have hvs := hE.evals (l := ps.toList.map (·.2)) (by simpa [okOps, Op.operands] using hops)
    refine buildSlice_ok hh ho hel hz h5 h1 h2 h3 (fun e0 => by rw [e0] at h4; cases h4) ?_ hr
    rw [List.map_map] at hvs
    exact hvs
  case load t x =>
    split at hr
    · rename_i r hrow; exact (load_ok hh ho hrow (op (by simp [Op.operands])) hr).ok hh
    · cases hr
  case store t x y =>
    split at hr
    · rename_i z hz; exact store_ok hh ho hz (op (by simp [Op.operands])) (op (by simp [Op.operands])) hr
    · cases hr
  case nilCheck x => exact (nilCheck_ok hh ho (op (by simp [Op.operands])) hr).ok hh
  case binOp bo t x y t2 =>
    split at hr
    · rename_i hc
      split at hr
      · rename_i ms ht; exact (nilEq_ok hh ho hc ht (op (by simp [Op.operands])) (op (by simp [Op.operands])) hr).ok hh
      · cases hr
    · exact (binOp_ok hh ho (op (by simp [Op.operands])) (op (by simp [Op.operands])) hr).ok hh
  case unOp uo t x => exact (unOp_ok hh ho (op (by simp [Op.operands])) hr).ok hh
  case convert s t x =>
    split at hr
    · rename_i ds k hs hk; exact (convert_ok hh ho hk hs (op (by simp [Op.operands])) hr).ok hh
    · rename_i el hs ht
      split at hr
      · rename_i he; exact (bytesStr_ok hh ho hs he ht (op (by simp [Op.operands])) hr).ok hh
      · cases hr
    · cases hr
  case makeFunc fn first caps =>
    cases fn <;> simp only at hr <;> try (cases hr; done)
    rename_i f
    injection hr with e1 e2
    subst e1 e2
    simp only [okOps, Op.operands, Array.toList_append, List.all_append, Bool.and_eq_true] at hops
    exact (makeFunc_ok hh ho (hE.evals hops.1) (hE.evals hops.2)).ok hh
  case makeInterface t x =>
    split at hr
    · rename_i e1 hu; exact (makeInterface_ok hh ho hu (op (by simp [Op.operands])) hr).ok hh
    · cases hr
  case makeMap t r =>
    cases r <;> simp only at hr
    · exact makeMap_ok hh ho hr
    · cases hr
  case makeSlice t x y =>
    split at hr
    case h_2 => cases hr
    rename_i el hel
    split at hr
    case h_2 => cases hr
    rename_i z zc hz hzc
    split at hr
    case h_2 => cases hr
    rename_i hc
    simp only [Bool.and_eq_true, Nat.beq_eq] at hc
    obtain ⟨i, zv, hi', hb, hs0, _⟩ := smallT_spec hc.1
    obtain ⟨i2, hi2, hs2⟩ := szT_info hz
    refine makeSlice_ok hh ho hel hz ?_ hzc hc.2 (fun j hj => ?_) (op (by simp [Op.operands])) (op (by simp [Op.operands])) hr
    · rw [hi'] at hi2; injection hi2 with hi2; subst hi2; omega
    · rw [hi'] at hj; injection hj with hj; subst hj; exact hb
  case slice t x lo hi2 mx =>
    have hlo0 : OV ι (lo.map fun x => (cget x).get e) (lo.map a.eval) := by
      cases lo
      · trivial
      · exact op (by simp [Op.operands])
    cases mx
    case some mx =>
      cases hi2
      case none => simp only at hr; cases hr
      rename_i hi2
      simp only at hr
      split at hr
      case h_2 => cases hr
      rename_i el hu
      split at hr
      case h_2 => cases hr
      rename_i z hz
      exact (slice3_ok hh ho hu hz (op (by simp [Op.operands])) hlo0 (op (by simp [Op.operands])) (op (by simp [Op.operands])) hr).ok hh
    simp only at hr
    have hlo : OV ι (lo.map fun x => (cget x).get e) (lo.map a.eval) := by
      cases lo
      · trivial
      · exact op (by simp [Op.operands])
    have hhi : OV ι (hi2.map fun x => (cget x).get e) (hi2.map a.eval) := by
      cases hi2
      · trivial
      · exact op (by simp [Op.operands])
    split at hr
    · rename_i hu; exact (slice_ok hh ho (.inl ⟨rfl, hu⟩) (op (by simp [Op.operands])) hlo hhi hr).ok hh
    · rename_i el hu
      split at hr
      case h_2 => cases hr
      rename_i z hz
      exact (slice_ok hh ho (.inr ⟨el, rfl, hu, hz⟩) (op (by simp [Op.operands])) hlo hhi hr).ok hh
    · rename_i n el hu
      split at hr
      case h_2 => cases hr
      rename_i z hz
      exact (sliceArr_ok hh ho hu hz (op (by simp [Op.operands])) hlo hhi hr).ok hh
    · cases hr
  case fieldAddr t x i =>
    split at hr
    case h_2 => cases hr
    rename_i f hf
    split at hr
    case h_2 => cases hr
    rename_i z hz
    exact (fieldAddr_ok hh ho hf hz (op (by simp [Op.operands])) hr).ok hh
  case field t x i =>
    split at hr
    case h_2 => cases hr
    rename_i f hf
    split at hr
    case h_2 => cases hr
    rename_i r hrow
    exact (field_ok hh ho hf hrow (op (by simp [Op.operands])) hr).ok hh
  case indexAddr t x i =>
    split at hr
    · rename_i el hel
      split at hr
      case h_2 => cases hr
      rename_i z hz
      exact (indexAddr_ok hh ho hel hz (op (by simp [Op.operands])) (op (by simp [Op.operands])) hr).ok hh
    · split at hr
      case h_2 => cases hr
      rename_i n el hu
      split at hr
      case h_2 => cases hr
      rename_i z hz
      exact (indexAddrArr_ok hh ho hu hz (op (by simp [Op.operands])) (op (by simp [Op.operands])) hr).ok hh
  case index t x i =>
    split at hr
    · rename_i hu; exact (indexStr_ok hh ho hu (op (by simp [Op.operands])) (op (by simp [Op.operands])) hr).ok hh
    · rename_i n el hu
      split at hr
      case h_2 => cases hr
      rename_i z r hz hrow
      exact (indexArr_ok hh ho hu hz hrow (op (by simp [Op.operands])) (op (by simp [Op.operands])) hr).ok hh
    · cases hr
  case lookup t x k ok =>
    split at hr
    case h_2 => cases hr
    rename_i kt el hu
    split at hr
    · rename_i z kd hz hkd
      exact (lookup_ok hh ho hu hz hkd (op (by simp [Op.operands])) (op (by simp [Op.operands])) hr).ok hh
    · rename_i z hz hkd
      split at hr
      case h_2 => cases hr
      rename_i ks hks
      exact (lookupDA_ok hh ho hu hz hks (op (by simp [Op.operands])) (op (by simp [Op.operands])) hr).ok hh
    · cases hr
  case mapUpdate t m k x =>
    split at hr
    case h_2 => cases hr
    rename_i kt el hu
    split at hr
    · rename_i kd hkd
      exact mapUpdate_ok hh (.inl ho) hu hkd (op (by simp [Op.operands])) (op (by simp [Op.operands])) (op (by simp [Op.operands])) hr
    · split at hr
      case h_2 => cases hr
      rename_i ks hks
      exact mapUpdateDA_ok hh (.inl ho) hu hks (op (by simp [Op.operands])) (op (by simp [Op.operands])) (op (by simp [Op.operands])) hr
  case insert t m k x =>
    split at hr
    case h_2 => cases hr
    rename_i kt el hu
    split at hr
    · rename_i kd hkd
      exact mapUpdate_ok hh (.inr ho) hu hkd (op (by simp [Op.operands])) (op (by simp [Op.operands])) (op (by simp [Op.operands])) hr
    · split at hr
      case h_2 => cases hr
      rename_i ks hks
      exact mapUpdateDA_ok hh (.inr ho) hu hks (op (by simp [Op.operands])) (op (by simp [Op.operands])) (op (by simp [Op.operands])) hr
  case extract x i => exact (extract_ok hh ho (op (by simp [Op.operands])) hr).ok hh
  case call c =>
    unfold ccall at hr
    have hargs : ∀ x ∈ c.args.toList, okOp x = true := fun x hx => okOps_spec hops (by
      simp only [Op.operands, Call.operands]
      simpa using Or.inr hx)
    have hev : VRl ι ((cgets c.args.toList).get e) (c.args.toList.map a.eval) := hE.evals (List.all_eq_true.2 hargs)
    split at hr
    · rename_i f hc
      split at hr
      · rename_i hf; exact call_ok hi hh hK ho hc hf hev hr
      · cases hr
    · rename_i x hn hc
      exact callv_ok hi hh hK ho hc (op (by simp [Op.operands, Call.operands, hc])) hev hr
    · rename_i b hc
      split at hr <;> simp only [no] at hr <;> try (cases hr; done)
      · rename_i x t h1 h2
        split at hr
        · rename_i hu; exact (len_ok hh ho hc h1 h2 (.inl ⟨rfl, hu⟩) (hE.eval (hargs x (by simp [h1]))) hr).ok hh
        · rename_i el hu; exact (len_ok hh ho hc h1 h2 (.inr ⟨rfl, el, hu⟩) (hE.eval (hargs x (by simp [h1]))) hr).ok hh
        · cases hr
      · rename_i s x t u h1 h2
        split at hr
        · rename_i el el' hel hel'
          split at hr
          case h_2 => cases hr
          rename_i z hz hsm
          exact append_ok hh ho hc h1 h2 hel hel' hz hsm (hE.eval (hargs s (by simp [h1]))) (hE.eval (hargs x (by simp [h1]))) hr
        · rename_i el hel hel'
          split at hr
          case h_2 => cases hr
          rename_i hu hz hsm
          exact appendS_ok hh ho hc h1 h2 hel hu hz hsm (hE.eval (hargs s (by simp [h1]))) (hE.eval (hargs x (by simp [h1]))) hr
        · cases hr
      · rename_i s t h1 h2
        split at hr
        case h_2 => cases hr
        rename_i el hel
        split at hr
        case h_2 => cases hr
        rename_i z zc hz hzc
        split at hr
        case h_2 => cases hr
        rename_i hcc
        simp only [Bool.and_eq_true, Nat.beq_eq] at hcc
        exact clear_ok hh ho hc h1 h2 hel hz hzc hcc.2 (hE.eval (hargs s (by simp [h1]))) hr
      · rename_i s x t u h1 h2
        split at hr
        · rename_i el el' hel hel'
          split at hr
          case h_2 => cases hr
          rename_i z hz
          exact copy_ok hh ho hc h1 h2 hel hel' hz (hE.eval (hargs s (by simp [h1]))) (hE.eval (hargs x (by simp [h1]))) hr
        · rename_i el hel hel'
          split at hr
          case h_2 => cases hr
          rename_i z hz
          exact copyS_ok hh ho hc h1 h2 hel (by obtain ⟨i, hi, _⟩ := szT_info hz; simp [hi]) (hE.eval (hargs s (by simp [h1]))) (hE.eval (hargs x (by simp [h1]))) hr
        · cases hr
      · rename_i x y h1
        exact (max_ok hh ho hc h1 (hE.eval (hargs x (by simp [h1]))) (hE.eval (hargs y (by simp [h1]))) hr).ok hh
    · rename_i x name hc
      exact invoke_ok hi hh hK ho hc (op (by simp [Op.operands, Call.operands, hc])) hev hr

end
end Go.Proofs.YtfmlgiafkbakcaaGreatDoor.Ev

namespace Go.Proofs.YtfmlgiafkbakcaaGreatDoor.Ev

/-- what the evaluator's answer says -/
def PostR (N : Nat) (h : H) (ι : Io) (w : World) (r : R) (x : Exit) (a' : Act) (w' : World) : Prop := match r with
  | .norm e' h' => x = .normal ∧ ∃ ι', ER N ι' e' a' ∧ HR h' ι' w' ∧ Stp h ι w h' ι' w'
  | .exit id e' h' => x = .exit id ∧ ∃ ι', ER N ι' e' a' ∧ HR h' ι' w' ∧ Stp h ι w h' ι' w'
  | .ret e' h' => x = .ret ∧ ∃ ι', ER N ι' e' a' ∧ HR h' ι' w' ∧ Stp h ι w h' ι' w'
  | .fail _ => False

def R.good : R → Bool
  | .fail _ => false
  | _ => true

theorem PostR.trans {N : Nat} {h h1 : H} {ι ι1 : Io} {w w1 : World} {r : R} (s : Stp h ι w h1 ι1 w1) {x : Exit} {a' : Act} {w' : World} (p : PostR N h1 ι1 w1 r x a' w') : PostR N h ι w r x a' w' := by
  cases r <;> simp only [PostR] at p ⊢
  · obtain ⟨hx, ι', h1, h2, h3⟩ := p; exact ⟨hx, ι', h1, h2, s.trans h3⟩
  · obtain ⟨hx, ι', h1, h2, h3⟩ := p; exact ⟨hx, ι', h1, h2, s.trans h3⟩
  · obtain ⟨hx, ι', h1, h2, h3⟩ := p; exact ⟨hx, ι', h1, h2, s.trans h3⟩

def SoundC (P : Program) (K : Keep) (N : Nat) (c : Code) (cc : C) : Prop :=
  ∀ ih, SoundCF P K ih → ∀ (e : E) (h : H) (ι : Io) (a : Act) (w : World), ER N ι e a → HR h ι w → K.ok h ι w → (cc.run ih e h).good = true → c.wp P (PostR N h ι w (cc.run ih e h)) a w

section
variable {P : Program} {K : Keep} {N : Nat}

theorem LetsOut.mono {Q Q' : Exit → Act → World → Prop} (hq : ∀ x a w, Q x a w → Q' x a w) (h : LetsOut Q) : LetsOut Q' := by
  obtain ⟨a, w, h⟩ := h
  exact ⟨a, w, hq _ _ _ h⟩

theorem Oper.wp_mono2 {o : Oper} {a : Act} {w : World} {K K' : Act → World → Prop} {Q Q' : Exit → Act → World → Prop} (h : ∀ a w, K a w → K' a w) (hq : ∀ x a w, Q x a w → Q' x a w) (hh : o.wp P a w K Q) : o.wp P a w K' Q' := by
  unfold Oper.wp at *
  generalize (execOp a.eval o).run P w = r at *
  cases r with
  | ok n w' =>
    cases n <;> simp only [Oper.upon] at hh ⊢ <;>
      first
        | exact h _ _ hh
        | exact Calls.mono hh (fun e w'' he => by cases e <;> first | exact h _ _ he | exact hq _ _ _ he | exact LetsOut.mono hq he | exact he)
        | exact Rows.mono hh (fun _ _ he => h _ _ he)
  | halt x w' => cases x <;> simp only [Oper.upon] at hh ⊢ <;> first | exact hq _ _ _ hh | exact hh

theorem wpList_monoQ {ops : Array Oper} {Q Q' : Exit → Act → World → Prop} (hq : ∀ x a w, Q x a w → Q' x a w) : ∀ (l : List Oper) (a : Act) (w : World), wpList P ops Q l a w → wpList P ops Q' l a w
  | [], _, _, h => hq _ _ _ h
  | o :: l, a, w, h => by
    unfold wpList at h ⊢
    split
    · rename_i hw
      rw [if_pos hw] at h
      rcases h with h | ⟨h1, h2⟩
      · exact .inl (Oper.wp_mono2 (fun a w => wpList_monoQ hq l a w) hq h)
      · exact .inr ⟨h1, LetsOut.mono hq h2⟩
    · rename_i hw
      rw [if_neg hw] at h
      exact wpList_monoQ hq l _ _ h

theorem copK_ok [LaidOut P] {ih : CF} (hi : SoundCF P K ih) {a : Act} {o : Oper} {ι : Io} {w : World} {h h' : H} {v : AV} (hh : HR h ι w) (hK : K.ok h ι w) {e : E} (hE : ER N ι e a) (hr : (copK P o.op).run ih e h = .ok v h') : OpOk P a o v h ι w h' := by
  unfold copK at hr
  split at hr
  · rename_i hops; exact cop_ok hi hh hK hE hops hr
  · simp only [no] at hr; cases hr

theorem yielded_bool {ops : Array Oper} {a : Act} {e : E} {ι : Io} (hE : ER N ι e a) {j d : Nat} (hd : (ops[j]?).bind (·.dst) = some d) (hlt : d < 1024) : (∀ b, getE d e = .bool b → yielded ops a.tmps j = some b) ∧ (getE d e = .tup .nil → yielded ops a.tmps j = none) := by
  have h1 := hE.at_ d hlt
  refine ⟨fun b hb => ?_, fun hb => ?_⟩
  · rw [hb] at h1
    simp only [VR] at h1
    unfold yielded
    rw [hd]
    rw [Array.getD_eq_getD_getElem?] at h1
    cases hx : a.tmps[d]? with
    | none => rw [hx] at h1; cases h1
    | some u =>
      rw [hx] at h1
      simp only [Option.getD_some] at h1
      subst h1
      simp [hx]
  · rw [hb] at h1
    simp only [VR] at h1
    obtain ⟨l, h1, h2⟩ := h1
    simp only [VRl] at h2
    subst h2
    unfold yielded
    rw [hd]
    rw [Array.getD_eq_getD_getElem?] at h1
    cases hx : a.tmps[d]? with
    | none => simp [hx]
    | some u =>
      rw [hx] at h1
      simp only [Option.getD_some] at h1
      subst h1
      simp [hx]

theorem cops_ok [LaidOut P] {ih : CF} (hi : SoundCF P K ih) (ops : Array Oper) : ∀ (l : List Oper) (e : E) (h : H) (ι : Io) (a : Act) (w : World), ER N ι e a → HR h ι w → K.ok h ι w → ((cops P N ops l).run ih e h).good = true → wpList P ops (PostR N h ι w ((cops P N ops l).run ih e h)) l a w
  | [], e, h, ι, a, w, hE, hh, _, hg => ⟨rfl, ι, hE, hh, Stp.refl _ _ _⟩
  | o :: l, e, h, ι, a, w, hE, hh, hK, hg => by
    have step : ∀ (r : O), r = (copK P o.op).run ih e h → okDst N o.dst = true → (goO (csetO o.dst).set r e ((cops P N ops l).run ih)).good = true → Region.wanted o (yielded ops a.tmps) = true →
        o.wp P a w (wpList P ops (PostR N h ι w (goO (csetO o.dst).set r e ((cops P N ops l).run ih))) l) (PostR N h ι w (goO (csetO o.dst).set r e ((cops P N ops l).run ih))) := by
      intro r hr hd hgood _
      cases r with
      | no y => cases hgood
      | ok v h' =>
        simp only [goO] at hgood ⊢
        refine copK_ok hi hh hK hE hr.symm _ _ fun ι' u w' hv hh' hs => ?_
        have := cops_ok hi ops l ((csetO o.dst).set v e) h' ι' (a.put o.dst u) w' ((hE.ext hs.ext).putO hd hv) hh' (K.step hK hs) hgood
        exact wpList_monoQ (fun x a' w'' p => PostR.trans hs p) l _ _ this
    have skip : okDst N o.dst = true → (((cops P N ops l).run ih) ((csetO o.dst).set (.tup .nil) e) h).good = true → wpList P ops (PostR N h ι w (((cops P N ops l).run ih) ((csetO o.dst).set (.tup .nil) e) h)) l (a.put o.dst undef) w := fun hd hgood =>
      cops_ok hi ops l _ h ι _ w (hE.putO hd ⟨[], rfl, rfl⟩) hh hK hgood
    unfold wpList
    simp only [cops] at hg ⊢
    split at hg
    case h_2 => cases hg
    rename_i hd
    split at hg
    · rename_i hgd
      rw [if_pos (by simp [Region.wanted, hgd])]
      exact .inl (step _ rfl hd hg (by simp [Region.wanted, hgd]))
    · rename_i j want hgd
      split at hg
      case h_2 => cases hg
      rename_i d hdj
      split at hg
      case h_2 => cases hg
      rename_i hlt
      obtain ⟨hy1, hy2⟩ := yielded_bool hE hdj (by simpa using hlt)
      simp only
      have hget : (cgetT d).get e = getE d e := rfl
      simp only [hget] at hg ⊢
      generalize hv : getE d e = v at hg ⊢
      unfold guardC at hg ⊢
      split at hg
      case h_4 => cases hg
      · have hw := hy1 _ hv
        split at hg
        · simp only
          rw [if_pos (by simp [Region.wanted, hgd, hw])]
          exact .inl (step _ rfl hd hg (by simp [Region.wanted, hgd, hw]))
        · simp only
          rw [if_neg (by simp [Region.wanted, hgd, hw])]
          exact skip hd hg
      · have hw := hy1 _ hv
        split at hg
        · simp only
          rw [if_neg (by simp [Region.wanted, hgd, hw])]
          exact skip hd hg
        · simp only
          rw [if_pos (by simp [Region.wanted, hgd, hw])]
          exact .inl (step _ rfl hd hg (by simp [Region.wanted, hgd, hw]))
      · have hw := hy2 hv
        simp only
        rw [if_neg (by simp [Region.wanted, hgd, hw])]
        exact skip hd hg

end
end Go.Proofs.YtfmlgiafkbakcaaGreatDoor.Ev

namespace Go.Proofs.YtfmlgiafkbakcaaGreatDoor.Ev

section
variable {P : Program} {K : Keep} {N : Nat}

theorem seqR_good {r : R} {k : E → H → R} (h : (seqR r k).good = true) : r.good = true := by
  cases r <;> first | rfl | cases h

theorem seq_ok {c d : Code} {cc dd : C} (hc : SoundC P K N c cc) (hd : SoundC P K N d dd) : SoundC P K N (.seq c d) ⟨fun ih e h => seqR (cc.run ih e h) (dd.run ih)⟩ := by
  intro ih hi e h ι a w hE hh hK hg
  simp only at hg ⊢
  refine wp_seq ?_
  have h1 := hc ih hi e h ι a w hE hh hK (seqR_good hg)
  generalize cc.run ih e h = r at h1 hg ⊢
  refine Go.wp_mono h1 fun x a' w' p => ?_
  cases r with
  | norm e' h' =>
    obtain ⟨rfl, ι', hE', hh', hs⟩ := p
    simp only [Exit.then, seqR] at hg ⊢
    exact Go.wp_mono (hd ih hi e' h' ι' a' w' hE' hh' (K.step hK hs) hg) fun y a2 w2 p2 => PostR.trans hs p2
  | exit i e' h' => obtain ⟨rfl, p⟩ := p; exact ⟨rfl, p⟩
  | ret e' h' => obtain ⟨rfl, p⟩ := p; exact ⟨rfl, p⟩
  | fail y => cases hg

theorem cond_ok {x : Operand} {c d : Code} {cc dd : C} (hx : okOp x = true) (hc : SoundC P K N c cc) (hd : SoundC P K N d dd) : SoundC P K N (.cond x c d) ⟨fun ih e h => condR ((cget x).get e) (fun _ => cc.run ih e h) (fun _ => dd.run ih e h)⟩ := by
  intro ih hi e h ι a w hE hh hK hg
  have hv := hE.eval hx
  simp only at hg ⊢
  generalize (cget x).get e = v at hv hg ⊢
  unfold condR at hg ⊢
  split at hg
  case h_3 => cases hg
  · exact wp_cond_true hv (hc ih hi e h ι a w hE hh hK hg)
  · exact wp_cond_false hv (hd ih hi e h ι a w hE hh hK hg)

theorem block_ok {id : Nat} {c : Code} {cc : C} (hc : SoundC P K N c cc) : SoundC P K N (.block id c) ⟨fun ih e h => blockR id (cc.run ih e h)⟩ := by
  intro ih hi e h ι a w hE hh hK hg
  simp only at hg ⊢
  have hg1 : (cc.run ih e h).good = true := by
    generalize cc.run ih e h = r at hg
    cases r <;> first | rfl | cases hg
  refine wp_block (Go.wp_mono (hc ih hi e h ι a w hE hh hK hg1) fun x a' w' p => ?_)
  generalize cc.run ih e h = r at p hg ⊢
  cases r with
  | norm e' h' => obtain ⟨rfl, p⟩ := p; exact ⟨rfl, p⟩
  | exit i e' h' =>
    obtain ⟨rfl, p⟩ := p
    simp only [blockR] at hg ⊢
    by_cases hi : i = id
    · subst hi
      simp only [Exit.inBlock, if_true]
      have : i.beq i = true := by simp
      rw [this]
      exact ⟨rfl, p⟩
    · simp only [Exit.inBlock, hi, if_false]
      have : i.beq id = false := by
        cases hb : i.beq id with
        | false => rfl
        | true => exact absurd (by simpa using hb) hi
      rw [this]
      exact ⟨rfl, p⟩
  | ret e' h' => obtain ⟨rfl, p⟩ := p; exact ⟨rfl, p⟩
  | fail y => cases p

theorem least {p : Nat → Prop} (h : ∃ n, p n) : ∃ n, p n ∧ ∀ m, p m → n ≤ m := by
  obtain ⟨n, hn⟩ := h
  induction n using Nat.strongRecOn with
  | _ n ih =>
    by_cases hm : ∃ m, m < n ∧ p m
    · obtain ⟨m, h1, h2⟩ := hm
      exact ih m h1 h2
    · exact ⟨n, hn, fun m h2 => Nat.le_of_not_lt fun h1 => hm ⟨m, h1, h2⟩⟩

/-- a loop: the round's answers, one behind the other -/
theorem loop_ok {c : Code} {cc : C} {M : Nat} (hc : SoundC P K N c cc) : SoundC P K N (.loop c) ⟨fun ih e h => loopR (cc.run ih) M e h⟩ := by
  classical
  intro ih hi e h ι a w hE hh hK hg
  simp only at hg ⊢
  let R0 := loopR (cc.run ih) M e h
  let Pn : Nat → Act → World → Prop := fun n a' w' => ∃ e' h' ι', ER N ι' e' a' ∧ HR h' ι' w' ∧ Stp h ι w h' ι' w' ∧ loopR (cc.run ih) n e' h' = R0
  let μ : Act → World → Nat := fun a' w' => if hx : ∃ n, Pn n a' w' then Classical.choose (least hx) else 0
  refine wp_loop (fun a' w' => ∃ n, Pn n a' w') μ ⟨M, e, h, ι, hE, hh, Stp.refl _ _ _, rfl⟩ fun a1 w1 hx => ?_
  have hspec := (Classical.choose_spec (least hx)).1
  have hμ : μ a1 w1 = Classical.choose (least hx) := dif_pos hx
  generalize Classical.choose (least hx) = n at hspec hμ
  obtain ⟨e1, h1, ι1, hE1, hh1, hs1, hr⟩ := hspec
  have hgood : (loopR (cc.run ih) n e1 h1).good = true := by rw [hr]; exact hg
  cases n with
  | zero => cases hgood
  | succ n =>
    simp only [loopR] at hgood hr
    have h2 := hc ih hi e1 h1 ι1 a1 w1 hE1 hh1 (K.step hK hs1) (seqR_good hgood)
    refine Go.wp_mono h2 fun x a2 w2 p => ?_
    generalize hrr : cc.run ih e1 h1 = r at p hgood hr
    cases r with
    | norm e2 h2' =>
      obtain ⟨rfl, ι2, hE2, hh2, hs2⟩ := p
      have hP : Pn n a2 w2 := ⟨e2, h2', ι2, hE2, hh2, hs1.trans hs2, hr⟩
      refine ⟨⟨n, hP⟩, ?_⟩
      have hex : ∃ n, Pn n a2 w2 := ⟨n, hP⟩
      have h5 : μ a2 w2 = Classical.choose (least hex) := dif_pos hex
      rw [h5, hμ]
      exact Nat.lt_succ_of_le ((Classical.choose_spec (least hex)).2 n hP)
    | exit i e2 h2' =>
      obtain ⟨rfl, ι2, hE2, hh2, hs2⟩ := p
      show PostR N h ι w R0 _ _ _
      rw [← hr]
      exact ⟨rfl, ι2, hE2, hh2, hs1.trans hs2⟩
    | ret e2 h2' =>
      obtain ⟨rfl, ι2, hE2, hh2, hs2⟩ := p
      show PostR N h ι w R0 _ _ _
      rw [← hr]
      exact ⟨rfl, ι2, hE2, hh2, hs1.trans hs2⟩
    | fail y => cases p

/-- code, once the regions that draw are known -/
theorem comp_ok [LaidOut P] (hd : ∀ id ops, SoundC P K N (.region id ops true) (dops P N ops)) : ∀ c : Code, SoundC P K N c (comp P N c)
  | .skip => fun ih _ e h ι a w hE hh _ _ => wp_skip ⟨rfl, ι, hE, hh, Stp.refl _ _ _⟩
  | .label _ => fun ih _ e h ι a w hE hh _ _ => wp_label ⟨rfl, ι, hE, hh, Stp.refl _ _ _⟩
  | .region id ops false => fun ih hi e h ι a w hE hh hK hg => wp_region_list (cops_ok hi ops ops.toList e h ι a w hE hh hK hg)
  | .region id ops true => hd id ops
  | .seq c d => seq_ok (comp_ok hd c) (comp_ok hd d)
  | .cond x c d => by
    intro ih hi e h ι a w hE hh hK hg
    simp only [comp] at hg ⊢
    split at hg
    · rename_i hx
      exact cond_ok hx (comp_ok hd c) (comp_ok hd d) ih hi e h ι a w hE hh hK hg
    · cases hg
  | .block id c => block_ok (comp_ok hd c)
  | .loop c => loop_ok (comp_ok hd c)
  | .exit id => fun ih _ e h ι a w hE hh _ _ => wp_exit ⟨rfl, ι, hE, hh, Stp.refl _ _ _⟩
  | .ret => fun ih _ e h ι a w hE hh _ _ => wp_ret ⟨rfl, ι, hE, hh, Stp.refl _ _ _⟩
  | .rangeFunc _ _ _ _ => fun _ _ _ _ _ _ _ _ _ _ hg => by cases hg
  | .scope _ => fun _ _ _ _ _ _ _ _ _ _ hg => by cases hg
  | .goto _ => fun _ _ _ _ _ _ _ _ _ _ hg => by cases hg
  | .refuse _ => fun _ _ _ _ _ _ _ _ _ _ hg => by cases hg

end
end Go.Proofs.YtfmlgiafkbakcaaGreatDoor.Ev

namespace Go.Proofs.YtfmlgiafkbakcaaGreatDoor.Ev

section
variable {P : Program}

theorem pj_u4 {α : Type} (d : Nat) (x : α) : (pj d).f α (u4 x) = x := by
  rcases d with _ | _ | _ | d <;> rfl

theorem getE_e0 (t : Nat) : getE t e0 = .tup .nil := by
  rw [getE_eq]
  unfold e0
  simp only [pj_u4]

set_option maxHeartbeats 2000000 in
theorem argsE_get : ∀ (l : AV) (k : Nat) (e e' : E), argsE l k e = some e' → ∀ t, t < 1024 → getE t e' = if k ≤ t ∧ t < k + l.length then (l.nth (t - k)).getD .nil else getE t e
  | .nil, k, e, e', h, t, _ => by
    simp only [argsE, Option.some.injEq] at h
    subst h
    rw [if_neg (by simp [AV.length])]
  | .cons a l, k, e, e', h, t, ht => by
    simp only [argsE] at h
    split at h
    case h_2 => cases h
    rename_i hk
    have hk : k < 1024 := by simpa using hk
    rw [argsE_get l (Nat.succ k) _ e' h t ht]
    have hlen : (AV.cons a l).length = l.length + 1 := rfl
    by_cases htk : t = k
    · subst htk
      rw [if_neg (by omega), if_pos (by omega), get_set_same]
      simp [AV.nth]
    · rw [get_set_ne hk ht htk]
      by_cases h1 : k ≤ t ∧ t < k + (AV.cons a l).length
      · rw [if_pos (by omega), if_pos h1]
        have : t - k = (t - Nat.succ k) + 1 := by omega
        rw [this]
        rfl
      · rw [if_neg (by omega), if_neg h1]
  | .int .., _, _, _, h, _, _ | .bool .., _, _, _, h, _, _ | .str .., _, _, _, h, _, _ | .nilp, _, _, _, h, _, _ | .ptr .., _, _, _, h, _, _ | .nils, _, _, _, h, _, _ | .sl .., _, _, _, h, _, _ | .slen .., _, _, _, h, _, _ | .nilm, _, _, _, h, _, _ | .map .., _, _, _, h, _, _ | .nilf, _, _, _, h, _, _ | .nili, _, _, _, h, _, _ | .fn .., _, _, _, h, _, _ | .agg .., _, _, _, h, _, _ | .tup .., _, _, _, h, _, _ => by simp [argsE] at h

theorem nth_len {ι : Io} : ∀ {l : AV} {vs : List Value} (i : Nat), VRl ι l vs → i < vs.length → ∃ x, l.nth i = some x
  | .nil, vs, i, h, hi => by simp only [VRl] at h; subst h; simp at hi
  | .cons a b, vs, 0, h, _ => ⟨a, rfl⟩
  | .cons a b, vs, i + 1, h, hi => by
    simp only [VRl] at h
    obtain ⟨v, m, rfl, _, h3⟩ := h
    exact nth_len (l := b) i h3 (by simpa using hi)

theorem ER.enter {ι : Io} {args : AV} {vs : Array Value} (hv : VRl ι args vs.toList) {e : E} (h : argsE args 0 e0 = some e) (N : Nat) : ER N ι e { tmps := vs ++ Array.replicate (N - vs.size) undef, defers := [] } := by
  refine ⟨by simp; omega, rfl, fun t ht => ?_⟩
  have hl := VRl.length hv
  simp only [Array.length_toList] at hl
  rw [argsE_get args 0 e0 e h t ht]
  by_cases h1 : t < vs.size
  · obtain ⟨x, hx⟩ := nth_len t hv (by simpa using h1)
    obtain ⟨u, h2, h3⟩ := VRl.nth t hv hx
    rw [if_pos (by omega), Nat.sub_zero, hx]
    have h4 : vs[t]? = some u := by simpa using h2
    simp only [Option.getD_some]
    have : (vs ++ Array.replicate (N - vs.size) undef).getD t undef = u := by
      rw [Array.getD_eq_getD_getElem?, Array.getElem?_append_left h1, h4]
      rfl
    rw [this]
    exact h3
  · rw [if_neg (by omega), getE_e0]
    have : (vs ++ Array.replicate (N - vs.size) undef).getD t undef = undef := by
      rw [Array.getD_eq_getD_getElem?, Array.getElem?_append_right (by omega)]
      by_cases h2 : t - vs.size < N - vs.size
      · simp [h2]
      · simp [h2]
    rw [this]
    exact ⟨[], rfl, rfl⟩

def resV (tmps : Array Value) : ResultVar → Sem Value
  | .tmp t => pure (tmps.getD t undef)
  | .cell x t => do loadVar t (← asAddr (tmps.getD x undef))

theorem results_eq (fn : Func) (tmps : Array Value) : results fn tmps = (do let vs ← fn.results.mapM (resV tmps); pure (if h : vs.size = 1 then vs[0] else .tuple vs)) := by
  unfold results
  congr 1

theorem cres_ok {N : Nat} {ι : Io} {e : E} {a : Act} (hE : ER N ι e a) {h : H} {w : World} (hh : HR h ι w) : ∀ (l : List ResultVar) (rl : AV), (cres P l).get e h = some rl →
    ∃ vs : List Value, (l.mapM (resV a.tmps)).run P w = .ok vs w ∧ VRl ι rl vs
  | [], rl, hr => by
    simp only [cres, Option.some.injEq] at hr
    subst hr
    exact ⟨[], by simp, by simp [VRl]⟩
  | .tmp t :: l, rl, hr => by
    simp only [cres] at hr
    split at hr
    case h_2 => simp at hr
    rename_i ht
    have ht : t < 1024 := by simpa using ht
    simp only at hr
    split at hr
    case h_2 => cases hr
    rename_i rl' hr'
    injection hr with hr
    subst hr
    obtain ⟨vs, h1, h2⟩ := cres_ok hE hh l rl' hr'
    refine ⟨a.tmps.getD t undef :: vs, ?_, ?_⟩
    · simp only [List.mapM_cons, resV, Sem.run_bind, Sem.run_pure, Result.andThen_ok, h1]
    · simp only [VRl]
      exact ⟨_, _, rfl, hE.at_ t ht, h2⟩
  | .cell x t :: l, rl, hr => by
    simp only [cres] at hr
    split at hr
    case h_2 => simp at hr
    rename_i row hrow hx
    have hx : x < 1024 := by simpa using hx
    simp only at hr
    split at hr
    case h_2 => cases hr
    rename_i v h' rl' hl hr'
    injection hr with hr
    subst hr
    obtain ⟨vs, h1, h2⟩ := cres_ok hE hh l rl' hr'
    obtain ⟨rfl, ad, u, h3, h4, h5⟩ := load_val (P := P) hh (hE.at_ x hx) hrow hl
    refine ⟨u :: vs, ?_, ?_⟩
    · simp only [List.mapM_cons, resV, Sem.run_bind, Result.andThen_ok, h3, asAddr, Sem.run_pure, h4, h1]
    · simp only [VRl]
      exact ⟨_, _, rfl, h5, h2⟩

theorem results_ok {N : Nat} {ι : Io} {e : E} {a : Act} (hE : ER N ι e a) {h : H} {w : World} (hh : HR h ι w) {fn : Func} {rl : AV} (hr : (cres P fn.results.toList).get e h = some rl) : ∃ u, (results fn a.tmps).run P w = .ok u w ∧ VR ι (oneR rl) u := by
  obtain ⟨vs, h1, h2⟩ := cres_ok (P := P) hE hh fn.results.toList rl hr
  have h3 : (fn.results.mapM (resV a.tmps)).run P w = .ok vs.toArray w := by
    rw [Array.mapM_eq_mapM_toList]
    simp [h1]
  rw [results_eq]
  refine ⟨if h : vs.toArray.size = 1 then vs.toArray[0] else .tuple vs.toArray, by simp only [Sem.run_bind, h3, Result.andThen_ok, Sem.run_pure], ?_⟩
  by_cases hs : vs.toArray.size = 1
  · rw [dif_pos hs]
    obtain ⟨u, rfl⟩ : ∃ u, vs = [u] := by
      match vs, hs with
      | [u], _ => exact ⟨u, rfl⟩
    cases rl <;> simp only [VRl] at h2
    case nil => cases h2
    case cons x y =>
      obtain ⟨p, q, h4, h5, h6⟩ := h2
      injection h4 with h4 h7
      subst h4 h7
      cases y <;> simp only [VRl] at h6
      case nil => exact h5
      case cons => obtain ⟨p, q, h8, _⟩ := h6; cases h8
  · rw [dif_neg hs]
    have : oneR rl = .tup rl := by
      unfold oneR
      split
      · rename_i x
        simp only [VRl] at h2
        obtain ⟨u, m, rfl, _, rfl⟩ := h2
        exact absurd rfl hs
      · rfl
    rw [this]
    exact ⟨vs, rfl, h2⟩

end
end Go.Proofs.YtfmlgiafkbakcaaGreatDoor.Ev

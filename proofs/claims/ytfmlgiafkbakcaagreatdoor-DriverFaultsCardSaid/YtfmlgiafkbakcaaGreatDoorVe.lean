/- Regions that draw: an operation that makes memory, wherever its number comes from. Regions that draw: what an operation hangs on; whatever order. Regions that draw: what does not hang on memory. Regions that draw: who waits for whom; the states of the row. Regions that draw: the row of states. -/
import Derived.Test.YtfmlgiafkbakcaaGreatDoorVd
namespace Go.Proofs.YtfmlgiafkbakcaaGreatDoor.Ev

section
variable {P : Program} {a : Act} {o : Oper} {ι : Io} {w : World} {v : AV}

/-- what an operation that makes memory does: a block is laid, and who knows where it lies knows its value -/
def AllocOk (P : Program) (a : Act) (o : Oper) (ι : Io) (w : World) (k : Nat) (v : AV) (ob : AObj) : Prop :=
  isOwn (some ob) = true ∧ ∃ (obj : Obj) (base size : Nat) (u : Value), (execOp a.eval o).run P w = .ok (.value u) (w.alloc obj) ∧
    ∀ ι', Ext ι ι' → ι' k = some ⟨w.heap.size, base, size⟩ → VR ι' v u ∧ OR (w.alloc obj) ι' k ob

theorem AllocOk.cells {k n : Nat} {c : Tr AV} {arr : Array Value} {t : TypeId} {u : Value} {ancs : List Nat} (hrun : (execOp a.eval o).run P w = .ok (.value u) (w.alloc (.cells arr t))) (hn : n ≤ arr.size)
    (hc : ∀ i x, i < n → c.get i = some x → ∃ v, arr[i]? = some v ∧ VR ι x v ∧ v.oneCell' = true) (hv : ∀ ι' : Io, ι' k = some ⟨w.heap.size, 0, arr.size⟩ → VR ι' v u) : AllocOk P a o ι w k v (.cells c n true ancs) := by
  refine ⟨rfl, _, 0, arr.size, u, hrun, fun ι' he hk => ⟨hv ι' hk, _, arr, t, hk, heap_alloc_new w _, rfl, by simpa using hn, fun i x hi hx => ?_⟩⟩
  obtain ⟨q, h1, h2, h3⟩ := hc i x hi hx
  exact ⟨q, by simpa using h1, h2.ext he, h3⟩

theorem newA_alloc {objs : Tr AObj} {k : Nat} {cs : AV} {vs : List Value} (hv : VRl ι cs vs) (h1 : ∀ u ∈ vs, u.oneCell' = true) {t : TypeId} (hrun : (execOp a.eval o).run P w = .ok (.value (.pointer (some ⟨w.heap.size, 0, none⟩))) (w.alloc (.cells vs.toArray t)))
    {h1' : H} (hr : newA (Tr.nil.putL 0 cs) cs.length ⟨objs, k⟩ = .ok v h1') {ob : AObj} (hob : h1'.objs.get k = some ob) : AllocOk P a o ι w k v ob := by
  simp only [newA] at hr
  injection hr with e1 e2
  subst e1 e2
  simp only [Tr.get_set, Option.some.injEq] at hob
  subst hob
  have hlen := VRl.length hv
  exact AllocOk.cells hrun (by simp [hlen]) (fun i x hi hx => by
    obtain ⟨q, h4, h5⟩ := cells_put hv h1 i x hi hx
    exact ⟨q, by simpa using h4, h5⟩) (fun ι' hk => ⟨_, hk, rfl⟩)

theorem buildSlice_alloc {t el : TypeId} {n : Nat} {ps : Array (Nat × Operand)} (ho : o.op = .buildSlice t n ps) (he : elemT P t = some el) {z : Nat} (hz : szT P el = some z) (hzero : (zeroT P el).isSome = true) (hn : n = ps.toList.length) (hin : inOrder 0 ps.toList = true) (hsmall : n * z ≤ 1000000) (hz0 : z ≠ 0)
    {vs : AV} (hvs : VRl ι vs (ps.toList.map fun x => a.eval x.2)) {objs : Tr AObj} {k : Nat} {h1' : H} (hr : buildSliceA z n vs ⟨objs, k⟩ = .ok v h1') {ob : AObj} (hob : h1'.objs.get k = some ob) : AllocOk P a o ι w k v ob := by
  unfold buildSliceA at hr
  split at hr
  case h_2 => cases hr
  rename_i cs hcs
  simp only at hr
  injection hr with e1 e2
  subst e1 e2
  simp only [Tr.get_set, Option.some.injEq] at hob
  subst hob
  obtain ⟨h1, h2, h3⟩ := cat_rel hvs hcs
  obtain ⟨i, hi, hs⟩ := szT_info hz
  obtain ⟨zz, hzz⟩ := Option.isSome_iff_exists.1 hzero
  obtain ⟨i', zv, hi', hzv, _⟩ := zeroT_info hzz
  rw [hi] at hi'
  injection hi' with hi'
  subst hi'
  have hlen : (ps.toList.map fun x => a.eval x.2).length = n := by simp [hn]
  have hfl := flat_length _ h3
  rw [hlen] at hfl
  have hcl := VRl.length h1
  by_cases hn0 : n = 0
  · subst hn0
    have hps : ps = #[] := by
      apply Array.ext'
      exact List.eq_nil_of_length_eq_zero hn.symm
    subst hps
    refine AllocOk.cells (u := .slice (some ⟨w.heap.size, 0, none⟩) 0 0) (arr := #[]) (t := el) ?_ (by simp) (by intro i a hi; simp at hi) (fun ι' hk' => ⟨_, _, 0, hk', rfl, Nat.le_refl _, fun _ => rfl, fun h => absurd rfl h, by simp⟩)
    unfold execOp
    rw [ho]
    simp [Instr.buildSlice, run_underlying (elemT_spec he), sizeOf, typeInfo, hi, Instr.fill, run_newRow']
    exact congrArg (fun c => w.alloc (.cells c el)) (by apply Array.ext'; simp)
  · have hpos : ¬ n * i.size = 0 := by
      rw [hs]
      exact Nat.mul_ne_zero hn0 hz0
    have hf := Great.fill_whole (s := i.size) (by omega) (ps.toList.map fun x => a.eval x.2) ((Array.range (n * i.size)).map (zv.cells[· % zv.cells.size]!)) (by rw [hs]; exact h3) (by rw [hlen]; simp)
    have hbs := run_buildSlice (P := P) w t el n (ps.map fun (i, x) => (i, a.eval x)) _ i zv (elemT_spec he) hi hzv (by rw [hs]; omega) hpos (by
      rw [← hf]
      congr 1
      rw [Array.toList_map]
      exact inOrder_map a.eval ps.toList 0 hin)
    refine AllocOk.cells (u := .slice (some ⟨w.heap.size, 0, none⟩) n n) (arr := ((ps.toList.map fun x => a.eval x.2).flatMap fun v => v.cells.toList).toArray) (t := el) ?_ (by rw [List.size_toArray, hfl]; exact Nat.le_refl _) (fun j x hj hx => ?_) (fun ι' hk' => ⟨_, _, n, hk', rfl, Nat.le_refl _, fun _ => rfl, fun _ => by simp, by simp only [List.size_toArray, hfl]; omega⟩)
    rotate_left
    · obtain ⟨u, h4, h5⟩ := cells_put h1 h2 j x (by rw [hcl, hfl]; exact hj) hx
      exact ⟨u, by simpa using h4, h5⟩
    · unfold execOp
      rw [ho]
      simp only [Sem.run_bind, hbs, Result.andThen_ok, Sem.run_pure]


theorem makeSlice_alloc {t el : TypeId} {x y : Operand} (ho : o.op = .makeSlice t x y) (he : elemT P t = some el) {z : Nat} (hz : szT P el = some z) (hz0 : z ≠ 0) {zc : AV} (hzero : zeroC P el = some zc) (hzl : zc.length = z) (hbytes : ∀ i, P.info? el = some i → i.bytes ≤ 1000) {xa ya : AV} (hx : VR ι xa (a.eval x)) (hy : VR ι ya (a.eval y))
    {objs : Tr AObj} {k : Nat} {h1' : H} (hr : makeSliceA z zc xa ya ⟨objs, k⟩ = .ok v h1') {ob : AObj} (hob : h1'.objs.get k = some ob) : AllocOk P a o ι w k v ob := by
  unfold makeSliceA at hr
  split at hr
  case h_2 => cases hr
  rename_i k1 l k2 c
  split at hr
  case h_2 => cases hr
  rename_i hc
  simp only [Bool.and_eq_true, Nat.beq_eq, Nat.blt_eq] at hc
  obtain ⟨rfl, hlt⟩ := hc
  obtain ⟨cq, hr, hcc⟩ : ∃ cq, O.ok (.sl k 0 l z true) ⟨objs.set (some (.cells cq (Nat.mul l z) true [])) k, Nat.succ k⟩ = .ok v h1' ∧ ∀ j x, j < l * z → cq.get j = some x → ((Tr.nil : Tr AV).putL 0 (repA zc l)).get j = some x := by
    simp only at hr
    split at hr
    · rename_i a
      have hz1 : z = 1 := by rw [← hzl]; rfl
      refine ⟨_, hr, fun j x hj hx => ?_⟩
      rw [hz1, Nat.mul_one] at hj
      simp only [Tr.get] at hx
      have h5 := Tr.get_putL_in (repA (.cons a .nil) l) .nil 0 j (by rw [repA_len1]; exact hj)
      rw [Nat.zero_add] at h5
      rw [h5, repA_nth1 a l j hj, hx]
    · exact ⟨_, hr, fun j x _ hx => hx⟩
  injection hr with e1 e2
  subst e1 e2
  simp only [Tr.get_set, Option.some.injEq] at hob
  subst hob
  simp only [VR] at hx hy
  obtain ⟨i, zv, hi, hzv, h1, h2⟩ := zeroC_info (ι := ι) hzero
  obtain ⟨i', hi', hs⟩ := szT_info hz
  rw [hi] at hi'
  injection hi' with hi'
  subst hi'
  have hb := hbytes i hi
  obtain ⟨h3, h4⟩ := repA_rel h1 h2 l
  have hzs : zv.cells.size = z := by
    have := VRl.length h1
    simp only [Array.length_toList] at this
    omega
  have hrow : ((Array.range (l * i.size)).map (zv.cells[· % zv.cells.size]!)).toList = (List.replicate l zv.cells.toList).flatten := by
    rw [hs, ← hzs]
    exact zeroRow_eq zv.cells l (by omega)
  have hlen : (List.replicate l zv.cells.toList).flatten.length = l * z := by
    simp [hzs]
  refine AllocOk.cells (u := .slice (some ⟨w.heap.size, 0, none⟩) l l) (arr := (Array.range (l * i.size)).map (zv.cells[· % zv.cells.size]!)) (t := el) ?_ (by simp [hs]) (fun j x hj hx => ?_) (fun ι' hk' => ⟨_, _, l, hk', rfl, Nat.le_refl _, fun _ => rfl, fun _ => by simp, by simp [hs]⟩)
  rotate_left
  · have hlr := VRl.length h3
    rw [hlen] at hlr
    change j < l * z at hj
    obtain ⟨u, h4, h5⟩ := cells_put h3 h4 j x (by omega) (hcc j x hj hx)
    refine ⟨u, ?_, h5⟩
    rw [← Array.getElem?_toList, hrow]
    exact h4
  · have hbl : (i.bytes : Int) * (l : Int) ≤ 281474976710656 := by
      have h5 := Nat.mul_le_mul hb (Nat.le_of_lt hlt)
      have h6 : ((i.bytes * l : Nat) : Int) ≤ 281474976710656 := by omega
      rwa [Int.natCast_mul] at h6
    have hrun := run_make (P := P) w t el i zv (elemT_spec he) hi hzv k1 k2 l l (by omega) (by omega) hbl (by omega)
    simp only [Int.toNat_natCast] at hrun
    unfold execOp
    rw [ho]
    simp only [hx, hy]
    have e1 : Int.ofNat l = (l : Int) := rfl
    simp only [e1, Sem.run_bind, hrun, Result.andThen_ok, Sem.run_pure]
    rfl


theorem alloc_core {ih : CF} {N : Nat} {e : E} (hE : ER N ι e a) {objs : Tr AObj} {k : Nat} {h1 : H} (hk : kindOp o.op = 2) (hr : (copK P o.op).run ih e ⟨objs, k⟩ = .ok v h1) {ob : AObj} (hob : h1.objs.get k = some ob) : AllocOk P a o ι w k v ob := by
  unfold copK at hr
  split at hr
  case h_2 => simp only [no] at hr; cases hr
  rename_i hops
  have op : ∀ {x : Operand}, x ∈ o.op.operands.toList → VR ι ((cget x).get e) (a.eval x) := fun hx => hE.eval (okOps_spec hops hx)
  cases ho : o.op <;> rw [ho] at hr op hops hk <;> first | (exfalso; revert hk; simp only [kindOp]; decide) | (simp only [cop, no] at hr)
  case alloc t =>
    split at hr
    case h_2 => cases hr
    rename_i z hz
    obtain ⟨i, u, hi, hu, hav⟩ := zeroT_info hz
    unfold boxA at hr
    split at hr
    case h_2 => cases hr
    rename_i cs hc
    obtain ⟨h1, h2⟩ := (VR.of ι hav).cells hc
    refine newA_alloc h1 h2 (t := t) ?_ hr hob
    unfold execOp
    rw [ho]
    simp [Instr.alloc, zeroValue, typeInfo, hi, hu, newVar, run_newRow']
  case box t x =>
    unfold boxA at hr
    split at hr
    case h_2 => cases hr
    rename_i cs hc
    obtain ⟨h1, h2⟩ := (op (x := x) (by simp [Op.operands])).cells hc
    refine newA_alloc h1 h2 (t := t) ?_ hr hob
    unfold execOp
    rw [ho]
    simp [Instr.box, newVar, run_newRow']
  case buildSlice t n ps =>
    split at hr
    case h_2 => cases hr
    rename_i el he
    split at hr
    case h_2 => cases hr
    rename_i z hz
    split at hr
    case h_2 => cases hr
    rename_i hc
    simp only [Bool.and_eq_true, Nat.beq_eq, Nat.ble_eq, Bool.not_eq_true'] at hc
    obtain ⟨⟨⟨⟨hn, hin⟩, hsmall⟩, h4⟩, hzero⟩ := hc
    have hz0 : z ≠ 0 := fun e0 => by rw [e0] at h4; cases h4
    have hvs0 := hE.evals (l := ps.toList.map (·.2)) (by simpa [okOps, Op.operands] using hops)
    rw [List.map_map] at hvs0
    exact buildSlice_alloc ho he hz hzero hn hin hsmall hz0 hvs0 hr hob
  case makeMap t r =>
    cases r <;> simp only at hr
    · simp only [makeMapA] at hr
      injection hr with e1 e2
      subst e1 e2
      simp only [Tr.get_set, Option.some.injEq] at hob
      subst hob
      refine ⟨rfl, .map #[] 0, 0, 0, .map (some w.heap.size), ?_, fun ι' he hk' => ⟨⟨_, hk', rfl⟩, _, #[], 0, hk', heap_alloc_new w _, rfl⟩⟩
      unfold execOp
      rw [ho]
      rfl
    · cases hr
  case makeSlice t x y =>
    split at hr
    case h_2 => cases hr
    rename_i el he
    split at hr
    case h_2 => cases hr
    rename_i z zc hz hzc
    split at hr
    case h_2 => cases hr
    rename_i hc
    simp only [Bool.and_eq_true, Nat.beq_eq] at hc
    obtain ⟨i, zv, hi', hb, hs0, _⟩ := smallT_spec hc.1
    obtain ⟨i2, hi2, hs2⟩ := szT_info hz
    refine makeSlice_alloc ho he hz ?_ hzc hc.2 (fun j hj => ?_) (op (by simp [Op.operands])) (op (by simp [Op.operands])) hr hob
    · rw [hi'] at hi2; injection hi2 with hi2; subst hi2; omega
    · rw [hi'] at hj; injection hj with hj; subst hj; exact hb
  case call c =>
    exfalso
    simp only [kindOp] at hk
    split at hk <;> cases hk

end
end Go.Proofs.YtfmlgiafkbakcaaGreatDoor.Ev

namespace Go.Proofs.YtfmlgiafkbakcaaGreatDoor.Ev

section
variable {P : Program}

theorem cgets_congr {e e' : E} : ∀ {l : List Operand}, (∀ x ∈ l, (cget x).get e = (cget x).get e') → (cgets l).get e = (cgets l).get e'
  | [], _ => rfl
  | x :: l, h => by
    simp only [cgets]
    rw [h x List.mem_cons_self, cgets_congr (fun y hy => h y (List.mem_cons_of_mem _ hy))]

theorem cparts_congr {e e' : E} : ∀ {l : List (Nat × Nat × Operand)}, (∀ x ∈ l, (cget x.2.2).get e = (cget x.2.2).get e') → (cparts l).get e = (cparts l).get e'
  | [], _ => rfl
  | (p, q, x) :: l, h => by
    simp only [cparts]
    rw [h _ List.mem_cons_self, cparts_congr (fun y hy => h y (List.mem_cons_of_mem _ hy))]

theorem placesT_mem {pl : List (Nat × Nat)} : ∀ {ps : List (Nat × Operand)} {l : List (Nat × Nat × Operand)}, placesT pl ps = some l → ∀ x ∈ l, ∃ y ∈ ps, y.2 = x.2.2
  | [], l, h, x, hx => by simp only [placesT, Option.some.injEq] at h; subst h; cases hx
  | (i, y) :: ps, l, h, x, hx => by
    simp only [placesT] at h
    split at h
    case h_2 => cases h
    split at h
    case h_2 => cases h
    rename_i r hr
    injection h with h
    subst h
    rcases List.mem_cons.1 hx with rfl | hx
    · exact ⟨_, List.mem_cons_self, rfl⟩
    · obtain ⟨z, h1, h2⟩ := placesT_mem hr x hx
      exact ⟨z, List.mem_cons_of_mem _ h1, h2⟩

/-- an operation looks at its operands alone -/
theorem cop_congr {ih : CF} {o : Op} {e e' : E} (hx : ∀ x ∈ o.operands.toList, (cget x).get e = (cget x).get e') (h : H) : (cop P o).run ih e h = (cop P o).run ih e' h := by
  cases o <;> simp only [cop] <;> try rfl
  case alloc t => split <;> rfl
  case move x => rw [hx x (by simp [Op.operands])]
  case assign x => rw [hx x (by simp [Op.operands])]
  case pick c x y => rw [hx c (by simp [Op.operands]), hx x (by simp [Op.operands]), hx y (by simp [Op.operands])]
  case box t x => rw [hx x (by simp [Op.operands])]
  case build t ps =>
    split
    · split
      · split
        · rename_i l hl
          have hc : (cparts l).get e = (cparts l).get e' := cparts_congr fun x hm => by
            obtain ⟨y, h1, h2⟩ := placesT_mem hl x hm
            rw [← h2]
            refine hx _ ?_
            simp only [Op.operands]
            exact List.mem_map.2 ⟨y, h1, rfl⟩
          simp only
          rw [hc]
        · rfl
      · rfl
    · split
      · split
        · have hc : ∀ k : Nat, (cparts (ps.toList.map fun p => (p.1 * k, k, p.2))).get e = (cparts (ps.toList.map fun p => (p.1 * k, k, p.2))).get e' := fun k => cparts_congr fun x hm => by
            obtain ⟨y, h1, rfl⟩ := List.mem_map.1 hm
            refine hx _ ?_
            simp only [Op.operands]
            exact List.mem_map.2 ⟨y, h1, rfl⟩
          simp only
          rw [hc]
        · rfl
      · rfl
    · rfl
  case buildSlice t n ps =>
    split
    · split
      · split
        · simp only
          rw [cgets_congr fun x hm => hx x (by simp only [Op.operands]; exact hm)]
        · rfl
      · rfl
    · rfl
  case load t x => split <;> simp only [no] <;> rw [hx x (by simp [Op.operands])]
  case store t x y => split <;> simp only [no] <;> rw [hx x (by simp [Op.operands]), hx y (by simp [Op.operands])]
  case nilCheck x => rw [hx x (by simp [Op.operands])]
  case binOp bo t x y t2 =>
    split
    · split <;> simp only [no] <;> rw [hx x (by simp [Op.operands]), hx y (by simp [Op.operands])]
    · simp only
      rw [hx x (by simp [Op.operands]), hx y (by simp [Op.operands])]
  case unOp uo t x => rw [hx x (by simp [Op.operands])]
  case convert s t x =>
    split
    · simp only
      rw [hx x (by simp [Op.operands])]
    · split <;> simp only [no] <;> rw [hx x (by simp [Op.operands])]
    · rfl
  case makeFunc fn xs ys =>
    cases fn <;> simp only [no]
    rw [cgets_congr fun x hm => hx x (by simp only [Op.operands, Array.toList_append, List.mem_append]; exact .inl hm), cgets_congr fun x hm => hx x (by simp only [Op.operands, Array.toList_append, List.mem_append]; exact .inr hm)]
  case makeInterface t x => split <;> simp only [no] <;> rw [hx x (by simp [Op.operands])]
  case makeMap t r => cases r <;> rfl
  case makeSlice t x y =>
    split
    · split
      · split
        · simp only; rw [hx x (by simp [Op.operands]), hx y (by simp [Op.operands])]
        · rfl
      · rfl
    · rfl
  case slice t x lo hi mx =>
    have h1 : (lo.map fun x => (cget x).get e) = lo.map fun x => (cget x).get e' := by
      cases lo
      · rfl
      · simp only [Option.map_some]; rw [hx _ (by simp [Op.operands])]
    have h2 : (hi.map fun x => (cget x).get e) = hi.map fun x => (cget x).get e' := by
      cases hi
      · rfl
      · simp only [Option.map_some]; rw [hx _ (by simp [Op.operands])]
    cases mx with
    | none =>
      simp only
      split
      · simp only; rw [hx x (by simp [Op.operands]), h1, h2]
      · split
        · simp only; rw [hx x (by simp [Op.operands]), h1, h2]
        · rfl
      · split
        · simp only; rw [hx x (by simp [Op.operands]), h1, h2]
        · rfl
      · rfl
    | some mx =>
      cases hi with
      | none => rfl
      | some hi =>
        simp only
        split
        · split
          · simp only; rw [hx x (by simp [Op.operands]), hx hi (by simp [Op.operands]), hx mx (by simp [Op.operands]), h1]
          · rfl
        · rfl
  case fieldAddr t x i =>
    split
    · split
      · simp only; rw [hx x (by simp [Op.operands])]
      · rfl
    · rfl
  case field t x i =>
    split
    · split
      · simp only; rw [hx x (by simp [Op.operands])]
      · rfl
    · rfl
  case indexAddr t x i =>
    split
    · split
      · simp only; rw [hx x (by simp [Op.operands]), hx i (by simp [Op.operands])]
      · rfl
    · split
      · split
        · simp only; rw [hx x (by simp [Op.operands]), hx i (by simp [Op.operands])]
        · rfl
      · rfl
  case index t x i =>
    split
    · simp only; rw [hx x (by simp [Op.operands]), hx i (by simp [Op.operands])]
    · split
      · simp only; rw [hx x (by simp [Op.operands]), hx i (by simp [Op.operands])]
      · rfl
    · rfl
  case lookup t x k ok =>
    split
    · split
      · simp only; rw [hx x (by simp [Op.operands]), hx k (by simp [Op.operands])]
      · split
        · simp only; rw [hx x (by simp [Op.operands]), hx k (by simp [Op.operands])]
        · rfl
      · rfl
    · rfl
  case mapUpdate t m k x =>
    split
    · split
      · simp only; rw [hx m (by simp [Op.operands]), hx k (by simp [Op.operands]), hx x (by simp [Op.operands])]
      · split
        · simp only; rw [hx m (by simp [Op.operands]), hx k (by simp [Op.operands]), hx x (by simp [Op.operands])]
        · rfl
    · rfl
  case insert t m k x =>
    split
    · split
      · simp only; rw [hx m (by simp [Op.operands]), hx k (by simp [Op.operands]), hx x (by simp [Op.operands])]
      · split
        · simp only; rw [hx m (by simp [Op.operands]), hx k (by simp [Op.operands]), hx x (by simp [Op.operands])]
        · rfl
    · rfl
  case extract x i => rw [hx x (by simp [Op.operands])]
  case call c =>
    have hargs : ∀ x ∈ c.args.toList, (cget x).get e = (cget x).get e' := fun x hm => hx x (by
      simp only [Op.operands, Call.operands]
      simpa using Or.inr hm)
    have hl := cgets_congr hargs
    unfold ccall
    split
    · split
      · simp only; rw [hl]
      · rfl
    · rename_i x hn hc
      simp only
      rw [hl, hx x (by simp [Op.operands, Call.operands, hc])]
    · split
      · rename_i x t h1 h2 h0
        split <;> simp only [no] <;> rw [hargs x (by simp [h1])]
      · rename_i s x t u h1 h2 h0
        split
        · split
          · simp only; rw [hargs s (by simp [h1]), hargs x (by simp [h1])]
          · rfl
        · split
          · simp only; rw [hargs s (by simp [h1]), hargs x (by simp [h1])]
          · rfl
        · rfl
      · rename_i s t h1 h2 h0
        split
        · split
          · split
            · simp only; rw [hargs s (by simp [h1])]
            · rfl
          · rfl
        · rfl
      · rename_i s x t u h1 h2 h0
        split
        · split
          · simp only; rw [hargs s (by simp [h1]), hargs x (by simp [h1])]
          · rfl
        · split
          · simp only; rw [hargs s (by simp [h1]), hargs x (by simp [h1])]
          · rfl
        · rfl
      · rename_i x y h1 h0
        simp only; rw [hargs x (by simp [h1]), hargs y (by simp [h1])]
      · rfl
    · rename_i x name hc
      simp only
      rw [hl, hx x (by simp [Op.operands, Call.operands, hc])]

end
end Go.Proofs.YtfmlgiafkbakcaaGreatDoor.Ev

namespace Go.Proofs.YtfmlgiafkbakcaaGreatDoor.Ev

section
variable {v : AV} {h1 h1' : H}

theorem pickA_heap (c a b : AV) (hr : pickA c a b h1 = .ok v h1') (h : H) : pickA c a b h = .ok v h := by
  unfold pickA at hr ⊢
  repeat (first | (split at hr) | (simp only [O.ok.injEq] at hr))
  all_goals first | (cases hr; done) | simp_all

theorem unA_heap (c : UnOp) (a : AV) (hr : unA c a h1 = .ok v h1') (h : H) : unA c a h = .ok v h := by
  unfold unA at hr ⊢
  split at hr
  · injection hr with e1 e2; subst e1; rfl
  · injection hr with e1 e2; subst e1; rfl
  · split at hr
    · rename_i hb
      injection hr with e1 e2
      subst e1
      simp only
    · cases hr
  · cases hr

theorem convA_heap (c : IntKind) (a : AV) (hr : convA c a h1 = .ok v h1') (h : H) : convA c a h = .ok v h := by
  unfold convA at hr ⊢
  repeat (first | (split at hr) | (simp only [O.ok.injEq] at hr))
  all_goals first | (cases hr; done) | simp_all

theorem nilCheckA_heap (a : AV) (hr : nilCheckA a h1 = .ok v h1') (h : H) : nilCheckA a h = .ok v h := by
  unfold nilCheckA at hr ⊢
  repeat (first | (split at hr) | (simp only [O.ok.injEq] at hr))
  all_goals first | (cases hr; done) | simp_all

theorem fieldAddrA_heap (c : Nat) (a : AV) (hr : fieldAddrA c a h1 = .ok v h1') (h : H) : fieldAddrA c a h = .ok v h := by
  unfold fieldAddrA at hr ⊢
  repeat (first | (split at hr) | (simp only [forceN_eq, O.ok.injEq] at hr))
  all_goals first | (cases hr; done) | simp_all [forceN_eq]

theorem fieldA_heap (c : Nat) (a : Option Nat) (b : AV) (hr : fieldA c a b h1 = .ok v h1') (h : H) : fieldA c a b h = .ok v h := by
  unfold fieldA at hr ⊢
  repeat (first | (split at hr) | (simp only [O.ok.injEq] at hr))
  all_goals first | (cases hr; done) | simp_all

theorem indexAddrA_heap (c : Nat) (a b : AV) (hr : indexAddrA c a b h1 = .ok v h1') (h : H) : indexAddrA c a b h = .ok v h := by
  unfold indexAddrA at hr ⊢
  repeat (first | (split at hr) | (simp only [forceN_eq, O.ok.injEq] at hr))
  all_goals first | (cases hr; done) | simp_all [forceN_eq]

theorem indexStrA_heap (a b : AV) (hr : indexStrA a b h1 = .ok v h1') (h : H) : indexStrA a b h = .ok v h := by
  unfold indexStrA at hr ⊢
  repeat (first | (split at hr) | (simp only [forceN_eq, O.ok.injEq] at hr))
  all_goals first | (cases hr; done) | simp_all [forceN_eq]

theorem extractA_heap (c : Nat) (a : AV) (hr : extractA c a h1 = .ok v h1') (h : H) : extractA c a h = .ok v h := by
  unfold extractA at hr ⊢
  repeat (first | (split at hr) | (simp only [O.ok.injEq] at hr))
  all_goals first | (cases hr; done) | simp_all

theorem maxA_heap (a b : AV) (hr : maxA a b h1 = .ok v h1') (h : H) : maxA a b h = .ok v h := by
  unfold maxA at hr ⊢
  repeat (first | (split at hr) | (simp only [O.ok.injEq] at hr))
  all_goals first | (cases hr; done) | simp_all

theorem lenO_heap (c : Bool) (a : AV) (hr : lenO c a h1 = .ok v h1') (h : H) : lenO c a h = .ok v h := by
  unfold lenO at hr ⊢
  repeat (first | (split at hr) | (simp only [O.ok.injEq] at hr))
  all_goals first | (cases hr; done) | simp_all

theorem buildA_heap (a : AV) (b : List (Nat × Nat × AV)) (hr : buildA a b h1 = .ok v h1') (h : H) : buildA a b h = .ok v h := by
  unfold buildA at hr ⊢
  repeat (first | (split at hr) | (simp only [O.ok.injEq] at hr))
  all_goals first | (cases hr; done) | simp_all

theorem sliceA_heap (s : Bool) (c : Nat) (a : AV) (b d : Option AV) (hr : sliceA s c a b d h1 = .ok v h1') (h : H) : sliceA s c a b d h = .ok v h := by
  unfold sliceA at hr ⊢
  split at hr
  case h_2 => cases hr
  rename_i len hlen
  try simp only [hlen]
  split at hr
  case h_2 => cases hr
  rename_i l k hl hk
  try simp only [hl, hk]
  split at hr
  case h_2 => cases hr
  rename_i hle
  try simp only [hle]
  split at hr
  case h_4 => cases hr
  · injection hr with e1 e2; subst e1; rfl
  · split at hr
    case h_2 => cases hr
    rename_i hz
    try simp only [hz]
    rw [forceN_eq, forceN_eq] at hr ⊢
    injection hr with e1 e2
    subst e1
    rfl
  · rw [forceN_eq, forceN_eq] at hr ⊢
    injection hr with e1 e2
    subst e1
    rfl

theorem slice3A_heap (c : Nat) (a : AV) (b : Option AV) (d f : AV) (hr : slice3A c a b d f h1 = .ok v h1') (h : H) : slice3A c a b d f h = .ok v h := by
  unfold slice3A at hr ⊢
  split at hr
  case h_2 => cases hr
  split at hr
  case h_2 => cases hr
  rename_i hc
  try simp only [hc]
  split at hr
  · rename_i hs
    injection hr with e1 e2
    subst e1
    rw [sliceA_heap _ _ _ _ _ hs h]
  · rename_i hs
    rw [sliceA_heap _ _ _ _ _ hr h]
    split
    · rename_i hs2
      injection hs2 with e1 e2
      exact absurd hr (by rw [e1]; exact hs _ _ _ _ _ _)
    · rfl

theorem indexArrA_heap (r : Option Nat) (n z : Nat) (a b : AV) (hr : indexArrA r n z a b h1 = .ok v h1') (h : H) : indexArrA r n z a b h = .ok v h := by
  unfold indexArrA at hr ⊢
  split at hr
  case h_2 => cases hr
  split at hr
  case h_2 => cases hr
  rename_i hc
  try simp only [hc]
  exact fieldA_heap _ _ _ hr h

theorem indexAddrArrA_heap (n z : Nat) (a b : AV) (hr : indexAddrArrA n z a b h1 = .ok v h1') (h : H) : indexAddrArrA n z a b h = .ok v h := by
  unfold indexAddrArrA at hr ⊢
  split at hr
  case h_2 => cases hr
  split at hr
  case h_2 => cases hr
  rename_i hc
  try simp only [hc]
  rw [forceN_eq] at hr ⊢
  injection hr with e1 e2
  subst e1
  rfl

theorem cop_heap0 {P : Program} {ih : CF} {e : E} {op : Op} (hk : kindOp op = 0) (hnil : ∀ id, h1.objs.get id = none) (hr : (cop P op).run ih e h1 = .ok v h1') (h : H) : (cop P op).run ih e h = .ok v h := by
  cases op <;> first | (exfalso; revert hk; simp only [kindOp]; decide) | (simp only [cop, no] at hr ⊢ <;> try (cases hr; done))
  case move x => injection hr with e1 e2; subst e1; rfl
  case assign x => injection hr with e1 e2; subst e1; rfl
  case pick c x y => exact pickA_heap _ _ _ hr h
  case build t ps =>
    split at hr
    · split at hr
      · split at hr
        · exact buildA_heap _ _ hr h
        · cases hr
      · cases hr
    · split at hr
      · split at hr
        · exact buildA_heap _ _ hr h
        · cases hr
      · cases hr
    · cases hr
  case nilCheck x => exact nilCheckA_heap _ hr h
  case unOp uo t x => exact unA_heap _ _ hr h
  case makeFunc fn xs ys =>
    cases fn <;> simp only at hr ⊢ <;> try (cases hr; done)
    injection hr with e1 e2; subst e1; rfl
  case slice t x lo hi mx =>
    cases mx with
    | none =>
      simp only at hr ⊢
      split at hr
      · exact sliceA_heap _ _ _ _ _ hr h
      · split at hr
        · exact sliceA_heap _ _ _ _ _ hr h
        · cases hr
      · split at hr
        · simp only [sliceArrA, hnil] at hr
          split at hr <;> cases hr
        · cases hr
      · cases hr
    | some mx =>
      cases hi with
      | none => simp only at hr; cases hr
      | some hi =>
        simp only at hr ⊢
        split at hr
        · split at hr
          · exact slice3A_heap _ _ _ _ _ hr h
          · cases hr
        · cases hr
  case fieldAddr t x i =>
    split at hr
    · split at hr
      · exact fieldAddrA_heap _ _ hr h
      · cases hr
    · cases hr
  case field t x i =>
    split at hr
    · split at hr
      · exact fieldA_heap _ _ _ hr h
      · cases hr
    · cases hr
  case indexAddr t x i =>
    split at hr
    · split at hr
      · exact indexAddrA_heap _ _ _ hr h
      · cases hr
    · split at hr
      · split at hr
        · exact indexAddrArrA_heap _ _ _ _ hr h
        · cases hr
      · cases hr
  case index t x i =>
    split at hr
    · exact indexStrA_heap _ _ hr h
    · split at hr
      · exact indexArrA_heap _ _ _ _ _ hr h
      · cases hr
    · cases hr
  case extract x i => exact extractA_heap _ _ hr h
  case call c =>
    simp only [kindOp] at hk
    unfold ccall at hr ⊢
    split at hk
    · rename_i hc
      simp only [hc] at hr ⊢
      split at hr <;> simp only [no, reduceCtorEq] at hr <;> try (cases hr; done)
      all_goals first
        | contradiction
        | (split at hr
           · exact lenO_heap _ _ hr h
           · exact lenO_heap _ _ hr h
           · cases hr)
    · rename_i hc
      simp only [hc] at hr ⊢
      split at hr <;> simp only [no, reduceCtorEq] at hr <;> try (cases hr; done)
      all_goals first
        | contradiction
        | exact maxA_heap _ _ hr h
    · cases hk

end
end Go.Proofs.YtfmlgiafkbakcaaGreatDoor.Ev

namespace Go.Proofs.YtfmlgiafkbakcaaGreatDoor.Ev

section

theorem testBit_pow2 (e j : Nat) : (Nat.pow 2 e).testBit j = decide (e = j) := Nat.testBit_two_pow

theorem fold_bits (acc : List Nat) : ∀ (l : List Nat) (m j : Nat), (l.foldl (fun m e => Nat.lor (Nat.lor m (Nat.pow 2 e)) (acc.getD e 0)) m).testBit j = true ↔ m.testBit j = true ∨ ∃ e ∈ l, e = j ∨ (acc.getD e 0).testBit j = true
  | [], m, j => by simp
  | e :: l, m, j => by
    rw [List.foldl_cons, fold_bits acc l]
    have h1 : (Nat.lor (Nat.lor m (Nat.pow 2 e)) (acc.getD e 0)).testBit j = (m.testBit j || decide (e = j) || (acc.getD e 0).testBit j) := by
      show ((m ||| Nat.pow 2 e) ||| acc.getD e 0).testBit j = _
      rw [Nat.testBit_or, Nat.testBit_or, testBit_pow2]
    rw [h1]
    simp only [Bool.or_eq_true, decide_eq_true_eq, List.mem_cons]
    constructor
    · rintro (((h | h) | h) | ⟨e', h, h'⟩)
      · exact .inl h
      · exact .inr ⟨e, .inl rfl, .inl h⟩
      · exact .inr ⟨e, .inl rfl, .inr h⟩
      · exact .inr ⟨e', .inr h, h'⟩
    · rintro (h | ⟨e', rfl | h, h'⟩)
      · exact .inl (.inl (.inl h))
      · rcases h' with h' | h'
        · exact .inl (.inl (.inr h'))
        · exact .inl (.inr h')
      · exact .inr ⟨e', h, h'⟩

theorem ancs_length : ∀ (l : List Oper) (acc : List Nat), (ancs l acc).length = acc.length + l.length
  | [], acc => by simp [ancs]
  | o :: l, acc => by simp only [ancs, ancs_length l, List.length_append, List.length_cons, List.length_nil]; omega

theorem ancs_old : ∀ (l : List Oper) (acc : List Nat) (p : Nat), p < acc.length → (ancs l acc)[p]? = acc[p]?
  | [], acc, p, _ => rfl
  | o :: l, acc, p, h => by
    simp only [ancs]
    rw [ancs_old l _ p (by simp; omega), List.getElem?_append_left h]

theorem ancs_new : ∀ (l : List Oper) (acc : List Nat) (j : Nat) (o : Oper), l[j]? = some o → (ancs l acc)[acc.length + j]? = some (ancM ((ancs l acc).take (acc.length + j)) o)
  | [], acc, j, o, h => by simp at h
  | x :: l, acc, 0, o, h => by
    simp only [List.getElem?_cons_zero, Option.some.injEq] at h
    subst h
    simp only [ancs, Nat.add_zero]
    rw [ancs_old l _ _ (by simp)]
    have : (ancs l (acc ++ [ancM acc x])).take acc.length = acc := by
      apply List.ext_getElem?
      intro p
      by_cases hp : p < acc.length
      · rw [List.getElem?_take_of_lt hp, ancs_old l _ _ (by simp; omega), List.getElem?_append_left hp]
      · rw [List.getElem?_eq_none (by simp [ancs_length]; omega), List.getElem?_eq_none (by omega)]
    rw [this]
    simp
  | x :: l, acc, j + 1, o, h => by
    simp only [ancs]
    have := ancs_new l (acc ++ [ancM acc x]) j o (by simpa using h)
    simp only [List.length_append, List.length_cons, List.length_nil] at this
    rw [show acc.length + (j + 1) = acc.length + (0 + 1) + j by omega]
    exact this

theorem edgesOk_spec : ∀ (l : List Oper) (i : Nat), edgesOk i l = true → ∀ j o, l[j]? = some o → ∀ e ∈ edges o, e < i + j
  | [], _, _, j, o, h => by simp at h
  | x :: l, i, hk, 0, o, h => by
    simp only [List.getElem?_cons_zero, Option.some.injEq] at h
    subst h
    simp only [edgesOk, Bool.and_eq_true] at hk
    intro e he
    have := List.all_eq_true.1 hk.1 e he
    simpa using this
  | x :: l, i, hk, j + 1, o, h => by
    simp only [edgesOk, Bool.and_eq_true] at hk
    intro e he
    have := edgesOk_spec l (i + 1) hk.2 j o (by simpa using h) e he
    omega

variable {L : List Oper}

theorem isAnc_iff (hk : edgesOk 0 L = true) {i j : Nat} {o : Oper} (hi : L[i]? = some o) : isAnc (ancs L []) j i = true ↔ ∃ e ∈ edges o, e = j ∨ isAnc (ancs L []) j e = true := by
  have h1 := ancs_new L [] i o hi
  simp only [List.length_nil, Nat.zero_add] at h1
  unfold isAnc
  have h2 : (ancs L []).getD i 0 = ancM ((ancs L []).take i) o := by
    rw [List.getD_eq_getElem?_getD, h1]; rfl
  rw [h2]
  unfold ancM
  rw [fold_bits]
  simp only [Nat.zero_testBit, Bool.false_eq_true, false_or]
  constructor
  · rintro ⟨e, he, h⟩
    refine ⟨e, he, h.imp id fun h => ?_⟩
    have hlt : e < i := by have := edgesOk_spec L 0 hk i o hi e he; omega
    rw [List.getD_eq_getElem?_getD, List.getElem?_take_of_lt hlt, ← List.getD_eq_getElem?_getD] at h
    exact h
  · rintro ⟨e, he, h⟩
    refine ⟨e, he, h.imp id fun h => ?_⟩
    have hlt : e < i := by have := edgesOk_spec L 0 hk i o hi e he; omega
    rw [List.getD_eq_getElem?_getD, List.getElem?_take_of_lt hlt, ← List.getD_eq_getElem?_getD]
    exact h

theorem isAnc_some {i j : Nat} (h : isAnc (ancs L []) j i = true) : ∃ o, L[i]? = some o := by
  cases hi : L[i]? with
  | some o => exact ⟨o, rfl⟩
  | none =>
    have h1 : L.length ≤ i := by simpa using hi
    have h2 := ancs_length L []
    unfold isAnc at h
    rw [List.getD_eq_getElem?_getD, List.getElem?_eq_none (by rw [h2]; simpa using h1)] at h
    simp at h

theorem isAnc_lt (hk : edgesOk 0 L = true) : ∀ (i j : Nat), isAnc (ancs L []) j i = true → j < i := by
  intro i
  induction i using Nat.strongRecOn with
  | _ i ih =>
    intro j h
    obtain ⟨o, ho⟩ := isAnc_some h
    obtain ⟨e, he, h1⟩ := (isAnc_iff hk ho).1 h
    have hlt : e < i := by have := edgesOk_spec L 0 hk i o ho e he; omega
    rcases h1 with rfl | h1
    · exact hlt
    · exact Nat.lt_trans (ih e hlt j h1) hlt

/-- whoever may come up has all behind it that come ahead -/
theorem isAnc_in (hk : edgesOk 0 L = true) {D : Nat → Prop} (hc : ∀ i o, L[i]? = some o → D i → ∀ e ∈ edges o, D e) : ∀ (i : Nat) (o : Oper), L[i]? = some o → (∀ e ∈ edges o, D e) → ∀ j, isAnc (ancs L []) j i = true → D j := by
  intro i
  induction i using Nat.strongRecOn with
  | _ i ih =>
    intro o ho he j h
    obtain ⟨e, hm, h1⟩ := (isAnc_iff hk ho).1 h
    have hlt : e < i := by have := edgesOk_spec L 0 hk i o ho e hm; omega
    rcases h1 with rfl | h1
    · exact he _ hm
    · obtain ⟨o', ho'⟩ := isAnc_some h1
      exact ih e hlt o' ho' (hc e o' ho' (he e hm)) j h1

end

section
variable {P : Program} {N : Nat} {ops : Array Oper} {A : List Nat} {base : Nat} {ih : CF}

theorem dgo_spec : ∀ (l : List Oper) (i : Nat) (s s' : DS), dgo P N ops A base ih i l s = .ok s' → ∃ st : Nat → DS, st i = s ∧ st (i + l.length) = s' ∧ ∀ j o, l[j]? = some o → dstep P N ops A base ih (i + j) o (st (i + j)) = .ok (st (i + j + 1))
  | [], i, s, s', h => by
    simp only [dgo] at h
    injection h with h
    subst h
    exact ⟨fun _ => s, rfl, rfl, fun j o hj => by simp at hj⟩
  | x :: l, i, s, s', h => by
    simp only [dgo] at h
    cases hx : dstep P N ops A base ih i x s with
    | fail w => rw [hx] at h; cases h
    | ok s1 =>
      rw [hx] at h
      simp only [goD] at h
      obtain ⟨st, h1, h2, h3⟩ := dgo_spec l (i + 1) s1 s' h
      obtain ⟨f, f0, f1⟩ : ∃ f : Nat → DS, f i = s ∧ ∀ m, m ≠ i → f m = st m := ⟨fun m => if m = i then s else st m, if_pos rfl, fun m hm => if_neg hm⟩
      refine ⟨f, f0, ?_, fun j o hj => ?_⟩
      · rw [f1 _ (by simp only [List.length_cons]; omega), ← h2]
        congr 1
        simp only [List.length_cons]
        omega
      · cases j with
        | zero =>
          simp only [List.getElem?_cons_zero, Option.some.injEq] at hj
          subst hj
          rw [Nat.add_zero, f0, f1 _ (by omega), hx, h1]
        | succ j =>
          have := h3 j o (by simpa using hj)
          rw [f1 _ (by omega), f1 _ (by omega), show i + (j + 1) = i + 1 + j by omega]
          exact this

end
end Go.Proofs.YtfmlgiafkbakcaaGreatDoor.Ev

namespace Go.Proofs.YtfmlgiafkbakcaaGreatDoor.Ev

/-- a row of operations that has been gone through -/
structure Row0 (P : Program) (N : Nat) (ops : Array Oper) (base : Nat) (ih : CF) (st : Nat → DS) : Prop where
  edges : edgesOk 0 ops.toList = true
  slots : slotsOk ops (ancs ops.toList []) = true
  step : ∀ i o, ops.toList[i]? = some o → dstep P N ops (ancs ops.toList []) base ih i o (st i) = .ok (st (i + 1))

structure Row (P : Program) (N : Nat) (ops : Array Oper) (base : Nat) (ih : CF) (st : Nat → DS) : Prop extends Row0 P N ops base ih st where
  effs : effsOk ops (ancs ops.toList []) = true

section
variable {P : Program} {N : Nat} {ops : Array Oper} {base : Nat} {ih : CF} {st : Nat → DS}

/-- what a reader sees -/
def lookD (P : Program) (ops : Array Oper) (base : Nat) (ih : CF) (i : Nat) (o : Oper) (s : DS) (h : H) : O := (copK P o.op).run ih s.e ⟨(mergeP (ancs ops.toList []) base i s.pend h.objs).1, h.next⟩

/-- what a step tells -/
structure Told (P : Program) (N : Nat) (ops : Array Oper) (base : Nat) (ih : CF) (i : Nat) (o : Oper) (s s' : DS) (b : Bool) (v : AV) : Prop where
  dst : okDst N o.dst = true
  want : wantedA ops o s.e = some b
  env : s'.e = (csetO o.dst).set v s.e
  idle : b = false → v = .tup .nil
  pure0 : b = true → kindOp o.op = 0 → ∃ h', (copK P o.op).run ih s.e ⟨.nil, 0⟩ = .ok v h'
  read : b = true → kindOp o.op = 1 → (∃ h', lookD P ops base ih i o s s.h = .ok v h') ∧ (∀ x ∈ s.snaps.tail, backNeed ops.toList (ancs ops.toList []) i x.1 = true → sameO (lookD P ops base ih i o s x.2) v = true) ∧ (⟨i, lookD P ops base ih i o s, v⟩ : Watch) ∈ s'.watch ∧ pendOk ops.toList (ancs ops.toList []) i s.pend = true
  make : b = true → kindOp o.op = 2 → ∃ ob, allocA ((copK P o.op).run ih s.e) (base + i) s.h.objs = some (v, ob) ∧ s'.pend = (i, ob) :: s.pend
  eff : kindOp o.op = 3 → ∃ t rest, mergeP (ancs ops.toList []) base i s.pend s.h.objs = (t, rest) ∧ s'.pend = rest ∧ (b = true → (copK P o.op).run ih s.e ⟨t, s.h.next⟩ = .ok v s'.h) ∧ (b = false → s'.h = ⟨t, s.h.next⟩) ∧ s'.snaps = (i + 1, s'.h) :: s.snaps ∧
    (∀ x ∈ ops.toList.zipIdx, kindOp x.1.op = 2 → mergedB ops.toList (ancs ops.toList []) i x.2 = false → s'.h.objs.get (base + x.2) = none) ∧ (∀ x ∈ s.watch, fwdNeed ops.toList (ancs ops.toList []) x.i i = true → sameO (x.look s'.h) x.val = true) ∧ s'.watch = s.watch
  keep : kindOp o.op ≠ 3 → s'.h = s.h ∧ s'.snaps = s.snaps
  watch : ∀ x ∈ s.watch, x ∈ s'.watch
  pend : kindOp o.op ≠ 3 → (b = false ∨ kindOp o.op ≠ 2) → s'.pend = s.pend

theorem kind_le (op : Op) : kindOp op ≤ 3 := by
  cases op <;> simp only [kindOp] <;> first | omega | (split <;> omega)

theorem effD_spec {A : List Nat} {i : Nat} {rest : List (Nat × AObj)} {s s' : DS} {e : E} {h : H} (hr : effD ops A base i rest s e h = .ok s') :
    s' = ⟨e, h, (i + 1, h) :: s.snaps, rest, s.watch⟩ ∧ (∀ x ∈ ops.toList.zipIdx, kindOp x.1.op = 2 → mergedB ops.toList A i x.2 = false → h.objs.get (base + x.2) = none) ∧ (∀ x ∈ s.watch, fwdNeed ops.toList A x.i i = true → sameO (x.look h) x.val = true) := by
  unfold effD at hr
  split at hr
  case h_2 => cases hr
  rename_i h1
  split at hr
  case h_2 => cases hr
  rename_i h2
  injection hr with hr
  refine ⟨hr.symm, fun x hx hk hm => ?_, fun x hx hf => ?_⟩
  · have := List.all_eq_true.1 h1 x hx
    simp only [hk, hm, Bool.or_false, Bool.or_eq_true, Bool.not_eq_true', Option.isNone_iff_eq_none] at this
    rcases this with this | this
    · simp at this
    · exact this
  · have := List.all_eq_true.1 h2 x hx
    simpa [hf] using this

theorem told {i : Nat} {o : Oper} {s s' : DS} (hr : dstep P N ops (ancs ops.toList []) base ih i o s = .ok s') : ∃ b v, Told P N ops base ih i o s s' b v := by
  unfold dstep at hr
  split at hr
  case h_3 => cases hr
  · rename_i hd hw
    split at hr
    · rename_i hk
      split at hr
      case h_2 => cases hr
      rename_i v h1 hrun
      injection hr with hr
      subst hr
      exact ⟨true, v, ⟨hd, hw, rfl, (by intro h; cases h), fun _ _ => ⟨_, hrun⟩, fun _ h => (by rw [hk] at h; cases h), fun _ h => (by rw [hk] at h; cases h), fun h => (by rw [hk] at h; cases h), fun _ => ⟨rfl, rfl⟩, fun x hx => hx, fun _ _ => rfl⟩⟩
    · rename_i hk
      split at hr
      case h_2 => cases hr
      rename_i v h1 hrun
      split at hr
      case h_2 => cases hr
      rename_i hs
      rw [Bool.and_eq_true] at hs
      obtain ⟨hpk, hs⟩ := hs
      injection hr with hr
      subst hr
      refine ⟨true, v, ⟨hd, hw, rfl, (by intro h; cases h), fun _ h => (by rw [hk] at h; cases h), fun _ _ => ⟨⟨_, hrun⟩, fun x hx hb => ?_, List.mem_cons_self, hpk⟩, fun _ h => (by rw [hk] at h; cases h), fun h => (by rw [hk] at h; cases h), fun _ => ⟨rfl, rfl⟩, fun x hx => List.mem_cons_of_mem _ hx, fun _ _ => rfl⟩⟩
      have := List.all_eq_true.1 hs x hx
      simpa [hb, lookD] using this
    · rename_i hk
      split at hr
      case h_2 => cases hr
      rename_i v ob hal
      injection hr with hr
      subst hr
      exact ⟨true, v, ⟨hd, hw, rfl, (by intro h; cases h), fun _ h => (by rw [hk] at h; cases h), fun _ h => (by rw [hk] at h; cases h), fun _ _ => ⟨ob, hal, rfl⟩, fun h => (by rw [hk] at h; cases h), fun _ => ⟨rfl, rfl⟩, fun x hx => hx, fun _ h => (by rcases h with h | h <;> simp_all)⟩⟩
    · rename_i hk0 hk1 hk2
      have hk : kindOp o.op = 3 := by
        have := kind_le o.op
        have h0 : kindOp o.op ≠ 0 := hk0
        have h1 : kindOp o.op ≠ 1 := hk1
        have h2 : kindOp o.op ≠ 2 := hk2
        omega
      split at hr
      rename_i t rest hm
      split at hr
      case h_2 => cases hr
      rename_i v h1 hrun
      obtain ⟨rfl, h2, h3⟩ := effD_spec hr
      exact ⟨true, v, ⟨hd, hw, rfl, (by intro h; cases h), fun _ h => (by omega), fun _ h => (by omega), fun _ h => (by omega), fun _ => ⟨t, rest, hm, rfl, fun _ => hrun, (by intro h; cases h), rfl, h2, h3, rfl⟩, fun h => absurd hk h, fun x hx => hx, fun h => absurd hk h⟩⟩
  · rename_i hd hw
    split at hr
    · rename_i hk
      split at hr
      rename_i t rest hm
      obtain ⟨rfl, h2, h3⟩ := effD_spec hr
      exact ⟨false, .tup .nil, ⟨hd, hw, rfl, fun _ => rfl, (by intro h; cases h), (by intro h; cases h), (by intro h; cases h), fun _ => ⟨t, rest, hm, rfl, (by intro h; cases h), fun _ => rfl, rfl, h2, h3, rfl⟩, fun h => absurd hk h, fun x hx => hx, fun h => absurd hk h⟩⟩
    · rename_i hk
      have hk : kindOp o.op ≠ 3 := hk
      injection hr with hr
      subst hr
      exact ⟨false, .tup .nil, ⟨hd, hw, rfl, fun _ => rfl, (by intro h; cases h), (by intro h; cases h), (by intro h; cases h), fun h => absurd h hk, fun _ => ⟨rfl, rfl⟩, fun x hx => hx, fun _ _ => rfl⟩⟩

theorem Row0.told (R : Row0 P N ops base ih st) {i : Nat} {o : Oper} (hi : ops.toList[i]? = some o) : ∃ b v, Told P N ops base ih i o (st i) (st (i + 1)) b v := Ev.told (R.step i o hi)

/-! ### places -/

theorem Row0.env_step (R : Row0 P N ops base ih st) {i t : Nat} {o : Oper} (hi : ops.toList[i]? = some o) (ht : t < 1024) (hne : o.dst ≠ some t) : getE t (st (i + 1)).e = getE t (st i).e := by
  obtain ⟨b, v, T⟩ := R.told hi
  rw [T.env]
  cases hd : o.dst with
  | none => rfl
  | some d =>
    have h1 := T.dst
    rw [hd] at h1
    simp only [okDst, Bool.and_eq_true, Nat.blt_eq] at h1
    have hdt : t ≠ d := fun e => hne (by rw [hd, e])
    exact get_set_ne h1.2 ht hdt v _

theorem slots_spec {A : List Nat} (h : slotsOk ops A = true) {i j : Nat} {oi oj : Oper} (hi : ops.toList[i]? = some oi) (hj : ops.toList[j]? = some oj) (hij : i ≠ j) {d : Nat} (hd : oj.dst = some d) : oi.dst ≠ some d ∧ (d ∈ looks ops oi → if j < i then isAnc A j i = true else isAnc A i j = true) := by
  have hi' : i < ops.size := by have := (List.getElem?_eq_some_iff.1 hi).1; simpa using this
  have hj' : j < ops.size := by have := (List.getElem?_eq_some_iff.1 hj).1; simpa using this
  unfold slotsOk at h
  have h1 := List.all_eq_true.1 (List.all_eq_true.1 h i (List.mem_range.2 hi')) j (List.mem_range.2 hj')
  have hb : Nat.beq i j = false := by
    cases hb : Nat.beq i j with
    | false => rfl
    | true => exact absurd (by simpa using hb) hij
  have hoi : ops[i]? = some oi := by simpa using hi
  have hoj : ops[j]? = some oj := by simpa using hj
  simp only [hb, hoi, hoj, hd, Bool.false_or, Bool.and_eq_true, bne_iff_ne, ne_eq, Bool.or_eq_true, Bool.not_eq_true'] at h1
  refine ⟨h1.1, fun hm => ?_⟩
  rcases h1.2 with h2 | h2
  · have : (looks ops oi).contains d = true := by simpa using hm
    rw [this] at h2
    cases h2
  · split at h2
    · rename_i hlt
      rw [if_pos (by simpa using hlt)]
      exact h2
    · rename_i hlt
      have : ¬ j < i := fun hc => by
        have : j.blt i = true := by simpa using hc
        rw [this] at hlt
        cases hlt
      rw [if_neg this]
      exact h2

/-- what lies in a place ahead of number i -/
theorem Row0.env_at (R : Row0 P N ops base ih st) {t : Nat} (ht : t < 1024) : ∀ (i : Nat), i ≤ ops.toList.length →
    ((∃ j o, j < i ∧ ops.toList[j]? = some o ∧ o.dst = some t) → getE t (st i).e = getE t (st ops.toList.length).e) ∧ ((¬ ∃ j o, j < i ∧ ops.toList[j]? = some o ∧ o.dst = some t) → getE t (st i).e = getE t (st 0).e) := by
  have hlater : ∀ (j : Nat) (o : Oper), ops.toList[j]? = some o → o.dst = some t → ∀ m, j + 1 ≤ m → m ≤ ops.toList.length → getE t (st m).e = getE t (st (j + 1)).e := by
    intro j o hj hd m h1 h2
    induction m with
    | zero => omega
    | succ m ihm =>
      by_cases hjm : j = m
      · subst hjm; rfl
      · obtain ⟨o', ho'⟩ : ∃ o', ops.toList[m]? = some o' := ⟨_, List.getElem?_eq_getElem (by omega)⟩
        have hne := (slots_spec R.slots ho' hj (Ne.symm hjm) hd).1
        rw [R.env_step ho' ht hne]
        exact ihm (by omega) (by omega)
  intro i hi
  refine ⟨fun ⟨j, o, hji, hj, hd⟩ => ?_, fun hno => ?_⟩
  · rw [hlater j o hj hd i (by omega) hi, hlater j o hj hd ops.toList.length (by have := (List.getElem?_eq_some_iff.1 hj).1; omega) (Nat.le_refl _)]
  · induction i with
    | zero => rfl
    | succ i ihi =>
      obtain ⟨o', ho'⟩ : ∃ o', ops.toList[i]? = some o' := ⟨_, List.getElem?_eq_getElem (by omega)⟩
      rw [R.env_step ho' ht (fun hd => hno ⟨i, o', by omega, ho', hd⟩)]
      exact ihi (by omega) (fun ⟨j, o, h1, h2, h3⟩ => hno ⟨j, o, by omega, h2, h3⟩)

end
end Go.Proofs.YtfmlgiafkbakcaaGreatDoor.Ev

/- Structs and slices written out. Slices made and grown. append. append: the operation. append, clear, maps. Values held against each other. -/
import Derived.Test.YtfmlgiafkbakcaaGreatDoorVb
import Derived.Great.BuildSlice
import Derived.Laws.MakeOwn
import Derived.MapKept
import Derived.Laws.StructEq
namespace Go.Proofs.YtfmlgiafkbakcaaGreatDoor.Ev

section
variable {P : Program} {a : Act} {o : Oper} {ι : Io} {w : World} {h h' : H} {v : AV}

theorem VRl.splice : ∀ (off : Nat) {cs vs : AV} {L M : List Value}, VRl ι cs L → VRl ι vs M → off + M.length ≤ L.length → VRl ι (spliceA off vs cs) (L.take off ++ M ++ L.drop (off + M.length))
  | 0, cs, vs, L, M, h1, h2, _ => by
    simp only [spliceA, List.take_zero, List.nil_append, Nat.zero_add]
    rw [VRl.length h2]
    exact VRl.append (VRl.drop _ h1) h2
  | n + 1, .nil, vs, L, M, h1, h2, h3 => by
    simp only [VRl] at h1
    subst h1
    simp at h3
  | n + 1, .cons x b, vs, L, M, h1, h2, h3 => by
    simp only [VRl] at h1
    obtain ⟨u, m, rfl, h4, h5⟩ := h1
    simp only [spliceA, VRl]
    refine ⟨u, m.take n ++ M ++ m.drop (n + M.length), ?_, h4, VRl.splice n h5 h2 (by simp at h3; omega)⟩
    rw [show n + 1 + M.length = (n + M.length) + 1 by omega]
    simp

theorem fold_splice (off : Nat) (M : List Value) (cs : Array Value) (h : off + M.length ≤ cs.size) :
    (M.zipIdx.foldl (fun cs (x : Value × Nat) => cs.setIfInBounds (off + x.2) x.1) cs) = (cs.toList.take off ++ M ++ cs.toList.drop (off + M.length)).toArray := by
  obtain ⟨h1, h2⟩ := Great.foldl_set off M 0 cs
  apply Array.ext'
  apply List.ext_getElem?
  intro k
  rw [Array.getElem?_toList, h2 k]
  simp only [Nat.add_zero]
  by_cases hk : off ≤ k ∧ k < off + M.length
  · rw [if_pos ⟨hk.1, hk.2, by omega⟩, List.append_assoc, List.getElem?_append_right (by simp; omega), List.getElem?_append_left (by simp; omega)]
    congr 1
    simp
    omega
  · rw [if_neg (by omega)]
    by_cases hlt : k < off
    · rw [List.append_assoc, List.getElem?_append_left (by simp; omega), List.getElem?_take_of_lt hlt, Array.getElem?_toList]
    · rw [List.getElem?_append_right (by simp; omega), List.getElem?_drop, ← Array.getElem?_toList]
      congr 1
      simp
      omega

theorem fill_run (pl : List (Nat × Nat)) {e : E} {N : Nat} (hE : ER N ι e a) : ∀ (ps : List (Nat × Operand)) (l : List (Nat × Nat × Operand)) (z cs : AV) (cells : Array Value), placesT pl ps = some l → (ps.all fun x => okOp x.2) = true →
    VRl ι z cells.toList → (∀ u ∈ cells.toList, u.oneCell' = true) → fillA z ((cparts l).get e) = some cs →
    ∃ r : Array Value, Instr.fill (pl.toArray[·]?) cells (ps.map fun x => (x.1, a.eval x.2)) = some r ∧ VRl ι cs r.toList ∧ ∀ u ∈ r.toList, u.oneCell' = true
  | [], l, z, cs, cells, hp, _, hz, h1, hf => by
    simp only [placesT, Option.some.injEq] at hp
    subst hp
    simp only [cparts, fillA, Option.some.injEq] at hf
    subst hf
    exact ⟨cells, rfl, hz, h1⟩
  | (i, x) :: ps, l, z, cs, cells, hp, hok, hz, h1, hf => by
    simp only [placesT] at hp
    split at hp
    case h_2 => cases hp
    rename_i off size hpi
    split at hp
    case h_2 => cases hp
    rename_i r hr
    injection hp with hp
    subst hp
    simp only [List.all_cons, Bool.and_eq_true] at hok
    simp only [cparts, fillA] at hf
    split at hf
    case h_2 => cases hf
    rename_i vs hvs
    split at hf
    case h_2 => cases hf
    rename_i hc
    simp only [Bool.and_eq_true, Nat.beq_eq, Nat.ble_eq] at hc
    obtain ⟨hv, hv1⟩ := (hE.eval hok.1).cells hvs
    have hl1 := VRl.length hv
    have hl2 := VRl.length hz
    simp only [Array.length_toList] at hl1 hl2
    have hfit : off + (a.eval x).cells.toList.length ≤ cells.size := by
      have := hc.2
      change off + size ≤ z.length at this
      simp only [Array.length_toList]
      omega
    have hs := VRl.splice off hz hv (by simpa using hfit)
    obtain ⟨r', h2, h3, h4⟩ := fill_run pl hE ps r (spliceA off vs z) cs (cells.toList.take off ++ (a.eval x).cells.toList ++ cells.toList.drop (off + (a.eval x).cells.toList.length)).toArray hr hok.2 (by simpa using hs) (fun u hu => by
      simp only [List.mem_append] at hu
      rcases hu with (hu | hu) | hu
      · exact h1 u (List.mem_of_mem_take hu)
      · exact hv1 u hu
      · exact h1 u (List.mem_of_mem_drop hu)) hf
    refine ⟨r', ?_, h3, h4⟩
    rw [← h2]
    simp only [List.map_cons, Instr.fill]
    have hpi' : pl.toArray[i]? = some (off, size) := by simpa using hpi
    simp only [hpi']
    rw [if_neg (by simp only [Bool.or_eq_true, decide_eq_true_eq]; simp only [Array.length_toList] at hfit; omega)]
    congr 1
    have := fold_splice off (a.eval x).cells.toList cells (by simpa using hfit)
    rw [← this]
    simp
    have hsz : (a.eval x).cells.size = (a.eval x).cells.zipIdx.size := by simp
    rw [hsz, ← Array.foldl_toList, Array.toList_zipIdx]

theorem build_ok (_hh : HR h ι w) {e : E} {N : Nat} (hE : ER N ι e a) {t : TypeId} {ps : Array (Nat × Operand)} (ho : o.op = .build t ps) {fs : Array Field} (hu : P.underlying t = some (.struct fs)) {z : AV} (hz : zeroT P t = some (.agg z)) {pl : List (Nat × Nat)} (hpl : fieldsT P fs.toList = some pl)
    {l : List (Nat × Nat × Operand)} (hl : placesT pl ps.toList = some l) (hok : (ps.toList.all fun x => okOp x.2) = true) (hr : buildA z ((cparts l).get e) h = .ok v h') : PureR P a o v h ι w h' := by
  unfold buildA at hr
  split at hr
  case h_2 => cases hr
  rename_i cs hcs
  injection hr with e1 e2
  subst e1 e2
  obtain ⟨i, zv, hi, hzv, hav⟩ := zeroT_info hz
  have h1 := VR.of ι hav
  simp only [VR] at h1
  obtain ⟨zl, rfl, hzl, hz1⟩ := h1
  obtain ⟨r, hf, hr, hr1⟩ := fill_run pl hE ps.toList l z cs zl.toArray hl hok (by simpa using hzl) (by simpa using hz1) hcs
  have hb : P.built t (ps.map fun (i, x) => (i, a.eval x)).toList = some r := by
    unfold Program.built
    simp only [hi, hu, hzv]
    unfold fieldsT at hpl
    rw [hpl]
    simp only [Value.cells]
    rw [← hf, Array.toList_map]
  refine ⟨rfl, (.agg r), ?_, ⟨r.toList, by simp, hr, hr1⟩⟩
  unfold execOp
  rw [ho]
  simp only [Sem.run_bind, run_build w t _ r hb, Result.andThen_ok, Sem.run_pure]

/-! ### slices written out -/

theorem inOrder_map (f : Operand → Value) : ∀ (l : List (Nat × Operand)) (k : Nat), inOrder k l = true → (l.map fun x => (x.1, f x.2)) = ((l.map fun x => f x.2).zipIdx k).map fun x => (x.2, x.1)
  | [], _, _ => rfl
  | (i, x) :: l, k, h => by
    simp only [inOrder, Bool.and_eq_true, Nat.beq_eq] at h
    obtain ⟨rfl, h2⟩ := h
    simp only [List.map_cons, List.zipIdx_cons]
    rw [inOrder_map f l (i + 1) h2]

theorem cat_rel {z : Nat} : ∀ {vs cs : AV} {L : List Value}, VRl ι vs L → catA z vs = some cs → VRl ι cs (L.flatMap fun v => v.cells.toList) ∧ (∀ u ∈ L.flatMap fun v => v.cells.toList, u.oneCell' = true) ∧ ∀ v ∈ L, v.cells.size = z
  | .nil, cs, L, h1, h2 => by
    simp only [VRl] at h1
    simp only [catA, Option.some.injEq] at h2
    subst h1 h2
    simp [VRl]
  | .cons x b, cs, L, h1, h2 => by
    simp only [VRl] at h1
    obtain ⟨u, m, rfl, h3, h4⟩ := h1
    simp only [catA] at h2
    split at h2
    case h_2 => cases h2
    rename_i vs hvs
    split at h2
    case h_2 => cases h2
    rename_i hc
    split at h2
    case h_2 => cases h2
    rename_i r hr
    injection h2 with h2
    subst h2
    obtain ⟨h5, h6, h7⟩ := cat_rel h4 hr
    obtain ⟨h8, h9⟩ := h3.cells hvs
    have hlen := VRl.length h8
    simp only [Nat.beq_eq] at hc
    simp only [Array.length_toList] at hlen
    refine ⟨by simp only [List.flatMap_cons]; exact VRl.append h5 h8, fun y hy => ?_, fun y hy => ?_⟩
    · simp only [List.flatMap_cons, List.mem_append] at hy
      rcases hy with hy | hy
      · exact h9 y hy
      · exact h6 y hy
    · rcases List.mem_cons.1 hy with rfl | hy
      · omega
      · exact h7 y hy

theorem flat_length {z : Nat} : ∀ (L : List Value), (∀ v ∈ L, v.cells.size = z) → (L.flatMap fun v => v.cells.toList).length = L.length * z
  | [], _ => by simp
  | v :: L, h => by
    simp only [List.flatMap_cons, List.length_append, Array.length_toList, List.length_cons]
    rw [flat_length L (fun u hu => h u (List.mem_cons_of_mem _ hu)), h v List.mem_cons_self, Nat.add_mul]
    omega

theorem buildSlice_ok (hh : HR h ι w) {t el : TypeId} {n : Nat} {ps : Array (Nat × Operand)} (ho : o.op = .buildSlice t n ps) (he : elemT P t = some el) {z : Nat} (hz : szT P el = some z) (hzero : (zeroT P el).isSome = true) (hn : n = ps.toList.length) (hin : inOrder 0 ps.toList = true) (hsmall : n * z ≤ 1000000) (hz0 : z ≠ 0)
    {vs : AV} (hvs : VRl ι vs (ps.toList.map fun x => a.eval x.2)) (hr : buildSliceA z n vs h = .ok v h') : OpOk P a o v h ι w h' := by
  unfold buildSliceA at hr
  split at hr
  case h_2 => cases hr
  rename_i cs hcs
  obtain ⟨os, k⟩ := h
  simp only at hr
  injection hr with e1 e2
  subst e1 e2
  obtain ⟨h1, h2, h3⟩ := cat_rel hvs hcs
  obtain ⟨i, hi, hs⟩ := szT_info hz
  obtain ⟨zz, hzz⟩ := Option.isSome_iff_exists.1 hzero
  obtain ⟨i', zv, hi', hzv, _⟩ := zeroT_info hzz
  rw [hi] at hi'
  injection hi' with hi'
  subst hi'
  have hlen : (ps.toList.map fun x => a.eval x.2).length = n := by simp [hn]
  have hfl := flat_length _ h3
  rw [hlen] at hfl
  have hcl := VRl.length h1
  by_cases hn0 : n = 0
  · subst hn0
    have hps : ps = #[] := by
      apply Array.ext'
      exact List.eq_nil_of_length_eq_zero hn.symm
    subst hps
    refine newSlice_ok hh (arr := #[]) (t := el) (w' := w.alloc (.cells #[] el)) (cap := 0) rfl rfl rfl rfl (by simp) (by intro i a hi; simp at hi) (Nat.le_refl _) (fun _ => rfl) (by simp) ?_
    unfold execOp
    rw [ho]
    simp [Instr.buildSlice, run_underlying (elemT_spec he), sizeOf, typeInfo, hi, Instr.fill, run_newRow']
    exact congrArg (fun c => w.alloc (.cells c el)) (by apply Array.ext'; simp)
  · have hpos : ¬ n * i.size = 0 := by
      rw [hs]
      exact Nat.mul_ne_zero hn0 hz0
    have hf := Great.fill_whole (s := i.size) (by omega) (ps.toList.map fun x => a.eval x.2) ((Array.range (n * i.size)).map (zv.cells[· % zv.cells.size]!)) (by rw [hs]; exact h3) (by rw [hlen]; simp)
    have hbs := run_buildSlice (P := P) w t el n (ps.map fun (i, x) => (i, a.eval x)) _ i zv (elemT_spec he) hi hzv (by rw [hs]; omega) hpos (by
      rw [← hf]
      congr 1
      rw [Array.toList_map]
      exact inOrder_map a.eval ps.toList 0 hin)
    refine newSlice_ok hh (arr := ((ps.toList.map fun x => a.eval x.2).flatMap fun v => v.cells.toList).toArray) (t := el) (w' := w.alloc (.cells _ el)) (cap := n) rfl rfl rfl rfl (by rw [List.size_toArray, hfl]; exact Nat.le_refl _) (fun j x hj hx => ?_) (Nat.le_refl _) (fun _ => rfl) (by rw [List.size_toArray, hfl]; exact Nat.le_refl _) ?_
    · obtain ⟨u, h4, h5⟩ := cells_put h1 h2 j x (by rw [hcl, hfl]; exact hj) hx
      exact ⟨u, by simpa using h4, h5⟩
    · unfold execOp
      rw [ho]
      simp only [Sem.run_bind, hbs, Result.andThen_ok, Sem.run_pure]

end
end Go.Proofs.YtfmlgiafkbakcaaGreatDoor.Ev

namespace Go.Proofs.YtfmlgiafkbakcaaGreatDoor.Ev

section
variable {P : Program} {a : Act} {o : Oper} {ι : Io} {w : World} {h h' : H} {v : AV}

theorem repA_rel {z : AV} {L : List Value} (hz : VRl ι z L) (h1 : ∀ u ∈ L, u.oneCell' = true) : ∀ n, VRl ι (repA z n) (List.replicate n L).flatten ∧ ∀ u ∈ (List.replicate n L).flatten, u.oneCell' = true
  | 0 => by simp [repA, VRl]
  | n + 1 => by
    obtain ⟨h2, h3⟩ := repA_rel hz h1 n
    simp only [repA, List.replicate_succ, List.flatten_cons]
    refine ⟨VRl.append h2 hz, fun u hu => ?_⟩
    rcases List.mem_append.1 hu with hu | hu
    · exact h1 u hu
    · exact h3 u hu

theorem flatten_len (L : List Value) : ∀ n, (List.replicate n L).flatten.length = n * L.length
  | 0 => by simp
  | n + 1 => by simp only [List.replicate_succ, List.flatten_cons, List.length_append, flatten_len L n, Nat.add_mul]; omega

theorem rep_get (L : List Value) (hL : L ≠ []) : ∀ (n k : Nat), k < n * L.length → (List.replicate n L).flatten[k]? = L[k % L.length]?
  | 0, k, h => by simp at h
  | n + 1, k, h => by
    have hpos : 0 < L.length := List.length_pos_iff.2 hL
    simp only [List.replicate_succ, List.flatten_cons]
    by_cases hk : k < L.length
    · rw [List.getElem?_append_left hk, Nat.mod_eq_of_lt hk]
    · rw [List.getElem?_append_right (by omega), rep_get L hL n (k - L.length) (by rw [Nat.add_mul] at h; omega)]
      congr 1
      exact (Nat.mod_eq_sub_mod (by omega)).symm

theorem zeroRow_eq (zc : Array Value) (n : Nat) (hz : zc.size ≠ 0) : ((Array.range (n * zc.size)).map (zc[· % zc.size]!)).toList = (List.replicate n zc.toList).flatten := by
  have hne : zc.toList ≠ [] := fun h0 => hz (by rw [← Array.length_toList, h0]; rfl)
  apply List.ext_getElem?
  intro k
  by_cases hk : k < n * zc.size
  · rw [rep_get zc.toList hne n k (by simpa using hk)]
    have hm : k % zc.size < zc.size := Nat.mod_lt _ (by omega)
    simp [hk, hm]
  · rw [List.getElem?_eq_none (by simpa using Nat.le_of_not_lt hk), List.getElem?_eq_none]
    rw [flatten_len]
    simpa using Nat.le_of_not_lt hk

theorem repA_nth1 (a : AV) : ∀ l j, j < l → (repA (.cons a .nil) l).nth j = some a
  | 0, j, h => absurd h (by omega)
  | l + 1, 0, _ => by simp [repA, AV.append, AV.nth]
  | l + 1, j + 1, h => by simp only [repA, AV.append, AV.nth]; exact repA_nth1 a l j (by omega)

theorem repA_len1 (a : AV) : ∀ l, (repA (.cons a .nil) l).length = l
  | 0 => rfl
  | l + 1 => by simp only [repA, AV.append, AV.length]; rw [repA_len1 a l]

theorem makeSlice_ok (hh : HR h ι w) {t el : TypeId} {x y : Operand} (ho : o.op = .makeSlice t x y) (he : elemT P t = some el) {z : Nat} (hz : szT P el = some z) (hz0 : z ≠ 0) {zc : AV} (hzero : zeroC P el = some zc) (hzl : zc.length = z) (hbytes : ∀ i, P.info? el = some i → i.bytes ≤ 1000) {xa ya : AV} (hx : VR ι xa (a.eval x)) (hy : VR ι ya (a.eval y)) (hr : makeSliceA z zc xa ya h = .ok v h') : OpOk P a o v h ι w h' := by
  unfold makeSliceA at hr
  split at hr
  case h_2 => cases hr
  rename_i k1 l k2 c
  split at hr
  case h_2 => cases hr
  rename_i hc
  simp only [Bool.and_eq_true, Nat.beq_eq, Nat.blt_eq] at hc
  obtain ⟨rfl, hlt⟩ := hc
  obtain ⟨os, k⟩ := h
  obtain ⟨c, hr, hcc⟩ : ∃ c, O.ok (.sl k 0 l z true) ⟨os.set (some (.cells c (Nat.mul l z) true [])) k, Nat.succ k⟩ = .ok v h' ∧ ∀ j x, j < l * z → c.get j = some x → ((Tr.nil : Tr AV).putL 0 (repA zc l)).get j = some x := by
    simp only at hr
    split at hr
    · rename_i a
      have hz1 : z = 1 := by rw [← hzl]; rfl
      refine ⟨_, hr, fun j x hj hx => ?_⟩
      rw [hz1, Nat.mul_one] at hj
      simp only [Tr.get] at hx
      have h5 := Tr.get_putL_in (repA (.cons a .nil) l) .nil 0 j (by rw [repA_len1]; exact hj)
      rw [Nat.zero_add] at h5
      rw [h5, repA_nth1 a l j hj, hx]
    · exact ⟨_, hr, fun j x _ hx => hx⟩
  injection hr with e1 e2
  subst e1 e2
  simp only [VR] at hx hy
  obtain ⟨i, zv, hi, hzv, h1, h2⟩ := zeroC_info (ι := ι) hzero
  obtain ⟨i', hi', hs⟩ := szT_info hz
  rw [hi] at hi'
  injection hi' with hi'
  subst hi'
  have hb := hbytes i hi
  obtain ⟨h3, h4⟩ := repA_rel h1 h2 l
  have hzs : zv.cells.size = z := by
    have := VRl.length h1
    simp only [Array.length_toList] at this
    omega
  have hrow : ((Array.range (l * i.size)).map (zv.cells[· % zv.cells.size]!)).toList = (List.replicate l zv.cells.toList).flatten := by
    rw [hs, ← hzs]
    exact zeroRow_eq zv.cells l (by omega)
  have hlen : (List.replicate l zv.cells.toList).flatten.length = l * z := by
    simp [hzs]
  refine newSlice_ok hh (arr := (Array.range (l * i.size)).map (zv.cells[· % zv.cells.size]!)) (t := el) (w' := w.alloc (.cells _ el)) (cap := l) rfl rfl rfl rfl (by simp [hs]) (fun j x hj hx => ?_) (Nat.le_refl _) (fun _ => rfl) (by simp [hs]) ?_
  · have hlr := VRl.length h3
    rw [hlen] at hlr
    change j < l * z at hj
    obtain ⟨u, h4, h5⟩ := cells_put h3 h4 j x (by omega) (hcc j x hj hx)
    refine ⟨u, ?_, h5⟩
    rw [← Array.getElem?_toList, hrow]
    exact h4
  · have hbl : (i.bytes : Int) * (l : Int) ≤ 281474976710656 := by
      have h5 := Nat.mul_le_mul hb (Nat.le_of_lt hlt)
      have h6 : ((i.bytes * l : Nat) : Int) ≤ 281474976710656 := by omega
      rwa [Int.natCast_mul] at h6
    have hrun := run_make (P := P) w t el i zv (elemT_spec he) hi hzv k1 k2 l l (by omega) (by omega) hbl (by omega)
    simp only [Int.toNat_natCast] at hrun
    unfold execOp
    rw [ho]
    simp only [hx, hy]
    have e1 : Int.ofNat l = (l : Int) := rfl
    simp only [e1, Sem.run_bind, hrun, Result.andThen_ok, Sem.run_pure]
    rfl

/-! ### a slice grown -/

theorem setCells_row {g off : Nat} {arr : Array Value} {t : TypeId} (hg : w.heap[g]? = some (.cells arr t (0, 0))) {vs : List Value} (hfit : off + vs.length ≤ arr.size) (h1 : ∀ u ∈ vs, u.oneCell' = true) (P : Program) :
    w.setCells g off vs = w.setRow g (arr.toList.take off ++ vs ++ arr.toList.drop (off + vs.length)).toArray := by
  have e1 := run_storeCells_at P g off t vs 0 arr w hg (by simpa using hfit) h1
  have e2 := run_storeCells_cells (P := P) g off vs 0 w (fun j hj => by
    rw [cell_of_row w g _ arr t (0, 0) hg]
    rw [Array.getElem?_eq_getElem (by omega)]
    rfl) (fun j hj => by simp [World.frozen?, hg]) h1
  simp only [Nat.add_zero] at e1 e2
  rw [e2] at e1
  injection e1

theorem nextcap_le (need old : Nat) (h : old < need) : Builtin.nextslicecap need old ≤ 2 * need + 1000 := by
  have hg : ∀ r c, c < need → c ≤ need → Builtin.growBy need r c ≤ 2 * need + 1000 := by
    intro r
    induction r with
    | zero => intro c h1 _; simp only [Builtin.growBy]; omega
    | succ r ih =>
      intro c h1 h2
      simp only [Builtin.growBy]
      split
      · omega
      · by_cases hc : c + (c + 768) / 4 < need
        · exact ih _ hc (by omega)
        · cases r with
          | zero => simp only [Builtin.growBy]; omega
          | succ r => simp only [Builtin.growBy]; rw [if_pos (by omega)]; omega
  unfold Builtin.nextslicecap
  split
  · omega
  · split
    · omega
    · exact hg _ _ h (by omega)

end
end Go.Proofs.YtfmlgiafkbakcaaGreatDoor.Ev

namespace Go.Proofs.YtfmlgiafkbakcaaGreatDoor.Ev

section
variable {P : Program} {a : Act} {o : Oper} {ι : Io} {w : World} {h h' : H} {v : AV}

theorem Stp.shrink {h h1 : H} (hn : h1.next = h.next) (hown : ∀ g, Owned h1 ι g → Owned h ι g) : Stp h ι w h1 ι w :=
  ⟨Ext.refl _, Nat.le_refl _, fun _ _ _ => rfl, fun g hg => .inr (hown g hg), rfl, rfl, rfl, by rw [hn]; exact Nat.le_refl _, fun id l a b => by rw [b] at a; cases a⟩

theorem smallT_spec {t : TypeId} (h : smallT P t = true) : ∃ i zv, P.info? t = some i ∧ i.bytes ≤ 1000 ∧ i.size ≠ 0 ∧ i.zero = some zv ∧ zv.cells.size = i.size := by
  unfold smallT at h
  split at h
  · rename_i i hi
    split at h
    · rename_i zv hz
      simp only [Bool.and_eq_true, Nat.ble_eq, Bool.not_eq_true', Nat.beq_eq] at h
      obtain ⟨⟨h1, h2⟩, h3⟩ := h
      exact ⟨i, zv, hi, h1, (fun e => by rw [e] at h2; cases h2), hz, h3⟩
    · cases h
  · cases h

theorem getL_nth {c : Tr AV} : ∀ (k off : Nat) (l : AV), c.getL off k = some l → l.length = k ∧ ∀ i, i < k → c.get (off + i) = l.nth i
  | 0, off, l, h => by simp only [Tr.getL, Option.some.injEq] at h; subst h; exact ⟨rfl, fun i hi => by omega⟩
  | k + 1, off, l, h => by
    simp only [Tr.getL] at h
    split at h
    case h_2 => cases h
    rename_i x hx
    split at h
    case h_2 => cases h
    rename_i r hr
    injection h with h
    subst h
    obtain ⟨h1, h2⟩ := getL_nth k _ r hr
    refine ⟨by simp [AV.length, h1], fun i hi => ?_⟩
    cases i with
    | zero => simpa [AV.nth] using hx
    | succ i =>
      have := h2 i (by omega)
      rw [show off + (i + 1) = Nat.succ off + i by omega]
      simpa [AV.nth] using this

theorem grownC_spec {c c2 : Tr AV} {off n : Nat} {xs : AV} (h : grownC c off n xs = some c2) : ∀ i x, i < n + xs.length → c2.get i = some x → (i < n ∧ c.get (off + i) = some x) ∨ (n ≤ i ∧ xs.nth (i - n) = some x) := by
  unfold grownC at h
  intro i x hi hx
  split at h
  · injection h with h
    subst h
    by_cases hn : i < n
    · rw [Tr.get_putL_out _ _ _ _ (.inl hn)] at hx
      exact .inl ⟨hn, by rw [Nat.zero_add]; exact hx⟩
    · have h1 := Tr.get_putL_in xs c n (i - n) (by omega)
      rw [show n + (i - n) = i by omega] at h1
      rw [h1] at hx
      exact .inr ⟨by omega, hx⟩
  · split at h
    case h_2 => cases h
    rename_i ss hss
    injection h with h
    subst h
    obtain ⟨h2, h3⟩ := getL_nth _ _ _ hss
    by_cases hn : i < n
    · rw [Tr.get_putL_out _ _ _ _ (.inl hn)] at hx
      have h1 := Tr.get_putL_in ss .nil 0 i (by omega)
      rw [Nat.zero_add] at h1
      rw [h1, ← h3 i hn] at hx
      exact .inl ⟨hn, hx⟩
    · have h1 := Tr.get_putL_in xs (Tr.nil.putL 0 ss) n (i - n) (by omega)
      rw [show n + (i - n) = i by omega] at h1
      rw [h1] at hx
      exact .inr ⟨by omega, hx⟩

theorem size_zeroCells' (z : Array Value) (n : Nat) : (Builtin.zeroCells z n).size = n * z.size := by simp [Builtin.zeroCells]

/-- nothing is appended -/
theorem append_zero {t u : TypeId} {ty e : TypeId} {i : TypeInfo} (ht : P.underlying t = some (.slice e)) (hi : P.info? e = some i) {base : Option Addr} {n c : Nat} {x : Value} (hs : Src P i.size u x 0 [] w) (hle : n ≤ c) :
    (Builtin.append_ #[t, u] ty #[.slice base n c, x]).run P w = .ok (.slice base n c) w := by
  rcases hs.kind with ⟨e', hk⟩ | hk <;> cases base <;> simp [Builtin.append_, run_underlying ht, run_underlying hk, sizeOf, typeInfo, hi, hs.len, hle, hs.cells, storeCells]

theorem src_of (hh : HR h ι w) {u e' : TypeId} (hu : P.underlying u = some (.slice e')) {z : Nat} {xa : AV} {xv : Value} (hx : VR ι xa xv) {xs : AV} (hc : sliceCells xa z h = some xs) {m : Nat} (hm : lenA xa = some m) :
    ∃ vs : List Value, VRl ι xs vs ∧ (∀ u ∈ vs, u.oneCell' = true) ∧ vs.length = m * z ∧ Src P z u xv m vs w := by
  obtain ⟨vs, h1, h2, h3, h4⟩ := slice_src hh hx hc hm
  refine ⟨vs, h1, h2, h3, ?_⟩
  rcases h4 with ⟨rfl, rfl⟩ | ⟨ad, cap, rfl, _, h5⟩
  · have : vs = [] := List.eq_nil_of_length_eq_zero (by simpa using h3)
    subst this
    exact Src.ofNil w hu 0
  · exact Src.ofSlice w hu ad m cap vs h3 h5 h2

/-- the block that a slice grows into -/
theorem grow_run {t u ty e : TypeId} {i : TypeInfo} {zv : Value} (ht : P.underlying t = some (.slice e)) (hi : P.info? e = some i) (hz : i.zero = some zv) (hb : i.bytes ≤ 1000) {base : Option Addr} {n c m : Nat} {olds news : List Value} {x : Value} (hs : Src P i.size u x m news w)
    (hold : (Builtin.firstCells i.size n (.slice base n c)).run P w.drew = .ok olds.toArray w.drew) (hg : c < n + m) (hsm : n + m < 1000000) :
    (Builtin.append_ #[t, u] ty #[.slice base n c, x]).run P w = .ok (.slice (some ⟨w.heap.size, 0, none⟩) (n + m) (grownCap w (n + m) c e)) (w.drew.alloc (.cells ((olds ++ news).toArray ++ Builtin.zeroCells zv.cells (grownCap w (n + m) c e - (n + m))) e)) := by
  have h63 : ((n + m : Nat) : Int) ≤ 9223372036854775807 := by omega
  have h1 := nextcap_le (n + m) c hg
  have h2 : Builtin.nextslicecap (n + m) c * i.bytes ≤ (2 * (n + m) + 1000) * 1000 := Nat.mul_le_mul h1 hb
  have h3 : (2 * (n + m) + 1000) * 1000 ≤ 2001000000 := by omega
  have hfit : Builtin.nextslicecap (n + m) c * i.bytes ≤ 281474976710656 := Nat.le_trans h2 (Nat.le_trans h3 (by decide))
  exact run_append_grow_src w t u ty e i zv ht hi hz base n c olds hold x m news hs hg h63 hfit

/-- the operation, once append is known -/
theorem append_exec {s x : Operand} {c : Call} {t u : TypeId} (ho : o.op = .call c) (hc : c.callee = .builtin .append) (hargs : c.args.toList = [s, x]) (hty : c.argTypes.toList = [t, u]) {r : Value} {w' : World}
    (hrun : (Builtin.append_ #[t, u] o.type #[a.eval s, a.eval x]).run P w = .ok r w') : (execOp a.eval o).run P w = .ok (.value r) w' := by
  have hm : c.args.map a.eval = #[a.eval s, a.eval x] := by
    apply Array.ext'
    simp [hargs]
  have hm2 : c.argTypes = #[t, u] := by
    apply Array.ext'
    simp [hty]
  unfold execOp
  rw [ho]
  simp only [resolve, hc, invoke, builtin, hm, hm2, Sem.run_bind, Sem.run_pure, Result.andThen_ok, hrun]

theorem grownCap_facts (w : World) (need old : Nat) (e : TypeId) : need ≤ grownCap w need old e := grownCap_ge w need old e

/-- a grown slice in a new block -/
theorem newGrown_ok {c2 : Tr AV} {n m z : Nat} {olds news : List Value} {zv : Value} {e : TypeId} {cap : Nat} {oxs : List Nat} {h1 : H} (hh1 : HR h1 ι w) (hn1 : h1.next = h.next) (hown1 : ∀ g, Owned h1 ι g → Owned h ι g)
    (hlen : (olds ++ news).length = (n + m) * z) (hzs : zv.cells.size = z) (hcells : ∀ i x, i < (n + m) * z → c2.get i = some x → ∃ v, (olds ++ news)[i]? = some v ∧ VR ι x v ∧ v.oneCell' = true)
    (hrun : (execOp a.eval o).run P w = .ok (.value (.slice (some ⟨w.heap.size, 0, none⟩) (n + m) (grownCap w (n + m) cap e))) (w.drew.alloc (.cells ((olds ++ news).toArray ++ Builtin.zeroCells zv.cells (grownCap w (n + m) cap e - (n + m))) e))) :
    OpOk P a o (.sl h1.next 0 (n + m) z false) h ι w ⟨h1.objs.set (some (.cells c2 ((n + m) * z) true oxs)) h1.next, Nat.succ h1.next⟩ := by
  have hge := grownCap_facts w (n + m) cap e
  have hsz : ((olds ++ news).toArray ++ Builtin.zeroCells zv.cells (grownCap w (n + m) cap e - (n + m))).size = grownCap w (n + m) cap e * z := by
    rw [Array.size_append, List.size_toArray, hlen, size_zeroCells', hzs, ← Nat.add_mul]
    congr 1
    omega
  have hle : (n + m) * z ≤ grownCap w (n + m) cap e * z := Nat.mul_le_mul_right _ hge
  obtain ⟨h2, h3⟩ := hh1.push (w' := w.drew.alloc (.cells ((olds ++ news).toArray ++ Builtin.zeroCells zv.cells (grownCap w (n + m) cap e - (n + m))) e)) (.cells c2 ((n + m) * z) true oxs) (.cells ((olds ++ news).toArray ++ Builtin.zeroCells zv.cells (grownCap w (n + m) cap e - (n + m))) e) 0 (grownCap w (n + m) cap e * z) rfl rfl rfl rfl
    ⟨_, _, e, upd_same, heap_alloc_new w.drew _, hsz, by simpa using hle, fun j x hj hx => by
      obtain ⟨v, h4, h5, h6⟩ := hcells j x hj hx
      refine ⟨v, ?_, h5.ext (upd_ext (hh1.fresh _ (Nat.le_refl _)).2), h6⟩
      rw [Nat.zero_add, Array.getElem?_append_left (by rw [List.size_toArray, hlen]; exact hj)]
      simpa using h4⟩
  exact .value hrun ⟨_, _, _, upd_same, rfl, hge, (by intro h; cases h), fun _ => by simp, by simp⟩ h2 ((Stp.shrink hn1 hown1).trans h3)

theorem olds_firstCells {g off n z c : Nat} {arr : Array Value} {t : TypeId} {fr : Nat × Nat} (hg : w.heap[g]? = some (.cells arr t fr)) (hfit : off + n * z ≤ arr.size) (w' : World) (hw : w'.heap = w.heap) :
    (Builtin.firstCells z n (.slice (some ⟨g, off, none⟩) n c)).run P w' = .ok ((arr.toList.drop off).take (n * z)).toArray w' := by
  refine run_firstCells_some w' z n ⟨g, off, none⟩ n c _ (by simp; omega) (fun j u hj => ?_)
  rw [Addr.add_mid, cell_of_row w' g _ arr t fr (by rw [hw]; exact hg)]
  have hlt : j < n * z := by
    have h1 := (List.getElem?_eq_some_iff.1 hj).1
    simp only [List.length_take] at h1
    omega
  rw [List.getElem?_take_of_lt hlt, List.getElem?_drop, Array.getElem?_toList] at hj
  exact hj

end
end Go.Proofs.YtfmlgiafkbakcaaGreatDoor.Ev

namespace Go.Proofs.YtfmlgiafkbakcaaGreatDoor.Ev

section
variable {P : Program} {a : Act} {o : Oper} {ι : Io} {w : World} {h h' : H} {v : AV}

theorem get_two {ss xs : AV} {olds news : List Value} (hss : VRl ι ss olds) (ho1 : ∀ u ∈ olds, u.oneCell' = true) (hxs : VRl ι xs news) (hx1 : ∀ u ∈ news, u.oneCell' = true) {n : Nat} (hn : olds.length = n) : ∀ i x, i < n + news.length → ((Tr.nil.putL 0 ss).putL n xs).get i = some x → ∃ v, (olds ++ news)[i]? = some v ∧ VR ι x v ∧ v.oneCell' = true := by
  intro i x hi hx
  have l1 := VRl.length hss
  have l2 := VRl.length hxs
  by_cases h1 : i < n
  · rw [Tr.get_putL_out _ _ _ _ (.inl h1)] at hx
    obtain ⟨u, h2, h3⟩ := cells_put hss ho1 i x (by omega) hx
    exact ⟨u, by rw [List.getElem?_append_left (by omega)]; exact h2, h3⟩
  · have h2 := Tr.get_putL_in xs (Tr.nil.putL 0 ss) n (i - n) (by omega)
    rw [show n + (i - n) = i by omega] at h2
    rw [h2] at hx
    obtain ⟨u, h3, h4⟩ := VRl.nth _ hxs hx
    exact ⟨u, by rw [List.getElem?_append_right (by omega), hn]; exact h3, h4, hx1 u (List.mem_of_getElem? h3)⟩

theorem appendOwn_ok (hh : HR h ι w) {s x : Operand} {c : Call} {t u el : TypeId} (ho : o.op = .call c) (hc : c.callee = .builtin .append) (hargs : c.args.toList = [s, x]) (hty : c.argTypes.toList = [t, u]) (ht : P.underlying t = some (.slice el))
    {z : Nat} {i : TypeInfo} {zv : Value} (hi : P.info? el = some i) (hs : i.size = z) (hb : i.bytes ≤ 1000) (hz0 : z ≠ 0) (hzv : i.zero = some zv) (hzs : zv.cells.size = z) {id off len : Nat} {_sv : a.eval s = a.eval s} (hsv : VR ι (.sl id off len z false) (a.eval s)) {xs : AV} {news : List Value} {m : Nat}
    (hxs : VRl ι xs news) (hx1 : ∀ u ∈ news, u.oneCell' = true) (hxl : news.length = m * z) (hsrc : Src P i.size u (a.eval x) m news w) (hm : m ≠ 0) (hsm : len + m < 1000000) (hr : appendOwn z id off len m xs h = .ok v h') : OpOk P a o v h ι w h' := by
  unfold appendOwn at hr
  split at hr
  case h_2 => cases hr
  rename_i cc n ancs hget
  split at hr
  case h_2 => cases hr
  rename_i hle
  have hle : off + len * z ≤ n := by simpa using hle
  split at hr
  case h_2 => cases hr
  rename_i c2 hc2
  rw [forceN_eq] at hr
  obtain ⟨os, nx⟩ := h
  simp only at hr hget
  simp only [VR] at hsv
  obtain ⟨l, ad, cap, hl, hsv, hc1, _, hc3, hc4⟩ := hsv
  obtain ⟨l', arr, ty, hl', hg, hsz, hn, hcell⟩ := hh.obj id _ hget
  have : l' = l := by rw [hl] at hl'; injection hl' with hl'; exact hl'.symm
  subst this
  have hxa := VRl.length hxs
  have hc2' : grownC cc off (len * z) xs = some c2 := hc2
  have hspec := grownC_spec hc2'
  have hcells1 : ∀ j y, j < len * z → cc.get (off + j) = some y → ∃ v, arr[l'.base + off + j]? = some v ∧ VR ι y v ∧ v.oneCell' = true := fun j y hj hy => by
    obtain ⟨u, h1, h2⟩ := hcell (off + j) y (by omega) hy
    exact ⟨u, by rw [Nat.add_assoc]; exact h1, h2⟩
  -- what stays of the old memory
  have hold : ∃ h1 oxs, HR h1 ι w ∧ h1.next = nx ∧ (∀ g, Owned h1 ι g → Owned ⟨os, nx⟩ ι g) ∧ v = .sl nx 0 (len + m) z false ∧ h' = ⟨h1.objs.set (some (.cells c2 ((len + m) * z) true oxs)) nx, Nat.succ nx⟩ ∧
      ∀ j oj b, h1.objs.get j = some oj → ι j = some b → b.g = l'.g → ∃ c n' q, oj = .cells c n' false q ∧ b.base + n' ≤ l'.base + off + len * z ∧ j ∈ oxs := by
    split at hr
    · rename_i hfr
      injection hr with e1 e2
      have hfr : off + len * z = n := by simpa using hfr
      obtain ⟨h2, h3⟩ := hh.retire id cc n ancs hget
      refine ⟨_, id :: ancs, h2, rfl, h3, e1.symm, e2.symm, fun j oj b hj hb hbg => ?_⟩
      by_cases hji : j = id
      · subst hji
        simp only at hj
        rw [Tr.get_set] at hj
        injection hj with hj
        rw [hl] at hb
        injection hb with hb
        subst hb hj
        exact ⟨_, _, _, rfl, by omega, List.mem_cons_self⟩
      · simp only at hj
        rw [Tr.get_set_ne _ _ _ _ hji] at hj
        have := hh.share id j _ oj l' b hget hj (Ne.symm hji) rfl hl hb hbg.symm
        cases oj with
        | map es => exact this.elim
        | cells c' n' own' q =>
          cases own' with
          | true => exact this.elim
          | false => exact ⟨_, _, _, rfl, by have := this.2; omega, List.mem_cons_of_mem _ this.1⟩
    · injection hr with e1 e2
      have hsub : ∀ j oj, (kill (id :: ancs) os).get j = some oj → os.get j = some oj ∧ j ≠ id ∧ j ∉ ancs := fun j oj hj => by
        rw [get_kill] at hj
        by_cases hm : j ∈ id :: ancs
        · simp [hm] at hj
        · simp only [hm, if_false] at hj
          simp only [List.mem_cons, not_or] at hm
          exact ⟨hj, hm.1, hm.2⟩
      obtain ⟨h2, h3⟩ := hh.sub (h' := ⟨kill (id :: ancs) os, nx⟩) (fun j oj hj => (hsub j oj hj).1) rfl
      refine ⟨_, [], h2, rfl, fun g hg => ?_, e1.symm, e2.symm, fun j oj b hj hb hbg => ?_⟩
      · obtain ⟨j, b, hb, hbg, hown⟩ := hg
        refine ⟨j, b, hb, hbg, ?_⟩
        cases hgj : (kill (id :: ancs) os).get j with
        | none => simp only at hown; rw [hgj] at hown; cases hown
        | some oj => simp only at hown; rw [hgj] at hown; simp only; rw [(hsub j oj hgj).1]; exact hown
      · obtain ⟨h4, h5, h6⟩ := hsub j oj hj
        have := hh.share id j _ oj l' b hget h4 (Ne.symm h5) rfl hl hb hbg.symm
        cases oj with
        | map es => exact this.elim
        | cells c' n' own' q =>
          cases own' with
          | true => exact this.elim
          | false => exact absurd this.1 h6
  obtain ⟨h1, oxs, hh1, hn1, hown1, rfl, rfl, hno⟩ := hold
  subst hn1
  subst hs
  by_cases hroom : len + m ≤ cap
  · -- there is room
    have hcap : cap ≠ 0 := by omega
    have had := hc3 hcap
    subst had
    have hfit : l'.base + off + len * i.size + news.length ≤ arr.size := by
      have h5 : (len + m) * i.size ≤ cap * i.size := Nat.mul_le_mul_right _ hroom
      rw [Nat.add_mul] at h5
      rw [hxl]
      omega
    have hrun := run_append_room_src (P := P) w t u o.type el i ht hi l'.g (l'.base + off) len cap (a.eval x) m news hsrc hroom (fun j hj => by
      rw [cell_of_row w l'.g _ arr ty (0, 0) hg, Array.getElem?_eq_getElem (by omega)]
      rfl) (fun j hj => by simp [World.frozen?, hg])
    rw [setCells_row hg (by omega) hx1 P] at hrun
    rw [← hsv] at hrun
    have hgrow := hh1.grow (h0 := ⟨os, h1.next⟩) (w' := w.setRow l'.g (arr.toList.take (l'.base + off + len * i.size) ++ news ++ arr.toList.drop (l'.base + off + len * i.size + news.length)).toArray) l'.g (l'.base + off) ((len + m) * i.size) (l'.base + off + len * i.size) c2 oxs arr ty news hg rfl hfit
      (by rw [Nat.add_mul, ← hxl]; omega)
      (fun j oj b hj hb hbg => by
        obtain ⟨c', n', q, h5, h6, h7⟩ := hno j oj b hj hb hbg
        exact ⟨c', n', q, h5, h6, by rw [Nat.add_mul]; omega, h7⟩)
      (fun j y hj hy => by
        rcases hspec j y (by rw [hxa, hxl, ← Nat.add_mul]; exact hj) hy with ⟨h5, h6⟩ | ⟨h5, h6⟩
        · obtain ⟨u, h7, h8⟩ := hcells1 j y h5 h6
          refine ⟨u, ?_, h8⟩
          rw [List.append_assoc, List.getElem?_append_left (by simp only [List.length_take, Array.length_toList]; omega), List.getElem?_take_of_lt (by omega), Array.getElem?_toList]
          exact h7
        · obtain ⟨u, h7, h8⟩ := VRl.nth _ hxs h6
          have h9 : j - len * i.size < news.length := (List.getElem?_eq_some_iff.1 h7).1
          refine ⟨u, ?_, h8, hx1 u (List.mem_of_getElem? h7)⟩
          rw [List.append_assoc, List.getElem?_append_right (by simp only [List.length_take, Array.length_toList]; omega), List.getElem?_append_left (by simp only [List.length_take, Array.length_toList]; omega), ← h7]
          congr 1
          simp only [List.length_take, Array.length_toList]
          omega)
      hown1 ⟨id, l', hl, rfl, by simp only; rw [hget]; rfl⟩ rfl
    refine .value (append_exec ho hc hargs hty hrun) ⟨_, _, cap, upd_same, rfl, hroom, (by intro h; cases h), fun _ => rfl, ?_⟩ hgrow.1 hgrow.2
    show l'.base + off + 0 + cap * i.size ≤ arr.size
    omega
  · -- there is none
    have hnc : cap < len + m := by omega
    have hfitA : l'.base + off + len * i.size ≤ arr.size := by omega
    by_cases hcap : cap = 0
    · have hl0 : len = 0 := by omega
      subst hcap hl0
      have hfc : (Builtin.firstCells i.size 0 (.slice (some ad) 0 0)).run P w.drew = .ok ([] : List Value).toArray w.drew := by
        simp [Builtin.firstCells, loadCells, loadCellsFrom]
      have hrun := grow_run (P := P) (w := w) (ty := o.type) ht hi hzv hb hsrc hfc hnc hsm
      rw [← hsv] at hrun
      refine newGrown_ok hh1 rfl hown1 (by simp [hxl]) hzs (fun j y hj hy => ?_) (append_exec ho hc hargs hty hrun)
      rcases hspec j y (by rw [hxa, hxl, ← Nat.add_mul]; exact hj) hy with ⟨h5, h6⟩ | ⟨h5, h6⟩
      · omega
      · obtain ⟨u, h7, h8⟩ := VRl.nth _ hxs h6
        exact ⟨u, by simpa using h7, h8, hx1 u (List.mem_of_getElem? h7)⟩
    · have had := hc3 hcap
      subst had
      have hfc := olds_firstCells (P := P) (z := i.size) (n := len) (c := cap) hg hfitA w.drew rfl
      have hrun := grow_run (P := P) (w := w) (ty := o.type) ht hi hzv hb hsrc hfc hnc hsm
      rw [← hsv] at hrun
      have hol : ((arr.toList.drop (l'.base + off)).take (len * i.size)).length = len * i.size := by simp; omega
      refine newGrown_ok hh1 rfl hown1 (by rw [List.length_append, hol, hxl, Nat.add_mul]) hzs (fun j y hj hy => ?_) (append_exec ho hc hargs hty hrun)
      rcases hspec j y (by rw [hxa, hxl, ← Nat.add_mul]; exact hj) hy with ⟨h5, h6⟩ | ⟨h5, h6⟩
      · obtain ⟨u, h7, h8⟩ := hcells1 j y h5 h6
        refine ⟨u, ?_, h8⟩
        rw [List.getElem?_append_left (by omega), List.getElem?_take_of_lt h5, List.getElem?_drop, Array.getElem?_toList]
        exact h7
      · obtain ⟨u, h7, h8⟩ := VRl.nth _ hxs h6
        refine ⟨u, ?_, h8, hx1 u (List.mem_of_getElem? h7)⟩
        rw [List.getElem?_append_right (by omega), hol]
        exact h7

end
end Go.Proofs.YtfmlgiafkbakcaaGreatDoor.Ev

namespace Go.Proofs.YtfmlgiafkbakcaaGreatDoor.Ev
open Go.MapKept

section
variable {P : Program} {a : Act} {o : Oper} {ι : Io} {w : World} {h h' : H} {v : AV}

theorem appendB_ok (hh : HR h ι w) {s x : Operand} {c : Call} {t u el : TypeId} (ho : o.op = .call c) (hc : c.callee = .builtin .append) (hargs : c.args.toList = [s, x]) (hty : c.argTypes.toList = [t, u]) (ht : P.underlying t = some (.slice el))
    {i : TypeInfo} {zv : Value} (hi : P.info? el = some i) (hb : i.bytes ≤ 1000) (hs0 : i.size ≠ 0) (hzv : i.zero = some zv) (hzs : zv.cells.size = i.size) {sa xs : AV} {m : Nat} {news : List Value} (hs : VR ι sa (a.eval s))
    (h1 : VRl ι xs news) (h2 : ∀ u ∈ news, u.oneCell' = true) (h3 : news.length = m * i.size) (hsrc : Src P i.size u (a.eval x) m news w) (hr : appendB i.size sa xs m h = .ok v h') : OpOk P a o v h ι w h' := by
  unfold appendB at hr
  split at hr
  · -- nothing
    have hn : news = [] := List.eq_nil_of_length_eq_zero (by simpa using h3)
    subst hn
    split at hr
    case h_3 => cases hr
    · injection hr with e1 e2
      subst e1 e2
      simp only [VR] at hs
      refine .pure hh (append_exec ho hc hargs hty ?_) (u := .slice none 0 0) rfl
      rw [hs]
      exact append_zero ht hi hsrc (Nat.le_refl _)
    · injection hr with e1 e2
      subst e1 e2
      have hs2 := hs
      simp only [VR] at hs
      obtain ⟨l, ad, cap, hl, hsv, hc1, _⟩ := hs
      refine .pure hh (append_exec ho hc hargs hty ?_) (u := a.eval s) hs2
      rw [hsv]
      exact append_zero ht hi hsrc hc1
  · rename_i hm0
    have hm0 : m ≠ 0 := fun e => hm0 e
    split at hr
    case h_3 => cases hr
    · -- onto nil
      split at hr
      case h_2 => cases hr
      rename_i hlt
      have hlt : m < 1000000 := by simpa using hlt
      simp only [VR] at hs
      obtain ⟨os, nx⟩ := h
      simp only [appendNew] at hr
      injection hr with e1 e2
      subst e1 e2
      have hfc : (Builtin.firstCells i.size 0 (.slice none 0 0)).run P w.drew = .ok ([] : List Value).toArray w.drew := by simp [Builtin.firstCells]
      have hrun := grow_run (P := P) (w := w) (ty := o.type) ht hi hzv hb hsrc hfc (by omega) (by omega)
      rw [← hs] at hrun
      have := newGrown_ok (a := a) (o := o) (P := P) (h := ⟨os, nx⟩) (h1 := ⟨os, nx⟩) (n := 0) (m := m) (z := i.size) (olds := []) (oxs := []) (c2 := Tr.nil.putL 0 xs) (cap := 0) hh rfl (fun _ h => h) (by simpa using h3) ?_ (fun j y hj hy => ?_) (append_exec ho hc hargs hty hrun)
      · simpa using this
      · exact hzs
      · rw [Nat.zero_add] at hj
        obtain ⟨q, h4, h5⟩ := cells_put h1 h2 j y (by rw [VRl.length h1, h3]; exact hj) hy
        exact ⟨q, by simpa using h4, h5⟩
    · rename_i id off len z' ex
      split at hr
      case h_2 => cases hr
      rename_i hc0
      simp only [Bool.and_eq_true, Nat.beq_eq, Nat.blt_eq] at hc0
      obtain ⟨hzz, hlt⟩ := hc0
      subst hzz
      split at hr
      · -- it bears no more
        split at hr
        case h_2 => cases hr
        rename_i ss hss
        rw [forceN_eq] at hr
        obtain ⟨olds, h4, h5, h6, h7⟩ := slice_src hh hs hss rfl
        simp only [VR] at hs
        obtain ⟨l, ad, cap, hl, hsv, hc1, hc2, hc3, hc4⟩ := hs
        have hcl : len = cap := (hc2 trivial).symm
        subst hcl
        obtain ⟨os, nx⟩ := h
        simp only [appendNew] at hr
        injection hr with e1 e2
        subst e1 e2
        rcases h7 with ⟨h7, _⟩ | ⟨ad', cap', h7, _, h8⟩
        · rw [hsv] at h7; cases h7
        rw [hsv] at h7
        injection h7 with h7 h9 h10
        injection h7 with h7
        subst h7
        have hfc := run_firstCells_some (P := P) w.drew i.size len ad len len olds h6 (by simpa using h8)
        have hrun := grow_run (P := P) (w := w) (ty := o.type) (base := some ad) (n := len) (c := len) ht hi hzv hb hsrc hfc (by omega) hlt
        rw [← hsv] at hrun
        exact newGrown_ok (a := a) (o := o) (P := P) (h := ⟨os, nx⟩) (h1 := ⟨os, nx⟩) (n := len) (m := m) (z := i.size) (olds := olds) (oxs := []) (c2 := (Tr.nil.putL 0 ss).putL (len * i.size) xs) (cap := len) hh rfl (fun _ h => h) (by rw [List.length_append, h6, h3, Nat.add_mul]) hzs (fun j y hj hy => get_two h4 h5 h1 h2 h6 j y (by rw [h3, ← Nat.add_mul]; exact hj) hy) (append_exec ho hc hargs hty hrun)
      · exact appendOwn_ok hh ho hc hargs hty ht hi rfl hb hs0 hzv hzs (_sv := rfl) hs h1 h2 h3 hsrc hm0 hlt hr

theorem append_ok (hh : HR h ι w) {s x : Operand} {c : Call} {t u el el' : TypeId} (ho : o.op = .call c) (hc : c.callee = .builtin .append) (hargs : c.args.toList = [s, x]) (hty : c.argTypes.toList = [t, u]) (ht : elemT P t = some el) (hu : elemT P u = some el')
    {z : Nat} (hz : szT P el = some z) (hsm : smallT P el = true) {sa xa : AV} (hs : VR ι sa (a.eval s)) (hx : VR ι xa (a.eval x)) (hr : appendA z sa xa h = .ok v h') : OpOk P a o v h ι w h' := by
  have ht := elemT_spec ht
  have hu := elemT_spec hu
  obtain ⟨i, zv, hi, hb, hs0, hzv, hzs⟩ := smallT_spec hsm
  obtain ⟨i', hi', hsz⟩ := szT_info hz
  rw [hi] at hi'
  injection hi' with hi'
  subst hi'
  unfold appendA at hr
  split at hr
  case h_2 => cases hr
  rename_i xs m hxs hm
  obtain ⟨news, h1, h2, h3, hsrc⟩ := src_of hh hu hx hxs hm
  subst hsz
  exact appendB_ok hh ho hc hargs hty ht hi hb hs0 hzv hzs hs h1 h2 h3 hsrc hr

theorem strCells_rel (ι : Io) : ∀ (l n : Nat), VRl ι (strCells l n) ((decS l n).map fun b => Value.int .u8 (b.toNat : Int))
  | 0, n => by simp [strCells, decS, VRl]
  | l + 1, n => by
    simp only [strCells, forceN_eq, decS, List.map_cons, VRl]
    refine ⟨_, _, rfl, ?_, strCells_rel ι l _⟩
    simp only [VR]
    have h1 : (UInt8.ofNat (n % 256)).toNat = n % 256 := by simp
    rw [h1]
    rfl

theorem byteCells_strV (l n : Nat) : byteCells (strV l n) = (decS l n).map fun b => Value.int .u8 (b.toNat : Int) := by
  simp [byteCells, strV]

/-- a text's bytes appended -/
theorem appendS_ok (hh : HR h ι w) {s x : Operand} {c : Call} {t u el : TypeId} (ho : o.op = .call c) (hc : c.callee = .builtin .append) (hargs : c.args.toList = [s, x]) (hty : c.argTypes.toList = [t, u]) (ht : elemT P t = some el) (hu : P.underlying u = some .string)
    (hz : szT P el = some 1) (hsm : smallT P el = true) {sa xa : AV} (hs : VR ι sa (a.eval s)) (hx : VR ι xa (a.eval x)) (hr : appendSA sa xa h = .ok v h') : OpOk P a o v h ι w h' := by
  have ht := elemT_spec ht
  obtain ⟨i, zv, hi, hb, hs0, hzv, hzs⟩ := smallT_spec hsm
  obtain ⟨i', hi', hsz⟩ := szT_info hz
  rw [hi] at hi'
  injection hi' with hi'
  subst hi'
  unfold appendSA at hr
  split at hr
  case h_2 => cases hr
  rename_i m n
  simp only [VR] at hx
  obtain ⟨hx, _⟩ := hx
  have hsize : (strV m n).size = m := by
    show (decS m n).toArray.size = m
    simp [decS_length]
  have hsrc : Src P i.size u (a.eval x) m (byteCells (strV m n)) w := by
    rw [hsz, hx]
    have := Src.ofString (P := P) w hu (strV m n)
    rw [hsize] at this
    exact this
  have h1 := strCells_rel ι m n
  rw [← byteCells_strV] at h1
  rw [← hsz] at hr
  exact appendB_ok hh ho hc hargs hty ht hi hb hs0 hzv hzs hs h1 hsrc.one hsrc.newsLen hsrc hr

/-- the operation, once copy is known -/
theorem copy_exec {s x : Operand} {c : Call} {t u : TypeId} (ho : o.op = .call c) (hc : c.callee = .builtin .copy) (hargs : c.args.toList = [s, x]) (hty : c.argTypes.toList = [t, u]) {r : Value} {w' : World}
    (hrun : (Builtin.copy_ #[t, u] o.type #[a.eval s, a.eval x]).run P w = .ok r w') : (execOp a.eval o).run P w = .ok (.value r) w' := by
  have hm : c.args.map a.eval = #[a.eval s, a.eval x] := by
    apply Array.ext'
    simp [hargs]
  have hm2 : c.argTypes = #[t, u] := by
    apply Array.ext'
    simp [hty]
  unfold execOp
  rw [ho]
  simp only [resolve, hc, invoke, builtin, hm, hm2, Sem.run_bind, Sem.run_pure, Result.andThen_ok, hrun]

theorem isSl_spec {x : AV} (h : isSl x = true) {u : Value} (hx : VR ι x u) {m : Nat} (hm : lenA x = some m) : ∃ ad cap, u = .slice ad m cap := by
  unfold isSl at h
  split at h
  · simp only [lenA, Option.some.injEq] at hm
    subst hm
    simp only [VR] at hx
    exact ⟨_, _, hx⟩
  · simp only [lenA, Option.some.injEq] at hm
    subst hm
    simp only [VR] at hx
    obtain ⟨l, ad, cap, _, hx, _⟩ := hx
    exact ⟨_, _, hx⟩
  · cases h

theorem copy_ok (hh : HR h ι w) {s x : Operand} {c : Call} {t u el el' : TypeId} (ho : o.op = .call c) (hc : c.callee = .builtin .copy) (hargs : c.args.toList = [s, x]) (hty : c.argTypes.toList = [t, u]) (ht : elemT P t = some el) (_hu : elemT P u = some el')
    {z : Nat} (hz : szT P el = some z) {sa xa : AV} (hs : VR ι sa (a.eval s)) (hx : VR ι xa (a.eval x)) (hr : copyA z sa xa h = .ok v h') : OpOk P a o v h ι w h' := by
  have ht := elemT_spec ht
  obtain ⟨i, hi, hsz⟩ := szT_info hz
  unfold copyA at hr
  split at hr
  case h_2 => cases hr
  rename_i m n hsl hm hn
  simp only [Bool.and_eq_true] at hsl
  split at hr
  · rename_i hk
    injection hr with e1 e2
    subst e1 e2
    obtain ⟨ad, cap, e1⟩ := isSl_spec hsl.1 hs hm
    obtain ⟨ad', cap', e2⟩ := isSl_spec hsl.2 hx hn
    refine .pure hh (copy_exec ho hc hargs hty (r := .int .i64 0) ?_) rfl
    rw [e1, e2]
    have hl : ∀ (x : Addr), (loadCells x 0).run P w = .ok #[] w := fun x => by simpa using run_loadCells_list (P := P) w x [] (by simp)
    cases ad <;> cases ad' <;> simp [Builtin.copy_, run_underlying ht, Builtin.lenOf, Builtin.firstCells, sizeOf, typeInfo, hi, hk, storeCells, hl, goInt]
  · rename_i k hk
    split at hr
    case h_2 => cases hr
    rename_i id off len z' ex id' off' len' z'' ex'
    split at hr
    case h_2 => cases hr
    rename_i cs hzz hcs
    simp only [Bool.and_eq_true, Nat.beq_eq] at hzz
    obtain ⟨rfl, rfl⟩ := hzz
    split at hr
    case h_2 => cases hr
    rename_i h2 hput
    rw [forceN_eq] at hr
    injection hr with e1 e2
    subst e1 e2
    simp only [lenA, Option.some.injEq] at hm hn
    subst hm hn
    have hk2 : min len' len = k + 1 := hk
    simp only [VR] at hs hx
    obtain ⟨l, ad, cap, hl, hsv, hc1, hc2, hc3, hc4⟩ := hs
    obtain ⟨l', ad', cap', hl', hxv, hd1, hd2, hd3, hd4⟩ := hx
    have hk4 : k + 1 ≤ cap' := Nat.le_trans (by rw [← hk2]; exact Nat.min_le_left _ _) hd1
    have hk5 : cap ≠ 0 := fun e => by
      have h1 : k + 1 ≤ len := by rw [← hk2]; exact Nat.min_le_right _ _
      rw [e] at hc1
      exact absurd (Nat.le_trans h1 hc1) (Nat.not_succ_le_zero k)
    have hx2 : VR ι (.sl id' off' (k + 1) z false) (.slice (some ad') (k + 1) cap') := by
      simp only [VR]
      exact ⟨l', ad', cap', hl', rfl, hk4, (by intro h; cases h), hd3, hd4⟩
    obtain ⟨vs, h4, h5, h6, h7⟩ := slice_src hh hx2 hcs rfl
    have hsrc : ∀ j u, vs[j]? = some u → w.cell? (ad'.add j) = some u := by
      rcases h7 with ⟨h7, _⟩ | ⟨ad2, cap2, h7, _, h8⟩
      · cases h7
      · injection h7 with h7
        injection h7 with h7
        subst h7
        exact h8
    have hfc := run_firstCells_some (P := P) w z (k + 1) ad' len' cap' vs h6 hsrc
    obtain ⟨l2, w', hl2, hrun, h8, h9⟩ := put_run (P := P) hh hput h4 h5
    have : l2 = l := by rw [hl] at hl2; injection hl2 with hl2; exact hl2.symm
    subst this
    have had := hc3 hk5
    subst had
    refine .value (copy_exec ho hc hargs hty (r := .int .i64 ((k + 1 : Nat) : Int)) ?_) rfl h8 h9
    rw [hsv, hxv]
    have hk3 : Nat.min len' len = k + 1 := hk
    subst hsz
    simp [Builtin.copy_, run_underlying ht, Builtin.lenOf, sizeOf, typeInfo, hi, hk3, hfc, hrun, goInt]

theorem copyS_ok (hh : HR h ι w) {s x : Operand} {c : Call} {t u el : TypeId} (ho : o.op = .call c) (hc : c.callee = .builtin .copy) (hargs : c.args.toList = [s, x]) (hty : c.argTypes.toList = [t, u]) (ht : elemT P t = some el)
    (hz : (P.info? el).isSome = true) {sa xa : AV} (hs : VR ι sa (a.eval s)) (hx : VR ι xa (a.eval x)) (hr : copySA sa xa h = .ok v h') : OpOk P a o v h ι w h' := by
  have ht := elemT_spec ht
  obtain ⟨i, hi⟩ := Option.isSome_iff_exists.1 hz
  unfold copySA at hr
  split at hr
  case h_2 => cases hr
  injection hr with e1 e2
  subst e1 e2
  simp only [VR] at hs hx
  obtain ⟨l, ad, cap, _, hs, _⟩ := hs
  obtain ⟨hx, _⟩ := hx
  refine .pure hh (copy_exec ho hc hargs hty (r := .int .i64 0) ?_) rfl
  rw [hs, hx]
  have h0 : ByteArray.mk #[] = ByteArray.empty := rfl
  simp [Builtin.copy_, run_underlying ht, Builtin.lenOf, Builtin.firstCells, sizeOf, typeInfo, hi, storeCells, goInt, h0, strV, decS]

theorem clear_ok (hh : HR h ι w) {s : Operand} {c : Call} {t el : TypeId} (ho : o.op = .call c) (hc : c.callee = .builtin .clear) (hargs : c.args.toList = [s]) (hty : c.argTypes.toList = [t]) (ht : elemT P t = some el)
    {z : Nat} (_hz : szT P el = some z) {zc : AV} (hzc : zeroC P el = some zc) (_hzl : zc.length = z) {sa : AV} (hs : VR ι sa (a.eval s)) (hr : clearA z zc sa h = .ok v h') : OpOk P a o v h ι w h' := by
  have ht := elemT_spec ht
  have hm : c.args.map a.eval = #[a.eval s] := by
    apply Array.ext'
    simp [hargs]
  have hm2 : c.argTypes = #[t] := by
    apply Array.ext'
    simp [hty]
  obtain ⟨i, zv, hi, hzv, h1, h2⟩ := zeroC_info (ι := ι) hzc
  have hzs : zv.cells.size = zc.length := by rw [VRl.length h1]; simp
  unfold clearA at hr
  split at hr
  case h_3 => cases hr
  · injection hr with e1 e2
    subst e1 e2
    simp only [VR] at hs
    refine .pure hh (u := .tuple #[]) ?_ ⟨[], rfl, rfl⟩
    unfold execOp
    rw [ho]
    simp [resolve, hc, invoke, builtin, hm, hm2, hs, Builtin.clear_, run_underlying ht]
  · rename_i id off len z' ex
    split at hr
    case h_2 => cases hr
    rename_i h2' hbeq hput
    injection hr with e1 e2
    subst e1 e2
    simp only [VR] at hs
    obtain ⟨l, ad, cap, hl, hsv, hc1, hc2, hc3, hc4⟩ := hs
    obtain ⟨h3, h4⟩ := repA_rel h1 h2 len
    obtain ⟨l', w', hl', hrun, h5, h6⟩ := put_run (P := P) hh hput h3 h4
    have : l' = l := by rw [hl] at hl'; injection hl' with hl'; exact hl'.symm
    subst this
    by_cases hlen : len = 0
    · subst hlen
      simp only [List.replicate_zero, List.flatten_nil, storeCells] at hrun
      injection hrun with _ hrun
      subst hrun
      refine .value (u := .tuple #[]) ?_ ⟨[], rfl, rfl⟩ h5 h6
      unfold execOp
      rw [ho]
      simp [resolve, hc, invoke, builtin, hm, hm2, hsv, Builtin.clear_, run_underlying ht]
    · have had := hc3 (by omega)
      subst had
      refine .value (u := .tuple #[]) (w' := w') ?_ ⟨[], rfl, rfl⟩ h5 h6
      have hzr : (Builtin.zeroCells zv.cells len).toList = (List.replicate len zv.cells.toList).flatten := by
        by_cases hz0 : zv.cells.size = 0
        · have h0 : zv.cells = #[] := by simpa using hz0
          simp [Builtin.zeroCells, h0]
        · exact zeroRow_eq zv.cells len hz0
      unfold execOp
      rw [ho]
      simp [resolve, hc, invoke, builtin, hm, hm2, hsv, Builtin.clear_, run_underlying ht, zeroValue, typeInfo, hi, hzv, hzr, hrun]

/-! ### maps -/

theorem makeMap_ok (hh : HR h ι w) {t : TypeId} (ho : o.op = .makeMap t none) (hr : makeMapA h = .ok v h') : OpOk P a o v h ι w h' := by
  obtain ⟨os, nx⟩ := h
  simp only [makeMapA] at hr
  injection hr with e1 e2
  subst e1 e2
  obtain ⟨h1, h2⟩ := hh.push (w' := w.alloc (.map #[] 0)) (.map .nil) (.map #[] 0) 0 0 rfl rfl rfl rfl ⟨_, #[], 0, upd_same, heap_alloc_new w _, rfl⟩
  refine .value (u := .map (some w.heap.size)) (w' := w.alloc (.map #[] 0)) ?_ ⟨_, upd_same, rfl⟩ h1 h2
  unfold execOp
  rw [ho]
  rfl

theorem kdT_spec {t : TypeId} {kd : Nat} (h : kdT P t = some kd) : ∃ d, P.underlying t = some d ∧ ((kd = 0 ∧ ∃ k, d = .int k) ∨ (kd = 1 ∧ d = .string) ∨ (kd = 2 ∧ d = .bool)) := by
  unfold kdT at h
  split at h <;> first | (cases h; done) | (injection h with h; subst h)
  · rename_i k hk; exact ⟨_, hk, .inl ⟨rfl, k, rfl⟩⟩
  · rename_i hk; exact ⟨_, hk, .inr (.inl ⟨rfl, rfl⟩)⟩
  · rename_i hk; exact ⟨_, hk, .inr (.inr ⟨rfl, rfl⟩)⟩

/-- two keys held against each other -/
theorem eqCell_now {d : TypeDesc} {kd : Nat} (hd : (kd = 0 ∧ ∃ k, d = .int k) ∨ (kd = 1 ∧ d = .string) ∨ (kd = 2 ∧ d = .bool)) {k x : AV} {u q : Value} (hk : VR ι k u) (hx : VR ι x q) (hkk : keyKind k = kd) {b : Bool} (h : eqCell k x = some b) :
    Instr.sameNow d u q = some b ∧ (b = true → Instr.sameBits 10000 q u = true) := by
  unfold eqCell at h
  split at h
  case h_4 => cases h
  · rename_i k1 p k2 r
    split at h
    case h_2 => cases h
    rename_i hkn
    have := kindN_inj hkn
    subst this
    injection h with h
    subst h
    simp only [VR] at hk hx
    subst hk hx
    simp only [keyKind] at hkk
    subst hkk
    rcases hd with ⟨_, kk, rfl⟩ | ⟨h0, _⟩ | ⟨h0, _⟩ <;> first | omega | skip
    rw [eqI_eq]
    refine ⟨by simp [Instr.sameNow], fun hb => ?_⟩
    have : p = r := by simpa using hb
    subst this
    simp [Instr.sameBits]
  · rename_i p r
    injection h with h
    subst h
    simp only [VR] at hk hx
    subst hk hx
    simp only [keyKind] at hkk
    subst hkk
    rcases hd with ⟨h0, _⟩ | ⟨h0, _⟩ | ⟨_, rfl⟩ <;> first | omega | skip
    cases p <;> cases r <;> simp [Instr.sameNow, Instr.sameBits]
  · rename_i l1 p l2 r
    injection h with h
    subst h
    simp only [VR] at hk hx
    obtain ⟨rfl, h1⟩ := hk
    obtain ⟨rfl, h2⟩ := hx
    simp only [keyKind] at hkk
    subst hkk
    rcases hd with ⟨h0, _⟩ | ⟨_, rfl⟩ | ⟨h0, _⟩ <;> first | omega | skip
    have key : (strV l1 p == strV l2 r) = (l1.beq l2 && p.beq r) := by
      apply Bool.eq_iff_iff.2
      rw [bytes_beq, strV_eq h1 h2]
      simp
    refine ⟨by simp only [Instr.sameNow, key], fun hb => ?_⟩
    have h3 : strV l1 p = strV l2 r := by
      have : (strV l1 p == strV l2 r) = true := by rw [key]; exact hb
      exact (bytes_beq _ _).1 this
    rw [h3]
    simp only [Instr.sameBits]
    exact (bytes_beq _ _).2 rfl

/-- a key that is looked for -/
theorem find_rel {d : TypeDesc} {kd : Nat} (hd : (kd = 0 ∧ ∃ k, d = .int k) ∨ (kd = 1 ∧ d = .string) ∨ (kd = 2 ∧ d = .bool)) {k : AV} {u : Value} (hk : VR ι k u) (hkk : keyKind k = kd) : ∀ (es : AV) (l : List MapEntry) (i : Nat) (r : Option AV), MR ι es l → findA k es = some r →
    (r = none ∧ Instr.findNow d u l i = some none) ∨ ∃ x j e, r = some x ∧ Instr.findNow d u l i = some (some (i + j, e.val)) ∧ l[j]? = some e ∧ VR ι x e.val
  | .nil, l, i, r, hm, hf => by
    simp only [MR] at hm
    simp only [findA, Option.some.injEq] at hf
    subst hm hf
    exact .inl ⟨rfl, rfl⟩
  | .cons (.cons a b) es, l, i, r, hm, hf => by
    simp only [MR] at hm
    obtain ⟨e, m, rfl, h1, h2, h3⟩ := hm
    simp only [findA] at hf
    split at hf
    case h_3 => cases hf
    · rename_i hc
      injection hf with hf
      subst hf
      obtain ⟨h4, _⟩ := eqCell_now hd hk h1 hkk hc
      exact .inr ⟨b, 0, e, rfl, by simp [Instr.findNow, h4], rfl, h2⟩
    · rename_i hc
      obtain ⟨h4, _⟩ := eqCell_now hd hk h1 hkk hc
      rcases find_rel hd hk hkk es m (i + 1) r h3 hf with ⟨rfl, h5⟩ | ⟨x, j, e', rfl, h5, h6, h7⟩
      · exact .inl ⟨rfl, by simp [Instr.findNow, h4, h5]⟩
      · exact .inr ⟨x, j + 1, e', rfl, by simp [Instr.findNow, h4, h5]; omega, by simpa using h6, h7⟩

/-- a key that is written -/
theorem put_rel {d : TypeDesc} {kd : Nat} (hd : (kd = 0 ∧ ∃ k, d = .int k) ∨ (kd = 1 ∧ d = .string) ∨ (kd = 2 ∧ d = .bool)) {k x : AV} {u y : Value} (hk : VR ι k u) (hx : VR ι x y) (hkk : keyKind k = kd) (clk : Nat) : ∀ (es : AV) (l : List MapEntry) (i : Nat) (es' : AV), MR ι es l → putE k x es = some es' →
    (Instr.findNow d u l i = some none ∧ MR ι es' (l ++ [{ key := u, val := y, born := clk }])) ∨
    ∃ j e, Instr.findNow d u l i = some (some (i + j, e.val)) ∧ l[j]? = some e ∧ Instr.sameBits 10000 e.key u = true ∧ MR ι es' (l.modify j fun e => { e with key := u, val := y })
  | .nil, l, i, es', hm, hf => by
    simp only [MR] at hm
    simp only [putE, Option.some.injEq] at hf
    subst hm hf
    exact .inl ⟨rfl, _, [], rfl, hk, hx, rfl⟩
  | .cons (.cons a b) es, l, i, es', hm, hf => by
    simp only [MR] at hm
    obtain ⟨e, m, rfl, h1, h2, h3⟩ := hm
    simp only [putE] at hf
    split at hf
    case h_3 => cases hf
    · rename_i hc
      injection hf with hf
      subst hf
      obtain ⟨h4, h5⟩ := eqCell_now hd hk h1 hkk hc
      refine .inr ⟨0, e, by simp [Instr.findNow, h4], rfl, h5 rfl, ?_⟩
      simp only [MR]
      exact ⟨{ e with key := u, val := y }, m, by simp, hk, hx, h3⟩
    · rename_i hc
      split at hf
      case h_2 => cases hf
      rename_i r hr
      injection hf with hf
      subst hf
      obtain ⟨h4, _⟩ := eqCell_now hd hk h1 hkk hc
      rcases put_rel hd hk hx hkk clk es m (i + 1) r h3 hr with ⟨h5, h6⟩ | ⟨j, e', h5, h6, h7, h8⟩
      · exact .inl ⟨by simp [Instr.findNow, h4, h5], e, _, rfl, h1, h2, h6⟩
      · exact .inr ⟨j + 1, e', by simp [Instr.findNow, h4, h5]; omega, by simpa using h6, h7, e, _, by simp, h1, h2, h8⟩

theorem lookup_ok (hh : HR h ι w) {t kt el : TypeId} {m k : Operand} {ok : Bool} (ho : o.op = .lookup t m k ok) (ht : P.underlying t = some (.map kt el)) {zero : AV} (hz : zeroT P el = some zero) {kd : Nat} (hkd : kdT P kt = some kd) {ma ka : AV} (hm : VR ι ma (a.eval m)) (hk : VR ι ka (a.eval k)) (hr : lookupA kd zero ok ma ka h = .ok v h') : PureR P a o v h ι w h' := by
  obtain ⟨d, hd, hdk⟩ := kdT_spec hkd
  obtain ⟨i, zv, hi, hzv, hav⟩ := zeroT_info hz
  have hzr := VR.of ι hav
  have hck : ∀ (e : Bool), (Instr.checkKey e 10000 kt (a.eval k)).run P w = .ok () w := fun e => by
    unfold Instr.checkKey
    rcases hdk with ⟨_, kk, rfl⟩ | ⟨_, rfl⟩ | ⟨_, rfl⟩ <;> simp [run_underlying hd]
  unfold lookupA at hr
  split at hr
  case h_3 => cases hr
  · rename_i id
    split at hr
    case h_2 => cases hr
    rename_i es hget hkb
    have hkk : keyKind ka = kd := by simpa using hkb
    obtain ⟨l, ents, clk, hl, hg, hmr⟩ := hh.obj id _ hget
    simp only [VR] at hm
    obtain ⟨l', hl', hmv⟩ := hm
    have : l' = l := by rw [hl] at hl'; injection hl' with hl'; exact hl'.symm
    subst this
    split at hr
    case h_3 => cases hr
    · rename_i x hf
      injection hr with e1 e2
      subst e1 e2
      rcases find_rel hdk hk hkk es ents.toList 0 _ hmr hf with ⟨h0, _⟩ | ⟨y, j, e, h0, h1, h2, h3⟩
      · cases h0
      · injection h0 with h0
        subst h0
        have hfk := run_findKey (P := P) (w := w) hd h1
        refine ⟨rfl, (if ok then .tuple #[e.val, .bool true] else e.val), ?_, ?_⟩
        · unfold execOp
          rw [ho]
          simp [hmv, Instr.lookup, run_underlying ht, MapKept.run_getObj_map hg, hck, hfk]
        · cases ok
          · exact h3
          · exact ⟨[_, _], rfl, by simp only [VRl]; exact ⟨_, _, rfl, h3, _, _, rfl, rfl, rfl⟩⟩
    · rename_i hf
      injection hr with e1 e2
      subst e1 e2
      rcases find_rel hdk hk hkk es ents.toList 0 _ hmr hf with ⟨_, h1⟩ | ⟨y, j, e, h0, _⟩
      · have hfk := run_findKey (P := P) (w := w) hd h1
        refine ⟨rfl, (if ok then .tuple #[zv, .bool false] else zv), ?_, ?_⟩
        · unfold execOp
          rw [ho]
          simp [hmv, Instr.lookup, run_underlying ht, MapKept.run_getObj_map hg, hck, hfk, zeroValue, typeInfo, hi, hzv]
        · cases ok
          · exact hzr
          · exact ⟨[_, _], rfl, by simp only [VRl]; exact ⟨_, _, rfl, hzr, _, _, rfl, rfl, rfl⟩⟩
      · cases h0
  · split at hr
    case h_2 => cases hr
    injection hr with e1 e2
    subst e1 e2
    simp only [VR] at hm
    have hfk : (Instr.findKey kt (a.eval k) []).run P w = .ok none w := run_findKey (P := P) (w := w) hd rfl
    refine ⟨rfl, (if ok then .tuple #[zv, .bool false] else zv), ?_, ?_⟩
    · unfold execOp
      rw [ho]
      simp [hm, Instr.lookup, run_underlying ht, hck, hfk, zeroValue, typeInfo, hi, hzv]
    · cases ok
      · exact hzr
      · exact ⟨[_, _], rfl, by simp only [VRl]; exact ⟨_, _, rfl, hzr, _, _, rfl, rfl, rfl⟩⟩

/-- a map written -/
theorem HR.putMap (hh : HR h ι w) {id : Nat} {es es' : AV} (hget : h.objs.get id = some (.map es)) {l : Loc} (hl : ι id = some l) {ents : Array MapEntry} {clk clk' : Nat} {ents' : Array MapEntry} (hg : w.heap[l.g]? = some (.map ents clk)) (hm : MR ι es' ents'.toList) {w' : World} (hw : w' = { w with heap := w.heap.setIfInBounds l.g (.map ents' clk') }) :
    HR ⟨h.objs.set (some (.map es')) id, h.next⟩ ι w' ∧ Stp h ι w ⟨h.objs.set (some (.map es')) id, h.next⟩ ι w' := by
  obtain ⟨hs1, hs2⟩ := heap_set (o' := .map ents' clk') hg
  have hsz : w'.heap.size = w.heap.size := by rw [hw]; simp
  have hfar : ∀ g, g ≠ l.g → w'.heap[g]? = w.heap[g]? := fun g hg => by rw [hw]; exact hs2 g hg
  have hne : ∀ j oj b, h.objs.get j = some oj → j ≠ id → ι j = some b → b.g ≠ l.g := fun j oj b hj hji hb hbg => by
    exact hh.share id j _ oj l b hget hj (Ne.symm hji) rfl hl hb hbg.symm
  have hget' : ∀ j oj, (h.objs.set (some (.map es')) id).get j = some oj → (j = id ∧ oj = .map es') ∨ (j ≠ id ∧ h.objs.get j = some oj) := fun j oj hj => by
    by_cases hji : j = id
    · subst hji; rw [Tr.get_set] at hj; injection hj with hj; exact .inl ⟨rfl, hj.symm⟩
    · rw [Tr.get_set_ne _ _ _ _ hji] at hj; exact .inr ⟨hji, hj⟩
  have hown : ∀ j, isOwn ((h.objs.set (some (.map es')) id).get j) = true → isOwn (h.objs.get j) = true := fun j hj => by
    cases hgj : (h.objs.set (some (.map es')) id).get j with
    | none => rw [hgj] at hj; cases hj
    | some oj =>
      rw [hgj] at hj
      rcases hget' j oj hgj with ⟨rfl, rfl⟩ | ⟨_, h1⟩
      · rw [hget]; rfl
      · rw [h1]; exact hj
  refine ⟨⟨fun j oj hj => ?_, fun i j oi oj x y hi hj hij ho hx hy hxy => ?_, fun j hj => ?_, fun j b hb => by rw [hsz]; exact hh.lt j b hb⟩, ⟨Ext.refl _, by rw [hsz]; exact Nat.le_refl _, fun g hg' hno => ?_, fun g hg' => .inr ?_, by rw [hw], by rw [hw], by rw [hw], Nat.le_refl _, fun id l a b => by rw [b] at a; cases a⟩⟩
  · rcases hget' j oj hj with ⟨rfl, rfl⟩ | ⟨hji, h1⟩
    · exact ⟨l, ents', clk', hl, by rw [hw]; exact hs1, hm⟩
    · exact (hh.obj j oj h1).ext (Ext.refl _) fun b hb => hfar _ (hne j oj b h1 hji hb)
  · rcases hget' i oi hi with ⟨rfl, rfl⟩ | ⟨hii, h1⟩
    · rcases hget' j oj hj with ⟨rfl, _⟩ | ⟨hjj, h2⟩
      · exact absurd rfl hij
      · rw [hl] at hx
        injection hx with hx
        subst hx
        exact absurd hxy.symm (hne j oj y h2 hjj hy)
    · rcases hget' j oj hj with ⟨rfl, rfl⟩ | ⟨hjj, h2⟩
      · rw [hl] at hy
        injection hy with hy
        subst hy
        exact absurd hxy (hne i oi x h1 hii hx)
      · exact hh.share i j oi oj x y h1 h2 hij ho hx hy hxy
  · obtain ⟨h1, h2⟩ := hh.fresh j hj
    have hji : j ≠ id := fun e => by rw [e, hget] at h1; cases h1
    exact ⟨by simp only; rw [Tr.get_set_ne _ _ _ _ hji]; exact h1, h2⟩
  · exact hfar g fun e => hno ⟨id, l, hl, e.symm, by rw [hget]; rfl⟩
  · obtain ⟨j, b, hb, hbg, ho⟩ := hg'
    exact ⟨j, b, hb, hbg, hown j ho⟩

theorem mapUpdate_ok (hh : HR h ι w) {t kt el : TypeId} {m k x : Operand} (ho : o.op = .mapUpdate t m k x ∨ o.op = .insert t m k x) (ht : P.underlying t = some (.map kt el)) {kd : Nat} (hkd : kdT P kt = some kd) {ma ka xa : AV} (hm : VR ι ma (a.eval m)) (hk : VR ι ka (a.eval k)) (hx : VR ι xa (a.eval x)) (hr : mapUpdateA kd ma ka xa h = .ok v h') : OpOk P a o v h ι w h' := by
  obtain ⟨d, hd, hdk⟩ := kdT_spec hkd
  have hck : ∀ (e : Bool), (Instr.checkKey e 10000 kt (a.eval k)).run P w = .ok () w := fun e => by
    unfold Instr.checkKey
    rcases hdk with ⟨_, kk, rfl⟩ | ⟨_, rfl⟩ | ⟨_, rfl⟩ <;> simp [run_underlying hd]
  unfold mapUpdateA at hr
  split at hr
  case h_2 => cases hr
  rename_i id
  split at hr
  case h_2 => cases hr
  rename_i es hget hkb
  have hkk : keyKind ka = kd := by simpa using hkb
  obtain ⟨l, ents, clk, hl, hg, hmr⟩ := hh.obj id _ hget
  simp only [VR] at hm
  obtain ⟨l', hl', hmv⟩ := hm
  have : l' = l := by rw [hl] at hl'; injection hl' with hl'; exact hl'.symm
  subst this
  split at hr
  case h_2 => cases hr
  rename_i es' hp
  injection hr with e1 e2
  subst e1 e2
  rcases put_rel hdk hk hx hkk clk es ents.toList 0 es' hmr hp with ⟨h1, h2⟩ | ⟨j, e, h1, h2, h3, h4⟩
  · have hfk := run_findKey (P := P) (w := w) hd h1
    obtain ⟨h5, h6⟩ := hh.putMap (w' := { w with heap := w.heap.setIfInBounds l'.g (.map (ents.push { key := a.eval k, val := a.eval x, born := clk }) (clk + 1)) }) hget hl hg (by simpa using h2) rfl
    refine .skip ?_ h5 h6
    unfold execOp
    rcases ho with ho | ho <;> (rw [ho]; simp [hmv, Instr.mapUpdate, run_underlying ht, MapKept.run_getObj_map hg, hck, hfk, MapKept.run_setObj_map _ hg])
  · have hfk := run_findKey (P := P) (w := w) hd h1
    have h2' : ents[j]? = some e := by simpa using h2
    obtain ⟨h5, h6⟩ := hh.putMap (w' := { w with heap := w.heap.setIfInBounds l'.g (.map (ents.modify j fun e => { e with key := a.eval k, val := a.eval x }) clk) }) hget hl hg (by simpa using h4) rfl
    refine .skip ?_ h5 h6
    unfold execOp
    rcases ho with ho | ho <;> (rw [ho]; simp [hmv, Instr.mapUpdate, run_underlying ht, MapKept.run_getObj_map hg, hck, hfk, MapKept.run_setObj_map _ hg, h2', Instr.keyThatStays, h3])

end
end Go.Proofs.YtfmlgiafkbakcaaGreatDoor.Ev

namespace Go.Proofs.YtfmlgiafkbakcaaGreatDoor.Ev
open Go.MapKept

section
variable {P : Program} {a : Act} {o : Oper} {ι : Io} {w : World} {h h' : H} {v : AV}

theorem leaf_eq {t : TypeId} {kk : Nat} (ht : leafT P t = some kk) {x y : AV} {u q : Value} (hx : VR ι x u) (hy : VR ι y q) (hk : keyKind x = kk) {b : Bool} (he : eqCell x y = some b) (d : Nat) : (Op.equalIn (d + 1) t u q).run P w = .ok b w := by
  unfold leafT at ht
  unfold eqCell at he
  split at he
  case h_4 => cases he
  · rename_i k1 p k2 r
    split at he
    case h_2 => cases he
    rename_i hkn
    have := kindN_inj hkn
    subst this
    injection he with he
    subst he
    simp only [VR] at hx hy
    subst hx hy
    simp only [keyKind] at hk
    subst hk
    split at ht <;> first | (cases ht; done) | (simp at ht; done) | skip
    rename_i k hu
    rw [eqI_eq]
    exact run_equalIn_int w d t k1 k p r hu
  · rename_i p r
    injection he with he
    subst he
    simp only [VR] at hx hy
    subst hx hy
    simp only [keyKind] at hk
    subst hk
    split at ht <;> first | (cases ht; done) | (simp at ht; done) | skip
    rename_i hu
    rw [run_equalIn_bool' w d t p r hu]
    cases p <;> cases r <;> rfl
  · rename_i l1 p l2 r
    injection he with he
    subst he
    simp only [VR] at hx hy
    obtain ⟨rfl, h1⟩ := hx
    obtain ⟨rfl, h2⟩ := hy
    simp only [keyKind] at hk
    subst hk
    split at ht <;> first | (cases ht; done) | (simp at ht; done) | skip
    rename_i hu
    rw [run_equalIn_string w d t _ _ hu, ← beq_toListBytes]
    congr 1
    apply Bool.eq_iff_iff.2
    rw [bytes_beq, strV_eq h1 h2]
    simp

theorem leaf_part {t : TypeId} {kk : Nat} (ht : leafT P t = some kk) {cs : Array Value} {k : Nat} {u : Value} (hc : cs[k]? = some u) : (part t cs k).run P w = .ok u w := by
  have hr : ∃ d, P.underlying t = some d ∧ d.isRow = false := by
    unfold leafT at ht
    split at ht
    · rename_i k hk; exact ⟨_, hk, rfl⟩
    · rename_i hk; exact ⟨_, hk, rfl⟩
    · rename_i hk; exact ⟨_, hk, rfl⟩
    · cases ht
  obtain ⟨d, hd, hrw⟩ := hr
  simp [part, run_isAgg hd, hrw, hc]

theorem flat_eq : ∀ (fs : List Field) (k : Nat) (ks : List Nat) (x y : AV) (L M L' M' : List Value) (b : Bool) (d : Nat), flatT P k fs = some ks → VRl ι x L → VRl ι y M → L'.length = k → M'.length = k → eqCells ks x y = some b → (Op.eqFields (d + 1) (L' ++ L).toArray (M' ++ M).toArray fs).run P w = .ok b w
  | [], k, ks, x, y, L, M, L', M', b, d, hf, hx, hy, _, _, he => by
    simp only [flatT, Option.some.injEq] at hf
    subst hf
    cases x <;> cases y <;> simp only [eqCells, Option.some.injEq, reduceCtorEq] at he
    subst he
    rfl
  | f :: fs, k, ks, x, y, L, M, L', M', b, d, hf, hx, hy, hL, hM, he => by
    simp only [flatT] at hf
    split at hf
    case h_2 => cases hf
    rename_i kk l hc hl hr
    injection hf with hf
    subst hf
    simp only [Bool.and_eq_true, Nat.beq_eq, bne_iff_ne, ne_eq] at hc
    obtain ⟨hnm, hof⟩ := hc
    cases x <;> cases y <;> simp only [eqCells, reduceCtorEq] at he
    rename_i xa xl ya yl
    simp only [VRl] at hx hy
    obtain ⟨u, L2, rfl, hu, hxl⟩ := hx
    obtain ⟨q, M2, rfl, hq, hyl⟩ := hy
    have p1 := leaf_part (P := P) (w := w) hl (cs := (L' ++ u :: L2).toArray) (k := k) (u := u) (by simp [← hL])
    have p2 := leaf_part (P := P) (w := w) hl (cs := (M' ++ q :: M2).toArray) (k := k) (u := q) (by simp [← hM])
    simp only [Op.eqFields]
    rw [if_pos (show f.name ≠ "_" from hnm)]
    simp only [hof, Sem.run_bind, p1, p2, Result.andThen_ok]
    split at he
    case h_3 => cases he
    · rename_i hkk heq
      rw [leaf_eq (w := w) hl hu hq (by simpa using hkk) heq d]
      simp only [Result.andThen_ok, Bool.not_true, Bool.false_eq_true, if_false]
      have := flat_eq fs (k + 1) l xl yl L2 M2 (L' ++ [u]) (M' ++ [q]) b d hr hxl hyl (by simp [hL]) (by simp [hM]) he
      simpa using this
    · rename_i hkk heq
      injection he with he
      subst he
      rw [leaf_eq (w := w) hl hu hq (by simpa using hkk) heq d]
      simp

theorem shape_run (r : Nat) : (shape r).run P w = .ok (w.shape? r) w := rfl
theorem frozen_run (x : Addr) : (frozen x).run P w = .ok (w.frozen? x) w := rfl

theorem sameAddr_apart {g1 g2 o1 o2 : Nat} {c1 c2 : Array Value} {t1 t2 : TypeId} (h1 : w.heap[g1]? = some (.cells c1 t1 (0, 0))) (h2 : w.heap[g2]? = some (.cells c2 t2 (0, 0))) (hne : g1 ≠ g2) : (sameAddr ⟨g1, o1, none⟩ ⟨g2, o2, none⟩).run P w = .ok false w := by
  have s1 : w.shape? g1 = some (t1, c1.size) := by simp [World.shape?, h1]
  have s2 : w.shape? g2 = some (t2, c2.size) := by simp [World.shape?, h2]
  have f1 : ∀ k, w.frozen? ⟨g1, k, none⟩ = false := fun k => by simp [World.frozen?, h1]
  have f2 : ∀ k, w.frozen? ⟨g2, k, none⟩ = false := fun k => by simp [World.frozen?, h2]
  have hb : (g1 == g2) = false := by simpa using hne
  simp [sameAddr, hb, f1, f2, noView, viewAt, s1, s2, mayBeOne, stringish]

theorem eqPtr_run (hh : HR h ι w) {i x j y : Nat} {u q : Value} (hu : VR ι (.ptr i x) u) (hq : VR ι (.ptr j y) q) {b : Bool} (he : eqPtr h i x j y = some b) : ∃ a1 a2, u = .pointer (some a1) ∧ q = .pointer (some a2) ∧ (sameAddr a1 a2).run P w = .ok b w := by
  simp only [VR] at hu hq
  obtain ⟨l1, hl1, rfl⟩ := hu
  obtain ⟨l2, hl2, rfl⟩ := hq
  refine ⟨_, _, rfl, rfl, ?_⟩
  unfold eqPtr at he
  split at he
  · rename_i hij
    have : i = j := by simpa using hij
    subst this
    rw [hl1] at hl2
    injection hl2 with hl2
    subst hl2
    injection he with he
    subst he
    have : ((⟨l1.g, l1.base + x, none⟩ : Addr) == ⟨l1.g, l1.base + y, none⟩) = x.beq y := by
      apply Bool.eq_iff_iff.2
      simp
    simp [sameAddr, this]
  · rename_i hij
    split at he
    case h_2 => cases he
    rename_i hap
    injection he with he
    subst he
    have hij : i ≠ j := fun e => by subst e; simp at hij
    unfold apartIds at hap
    have key : ∀ (p r : Nat) (c c' : Tr AV) (n n' : Nat) (l l' : List Nat) (own' : Bool) (lp lr : Loc), h.objs.get p = some (.cells c n true l) → h.objs.get r = some (.cells c' n' own' l') → p ≠ r → r ∉ l → ι p = some lp → ι r = some lr → lp.g ≠ lr.g := by
      intro p r c c' n n' l l' own' lp lr h1 h2 h3 h4 h5 h6 h7
      have := hh.share p r _ _ lp lr h1 h2 h3 rfl h5 h6 h7
      cases own' with
      | true => exact this
      | false => exact h4 this.1
    have hmem : ∀ (k : Nat) (l : List Nat), memN k l = false → k ∉ l := by
      intro k l
      induction l with
      | nil => simp
      | cons x l ih =>
        intro hm
        simp only [memN] at hm
        split at hm
        · cases hm
        · rename_i hx
          intro hc
          rcases List.mem_cons.1 hc with rfl | hc
          · simp at hx
          · exact ih hm hc
    split at hap
    case h_3 => cases hap
    · rename_i c n l c' n' own' l' h1 h2
      obtain ⟨lp, arr, t, hp1, hp2, _⟩ := hh.obj _ _ h1
      obtain ⟨lr, arr', t', hr1, hr2, _⟩ := hh.obj _ _ h2
      rw [hl1] at hp1
      injection hp1 with hp1
      rw [hl2] at hr1
      injection hr1 with hr1
      subst hp1 hr1
      exact sameAddr_apart hp2 hr2 (key i j _ _ _ _ _ _ _ _ _ h1 h2 hij (hmem _ _ (by simpa using hap)) hl1 hl2)
    · rename_i c n own l c' n' l' h1 h2
      obtain ⟨lp, arr, t, hp1, hp2, _⟩ := hh.obj _ _ h1
      obtain ⟨lr, arr', t', hr1, hr2, _⟩ := hh.obj _ _ h2
      rw [hl1] at hp1
      injection hp1 with hp1
      rw [hl2] at hr1
      injection hr1 with hr1
      subst hp1 hr1
      exact sameAddr_apart hp2 hr2 (Ne.symm (key j i _ _ _ _ _ _ _ _ _ h2 h1 (Ne.symm hij) (hmem _ _ (by simpa using hap)) hl2 hl1))

theorem etT_spec {t : TypeId} {et : ET} (h : etT P t = et) : match et with
    | .bool => P.underlying t = some .bool
    | .ptr => ∃ e i, P.underlying t = some (.pointer e) ∧ P.info? e = some i ∧ i.size ≠ 0
    | .slice => ∃ e, P.underlying t = some (.slice e)
    | .func => ∃ x y z, P.underlying t = some (.func x y z)
    | .flat ks => ∃ fs, P.underlying t = some (.struct fs) ∧ flatT P 0 fs.toList = some ks ∧ P.stoodInHeld t = false ∧ P.eqGuardType P.depth t = false
    | .none => True := by
  unfold etT at h
  split at h
  · rename_i hu; subst h; exact hu
  · rename_i e hu
    split at h
    · rename_i i hi
      split at h
      · subst h; trivial
      · rename_i hs; subst h; exact ⟨e, i, hu, hi, fun h0 => hs (by rw [h0])⟩
    · subst h; trivial
  · rename_i e hu; subst h; exact ⟨e, hu⟩
  · rename_i x y z hu; subst h; exact ⟨x, y, z, hu⟩
  · rename_i fs hu
    split at h
    · rename_i l h1 h2
      subst h
      rw [Bool.or_eq_false_iff] at h2
      exact ⟨fs, hu, h1, h2.1, h2.2⟩
    · subst h; trivial
  · subst h; trivial

set_option maxHeartbeats 1000000 in
/-- a test of two values -/
theorem eqAny_run (hh : HR h ι w) {t : TypeId} {x y : AV} {u q : Value} (hx : VR ι x u) (hy : VR ι y q) {b : Bool} (he : eqAny (etT P t) h x y = some b) :
    (∀ op p r, (eqGuard op t p r u q).run P w = .ok () w) ∧ (binOp .eql t u q).run P w = .ok (.bool b) w ∧ (binOp .neq t u q).run P w = .ok (.bool (!b)) w := by
  have key : (∀ d, (Op.equalIn (d + 1) t u q).run P w = .ok b w) → (∀ op p r, (eqGuard op t p r u q).run P w = .ok () w) → (binOp .eql t u q = do pure (.bool (← Op.equal t u q))) → (binOp .neq t u q = do pure (.bool (!(← Op.equal t u q)))) → (∀ op p r, (eqGuard op t p r u q).run P w = .ok () w) ∧ (binOp .eql t u q).run P w = .ok (.bool b) w ∧ (binOp .neq t u q).run P w = .ok (.bool (!b)) w := by
    intro h0 h2 h3 h4
    have h1 : (Op.equal t u q).run P w = .ok b w := h0 9999
    refine ⟨h2, ?_, ?_⟩
    · rw [h3]; simp only [Sem.run_bind, h1, Result.andThen_ok, Sem.run_pure]
    · rw [h4]; simp only [Sem.run_bind, h1, Result.andThen_ok, Sem.run_pure]
  have hguard : ∀ (u q : Value), (∀ c d, u ≠ .agg c ∨ q ≠ .agg d) → (u ≠ .nilIface ∨ q ≠ .nilIface) → ∀ op p r, (eqGuard op t p r u q).run P w = .ok () w := by
    intro u q h1 h2 op p r
    unfold eqGuard
    cases u <;> cases q <;> first | (exact absurd rfl ((h1 _ _).resolve_left (fun h => h rfl))) | (exact absurd rfl (h2.resolve_left (fun h => h rfl))) | (cases op <;> simp)
  generalize hE : etT P t = et at he
  have hsp := etT_spec hE
  unfold eqAny at he
  split at he <;> try simp only at hsp
  case h_13 => cases he
  · -- bools
    rename_i p r
    injection he with he
    simp only [VR] at hx hy
    subst hx hy
    refine key (fun d => ?_) (hguard _ _ (by simp) (by simp)) rfl rfl
    rw [run_equalIn_bool' w d t p r hsp]
    subst he
    cases p <;> cases r <;> rfl
  · -- structs
    rename_i ks p r
    obtain ⟨fs, hu, hf, hs1, hs2⟩ := hsp
    simp only [VR] at hx hy
    obtain ⟨L, rfl, hL, _⟩ := hx
    obtain ⟨M, rfl, hM, _⟩ := hy
    have hfo : P.fieldsOf t = fs := by simp [Program.fieldsOf, hu]
    have h1 : (Op.equal t (.agg L.toArray) (.agg M.toArray)).run P w = .ok b w := by
      show (Op.equalIn (9999 + 1) t (.agg L.toArray) (.agg M.toArray)).run P w = _
      rw [run_equalIn_struct w 9999 t _ _ (by rw [hfo]; exact hu) hs1, hfo]
      have := flat_eq (w := w) fs.toList 0 ks p r L M [] [] b 9998 hf hL hM rfl rfl he
      simpa using this
    refine ⟨fun op p r => run_eqGuard_agg w op t p r _ _ hs2, ?_, ?_⟩
    · show (do pure (.bool (← Op.equal t (.agg L.toArray) (.agg M.toArray))) : Sem Value).run P w = _
      simp only [Sem.run_bind, h1, Result.andThen_ok, Sem.run_pure]
    · show (do pure (.bool (!(← Op.equal t (.agg L.toArray) (.agg M.toArray)))) : Sem Value).run P w = _
      simp only [Sem.run_bind, h1, Result.andThen_ok, Sem.run_pure]
  · obtain ⟨e, i, hu, hi, hs⟩ := hsp
    injection he with he
    simp only [VR] at hx hy
    subst hx hy he
    exact key (fun d => by simp [Op.equalIn, run_underlying hu]) (hguard _ _ (by simp) (by simp)) rfl rfl
  · obtain ⟨e, i, hu, hi, hs⟩ := hsp
    injection he with he
    simp only [VR] at hx hy
    obtain ⟨l, hl, rfl⟩ := hy
    subst hx he
    exact key (fun d => by simp [Op.equalIn, run_underlying hu]) (hguard _ _ (by simp) (by simp)) rfl rfl
  · obtain ⟨e, i, hu, hi, hs⟩ := hsp
    injection he with he
    simp only [VR] at hx hy
    obtain ⟨l, hl, rfl⟩ := hx
    subst hy he
    exact key (fun d => by simp [Op.equalIn, run_underlying hu]) (hguard _ _ (by simp) (by simp)) rfl rfl
  · obtain ⟨e, i, hu, hi, hs⟩ := hsp
    obtain ⟨a1, a2, rfl, rfl, h1⟩ := eqPtr_run (P := P) hh hx hy he
    exact key (fun d => by simp [Op.equalIn, run_underlying hu, sizeOf, typeInfo, hi, hs, h1]) (hguard _ _ (by simp) (by simp)) rfl rfl
  · obtain ⟨e, hu⟩ := hsp
    injection he with he
    simp only [VR] at hx hy
    subst hx hy he
    exact key (fun d => by simp [Op.equalIn, run_underlying hu]) (hguard _ _ (by simp) (by simp)) rfl rfl
  · obtain ⟨e, hu⟩ := hsp
    injection he with he
    simp only [VR] at hx hy
    obtain ⟨l, ad, cap, hl, rfl, _⟩ := hy
    subst hx he
    exact key (fun d => by simp [Op.equalIn, run_underlying hu]) (hguard _ _ (by simp) (by simp)) rfl rfl
  · obtain ⟨e, hu⟩ := hsp
    injection he with he
    simp only [VR] at hx hy
    obtain ⟨l, ad, cap, hl, rfl, _⟩ := hx
    subst hy he
    exact key (fun d => by simp [Op.equalIn, run_underlying hu]) (hguard _ _ (by simp) (by simp)) rfl rfl
  · obtain ⟨e1, e2, e3, hu⟩ := hsp
    injection he with he
    simp only [VR] at hx hy
    subst hx hy he
    exact key (fun d => by simp [Op.equalIn, run_underlying hu]) (hguard _ _ (by simp) (by simp)) rfl rfl
  · obtain ⟨e1, e2, e3, hu⟩ := hsp
    injection he with he
    simp only [VR] at hx hy
    obtain ⟨c, d, rfl, _⟩ := hy
    subst hx he
    exact key (fun d => by simp [Op.equalIn, run_underlying hu]) (hguard _ _ (by simp) (by simp)) rfl rfl
  · obtain ⟨e1, e2, e3, hu⟩ := hsp
    injection he with he
    simp only [VR] at hx hy
    obtain ⟨c, d, rfl, _⟩ := hx
    subst hy he
    exact key (fun d => by simp [Op.equalIn, run_underlying hu]) (hguard _ _ (by simp) (by simp)) rfl rfl

theorem guard_other {op : BinOp} (h1 : op ≠ .eql) (h2 : op ≠ .neq) (t : TypeId) (p r : Operand) (u q : Value) : (eqGuard op t p r u q).run P w = .ok () w := by
  cases op <;> first | exact absurd rfl h1 | exact absurd rfl h2 | simp [eqGuard]

theorem guard_plain {op : BinOp} (t : TypeId) (p r : Operand) (u q : Value) (hu : u.oneCell' = true) (hi : u ≠ .nilIface) : (eqGuard op t p r u q).run P w = .ok () w := by
  unfold eqGuard
  cases u <;> first | exact absurd rfl hi | (cases hu; done) | (simp only; split <;> simp)

theorem bin_exec {op : BinOp} {t t2 : TypeId} {x y : Operand} (ho : o.op = .binOp op t x y t2) {r : Value} (hg : (eqGuard op t x y (a.eval x) (a.eval y)).run P w = .ok () w) (hb : (binOp op t (a.eval x) (a.eval y)).run P w = .ok r w) : (execOp a.eval o).run P w = .ok (.value r) w := by
  unfold execOp
  rw [ho]
  simp only [Sem.run_bind, hg, hb, Result.andThen_ok, Sem.run_pure]

theorem strOp_run {op : BinOp} {t : TypeId} {l p m r : Nat} (h1 : p < 256 ^ l) (h2 : r < 256 ^ m) {v : AV} (h : strOp op l p m r = some v) : ∃ u, VR ι v u ∧ (binOp op t (.string (strV l p)) (.string (strV m r))).run P w = .ok u w := by
  have key : (strV l p).toList == (strV m r).toList ↔ (l = m ∧ p = r) := by
    rw [← beq_toListBytes, bytes_beq, strV_eq h1 h2]
  have kb : ((strV l p).toList == (strV m r).toList) = (l.beq m && p.beq r) := by
    apply Bool.eq_iff_iff.2
    rw [key]
    simp
  unfold strOp at h
  split at h
  case h_4 => cases h
  · injection h with h
    subst h
    exact ⟨_, rfl, by simp only [binOp, Op.stringOp, kb]; rfl⟩
  · injection h with h
    subst h
    exact ⟨_, rfl, by simp only [binOp, Op.stringOp, kb]; rfl⟩
  · split at h
    case h_2 => cases h
    rename_i hlt
    rw [forceN_eq, forceN_eq] at h
    injection h with h
    subst h
    have hlt : l + m < 1000000000 := by simpa using hlt
    have e1 : strV l p ++ strV m r = strV (l + m) (p + r * 256 ^ l) := by
      unfold strV
      rw [decS_add l p m r h1]
      have : (decS l p ++ decS m r).toArray = (decS l p).toArray ++ (decS m r).toArray := by simp
      rw [this]
      apply ByteArray.ext
      simp
    refine ⟨.string (strV (l + m) (p + r * 256 ^ l)), ⟨rfl, ?_⟩, ?_⟩
    · show p + r * 256 ^ l < 256 ^ (l + m)
      rw [Nat.pow_add]
      have h3 : (r + 1) * 256 ^ l ≤ 256 ^ m * 256 ^ l := Nat.mul_le_mul_right _ h2
      rw [Nat.add_mul, Nat.one_mul, Nat.mul_comm (256 ^ m)] at h3
      omega
    · have hsz : ¬ ((((strV l p).size + (strV m r).size : Nat) : Int) > IntKind.i64.max) := by
        rw [strV_size, strV_size]
        have : IntKind.i64.max = 9223372036854775807 := rfl
        rw [this]
        omega
      simp only [binOp, Op.stringOp, e1]
      rw [if_neg hsz]
      rfl

theorem guard_nil {op : BinOp} {t : TypeId} {x y : Operand} (hc : (isNilC x || isNilC y) = true) : (eqGuard op t x y .nilIface .nilIface).run P w = .ok () w := by
  unfold eqGuard
  cases x <;> cases y <;> first | (cases hc; done) | (cases op <;> simp)

/-- held against the literal nil -/
theorem nilEq_ok (_hh : HR h ι w) {op : BinOp} {t t2 : TypeId} {x y : Operand} (ho : o.op = .binOp op t x y t2) (hc : (isNilC x || isNilC y) = true) {ms : Array (String × TypeId)} (ht : P.underlying t = some (.interface ms)) {xa ya : AV} (hx : VR ι xa (a.eval x)) (hy : VR ι ya (a.eval y)) (hr : nilEqA op xa ya h = .ok v h') : PureR P a o v h ι w h' := by
  unfold nilEqA at hr
  split at hr
  case h_2 => cases hr
  simp only [VR] at hx hy
  have hg : (eqGuard op t x y (a.eval x) (a.eval y)).run P w = .ok () w := by
    rw [hx, hy]
    exact guard_nil hc
  have heq : (Op.equal t .nilIface .nilIface).run P w = .ok true w := by
    have : ∀ d, (Op.equalIn (d + 1) t .nilIface .nilIface).run P w = .ok true w := fun d => by simp [Op.equalIn, run_underlying ht]
    exact this 9999
  split at hr
  case h_3 => cases hr
  · injection hr with e1 e2
    subst e1 e2
    refine ⟨rfl, .bool true, bin_exec ho hg ?_, rfl⟩
    rw [hx, hy]
    show (do pure (.bool (← Op.equal t .nilIface .nilIface)) : Sem Value).run P w = _
    simp only [Sem.run_bind, heq, Result.andThen_ok, Sem.run_pure]
  · injection hr with e1 e2
    subst e1 e2
    refine ⟨rfl, .bool false, bin_exec ho hg ?_, rfl⟩
    rw [hx, hy]
    show (do pure (.bool (!(← Op.equal t .nilIface .nilIface))) : Sem Value).run P w = _
    simp only [Sem.run_bind, heq, Result.andThen_ok, Sem.run_pure]
    rfl

theorem binOp_ok (hh : HR h ι w) {op : BinOp} {t t2 : TypeId} {x y : Operand} (ho : o.op = .binOp op t x y t2) {xa ya : AV} (hx : VR ι xa (a.eval x)) (hy : VR ι ya (a.eval y)) (hr : binA op (etT P t) xa ya h = .ok v h') : PureR P a o v h ι w h' := by
  unfold binA at hr
  split at hr
  · rename_i k p j r
    simp only [VR] at hx hy
    have hg : (eqGuard op t x y (a.eval x) (a.eval y)).run P w = .ok () w := by
      rw [hx]
      exact guard_plain t x y _ _ rfl (by simp)
    split at hr
    · split at hr
      case h_2 => cases hr
      rename_i u hu
      injection hr with e1 e2
      subst e1 e2
      obtain ⟨q, h1, h2⟩ := shift_run (P := P) (t := t) (j := j) hu (.inl rfl)
      exact ⟨rfl, _, (bin_exec ho hg (by rw [hx, hy]; exact h2 w)), h1.none⟩
    · split at hr
      case h_2 => cases hr
      rename_i u hu
      injection hr with e1 e2
      subst e1 e2
      obtain ⟨q, h1, h2⟩ := shift_run (P := P) (t := t) (j := j) hu (.inr rfl)
      exact ⟨rfl, _, (bin_exec ho hg (by rw [hx, hy]; exact h2 w)), h1.none⟩
    · rename_i hn1 hn2
      split at hr
      case h_2 => cases hr
      rename_i hk
      have := kindN_inj hk
      subst this
      split at hr
      case h_2 => cases hr
      rename_i u hu
      injection hr with e1 e2
      subst e1 e2
      obtain ⟨q, h1, h2⟩ := intOp_run (P := P) (t := t) hu (fun e => hn1 e) (fun e => hn2 e)
      exact ⟨rfl, _, (bin_exec ho hg (by rw [hx, hy]; exact h2 w)), h1.none⟩
  · rename_i l p m r
    simp only [VR] at hx hy
    have hg : (eqGuard op t x y (a.eval x) (a.eval y)).run P w = .ok () w := by
      rw [hx.1]
      exact guard_plain t x y _ _ rfl (by simp)
    split at hr
    case h_2 => cases hr
    rename_i u hu
    injection hr with e1 e2
    subst e1 e2
    obtain ⟨q, h1, h2⟩ := strOp_run (P := P) (w := w) (ι := ι) (t := t) hx.2 hy.2 hu
    exact ⟨rfl, _, (bin_exec ho hg (by rw [hx.1, hy.1]; exact h2)), h1⟩
  · split at hr
    case h_3 => cases hr
    · split at hr
      case h_2 => cases hr
      rename_i b hb
      injection hr with e1 e2
      subst e1 e2
      obtain ⟨h1, h2, h3⟩ := eqAny_run hh hx hy hb
      exact ⟨rfl, (.bool b), (bin_exec ho (h1 _ _ _) h2), rfl⟩
    · split at hr
      case h_2 => cases hr
      rename_i b hb
      injection hr with e1 e2
      subst e1 e2
      obtain ⟨h1, h2, h3⟩ := eqAny_run hh hx hy hb
      exact ⟨rfl, (.bool (!b)), (bin_exec ho (h1 _ _ _) h3), rfl⟩

end
end Go.Proofs.YtfmlgiafkbakcaaGreatDoor.Ev

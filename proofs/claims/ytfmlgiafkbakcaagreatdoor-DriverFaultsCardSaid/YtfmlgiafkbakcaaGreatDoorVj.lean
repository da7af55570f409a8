/- Arrays, by pointer and by value; interfaces. -/
import Derived.Test.YtfmlgiafkbakcaaGreatDoorVk
namespace Go.Proofs.YtfmlgiafkbakcaaGreatDoor.Ev

section
variable {P : Program} {a : Act} {o : Oper} {ι : Io} {w : World} {h h' : H} {v : AV}

theorem indexAddrArr_ok (_hh : HR h ι w) {t : TypeId} {x i : Operand} (ho : o.op = .indexAddr t x i) {n : Nat} {el : TypeId} (he : P.underlying t = some (.array n el)) {z : Nat} (hz : szT P el = some z) {xa ia : AV} (hx : VR ι xa (a.eval x)) (hia : VR ι ia (a.eval i)) (hr : indexAddrArrA n z xa ia h = .ok v h') : PureR P a o v h ι w h' := by
  unfold indexAddrArrA at hr
  split at hr
  case h_2 => cases hr
  rename_i id off k m
  split at hr
  case h_2 => cases hr
  rename_i hlt
  rw [forceN_eq] at hr
  injection hr with e1 e2
  subst e1 e2
  simp only [VR] at hx hia
  obtain ⟨l, hl, hx⟩ := hx
  have hlt : m < n := by simpa using hlt
  obtain ⟨inf, hi, hs⟩ := szT_info hz
  refine ⟨rfl, (.pointer (some ⟨l.g, l.base + (off + m * z), none⟩)), ?_, ⟨l, hl, rfl⟩⟩
  unfold execOp
  rw [ho]
  simp [hx, hia, Instr.indexAt, asIntOf, run_underlying he, Instr.sureAddr, hlt, sizeOf, typeInfo, hi, hs, Addr.add_mid, Nat.add_assoc]

theorem indexArr_ok (_hh : HR h ι w) {t : TypeId} {x i : Operand} (ho : o.op = .index t x i) {n : Nat} {el : TypeId} (he : P.underlying t = some (.array n el)) {z : Nat} (hz : szT P el = some z) {row : Option Nat} (hrow : rowT P el = some row) {xa ia : AV} (hx : VR ι xa (a.eval x)) (hia : VR ι ia (a.eval i)) (hr : indexArrA row n z xa ia h = .ok v h') : PureR P a o v h ι w h' := by
  unfold indexArrA at hr
  split at hr
  case h_2 => cases hr
  rename_i cs k m
  split at hr
  case h_2 => cases hr
  rename_i hlt
  have hlt : m < n := by simpa using hlt
  simp only [VR] at hx hia
  obtain ⟨vs, hx, hl, h1⟩ := hx
  obtain ⟨inf0, hi0, hs0⟩ := szT_info hz
  unfold fieldA at hr
  rcases rowT_cases hrow with ⟨k2, inf, d, rfl, hd, hrw, hi, hs⟩ | ⟨rfl, d, hd, hrw⟩
  · simp only at hr
    injection hr with e1 e2
    subst e1 e2
    refine ⟨rfl, (.agg ((vs.drop (m * z)).take k2).toArray), ?_, ⟨_, rfl, VRl.take k2 (VRl.drop _ hl), fun u hu => h1 u (List.mem_of_mem_drop (List.mem_of_mem_take hu))⟩⟩
    have : inf0 = inf := by rw [hi] at hi0; injection hi0 with hi0; exact hi0.symm
    subst this
    unfold execOp
    rw [ho]
    simp [hx, hia, Instr.index, asIntOf, run_underlying he, hlt, part, run_isAgg hd, hrw, sizeOf, typeInfo, hi, hs, ← hs0]
  · simp only at hr
    split at hr
    case h_2 => cases hr
    rename_i y hy
    injection hr with e1 e2
    subst e1 e2
    obtain ⟨u, h2, h3⟩ := VRl.nth (m * z) hl hy
    refine ⟨rfl, u, ?_, h3⟩
    unfold execOp
    rw [ho]
    simp [hx, hia, Instr.index, asIntOf, run_underlying he, hlt, part, run_isAgg hd, hrw, sizeOf, typeInfo, hi0, hs0, h2]

theorem places_range (n k : Nat) : ∀ (ps : List (Nat × Operand)), (ps.all fun p => Nat.blt p.1 n) = true → placesT ((List.range n).map fun i => (i * k, k)) ps = some (ps.map fun p => (p.1 * k, k, p.2))
  | [], _ => rfl
  | (i, x) :: ps, h => by
    simp only [List.all_cons, Bool.and_eq_true, Nat.blt_eq] at h
    simp [placesT, h.1, places_range n k ps h.2]

theorem fill_congr {f g : Nat → Option (Nat × Nat)} : ∀ (ps : List (Nat × Value)) (cells : Array Value), (∀ p ∈ ps, f p.1 = g p.1) → Instr.fill f cells ps = Instr.fill g cells ps
  | [], _, _ => rfl
  | (i, v) :: ps, cells, h => by
    have h1 := h (i, v) (by simp)
    simp only at h1
    simp only [Instr.fill, h1]
    split
    · rfl
    · split
      · rfl
      · exact fill_congr ps _ fun p hp => h p (by simp [hp])

theorem buildArr_ok (_hh : HR h ι w) {e : E} {N : Nat} (hE : ER N ι e a) {t : TypeId} {ps : Array (Nat × Operand)} (ho : o.op = .build t ps) {n : Nat} {el : TypeId} (hu : P.underlying t = some (.array n el)) {z : AV} (hz : zeroT P t = some (.agg z)) {k : Nat} (hk : szT P el = some k) (hlt : (ps.toList.all fun p => Nat.blt p.1 n) = true)
    (hok : (ps.toList.all fun x => okOp x.2) = true) (hr : buildA z ((cparts (ps.toList.map fun p => (p.1 * k, k, p.2))).get e) h = .ok v h') : PureR P a o v h ι w h' := by
  unfold buildA at hr
  split at hr
  case h_2 => cases hr
  rename_i cs hcs
  injection hr with e1 e2
  subst e1 e2
  obtain ⟨i, zv, hi, hzv, hav⟩ := zeroT_info hz
  have h1 := VR.of ι hav
  simp only [VR] at h1
  obtain ⟨zl, rfl, hzl, hz1⟩ := h1
  obtain ⟨ie, hie, hs⟩ := szT_info hk
  obtain ⟨r, hf, hr, hr1⟩ := fill_run ((List.range n).map fun i => (i * k, k)) hE ps.toList _ z cs zl.toArray (places_range n k ps.toList hlt) hok (by simpa using hzl) (by simpa using hz1) hcs
  have hb : P.built t (ps.map fun (i, x) => (i, a.eval x)).toList = some r := by
    unfold Program.built
    simp only [hi, hu, hzv, hie, hs]
    rw [← hf, Array.toList_map]
    refine fill_congr _ _ fun p hp => ?_
    obtain ⟨q, hq, rfl⟩ := List.mem_map.1 hp
    have := List.all_eq_true.1 hlt q hq
    simp only [Nat.blt_eq] at this
    simp [this]
  refine ⟨rfl, (.agg r), ?_, ⟨r.toList, by simp, hr, hr1⟩⟩
  unfold execOp
  rw [ho]
  simp only [Sem.run_bind, run_build w t _ r hb, Result.andThen_ok, Sem.run_pure]

theorem sliceArr_ok (hh : HR h ι w) {t : TypeId} {x : Operand} {lo hi : Option Operand} (ho : o.op = .slice t x lo hi none) {n : Nat} {el : TypeId} (ht : P.underlying t = some (.array n el)) {z : Nat} (hz : szT P el = some z) {xa : AV} {loA hiA : Option AV}
    (hx : VR ι xa (a.eval x)) (hlo : OV ι loA (lo.map a.eval)) (hhi : OV ι hiA (hi.map a.eval)) (hr : sliceArrA n z xa loA hiA h = .ok v h') : PureR P a o v h ι w h' := by
  unfold sliceArrA at hr
  split at hr
  case h_2 => cases hr
  rename_i id off l k hl hk
  split at hr
  case h_2 => cases hr
  rename_i c n' own anc hget
  split at hr
  case h_2 => cases hr
  rename_i hle
  simp only [Bool.and_eq_true, Nat.ble_eq] at hle
  obtain ⟨⟨h1, h2⟩, h3⟩ := hle
  rw [forceN_eq, forceN_eq] at hr
  injection hr with e1 e2
  subst e1 e2
  simp only [VR] at hx
  obtain ⟨lc, hlc, hx⟩ := hx
  obtain ⟨lc', arr, ty, hlc', _, _, hsz, _⟩ := hh.obj id _ hget
  have : lc' = lc := by rw [hlc] at hlc'; injection hlc' with hlc'; exact hlc'.symm
  subst this
  change off + n * z ≤ n' at h3
  have hb := bounds_run (P := P) (w := w) (isSlice := false) (cap := n) hlo hhi hl hk h1 h2 (Nat.le_refl n)
  obtain ⟨i, hi, hs⟩ := szT_info hz
  refine ⟨rfl, (.slice (some (if n = l then ⟨lc'.g, lc'.base + off, none⟩ else (⟨lc'.g, lc'.base + off, none⟩ : Addr).add (l * z))) (k - l) (n - l)), ?_, ⟨lc', _, _, hlc, rfl, by show k - l ≤ n - l; omega, ?_, ?_, ?_⟩⟩
  · unfold execOp
    rw [ho]
    simp [hx, Instr.sliceAt, run_underlying ht, Instr.sureAddr, hb, sizeOf, typeInfo, hi, hs]
  · intro hex
    have := Nat.beq_eq.mp hex
    show n - l = k - l
    omega
  · intro hne
    have h0 : n ≠ l := by omega
    rw [if_neg h0, Addr.add_mid]
    show (⟨lc'.g, lc'.base + off + l * z, none⟩ : Addr) = ⟨lc'.g, lc'.base + (off + l * z), none⟩
    rw [Nat.add_assoc]
  · show lc'.base + (off + l * z) + (n - l) * z ≤ lc'.size
    have h0 : l * z + (n - l) * z = n * z := by rw [← Nat.add_mul, Nat.add_sub_cancel' (by omega)]
    omega

/-- s[l:k:k] -/
theorem slice3_ok (_hh : HR h ι w) {t : TypeId} {x hi mx : Operand} {lo : Option Operand} (ho : o.op = .slice t x lo (some hi) (some mx)) {z : Nat} {el : TypeId} (ht : P.underlying t = some (.slice el)) (hz : szT P el = some z) {xa ha ma : AV} {loA : Option AV}
    (hx : VR ι xa (a.eval x)) (hlo : OV ι loA (lo.map a.eval)) (hha : VR ι ha (a.eval hi)) (hma : VR ι ma (a.eval mx)) (hr : slice3A z xa loA ha ma h = .ok v h') : PureR P a o v h ι w h' := by
  unfold slice3A at hr
  split at hr
  case h_2 => cases hr
  rename_i k1 p k2 q
  split at hr
  case h_2 => cases hr
  rename_i hpq
  have hpq := Nat.beq_eq.mp hpq
  subst hpq
  simp only [VR] at hha hma
  obtain ⟨u, h2, hs0, hr2⟩ : ∃ u h2, sliceA false z xa loA (some (.int k1 (.ofNat p))) h = .ok u h2 ∧ ((∃ id o n z0 ex, u = .sl id o n z0 ex ∧ v = .sl id o n z0 true) ∨ ((∀ id o n z0 ex, u ≠ .sl id o n z0 ex) ∧ v = u)) ∧ h' = h2 := by
    split at hr
    · rename_i id o n z0 ex h2 heq
      injection hr with e1 e2
      exact ⟨_, _, heq, .inl ⟨id, o, n, z0, ex, rfl, e1.symm⟩, e2.symm⟩
    · rename_i hno
      exact ⟨_, _, hr, .inr ⟨fun id o n z0 ex e1 => hno id o n z0 ex h' (by rw [hr, e1]), rfl⟩, rfl⟩
  obtain ⟨hr2, rfl⟩ := hr2
  clear hr
  unfold sliceA at hs0
  split at hs0
  case h_2 => cases hs0
  rename_i len hlen
  split at hs0
  case h_2 => cases hs0
  rename_i l k hl hk
  simp only [natA, Option.some.injEq] at hk
  subst hk
  split at hs0
  case h_2 => cases hs0
  rename_i hle
  simp only [Bool.and_eq_true, Nat.ble_eq] at hle
  have hpl := hle.1
  obtain ⟨i, hi', hs⟩ := szT_info hz
  split at hs0
  case h_4 => cases hs0
  case h_3 => exact absurd ‹false = true› (by decide)
  · injection hs0 with e1 e2
    subst e1 e2
    rcases hr2 with ⟨_, _, _, _, _, h0, _⟩ | ⟨_, rfl⟩
    · cases h0
    simp only [lenA, Option.some.injEq] at hlen
    subst hlen
    have hp : p = 0 := by omega
    subst hp
    have hl0 : l = 0 := by omega
    subst hl0
    simp only [VR] at hx
    refine ⟨rfl, (.slice none 0 0), ?_, rfl⟩
    unfold execOp
    rw [ho]
    rcases natA_spec hlo hl with ⟨h7, _⟩ | ⟨j1, h7⟩
    · simp only [Option.map_eq_none_iff] at h7
      subst h7
      simp [hx, hha, hma, Instr.sliceAt, Instr.slice, Instr.sliceBounds, run_underlying ht, Instr.sliceBound, asIntOf, sizeOf, typeInfo, hi']
    · simp [hx, hha, hma, Instr.sliceAt, Instr.slice, Instr.sliceBounds, run_underlying ht, h7, Instr.sliceBound, asIntOf, sizeOf, typeInfo, hi']
  · rename_i id off len' z' ex
    split at hs0
    case h_2 => cases hs0
    rename_i hzz
    simp only [Nat.beq_eq] at hzz
    subst hzz
    rw [forceN_eq, forceN_eq] at hs0
    injection hs0 with e1 e2
    subst e1 e2
    rcases hr2 with ⟨_, _, _, _, _, h0, rfl⟩ | ⟨h0, _⟩
    case inr => exact absurd rfl (h0 _ _ _ _ _)
    injection h0 with q1 q2 q3 q4 q5
    subst q1 q2 q3 q4
    simp only [lenA, Option.some.injEq] at hlen
    subst hlen
    simp only [VR] at hx
    obtain ⟨lc, ad, cap, hlc, hx, hc1, hc2, hc3, hc4⟩ := hx
    have hpc : p ≤ cap := by omega
    refine ⟨rfl, (.slice (some (if p = l then ad else ad.add (l * z))) (p - l) (p - l)), ?_, ⟨lc, _, _, hlc, rfl, Nat.le_refl _, fun _ => rfl, ?_, ?_⟩⟩
    · unfold execOp
      rw [ho]
      rcases natA_spec hlo hl with ⟨h7, rfl⟩ | ⟨j1, h7⟩
      · simp only [Option.map_eq_none_iff] at h7
        subst h7
        simp [hx, hha, hma, Instr.sliceAt, Instr.slice, Instr.sliceBounds, run_underlying ht, Instr.sliceBound, asIntOf, sizeOf, typeInfo, hi', hpc]
        try (split <;> simp)
      · simp [hx, hha, hma, Instr.sliceAt, Instr.slice, Instr.sliceBounds, run_underlying ht, h7, Instr.sliceBound, asIntOf, sizeOf, typeInfo, hi', hs, hpc, hpl]
        try (split <;> simp)
    · intro hne
      have h0 : p ≠ l := by omega
      have h1 : cap ≠ 0 := by omega
      rw [if_neg h0, hc3 h1, Addr.add_mid]
      exact congrArg (fun k => (⟨lc.g, k, none⟩ : Addr)) (Nat.add_assoc _ _ _)
    · simp only [Nat.add_eq, Nat.mul_eq]
      have h0 : l * z + (p - l) * z = p * z := by rw [← Nat.add_mul, Nat.add_sub_cancel' (by omega)]
      have h1 : p * z ≤ cap * z := Nat.mul_le_mul_right z hpc
      omega

theorem makeInterface_ok (_hh : HR h ι w) {t : TypeId} {x : Operand} (ho : o.op = .makeInterface t x) {e : TypeId} (he : P.underlying t = some (.pointer e)) {xa : AV} (hx : VR ι xa (a.eval x)) (hr : O.ok (.ifc t xa) h = .ok v h') : PureR P a o v h ι w h' := by
  injection hr with e1 e2
  subst e1 e2
  refine ⟨rfl, .iface t (a.eval x), ?_, ⟨_, rfl, hx⟩⟩
  unfold execOp
  rw [ho]
  simp [Instr.makeInterface, run_underlying he]

end
end Go.Proofs.YtfmlgiafkbakcaaGreatDoor.Ev

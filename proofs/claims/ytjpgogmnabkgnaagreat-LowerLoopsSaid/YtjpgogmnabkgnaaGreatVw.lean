/- Operations of two numbers, and a number's lowest bits, that are known by their contracts. -/
import Derived.Test.YtjpgogmnabkgnaaGreatVq
namespace Go.Proofs.YtjpgogmnabkgnaaGreat.Ev
open Go.RowKit

/-- what an operation of two numbers is, as a term -/
def two3 [SEnv] (op : Nat) (a b : Tm) : Tm := match op with
  | 12 => mkBin .add .i64 a b
  | 13 => mkBin .sub .i64 a b
  | 14 => mkBin .mul .i64 a b
  | op => .ap op a b

/-- surely an int64? -/
def inI64 [SEnv] (t : Tm) : Bool := match rangeT t with
  | some r => r.inK .i64
  | none => false

/-- known by its bounds -/
def isOne [SEnv] (t : Tm) : Bool := match rangeT t with
  | some r => eqI r.lo r.hi
  | none => false

/-- an operation of two, one of which is not known -/
def kTwo [SEnv] (args : AV) (h : H) : Option (AV × H) := match args with
  | .cons (.int .i64 (.ofNat op)) (.cons x (.cons y .nil)) => match x, y with
    | .int _ _, .int _ _ => none
    | x, y => match tmOf x, tmOf y with
      | some (k, a), some (j, b) => match and (and (Nat.beq (kindN k) 3) (Nat.beq (kindN j) 3)) (and (and (Nat.ble 12 op) (Nat.ble op 30)) (and (not (and (isOne a) (isOne b))) (and (inI64 a) (inI64 b)))) with
        | true => some (symI .i64 (two3 op a b), h)
        | false => none
      | _, _ => none
  | _ => none

def cutK (bits : Nat) (s : Bool) : Option IntKind := match bits, s with
  | 8, true => some .i8
  | 16, true => some .i16
  | 32, true => some .i32
  | 8, false => some .u8
  | 16, false => some .u16
  | 32, false => some .u32
  | _, _ => none

/-- the lowest bits of a number that is not known -/
def kCut [SEnv] (args : AV) (h : H) : Option (AV × H) := match args with
  | .cons (.sym .i64 t) (.cons (.int .i64 (.ofNat n)) (.cons (.bool s) .nil)) => match cutK n s with
    | some k => match inI64 t with
      | true => some (symI .i64 (mkWrap .i64 (mkWrap k t)), h)
      | false => none
    | none => none
  | _ => none

/-- an int64 -/
def I64 (x : Int) : Prop := -9223372036854775808 ≤ x ∧ x ≤ 9223372036854775807

/-- a world that has grown -/
theorem HR.grown [SEnv] {h : H} {ι : Io} {w w' : World} (hh : HR h ι w) (hb : Below w.heap.size w w') : HR h ι w' ∧ Stp h ι w h ι w' := by
  obtain ⟨h1, h2, h3, h4, h5⟩ := hb
  refine ⟨⟨fun id o ho => (hh.obj id o ho).ext (Ext.refl _) fun l hl => h5 _ (hh.lt id l hl), hh.share, hh.fresh, fun id l hl => Nat.lt_of_lt_of_le (hh.lt id l hl) h4⟩, ⟨Ext.refl _, h4, fun g hg _ => h5 g hg, fun g hg => .inr hg, h1, h2, h3, Nat.le_refl _, fun id l a b => by rw [b] at a; cases a⟩⟩

theorem inI64_ok [SEnv] {t : Tm} (h : inI64 t = true) : I64 t.den := by
  unfold inI64 at h
  split at h
  · rename_i r hr
    obtain ⟨h1, h2⟩ := rangeT_ok t hr
    simp only [Rg.inK, Bool.and_eq_true, leI_eq, decide_eq_true_eq, minK, maxK] at h
    exact ⟨by omega, by omega⟩
  · cases h

theorem kTwo_ok [SEnv] {P : Program} {K : Keep} {f : FuncId} {two : Int → Int → Int → Int}
    (hc : ∀ (op a b : Int) (w : World), 12 ≤ op ∧ op ≤ 30 → I64 a → I64 b → Calls P f #[.int .i64 op, .int .i64 a, .int .i64 b] w fun e w' => e = .returned (.int .i64 (two op a b)) ∧ Below w.heap.size w w')
    (h12 : ∀ a b, two 12 a b = IntKind.i64.wrap (a + b)) (h13 : ∀ a b, two 13 a b = IntKind.i64.wrap (a - b)) (h14 : ∀ a b, two 14 a b = IntKind.i64.wrap (a * b))
    (happ : ∀ (op : Nat) (a b : Int), I64 a → I64 b → 12 ≤ op → op ≤ 30 → SEnv0.app op a b = two op a b)
    {args : AV} {h : H} {v : AV} {h' : H} (hr : kTwo args h = some (v, h')) : SoundCall P K f args h v h' := by
  unfold kTwo at hr
  split at hr
  case h_2 => cases hr
  rename_i op x y
  split at hr
  case h_1 => cases hr
  split at hr
  case h_2 => cases hr
  rename_i k a j b h1 h2
  split at hr
  case h_2 => cases hr
  rename_i hcond
  simp only [Bool.and_eq_true, Nat.ble_eq] at hcond
  obtain ⟨⟨hk, hj⟩, ⟨ho1, ho2⟩, _, ha, hb⟩ := hcond
  have hk : k = .i64 := kindN_inj (j := .i64) hk
  have hj : j = .i64 := kindN_inj (j := .i64) hj
  subst hk hj
  have ha := inI64_ok ha
  have hb := inI64_ok hb
  injection hr with hr
  injection hr with e1 e2
  subst e1 e2
  intro ι w vs hh _ hv
  obtain ⟨v1, m1, hvs, hv1, v2, m2, rfl, hv2, v3, m3, rfl, hv3, rfl⟩ := hv
  have hv1 : v1 = .int .i64 (Int.ofNat op) := hv1
  have hv2 := tmOf_spec h1 hv2
  have hv3 := tmOf_spec h2 hv3
  subst hv1 hv2 hv3
  obtain rfl : vs = #[.int .i64 (Int.ofNat op), .int .i64 a.den, .int .i64 b.den] := by rw [← Array.toList_inj, hvs]
  refine (hc (Int.ofNat op) a.den b.den w ⟨by show (12 : Int) ≤ (op : Int); omega, by show (op : Int) ≤ 30; omega⟩ ha hb).mono fun e w' ⟨he, hbw⟩ => ?_
  obtain ⟨q1, q2⟩ := hh.grown hbw
  refine ⟨ι, _, he, ?_, q1, q2⟩
  have e : (two3 op a b).den = two (Int.ofNat op) a.den b.den := by
    unfold two3
    split
    · rw [mkBin_den]; exact (h12 _ _).symm
    · rw [mkBin_den]; exact (h13 _ _).symm
    · rw [mkBin_den]; exact (h14 _ _).symm
    · exact happ _ _ _ ha hb ho1 ho2
  rw [← e]
  exact symI_eq _ _

theorem kCut_ok [SEnv] {P : Program} {K : Keep} {f : FuncId}
    (hc : ∀ (n : Nat) (s : Bool) (k : IntKind) (a : Int) (w : World), cutK n s = some k → I64 a → Calls P f #[.int .i64 a, .int .i64 n, .bool s] w fun e w' => e = .returned (.int .i64 (k.wrap a)) ∧ Below w.heap.size w w')
    {args : AV} {h : H} {v : AV} {h' : H} (hr : kCut args h = some (v, h')) : SoundCall P K f args h v h' := by
  unfold kCut at hr
  split at hr
  case h_2 => cases hr
  rename_i t n s
  split at hr
  case h_2 => cases hr
  rename_i k hk
  split at hr
  case h_2 => cases hr
  rename_i ha
  have ha := inI64_ok ha
  injection hr with hr
  injection hr with e1 e2
  subst e1 e2
  intro ι w vs hh _ hv
  obtain ⟨v1, m1, hvs, hv1, v2, m2, rfl, hv2, v3, m3, rfl, hv3, rfl⟩ := hv
  have hv1 : v1 = .int .i64 t.den := hv1
  have hv2 : v2 = .int .i64 (Int.ofNat n) := hv2
  have hv3 : v3 = .bool s := hv3
  subst hv1 hv2 hv3
  obtain rfl : vs = #[.int .i64 t.den, .int .i64 (n : Int), .bool s] := by rw [← Array.toList_inj, hvs]; rfl
  refine (hc n s k t.den w hk ha).mono fun e w' ⟨he, hbw⟩ => ?_
  obtain ⟨q1, q2⟩ := hh.grown hbw
  refine ⟨ι, _, he, ?_, q1, q2⟩
  have e : (mkWrap .i64 (mkWrap k t)).den = k.wrap t.den := by
    rw [mkWrap_den, mkWrap_den]
    have h1 := wrap_in k t.den
    refine wrap_id ?_ ?_
    · unfold cutK at hk
      split at hk <;> first | (cases hk; done) | (injection hk with hk; subst hk; simp only [minK, maxK] at h1 ⊢; omega)
    · unfold cutK at hk
      split at hk <;> first | (cases hk; done) | (injection hk with hk; subst hk; simp only [minK, maxK] at h1 ⊢; omega)
  rw [← e]
  exact symI_eq _ _

/-- an array of two numbers -/
theorem arg_two {P : Program} {w : World} {r : Reach} {base : Nat} {t tb : TypeId} {v : Value} (ht : P.underlying t = some (.array 2 tb)) (hc : P.cellsOf t = 2) (hts : P.cellTypes P.depth t = some [tb, tb]) (hb : P.underlying tb = some (.int .i64)) (h : Value.okWide P w r base t v) :
    ∃ a b, v = .agg #[.int .i64 a, .int .i64 b] ∧ I64 a ∧ I64 b := by
  simp only [Value.okWide, ht] at h
  obtain ⟨⟨cs⟩, rfl, hsz, ts, h1, _, h2⟩ := h
  rw [hts] at h1
  injection h1 with h1
  subst h1
  rw [hc] at hsz
  have num : ∀ {v : Value}, Cell.okWide P w r base tb v → ∃ n, v = .int .i64 n ∧ I64 n := by
    intro v hv
    simp only [Cell.okWide, hb] at hv
    cases v <;> simp_all [Cell.ok, IntKind.has, IntKind.min, IntKind.max, IntKind.bits, IntKind.signed]
    exact ⟨by omega, by omega⟩
  match cs, hsz with
  | [x, y], _ =>
    obtain ⟨u, q1, q2⟩ := h2 0 x rfl
    obtain ⟨u', q3, q4⟩ := h2 1 y rfl
    cases (show some tb = some u from q1)
    cases (show some tb = some u' from q3)
    obtain ⟨a, rfl, ha⟩ := num q2
    obtain ⟨b, rfl, hb⟩ := num q4
    exact ⟨a, b, rfl, ha, hb⟩

end Go.Proofs.YtjpgogmnabkgnaaGreat.Ev

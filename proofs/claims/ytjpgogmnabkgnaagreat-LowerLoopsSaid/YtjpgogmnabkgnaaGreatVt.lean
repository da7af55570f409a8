/- Numbers that are not known: terms, what they come to, what is known of them. -/
import GoSem.Step
namespace Go.Proofs.YtjpgogmnabkgnaaGreat.Ev

def forceN {ρ : Type} (n : Nat) (K : Nat → ρ) : ρ := match n with
  | 0 => K 0
  | m + 1 => K (Nat.succ m)

def forceI {ρ : Type} (n : Int) (K : Int → ρ) : ρ := match n with
  | .ofNat m => forceN m fun m => K (.ofNat m)
  | .negSucc m => forceN m fun m => K (.negSucc m)

def ltI (x y : Int) : Bool := match x, y with
  | .ofNat x, .ofNat y => Nat.blt x y
  | .negSucc _, .ofNat _ => true
  | .ofNat _, .negSucc _ => false
  | .negSucc x, .negSucc y => Nat.blt y x

def eqI (x y : Int) : Bool := match x, y with
  | .ofNat x, .ofNat y => Nat.beq x y
  | .negSucc x, .negSucc y => Nat.beq x y
  | _, _ => false

def leI (x y : Int) : Bool := not (ltI y x)

def kindN : IntKind → Nat
  | .i8 => 0 | .i16 => 1 | .i32 => 2 | .i64 => 3 | .u8 => 4 | .u16 => 5 | .u32 => 6 | .u64 => 7

def opN : BinOp → Nat
  | .add => 0 | .sub => 1 | .mul => 2 | .quo => 3 | .rem => 4 | .and => 5 | .or => 6 | .xor => 7 | .shl => 8 | .shr => 9 | .andNot => 10 | .eql => 11 | .neq => 12 | .lss => 13 | .leq => 14 | .gtr => 15 | .geq => 16

theorem forceN_eq {ρ : Type} (n : Nat) (K : Nat → ρ) : forceN n K = K n := by cases n <;> rfl
theorem forceI_eq {ρ : Type} (n : Int) (K : Int → ρ) : forceI n K = K n := by cases n <;> simp [forceI, forceN_eq]

theorem neg_eq (m : Nat) : Int.negSucc m = -(m : Int) - 1 := by rw [Int.negSucc_eq]; omega

theorem eqI_eq (x y : Int) : eqI x y = (x == y) := by
  apply Bool.eq_iff_iff.2
  rw [beq_iff_eq]
  cases x <;> cases y <;> simp only [eqI, Nat.beq_eq, Bool.false_eq_true, Int.ofNat_eq_natCast, neg_eq] <;> (constructor <;> intro h <;> first | exact h.elim | trivial | omega)

theorem ltI_eq (x y : Int) : ltI x y = decide (x < y) := by
  apply Bool.eq_iff_iff.2
  rw [decide_eq_true_eq]
  cases x <;> cases y <;> simp only [ltI, Nat.blt_eq, Bool.false_eq_true, Int.ofNat_eq_natCast, neg_eq] <;> (constructor <;> intro h <;> first | exact h.elim | trivial | omega)

theorem leI_eq (x y : Int) : leI x y = decide (x ≤ y) := by
  unfold leI
  rw [ltI_eq, ← decide_not]
  exact decide_eq_decide.2 (by omega)

theorem kindN_inj {k j : IntKind} (h : Nat.beq (kindN k) (kindN j) = true) : k = j := by
  cases k <;> cases j <;> first | rfl | (simp [kindN] at h)

theorem opN_inj {a b : BinOp} (h : Nat.beq (opN a) (opN b) = true) : a = b := by
  cases a <;> cases b <;> first | rfl | (simp [opN] at h)

def minK : IntKind → Int
  | .i8 => -128 | .i16 => -32768 | .i32 => -2147483648 | .i64 => -9223372036854775808 | _ => 0
def maxK : IntKind → Int
  | .i8 => 127 | .i16 => 32767 | .i32 => 2147483647 | .i64 => 9223372036854775807 | .u8 => 255 | .u16 => 65535 | .u32 => 4294967295 | .u64 => 18446744073709551615

theorem wrap_in (k : IntKind) (n : Int) : minK k ≤ k.wrap n ∧ k.wrap n ≤ maxK k := by
  cases k <;> simp only [IntKind.wrap, IntKind.bits, IntKind.signed, minK, maxK, Bool.true_and, Bool.false_and, Bool.false_eq_true, if_false, decide_eq_true_eq, Int.reducePow, Int.reduceNeg, Nat.reduceSub, ge_iff_le] <;> first | omega | (split <;> omega)

theorem wrap_id {k : IntKind} {n : Int} (h : minK k ≤ n) (h2 : n ≤ maxK k) : k.wrap n = n := by
  cases k <;> simp only [IntKind.wrap, IntKind.bits, IntKind.signed, minK, maxK, Bool.true_and, Bool.false_and, Bool.false_eq_true, if_false, decide_eq_true_eq, Int.reducePow, Int.reduceNeg, Nat.reduceSub, ge_iff_le] at h h2 ⊢ <;> first | omega | (split <;> omega)

/-- variables, what operations make of them, what a contract tells -/
inductive Tm where
  | var (i : Nat)
  | lit (n : Int)
  | lin (c : Int) (l : List (Nat × Int))
  | bin (op : BinOp) (k : IntKind) (a b : Tm)
  | wrap (k : IntKind) (a : Tm)
  | ap (g : Nat) (a b : Tm)

/-- what an operation of two numbers tells -/
def binD (op : BinOp) (k : IntKind) (x y : Int) : Int := match op with
  | .add => k.wrap (x + y)
  | .sub => k.wrap (x - y)
  | .mul => k.wrap (x * y)
  | .quo => k.wrap (Int.tdiv x y)
  | .rem => Int.tmod x y
  | .and => k.wrap (BitVec.ofInt k.bits x &&& BitVec.ofInt k.bits y).toNat
  | .or => k.wrap (BitVec.ofInt k.bits x ||| BitVec.ofInt k.bits y).toNat
  | .xor => k.wrap (BitVec.ofInt k.bits x ^^^ BitVec.ofInt k.bits y).toNat
  | .andNot => k.wrap (BitVec.ofInt k.bits x &&& ~~~BitVec.ofInt k.bits y).toNat
  | .shl => k.wrap (x * 2 ^ min y.toNat k.bits)
  | .shr => Int.fdiv x (2 ^ min y.toNat k.bits)
  | _ => 0

/-- what the variables are, what the contracts tell -/
class SEnv0 where
  rho : Nat → Int
  app : Nat → Int → Int → Int
  lst : Nat → List Int := fun _ => []

section

def linD [SEnv0] : List (Nat × Int) → Int
  | [] => 0
  | (i, c) :: l => c * SEnv0.rho i + linD l

def Tm.den [SEnv0] : Tm → Int
  | .var i => SEnv0.rho i
  | .lit n => n
  | .lin c l => c + linD l
  | .bin op k a b => binD op k a.den b.den
  | .wrap k a => k.wrap a.den
  | .ap g a b => SEnv0.app g a.den b.den

end

/-- what is known of them -/
class SEnv extends SEnv0 where
  lo : Nat → Int
  hi : Nat → Int
  rng_ok : ∀ i, lo i ≤ rho i ∧ rho i ≤ hi i
  app_ok : ∀ g a b, -9223372036854775808 ≤ app g a b ∧ app g a b ≤ 9223372036854775807
  askEq : Tm → Tm → Option Bool
  askLt : Tm → Tm → Option Bool
  lst_ok : ∀ b, (lst b).length ≤ 1000 := by intro b; exact Nat.zero_le _
  eq_ok : ∀ {a b r}, askEq a b = some r → (a.den == b.den) = r
  lt_ok : ∀ {a b r}, askLt a b = some r → decide (a.den < b.den) = r

/-! ### sums of multiples -/

def insL (i : Nat) (c : Int) : List (Nat × Int) → List (Nat × Int)
  | [] => [(i, c)]
  | (j, d) :: l => match Nat.beq i j with
    | true => forceI (Int.add c d) fun e => match eqI e 0 with
      | true => l
      | false => (j, e) :: l
    | false => match Nat.blt i j with
      | true => (i, c) :: (j, d) :: l
      | false => (j, d) :: insL i c l

def addL : List (Nat × Int) → List (Nat × Int) → List (Nat × Int)
  | [], m => m
  | (i, c) :: l, m => insL i c (addL l m)

def sclL (k : Int) : List (Nat × Int) → List (Nat × Int)
  | [] => []
  | (i, c) :: l => forceI (Int.mul k c) fun e => (i, e) :: sclL k l

def sclZ (k : Int) (l : List (Nat × Int)) : List (Nat × Int) := match eqI k 0 with
  | true => []
  | false => sclL k l

section

theorem insL_den [SEnv0] (i : Nat) (c : Int) : ∀ l, linD (insL i c l) = c * SEnv0.rho i + linD l
  | [] => rfl
  | (j, d) :: l => by
    simp only [insL]
    split
    · rename_i hb
      have hb : i = j := by simpa using hb
      subst hb
      rw [forceI_eq]
      split
      · rename_i h
        rw [eqI_eq, beq_iff_eq] at h
        have h : c + d = 0 := h
        simp only [linD]
        have : c * SEnv0.rho i + d * SEnv0.rho i = 0 := by rw [← Int.add_mul, h, Int.zero_mul]
        omega
      · simp only [linD]
        have : (Int.add c d) * SEnv0.rho i = c * SEnv0.rho i + d * SEnv0.rho i := Int.add_mul _ _ _
        omega
    · split
      · rfl
      · simp only [linD, insL_den i c l]
        omega

theorem addL_den [SEnv0] (m : List (Nat × Int)) : ∀ l, linD (addL l m) = linD l + linD m
  | [] => by simp [addL, linD]
  | (i, c) :: l => by
    simp only [addL, insL_den, linD, addL_den m l]
    omega

theorem sclL_den [SEnv0] (k : Int) : ∀ l, linD (sclL k l) = k * linD l
  | [] => by simp [sclL, linD]
  | (i, c) :: l => by
    simp only [sclL, forceI_eq, linD, sclL_den k l]
    rw [Int.mul_add, ← Int.mul_assoc]
    rfl

theorem sclZ_den [SEnv0] (k : Int) (l : List (Nat × Int)) : linD (sclZ k l) = k * linD l := by
  unfold sclZ
  split
  · rename_i h
    rw [eqI_eq, beq_iff_eq] at h
    subst h
    simp [linD]
  · exact sclL_den k l

end

/-- a sum of multiples, a number -/
structure Ln where
  c : Int
  l : List (Nat × Int)

def linOf : Tm → Option Ln
  | .lit n => some ⟨n, []⟩
  | .var i => some ⟨0, [(i, 1)]⟩
  | .lin c l => some ⟨c, l⟩
  | _ => none

def Ln.add (a b : Ln) : Ln := match a, b with
  | ⟨c, l⟩, ⟨d, m⟩ => forceI (Int.add c d) fun e => ⟨e, addL l m⟩
def Ln.scl (k : Int) (a : Ln) : Ln := match a with
  | ⟨c, l⟩ => forceI (Int.mul k c) fun e => ⟨e, sclZ k l⟩
def Ln.tm (a : Ln) : Tm := match a with
  | ⟨c, []⟩ => .lit c
  | ⟨c, l⟩ => .lin c l

section

def Ln.den [SEnv0] (a : Ln) : Int := a.c + linD a.l

theorem linOf_den [SEnv0] {t : Tm} {a : Ln} (h : linOf t = some a) : a.den = t.den := by
  unfold linOf at h
  split at h <;> first | (cases h; done) | (injection h with h; subst h; simp [Ln.den, Tm.den, linD])

theorem Ln.add_den [SEnv0] (a b : Ln) : (a.add b).den = a.den + b.den := by
  obtain ⟨c, l⟩ := a
  obtain ⟨d, m⟩ := b
  simp only [Ln.add, forceI_eq, Ln.den, addL_den]
  show (c + d) + _ = _
  omega

theorem Ln.scl_den [SEnv0] (k : Int) (a : Ln) : (a.scl k).den = k * a.den := by
  obtain ⟨c, l⟩ := a
  simp only [Ln.scl, forceI_eq, Ln.den, sclZ_den]
  rw [Int.mul_add]
  rfl

theorem Ln.tm_den [SEnv0] (a : Ln) : a.tm.den = a.den := by
  unfold Ln.tm
  split <;> simp [Ln.den, Tm.den, linD]

end

/-! ### bounds -/

structure Rg where
  lo : Int
  hi : Int

def Rg.inK (r : Rg) (k : IntKind) : Bool := and (leI (minK k) r.lo) (leI r.hi (maxK k))

section

def rangeL [SEnv] : List (Nat × Int) → Int → Int → Rg
  | [], a, b => ⟨a, b⟩
  | (i, c) :: l, a, b => match ltI c 0 with
    | false => forceI (Int.add a (Int.mul c (SEnv.lo i))) fun a => forceI (Int.add b (Int.mul c (SEnv.hi i))) fun b => rangeL l a b
    | true => forceI (Int.add a (Int.mul c (SEnv.hi i))) fun a => forceI (Int.add b (Int.mul c (SEnv.lo i))) fun b => rangeL l a b

theorem rangeL_ok [SEnv] : ∀ (l : List (Nat × Int)) (a b x : Int), a ≤ x → x ≤ b → (rangeL l a b).lo ≤ x + linD l ∧ x + linD l ≤ (rangeL l a b).hi
  | [], a, b, x, h1, h2 => by simp only [rangeL, linD]; omega
  | (i, c) :: l, a, b, x, h1, h2 => by
    obtain ⟨h3, h4⟩ := SEnv.rng_ok i
    simp only [rangeL, linD]
    split
    · rename_i h
      rw [ltI_eq] at h
      have hc : 0 ≤ c := by have := of_decide_eq_false h; omega
      rw [forceI_eq, forceI_eq]
      have k1 : c * SEnv.lo i ≤ c * SEnv0.rho i := Int.mul_le_mul_of_nonneg_left h3 hc
      have k2 : c * SEnv0.rho i ≤ c * SEnv.hi i := Int.mul_le_mul_of_nonneg_left h4 hc
      have := rangeL_ok l (Int.add a (Int.mul c (SEnv.lo i))) (Int.add b (Int.mul c (SEnv.hi i))) (x + c * SEnv0.rho i) (by show a + c * SEnv.lo i ≤ _; omega) (by show _ ≤ b + c * SEnv.hi i; omega)
      rw [← Int.add_assoc]
      exact this
    · rename_i h
      rw [ltI_eq] at h
      have hc : c ≤ 0 := by have := of_decide_eq_true h; omega
      rw [forceI_eq, forceI_eq]
      have k1 : c * SEnv0.rho i ≤ c * SEnv.lo i := Int.mul_le_mul_of_nonpos_left hc h3
      have k2 : c * SEnv.hi i ≤ c * SEnv0.rho i := Int.mul_le_mul_of_nonpos_left hc h4
      have := rangeL_ok l (Int.add a (Int.mul c (SEnv.hi i))) (Int.add b (Int.mul c (SEnv.lo i))) (x + c * SEnv0.rho i) (by show a + c * SEnv.hi i ≤ _; omega) (by show _ ≤ b + c * SEnv.lo i; omega)
      rw [← Int.add_assoc]
      exact this

def Ln.range [SEnv] (a : Ln) : Rg := match a with
  | ⟨c, l⟩ => rangeL l c c

theorem Ln.range_ok [SEnv] (a : Ln) : a.range.lo ≤ a.den ∧ a.den ≤ a.range.hi := by
  obtain ⟨c, l⟩ := a
  exact rangeL_ok l c c c (Int.le_refl _) (Int.le_refl _)

def rangeT [SEnv] : Tm → Option Rg
  | .var i => some ⟨SEnv.lo i, SEnv.hi i⟩
  | .lit n => some ⟨n, n⟩
  | .lin c l => some (rangeL l c c)
  | .bin op k a b => match op with
    | .add | .sub | .mul | .and | .or | .xor | .andNot | .shl => some ⟨minK k, maxK k⟩
    | .quo => match b, rangeT a with
      | .lit c, some ⟨x, y⟩ => match and (ltI 0 c) (and (leI 0 x) (leI y (maxK k))) with
        | true => some ⟨Int.ediv x c, Int.ediv y c⟩
        | false => some ⟨minK k, maxK k⟩
      | _, _ => some ⟨minK k, maxK k⟩
    | .rem => match b, rangeT a with
      | .lit c, some ⟨x, _⟩ => match and (ltI 0 c) (leI 0 x) with
        | true => some ⟨0, Int.sub c 1⟩
        | false => none
      | _, _ => none
    | _ => none
  | .wrap k _ => some ⟨minK k, maxK k⟩
  | .ap _ _ _ => some ⟨-9223372036854775808, 9223372036854775807⟩

theorem quo_pos {k : IntKind} {x c : Int} (hc : 0 < c) (hx : 0 ≤ x) (hm : x ≤ maxK k) : k.wrap (Int.tdiv x c) = x / c := by
  have h1 : Int.tdiv x c = x / c := Int.tdiv_eq_ediv_of_nonneg hx
  have h2 : 0 ≤ x / c := Int.ediv_nonneg hx (by omega)
  have h3 : x / c ≤ x := Int.ediv_le_self _ hx
  rw [h1, wrap_id _ (by omega)]
  have : minK k ≤ 0 := by cases k <;> simp [minK]
  omega

theorem rangeT_ok [SEnv] : ∀ (t : Tm) {r : Rg}, rangeT t = some r → r.lo ≤ t.den ∧ t.den ≤ r.hi
  | .var i, r, h => by injection h with h; subst h; exact SEnv.rng_ok i
  | .lit n, r, h => by injection h with h; subst h; exact ⟨Int.le_refl _, Int.le_refl _⟩
  | .lin c l, r, h => by injection h with h; subst h; exact rangeL_ok l c c c (Int.le_refl _) (Int.le_refl _)
  | .wrap k a, r, h => by injection h with h; subst h; exact wrap_in k _
  | .ap g a b, r, h => by injection h with h; subst h; exact SEnv.app_ok _ _ _
  | .bin op k a b, r, h => by
    have ih := @rangeT_ok _ a
    have q : ∀ {x : Int}, some (⟨minK k, maxK k⟩ : Rg) = some r → r.lo ≤ k.wrap x ∧ k.wrap x ≤ r.hi := by
      intro x h
      injection h with h
      subst h
      exact wrap_in k _
    cases op <;> simp only [rangeT] at h <;> first | (cases h; done) | exact q h | skip
    case quo =>
      split at h
      · rename_i c x y hr
        obtain ⟨h1, h2⟩ := ih hr
        split at h
        · rename_i hc
          simp only [Bool.and_eq_true, ltI_eq, leI_eq, decide_eq_true_eq] at hc
          obtain ⟨hc, hx, hy⟩ := hc
          injection h with h
          subst h
          simp only [Tm.den, binD]
          have h3 : x ≤ a.den := h1
          have h4 : a.den ≤ y := h2
          rw [quo_pos hc (by omega) (by omega)]
          exact ⟨Int.ediv_le_ediv hc h3, Int.ediv_le_ediv hc h4⟩
        · exact q h
      · exact q h
    case rem =>
      split at h
      · rename_i c x y hr
        obtain ⟨h1, h2⟩ := ih hr
        split at h
        · rename_i hc
          simp only [Bool.and_eq_true, ltI_eq, leI_eq, decide_eq_true_eq] at hc
          obtain ⟨hc, hx⟩ := hc
          injection h with h
          subst h
          simp only [Tm.den, binD]
          have h3 : x ≤ a.den := h1
          rw [Int.tmod_eq_emod_of_nonneg (by omega)]
          have h5 := Int.emod_nonneg a.den (show c ≠ 0 by omega)
          have h6 := Int.emod_lt_of_pos a.den hc
          refine ⟨h5, ?_⟩
          show _ ≤ c - 1
          omega
        · cases h
      · cases h

/-! ### terms made as short as they may be -/

def mkLn [SEnv] (op : BinOp) (k : IntKind) (a b : Tm) (x : Ln) : Tm := match x.range.inK k with
  | true => x.tm
  | false => .bin op k a b

def mkRem [SEnv] (k : IntKind) (a b : Tm) (q : Int) (c : Int) : Tm := match linOf a with
  | some x => mkLn .rem k a b (x.add ⟨Int.neg (Int.mul q c), []⟩)
  | none => .bin .rem k a b

def mkBin [SEnv] (op : BinOp) (k : IntKind) (a b : Tm) : Tm := match op with
  | .add => match linOf a, linOf b with
    | some x, some y => mkLn .add k a b (x.add y)
    | _, _ => .bin .add k a b
  | .sub => match linOf a, linOf b with
    | some x, some y => mkLn .sub k a b (x.add (y.scl (-1)))
    | _, _ => .bin .sub k a b
  | .mul => match linOf a, linOf b with
    | some ⟨c, []⟩, some y => mkLn .mul k a b (y.scl c)
    | some x, some ⟨c, []⟩ => mkLn .mul k a b (x.scl c)
    | _, _ => .bin .mul k a b
  | .quo => match b, rangeT a with
    | .lit c, some ⟨x, y⟩ => match and (and (ltI 0 c) (and (leI 0 x) (leI y (maxK k)))) (eqI (Int.ediv x c) (Int.ediv y c)) with
      | true => forceI (Int.ediv x c) fun q => .lit q
      | false => .bin .quo k a b
    | _, _ => .bin .quo k a b
  | .rem => match b, rangeT a with
    | .lit c, some ⟨x, y⟩ => match and (and (ltI 0 c) (leI 0 x)) (eqI (Int.ediv x c) (Int.ediv y c)) with
      | true => mkRem k a b (Int.ediv x c) c
      | false => .bin .rem k a b
    | _, _ => .bin .rem k a b
  | .shl => match b, linOf a with
    | .lit (.ofNat m), some x => mkLn .shl k a b (x.scl (.ofNat (Nat.pow 2 (Nat.min m k.bits))))
    | _, _ => .bin .shl k a b
  | op => .bin op k a b

def mkWrap [SEnv] (k : IntKind) (a : Tm) : Tm := match rangeT a with
  | some r => match r.inK k with
    | true => a
    | false => .wrap k a
  | none => .wrap k a

theorem mkLn_den [SEnv] {op : BinOp} {k : IntKind} {a b : Tm} {x : Ln} (h : minK k ≤ x.den → x.den ≤ maxK k → binD op k a.den b.den = x.den) : (mkLn op k a b x).den = binD op k a.den b.den := by
  unfold mkLn
  split
  · rename_i hr
    simp only [Rg.inK, Bool.and_eq_true, leI_eq, decide_eq_true_eq] at hr
    obtain ⟨h1, h2⟩ := x.range_ok
    rw [Ln.tm_den, h (by omega) (by omega)]
  · rfl

theorem mkBin_den [SEnv] (op : BinOp) (k : IntKind) (a b : Tm) : (mkBin op k a b).den = binD op k a.den b.den := by
  cases op <;> simp only [mkBin] <;> try rfl
  case add =>
    split
    · rename_i x y hx hy
      refine mkLn_den fun h1 h2 => ?_
      rw [Ln.add_den, linOf_den hx, linOf_den hy] at h1 h2 ⊢
      exact wrap_id h1 h2
    · rfl
  case sub =>
    split
    · rename_i x y hx hy
      refine mkLn_den fun h1 h2 => ?_
      have e : (x.add (y.scl (-1))).den = a.den - b.den := by rw [Ln.add_den, Ln.scl_den, linOf_den hx, linOf_den hy]; omega
      rw [e] at h1 h2 ⊢
      exact wrap_id h1 h2
    · rfl
  case mul =>
    split
    · rename_i c y hx hy
      refine mkLn_den fun h1 h2 => ?_
      have e : (y.scl c).den = a.den * b.den := by rw [Ln.scl_den, linOf_den hy, ← linOf_den hx]; simp [Ln.den, linD]
      rw [e] at h1 h2 ⊢
      exact wrap_id h1 h2
    · rename_i x c _ hx hy
      refine mkLn_den fun h1 h2 => ?_
      have e : (x.scl c).den = a.den * b.den := by rw [Ln.scl_den, linOf_den hx, ← linOf_den hy, Int.mul_comm]; simp [Ln.den, linD]
      rw [e] at h1 h2 ⊢
      exact wrap_id h1 h2
    · rfl
  case shl =>
    split
    · rename_i m x hx
      refine mkLn_den fun h1 h2 => ?_
      have e : (x.scl (.ofNat (Nat.pow 2 (Nat.min m k.bits)))).den = a.den * 2 ^ min m k.bits := by
        rw [Ln.scl_den, linOf_den hx, Int.mul_comm]
        congr 1
      rw [e] at h1 h2 ⊢
      exact wrap_id h1 h2
    · rfl
  case quo =>
    split
    · rename_i c x y hr
      obtain ⟨h1, h2⟩ := rangeT_ok a hr
      split
      · rename_i hc
        simp only [Bool.and_eq_true, ltI_eq, leI_eq, eqI_eq, decide_eq_true_eq, beq_iff_eq] at hc
        obtain ⟨⟨hc, hx, hy⟩, he⟩ := hc
        rw [forceI_eq]
        simp only [Tm.den, binD]
        have h3 : x ≤ a.den := h1
        have h4 : a.den ≤ y := h2
        rw [quo_pos hc (by omega) (by omega)]
        have h5 := Int.ediv_le_ediv hc h3
        have h6 := Int.ediv_le_ediv hc h4
        have he : x / c = y / c := he
        show x / c = a.den / c
        omega
      · rfl
    · rfl
  case rem =>
    split
    · rename_i c x y hr
      obtain ⟨h1, h2⟩ := rangeT_ok a hr
      split
      · rename_i hc
        simp only [Bool.and_eq_true, ltI_eq, leI_eq, eqI_eq, decide_eq_true_eq, beq_iff_eq] at hc
        obtain ⟨⟨hc, hx⟩, he⟩ := hc
        unfold mkRem
        split
        · rename_i z hz
          refine mkLn_den fun _ _ => ?_
          rw [Ln.add_den, linOf_den hz]
          have h3 : x ≤ a.den := h1
          have h4 : a.den ≤ y := h2
          have h5 := Int.ediv_le_ediv hc h3
          have h6 := Int.ediv_le_ediv hc h4
          have he : x / c = y / c := he
          have hq : a.den / c = x / c := by omega
          simp only [Tm.den, binD]
          rw [Int.tmod_eq_emod_of_nonneg (by omega), Int.emod_def, hq]
          have e : (⟨Int.neg (Int.mul (Int.ediv x c) c), []⟩ : Ln).den = -(x / c * c) := by
            simp only [Ln.den, linD, Int.add_zero]
            rfl
          rw [e, Int.mul_comm]
          omega
        · rfl
      · rfl
    · rfl

theorem mkWrap_den [SEnv] (k : IntKind) (a : Tm) : (mkWrap k a).den = k.wrap a.den := by
  unfold mkWrap
  split
  · rename_i r hr
    obtain ⟨h1, h2⟩ := rangeT_ok a hr
    split
    · rename_i hk
      simp only [Rg.inK, Bool.and_eq_true, leI_eq, decide_eq_true_eq] at hk
      rw [wrap_id (by omega) (by omega)]
    · rfl
  · rfl

/-! ### held against each other -/

def eqI2 (a b : Nat × Int) : Bool := match a, b with
  | (i, c), (j, d) => and (Nat.beq i j) (eqI c d)

def eqLn : List (Nat × Int) → List (Nat × Int) → Bool
  | [], [] => true
  | a :: l, b :: m => and (eqI2 a b) (eqLn l m)
  | _, _ => false

def eqTm : Tm → Tm → Bool
  | .var i, .var j => Nat.beq i j
  | .lit n, .lit m => eqI n m
  | .lin n l, .lin m k => and (eqI n m) (eqLn l k)
  | .bin o k a b, .bin p j c d => and (Nat.beq (opN o) (opN p)) (and (Nat.beq (kindN k) (kindN j)) (and (eqTm a c) (eqTm b d)))
  | .wrap k a, .wrap j b => and (Nat.beq (kindN k) (kindN j)) (eqTm a b)
  | .ap g a b, .ap f c d => and (Nat.beq g f) (and (eqTm a c) (eqTm b d))
  | _, _ => false

theorem eqLn_eq : ∀ {l m : List (Nat × Int)}, eqLn l m = true → l = m
  | [], [], _ => rfl
  | (i, c) :: l, (j, d) :: m, h => by
    simp only [eqLn, eqI2, Bool.and_eq_true, Nat.beq_eq, eqI_eq, beq_iff_eq] at h
    rw [h.1.1, h.1.2, eqLn_eq h.2]
  | [], _ :: _, h => by cases h
  | _ :: _, [], h => by cases h

theorem eqTm_eq : ∀ (u v : Tm), eqTm u v = true → u = v := by
  intro u
  induction u with
  | var i => intro v h; cases v <;> simp only [eqTm, Nat.beq_eq, Bool.false_eq_true] at h; rw [h]
  | lit n => intro v h; cases v <;> simp only [eqTm, eqI_eq, beq_iff_eq, Bool.false_eq_true] at h; rw [h]
  | lin n l => intro v h; cases v <;> simp only [eqTm, Bool.and_eq_true, eqI_eq, beq_iff_eq, Bool.false_eq_true] at h; rw [h.1, eqLn_eq h.2]
  | bin o k a b iha ihb =>
    intro v h
    cases v <;> simp only [eqTm, Bool.and_eq_true, Bool.false_eq_true] at h
    rw [opN_inj h.1, kindN_inj h.2.1, iha _ h.2.2.1, ihb _ h.2.2.2]
  | wrap k a iha =>
    intro v h
    cases v <;> simp only [eqTm, Bool.and_eq_true, Bool.false_eq_true] at h
    rw [kindN_inj h.1, iha _ h.2]
  | ap g a b iha ihb =>
    intro v h
    cases v <;> simp only [eqTm, Bool.and_eq_true, Nat.beq_eq, Bool.false_eq_true] at h
    rw [h.1, iha _ h.2.1, ihb _ h.2.2]

/-- what is left between two -/
def gapR [SEnv] (a b : Tm) : Option Rg := match linOf a, linOf b with
  | some x, some y => some (x.add (y.scl (-1))).range
  | _, _ => match rangeT a, rangeT b with
    | some ⟨a, b⟩, some ⟨c, d⟩ => some ⟨Int.sub a d, Int.sub b c⟩
    | _, _ => none

theorem gapR_ok [SEnv] {a b : Tm} {r : Rg} (h : gapR a b = some r) : r.lo ≤ a.den - b.den ∧ a.den - b.den ≤ r.hi := by
  unfold gapR at h
  split at h
  · rename_i x y hx hy
    injection h with h
    subst h
    have e : (x.add (y.scl (-1))).den = a.den - b.den := by rw [Ln.add_den, Ln.scl_den, linOf_den hx, linOf_den hy]; omega
    rw [← e]
    exact Ln.range_ok _
  · split at h
    · rename_i x y c d h1 h2
      injection h with h
      subst h
      obtain ⟨q1, q2⟩ := rangeT_ok a h1
      obtain ⟨q3, q4⟩ := rangeT_ok b h2
      have q1 : x ≤ a.den := q1
      have q2 : a.den ≤ y := q2
      have q3 : c ≤ b.den := q3
      have q4 : b.den ≤ d := q4
      show x - d ≤ _ ∧ _ ≤ y - c
      omega
    · cases h

def decEq [SEnv] (a b : Tm) : Option Bool := match eqTm a b with
  | true => some true
  | false => match gapR a b with
    | some ⟨x, y⟩ => match or (ltI 0 x) (ltI y 0) with
      | true => some false
      | false => match and (eqI x 0) (eqI y 0) with
        | true => some true
        | false => SEnv.askEq a b
    | none => SEnv.askEq a b

def decLt [SEnv] (a b : Tm) : Option Bool := match gapR a b with
  | some ⟨x, y⟩ => match ltI y 0 with
    | true => some true
    | false => match leI 0 x with
      | true => some false
      | false => SEnv.askLt a b
  | none => SEnv.askLt a b

theorem decEq_ok [SEnv] {a b : Tm} {r : Bool} (h : decEq a b = some r) : (a.den == b.den) = r := by
  unfold decEq at h
  split at h
  · rename_i he
    injection h with h
    subst h
    rw [eqTm_eq _ _ he]
    simp
  · split at h
    · rename_i x y hg
      obtain ⟨h1, h2⟩ := gapR_ok hg
      have h1 : x ≤ a.den - b.den := h1
      have h2 : a.den - b.den ≤ y := h2
      split at h
      · rename_i hc
        injection h with h
        subst h
        simp only [Bool.or_eq_true, ltI_eq, decide_eq_true_eq] at hc
        rw [beq_eq_false_iff_ne]
        omega
      · split at h
        · rename_i hc
          injection h with h
          subst h
          simp only [Bool.and_eq_true, eqI_eq, beq_iff_eq] at hc
          rw [beq_iff_eq]
          omega
        · exact SEnv.eq_ok h
    · exact SEnv.eq_ok h

theorem decLt_ok [SEnv] {a b : Tm} {r : Bool} (h : decLt a b = some r) : decide (a.den < b.den) = r := by
  unfold decLt at h
  split at h
  · rename_i x y hg
    obtain ⟨h1, h2⟩ := gapR_ok hg
    have h1 : x ≤ a.den - b.den := h1
    have h2 : a.den - b.den ≤ y := h2
    split at h
    · rename_i hc
      injection h with h
      subst h
      simp only [ltI_eq, decide_eq_true_eq] at hc
      exact decide_eq_true (by omega)
    · split at h
      · rename_i hc
        injection h with h
        subst h
        simp only [leI_eq, decide_eq_true_eq] at hc
        exact decide_eq_false (by omega)
      · exact SEnv.lt_ok h
  · exact SEnv.lt_ok h

end
end Go.Proofs.YtjpgogmnabkgnaaGreat.Ev

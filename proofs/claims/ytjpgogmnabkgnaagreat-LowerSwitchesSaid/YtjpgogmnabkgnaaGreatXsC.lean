/- A switch in a loop: what is known; the loop that is known, once its five ways are. -/
import Derived.Test.YtjpgogmnabkgnaaGreatXsB
namespace Go.Proofs.YtjpgogmnabkgnaaGreat
open Go.RowKit Go.Proofs.YtjpgogmnabkgnaaGreat.Ev

/-- its digits' sum -/
def tFi (nd : Nat) : Tm := match nd with
  | 1 => .lin 0 [(14, 1)]
  | 2 => .lin 0 [(9, 10), (14, 1)]
  | _ => .lin 0 [(3, 100), (9, 10), (14, 1)]
theorem tFi_den [InW] {s : Shq} (hs : InQ s) (d : SD) : @Tm.den (envQ s.k d) (tFi s.nd) = InW.fi := by
  have hf := InW.fi_rng
  rcases hs.nd with ⟨e, h⟩ | ⟨e, h1, h2⟩ | ⟨e, h⟩ <;> rw [e]
  · show 0 + (1 * (InW.fi % 10) + 0) = InW.fi; omega
  · show 0 + (10 * (InW.fi / 10 % 10) + (1 * (InW.fi % 10) + 0)) = InW.fi; omega
  · show 0 + (100 * (InW.fi / 100) + (10 * (InW.fi / 10 % 10) + (1 * (InW.fi % 10) + 0))) = InW.fi; omega

/-- within bounds -/
def kWithS (nd : Nat) (args : AV) (h : H) : Option (AV × H) := match args with
  | .cons (.sym .i64 (.var j)) (.cons (.int .i64 (.ofNat m)) .nil) => match j with
    | 10 => match Nat.beq m 10 with
      | true => some (.sym .i64 (.lin 0 [(0, 1)]), h)
      | false => none
    | 11 => match Nat.beq m 10 with
      | true => some (.sym .i64 (.lin 0 [(1, 1)]), h)
      | false => none
    | 12 => match Nat.beq m 10 with
      | true => some (.sym .i64 (.lin 0 [(2, 1)]), h)
      | false => none
    | 13 => match Nat.beq m 600 with
      | true => some (.sym .i64 (tFi nd), h)
      | false => none
    | _ => none
  | _ => none

theorem kWithS_ok [InW] {s : Shq} (hs : InQ s) {d : SD} (hd : d.Bd) {args : AV} {h : H} {v : AV} {h' : H} (hr : kWithS s.nd args h = some (v, h')) : @SoundCall (envQ s.k d) Tryz.prog Keep.none 13 args h v h' := by
  letI := envR hs hd [] [] noQ1 noQ2
  unfold kWithS at hr
  split at hr
  case h_2 => cases hr
  rename_i j m
  split at hr
  · split at hr
    · rename_i hm
      obtain rfl : m = 10 := by simpa using hm
      injection hr with hr
      injection hr with e1 e2
      subst e1 e2
      exact kWithL_one (i := InW.f0) (by decide) (by decide) rfl (by show 0 + (1 * InW.tm + 0) = withF InW.f0 10; unfold InW.tm; omega)
    · cases hr
  · split at hr
    · rename_i hm
      obtain rfl : m = 10 := by simpa using hm
      injection hr with hr
      injection hr with e1 e2
      subst e1 e2
      exact kWithL_one (i := InW.f1) (by decide) (by decide) rfl (by show 0 + (1 * InW.by_ + 0) = withF InW.f1 10; unfold InW.by_; omega)
    · cases hr
  · split at hr
    · rename_i hm
      obtain rfl : m = 10 := by simpa using hm
      injection hr with hr
      injection hr with e1 e2
      subst e1 e2
      exact kWithL_one (i := InW.f2) (by decide) (by decide) rfl (by show 0 + (1 * InW.fr + 0) = withF InW.f2 10; unfold InW.fr; omega)
    · cases hr
  · split at hr
    · rename_i hm
      obtain rfl : m = 600 := by simpa using hm
      injection hr with hr
      injection hr with e1 e2
      subst e1 e2
      exact kWithL_one (i := InW.f3) (by decide) (by decide) rfl (tFi_den hs d)
    · cases hr
  · cases hr

def knownS [SEnv] (nd : Nat) (l : List Ent) : Known := (kPads l).or ((Known.one 14 (kDecS nd)).or ((Known.one 14 kDec).or ((Known.one 13 (kWithS nd)).or ((Known.one 18 kEqM).or ((Known.one 18 kEqL).or (knownCmp.or knownTwo))))))
theorem knownS_ok [InW] {s : Shq} (hs : InQ s) {d : SD} (hd : d.Bd) {eqs lts : Asks} {he : EqsQ s d eqs} {hl : LtsQ s d lts} {l : List Ent} (hp : ∀ x ∈ l, @Ent.Ok (envQ s.k d) Tryz.prog Keep.none x) : @Known.Ok (envQ s.k d) Tryz.prog Keep.none (@knownS (envR hs hd eqs lts he hl) s.nd l) := by
  letI := envR hs hd eqs lts he hl
  have h1 := @kPads_ok _ Tryz.prog l hp
  have h0 : (Known.one 14 (kDecS s.nd)).Ok Tryz.prog Keep.none := @Known.one_ok _ _ _ _ _ (kDecS_ok hs hd)
  have h2 : (Known.one 14 kDec).Ok Tryz.prog Keep.none := @Known.one_ok _ _ _ _ _ (kDec_ok fun n w h => decL n w h)
  have h3 : (Known.one 13 (kWithS s.nd)).Ok Tryz.prog Keep.none := @Known.one_ok _ _ _ _ _ (kWithS_ok hs hd)
  have h4 : (Known.one 18 kEqL).Ok Tryz.prog Keep.none := @Known.one_ok _ _ _ _ _ kEqL_ok
  have h6 : (Known.one 18 kEqM).Ok Tryz.prog Keep.none := @Known.one_ok _ _ _ _ _ (kEqM_ok rfl)
  have h5 : knownTwo.Ok Tryz.prog Keep.none := @knownTwo_ok _ app_two
  exact @Known.or_ok _ _ _ _ _ h1 (@Known.or_ok _ _ _ _ _ h0 (@Known.or_ok _ _ _ _ _ h2 (@Known.or_ok _ _ _ _ _ h3 (@Known.or_ok _ _ _ _ _ h6 (@Known.or_ok _ _ _ _ _ h4 (@Known.or_ok _ _ _ _ _ knownCmp_ok h5))))))
theorem noPadsS [InW] {s : Shq} {d : SD} : ∀ x ∈ ([] : List Ent), @Ent.Ok (envQ s.k d) Tryz.prog Keep.none x := fun _ h => by cases h
theorem tabNilS [InW] {s : Shq} {d : SD} : @Tab.Ok (envQ s.k d) Tryz.prog Keep.none [] := fun _ h => by cases h

/-! ### ways -/

/-- how a loop tells its case, and what the number becomes by each -/
structure Wy where
  K : Tm
  turn : Bool
  tA : Tm
  tB : Tm
  tC : Tm
  tD : Tm
structure Wy.Ok [InW] (s : Shq) (y : Wy) : Prop where
  K : ∀ d : SD, d.Bd → @Tm.den (envQ s.k d) y.K = kS InW.by_ InW.fr d.i
  tA : ∀ d : SD, d.Bd → @Tm.den (envQ s.k d) y.tA = (d.n + 1) % 256
  tB : ∀ d : SD, d.Bd → @Tm.den (envQ s.k d) y.tB = (d.n * 2 + 3) % 256
  tC : ∀ d : SD, d.Bd → @Tm.den (envQ s.k d) y.tC = (d.n + 3) % 256
  tD : ∀ d : SD, d.Bd → @Tm.den (envQ s.k d) y.tD = (d.n + 255) % 256

abbrev tBy : Tm := .lin 0 [(1, 1)]
abbrev tFr : Tm := .lin 0 [(2, 1)]
def wLaw : Wy := ⟨.bin .rem .i64 (.bin .add .i64 (.bin .mul .i64 (.var 4) tBy) tFr) (.lit 5), false, .bin .rem .i64 (.lin 1 [(5, 1)]) (.lit 256), .bin .rem .i64 (.bin .add .i64 (.bin .rem .i64 (.lin 0 [(5, 2)]) (.lit 256)) (.lit 3)) (.lit 256), .bin .rem .i64 (.lin 3 [(5, 1)]) (.lit 256), .bin .rem .i64 (.lin 255 [(5, 1)]) (.lit 256)⟩
def wModel : Wy := ⟨.wrap .i32 (.ap 17 (.wrap .i32 (.bin .add .i64 (.wrap .i32 (.bin .mul .i64 (.var 4) tBy)) tFr)) (.lit 5)), true, .wrap .u8 (.lin 1 [(5, 1)]), .wrap .u8 (.wrap .i32 (.bin .add .i64 (.wrap .u8 (.lin 0 [(5, 2)])) (.lit 3))), .wrap .u8 (.lin 3 [(5, 1)]), .wrap .u8 (.lin (-1) [(5, 1)])⟩

theorem u8_wrap (x : Int) : IntKind.u8.wrap x = x % 256 := by simp [IntKind.wrap, IntKind.bits, IntKind.signed]
theorem w64 {x : Int} (h : -1000000 ≤ x) (h2 : x ≤ 1000000) : IntKind.i64.wrap x = x := wrap_id (k := .i64) (by show (-9223372036854775808 : Int) ≤ _; omega) (by show _ ≤ (9223372036854775807 : Int); omega)
theorem w32 {x : Int} (h : -1000000 ≤ x) (h2 : x ≤ 1000000) : IntKind.i32.wrap x = x := wrap_id (k := .i32) (by show (-2147483648 : Int) ≤ _; omega) (by show _ ≤ (2147483647 : Int); omega)

theorem mul_rng {i b : Int} (hi : 0 ≤ i ∧ i ≤ 10) (hb : 0 ≤ b ∧ b ≤ 9) : 0 ≤ i * b ∧ i * b ≤ 90 :=
  ⟨Int.mul_nonneg hi.1 hb.1, Int.le_trans (Int.mul_le_mul hi.2 hb.2 hb.1 (by decide)) (by decide)⟩

theorem wLaw_ok [InW] (s : Shq) : wLaw.Ok s where
  K d hd := by
    have h1 := mul_rng hd.i InW.by_rng
    have h2 := InW.fr_rng
    show Int.tmod (IntKind.i64.wrap (IntKind.i64.wrap (d.i * (0 + (1 * InW.by_ + 0))) + (0 + (1 * InW.fr + 0)))) 5 = Int.tmod (d.i * InW.by_ + InW.fr) 5
    rw [show 0 + (1 * InW.by_ + 0) = InW.by_ by omega, show 0 + (1 * InW.fr + 0) = InW.fr by omega, w64 (x := d.i * InW.by_) (by omega) (by omega), w64 (by omega) (by omega)]
  tA d hd := by
    have h := hd.n
    show Int.tmod (1 + (1 * d.n + 0)) 256 = _
    rw [Int.tmod_eq_emod_of_nonneg (by omega)]
    omega
  tB d hd := by
    have h := hd.n
    show Int.tmod (IntKind.i64.wrap (Int.tmod (0 + (2 * d.n + 0)) 256 + 3)) 256 = _
    rw [Int.tmod_eq_emod_of_nonneg (a := 0 + (2 * d.n + 0)) (by omega), w64 (by omega) (by omega), Int.tmod_eq_emod_of_nonneg (by omega)]
    omega
  tC d hd := by
    have h := hd.n
    show Int.tmod (3 + (1 * d.n + 0)) 256 = _
    rw [Int.tmod_eq_emod_of_nonneg (by omega)]
    omega
  tD d hd := by
    have h := hd.n
    show Int.tmod (255 + (1 * d.n + 0)) 256 = _
    rw [Int.tmod_eq_emod_of_nonneg (by omega)]
    omega

theorem wModel_ok [InW] (s : Shq) : wModel.Ok s where
  K d hd := by
    have h1 := mul_rng hd.i InW.by_rng
    have h2 := InW.fr_rng
    show IntKind.i32.wrap (IntKind.i64.wrap (twoF 17 (IntKind.i32.wrap (IntKind.i64.wrap (IntKind.i32.wrap (IntKind.i64.wrap (d.i * (0 + (1 * InW.by_ + 0)))) + (0 + (1 * InW.fr + 0))))) 5)) = Int.tmod (d.i * InW.by_ + InW.fr) 5
    rw [show 0 + (1 * InW.by_ + 0) = InW.by_ by omega, show 0 + (1 * InW.fr + 0) = InW.fr by omega, w64 (x := d.i * InW.by_) (by omega) (by omega), w32 (x := d.i * InW.by_) (by omega) (by omega), w64 (x := d.i * InW.by_ + InW.fr) (by omega) (by omega), w32 (x := d.i * InW.by_ + InW.fr) (by omega) (by omega)]
    have e : twoF 17 (d.i * InW.by_ + InW.fr) 5 = Int.tmod (d.i * InW.by_ + InW.fr) 5 := by
      unfold twoF divF remF
      simp
    have e2 : Int.tmod (d.i * InW.by_ + InW.fr) 5 = (d.i * InW.by_ + InW.fr) % 5 := Int.tmod_eq_emod_of_nonneg (by omega)
    rw [e, e2, w64 (by omega) (by omega), w32 (by omega) (by omega)]
  tA d hd := by
    show IntKind.u8.wrap (1 + (1 * d.n + 0)) = _
    rw [u8_wrap]
    omega
  tB d hd := by
    have h := hd.n
    show IntKind.u8.wrap (IntKind.i32.wrap (IntKind.i64.wrap (IntKind.u8.wrap (0 + (2 * d.n + 0)) + 3))) = _
    rw [u8_wrap (0 + (2 * d.n + 0)), w64 (by omega) (by omega), w32 (by omega) (by omega), u8_wrap]
    omega
  tC d hd := by
    show IntKind.u8.wrap (3 + (1 * d.n + 0)) = _
    rw [u8_wrap]
    omega
  tD d hd := by
    show IntKind.u8.wrap (-1 + (1 * d.n + 0)) = _
    rw [u8_wrap]
    omega

/-- what is asked of the case -/
def ak (y : Wy) (n : Int) (b : Bool) : Tm × Tm × Bool := match y.turn with
  | true => (.lit n, y.K, b)
  | false => (y.K, .lit n, b)
def aks (y : Wy) (a b c : Bool) : Asks := [ak y 0 a, ak y 1 b, ak y 2 c]
abbrev tTm : Tm := .lin 0 [(0, 1)]
abbrev askT (r : Bool) : Asks := [(.var 4, tTm, r)]

section
variable [InW] {s : Shq} {d : SD}
theorem ak_ok {y : Wy} (hy : y.Ok s) (hd : d.Bd) {n : Int} {b : Bool} (h : (kS InW.by_ InW.fr d.i == n) = b) : (@Tm.den (envQ s.k d) (ak y n b).1 == @Tm.den (envQ s.k d) (ak y n b).2.1) = (ak y n b).2.2 := by
  unfold ak
  have hK := hy.K d hd
  cases y.turn
  · show (@Tm.den (envQ s.k d) y.K == n) = b
    rw [hK, h]
  · show (n == @Tm.den (envQ s.k d) y.K) = b
    rw [hK, ← h]
    exact Bool.beq_comm
theorem aks_ok {y : Wy} (hy : y.Ok s) (hd : d.Bd) {a b c : Bool} (h0 : (kS InW.by_ InW.fr d.i == 0) = a) (h1 : (kS InW.by_ InW.fr d.i == 1) = b) (h2 : (kS InW.by_ InW.fr d.i == 2) = c) : EqsQ s d (aks y a b c) := by
  intro x hx
  simp only [aks, List.mem_cons, List.not_mem_nil, or_false] at hx
  rcases hx with rfl | rfl | rfl
  · exact ak_ok hy hd h0
  · exact ak_ok hy hd h1
  · exact ak_ok hy hd h2
theorem askT_ok {r : Bool} (h : decide (d.i < InW.tm) = r) : LtsQ s d (askT r) := by
  intro x hx
  obtain rfl : x = _ := by simpa using hx
  show decide (d.i < 0 + (1 * InW.tm + 0)) = r
  rw [show 0 + (1 * InW.tm + 0) = InW.tm by omega]
  exact h
end

/-! ### what is told anew -/

def fixS : List (Nat × Tm) := [(0, .var 0), (1, .var 1), (2, .var 2), (3, .var 3), (9, .var 9), (10, .var 10), (11, .var 11), (12, .var 12), (13, .var 13), (14, .var 14)]
theorem fixS_ok [InW] {k : Ct} {d d' : SD} {l : List (Nat × Tm)} (h : NumsOk (envQ k d) (envQ k d') l) : NumsOk (envQ k d) (envQ k d') (fixS ++ l) := ⟨rfl, rfl, rfl, rfl, rfl, rfl, rfl, rfl, rfl, rfl, h⟩
def sq0 (k : Ct) (t0 : Tm) (ids : List (Nat × Nat)) : Sb := ⟨fixS ++ [(4, .lit 0), (5, t0), (6, .lit k.s0)], [(0, none)], ids⟩
def sqI (ids : List (Nat × Nat)) : Sb := ⟨fixS ++ [(7, .var 7), (8, .var 8)], [(1, some (1, .nil))], ids⟩
def outQ (b : Bool) (t : Tm) : AV := match b with
  | true => .cons (.sym .i64 t) .nil
  | false => .nil
def sqW (c : Int) (t : Tm) (b : Bool) (ids : List (Nat × Nat)) : Sb := ⟨fixS ++ [(4, .lin 1 [(4, 1)]), (5, t), (6, .lin c [(6, 1)])], [(0, some (0, outQ b t))], ids⟩
def sqE (k : Ct) (ids : List (Nat × Nat)) : Sb := ⟨fixS ++ [(7, .var 5), (8, .lin k.cE [(6, 1)])], [(1, some (0, .nil))], ids⟩

section
variable [InW] {s : Shq}
theorem sq0_ok {t0 : Tm} (ht : @Tm.den (env1 s) t0 = InW.fi % 256) (ids : List (Nat × Nat)) : SymOk (envQ s.k (SD.at0 s.k)) (env1 s) (sq0 s.k t0 ids) := symOk rfl (fixS_ok ⟨rfl, ht.symm, rfl, trivial⟩) ⟨rfl, trivial⟩
theorem sqI_ok (ids : List (Nat × Nat)) : SymOk (env1 s) (env1 s) (sqI ids) := symOk rfl (fixS_ok ⟨rfl, rfl, trivial⟩) ⟨⟨[], rfl, (List.append_nil _).symm⟩, trivial⟩
theorem sqW_out (d : SD) {t : Tm} {n : Int} (c : Int) (ht : @Tm.den (envQ s.k d) t = n) (ids : List (Nat × Nat)) : SymOk (envQ s.k ⟨d.i + 1, n, d.st + c, d.out ++ [n]⟩) (envQ s.k d) (sqW c t true ids) :=
  symOk rfl (fixS_ok ⟨by show d.i + 1 = 1 + (1 * d.i + 0); omega, ht.symm, by show d.st + c = c + (1 * d.st + 0); omega, trivial⟩) ⟨⟨[n], by show some [@Tm.den (envQ s.k d) t] = _; rw [ht], rfl⟩, trivial⟩
theorem sqW_no (d : SD) {t : Tm} {n : Int} (c : Int) (ht : @Tm.den (envQ s.k d) t = n) (ids : List (Nat × Nat)) : SymOk (envQ s.k ⟨d.i + 1, n, d.st + c, d.out⟩) (envQ s.k d) (sqW c t false ids) :=
  symOk rfl (fixS_ok ⟨by show d.i + 1 = 1 + (1 * d.i + 0); omega, ht.symm, by show d.st + c = c + (1 * d.st + 0); omega, trivial⟩) ⟨⟨[], rfl, (List.append_nil _).symm⟩, trivial⟩
theorem sqE_ok {d : SD} (h : finS s.k = (d.n, d.st + s.k.cE, d.out)) (ids : List (Nat × Nat)) : SymOk (env1 s) (envQ s.k d) (sqE s.k ids) :=
  symOk rfl (fixS_ok ⟨by show (finS s.k).1 = d.n; rw [h], by show (finS s.k).2.1 = s.k.cE + (1 * d.st + 0); rw [h]; show d.st + s.k.cE = _; omega, trivial⟩) ⟨⟨[], rfl, by show (finS s.k).2.2 = d.out ++ []; rw [h, List.append_nil]⟩, trivial⟩
end

/-- one round, as the evaluator has it -/
def RunS [InW] {s : Shq} (hs : InQ s) {d : SD} (hd : d.Bd) (eqs lts : Asks) (he : EqsQ s d eqs) (hl : LtsQ s d lts) (f : FuncId) (S : List (Nat × AV)) (m : HL) (q : R → Bool) : Prop :=
  q ((@comp (envR hs hd eqs lts he hl) Tryz.prog (ntmOf Tryz.prog f) (bodyOf Tryz.prog f)).run (@callT (envR hs hd eqs lts he hl) Tryz.prog (@knownS (envR hs hd eqs lts he hl) s.nd []) [] 990) (frameE S) m.lay) = true

theorem switch_known [InW] {s : Shq} (hs : InQ s) (f : FuncId) {y : Wy} {t0 : Tm} {keep : List Nat} {S So : List (Nat × AV)} {m mo : HL} {X : Exit} {i0 iI iA iB iC iD iE : List (Nat × Nat)} (hX : X ≠ .normal) (hy : y.Ok s) (ht : @Tm.den (env1 s) t0 = InW.fi % 256)
    (hA : ∀ (d : SD) (hd : d.Bd) he hl, RunS hs hd (aks y true false false) (askT true) he hl f S m (roundB (sqW s.k.cA y.tA true iA) keep S m))
    (hB : ∀ (d : SD) (hd : d.Bd) he hl, RunS hs hd (aks y false true false) (askT true) he hl f S m (roundB (sqW s.k.cB y.tB false iB) keep S m))
    (hC : ∀ (d : SD) (hd : d.Bd) he hl, RunS hs hd (aks y false false true) (askT true) he hl f S m (roundB (sqW s.k.cC y.tC false iC) keep S m))
    (hD : ∀ (d : SD) (hd : d.Bd) he hl, RunS hs hd (aks y false false false) (askT true) he hl f S m (roundB (sqW s.k.cD y.tD true iD) keep S m))
    (hE' : ∀ (d : SD) (hd : d.Bd) he hl, RunS hs hd [] (askT false) he hl f S m (endB (sqE s.k iE) keep m So mo X)) :
    @SoundC (env1 s) Tryz.prog Keep.none (ntmOf Tryz.prog f) (.loop (bodyOf Tryz.prog f)) (ovC (sq0 s.k t0 i0) (sqI iI) keep S m X So mo) := by
  refine @loop_sound Tryz.prog (ntmOf Tryz.prog f) (envT hs) SD (envQ s.k) (SD.at0 s.k) keep S m X So mo (bodyOf Tryz.prog f) (sq0 s.k t0 i0) (sqI iI) (fun ι a w hE hh => ?_) (sq0_ok ht i0) (sqI_ok iI)
  refine loop_rule (ρs := env1 s) (env := envQ s.k) (Inv := InvS s.k) (μ := SD.mu) hX (fun d hi ι a w hE hh => ?_) (InvS.at0 hs.k) hE hh
  have hd := hi.bd
  by_cases h1 : d.i < InW.tm
  · have hl := askT_ok (s := s) (d := d) (r := true) (by simpa using h1)
    by_cases k0 : kS InW.by_ InW.fr d.i = 0
    · have he := aks_ok (a := true) (b := false) (c := false) hy hd (by rw [k0]; rfl) (by rw [k0]; rfl) (by rw [k0]; rfl)
      have hr := hA d hd he hl
      unfold RunS at hr
      exact @round_norm Tryz.prog (ntmOf Tryz.prog f) (envR hs hd (aks y true false false) (askT true) he hl) _ SD (envQ s.k) (InvS s.k) SD.mu keep S m X So mo (bodyOf Tryz.prog f) d _ rfl mixed _ (@callT_ok Tryz.prog Keep.none (envR hs hd (aks y true false false) (askT true) he hl) mixed (@knownS (envR hs hd (aks y true false false) (askT true) he hl) s.nd []) (knownS_ok hs hd noPadsS) [] tabNilS 990) (sqW s.k.cA y.tA true iA) hr (sqW_out d s.k.cA (hy.tA d hd) iA) (hi.wA hs.k h1 k0) (muS_lt h1 _ _ _) ι a w hE hh
    · by_cases k1 : kS InW.by_ InW.fr d.i = 1
      · have he := aks_ok (a := false) (b := true) (c := false) hy hd (by rw [k1]; rfl) (by rw [k1]; rfl) (by rw [k1]; rfl)
        have hr := hB d hd he hl
        unfold RunS at hr
        exact @round_norm Tryz.prog (ntmOf Tryz.prog f) (envR hs hd (aks y false true false) (askT true) he hl) _ SD (envQ s.k) (InvS s.k) SD.mu keep S m X So mo (bodyOf Tryz.prog f) d _ rfl mixed _ (@callT_ok Tryz.prog Keep.none (envR hs hd (aks y false true false) (askT true) he hl) mixed (@knownS (envR hs hd (aks y false true false) (askT true) he hl) s.nd []) (knownS_ok hs hd noPadsS) [] tabNilS 990) (sqW s.k.cB y.tB false iB) hr (sqW_no d s.k.cB (hy.tB d hd) iB) (hi.wB hs.k h1 k1) (muS_lt h1 _ _ _) ι a w hE hh
      · by_cases k2 : kS InW.by_ InW.fr d.i = 2
        · have he := aks_ok (a := false) (b := false) (c := true) hy hd (by rw [k2]; rfl) (by rw [k2]; rfl) (by rw [k2]; rfl)
          have hr := hC d hd he hl
          unfold RunS at hr
          exact @round_norm Tryz.prog (ntmOf Tryz.prog f) (envR hs hd (aks y false false true) (askT true) he hl) _ SD (envQ s.k) (InvS s.k) SD.mu keep S m X So mo (bodyOf Tryz.prog f) d _ rfl mixed _ (@callT_ok Tryz.prog Keep.none (envR hs hd (aks y false false true) (askT true) he hl) mixed (@knownS (envR hs hd (aks y false false true) (askT true) he hl) s.nd []) (knownS_ok hs hd noPadsS) [] tabNilS 990) (sqW s.k.cC y.tC false iC) hr (sqW_no d s.k.cC (hy.tC d hd) iC) (hi.wC hs.k h1 k2) (muS_lt h1 _ _ _) ι a w hE hh
        · have he := aks_ok (a := false) (b := false) (c := false) hy hd (by simpa using k0) (by simpa using k1) (by simpa using k2)
          have hr := hD d hd he hl
          unfold RunS at hr
          exact @round_norm Tryz.prog (ntmOf Tryz.prog f) (envR hs hd (aks y false false false) (askT true) he hl) _ SD (envQ s.k) (InvS s.k) SD.mu keep S m X So mo (bodyOf Tryz.prog f) d _ rfl mixed _ (@callT_ok Tryz.prog Keep.none (envR hs hd (aks y false false false) (askT true) he hl) mixed (@knownS (envR hs hd (aks y false false false) (askT true) he hl) s.nd []) (knownS_ok hs hd noPadsS) [] tabNilS 990) (sqW s.k.cD y.tD true iD) hr (sqW_out d s.k.cD (hy.tD d hd) iD) (hi.wD hs.k h1 k0 k1 k2) (muS_lt h1 _ _ _) ι a w hE hh
  · have hl := askT_ok (s := s) (d := d) (r := false) (by simpa using h1)
    have hr := hE' d hd noQ1 hl
    unfold RunS at hr
    exact @round_end Tryz.prog (ntmOf Tryz.prog f) (envR hs hd [] (askT false) noQ1 hl) _ SD (envQ s.k) (InvS s.k) SD.mu keep S m X So mo (bodyOf Tryz.prog f) d rfl mixed _ (@callT_ok Tryz.prog Keep.none (envR hs hd [] (askT false) noQ1 hl) mixed (@knownS (envR hs hd [] (askT false) noQ1 hl) s.nd []) (knownS_ok hs hd noPadsS) [] tabNilS 990) (sqE s.k iE) hr (sqE_ok (hi.end_ h1) iE) ι a w hE hh

/-! ### a loop that comes back after some rounds, and puts out one more behind it -/

def sqI2 (ids : List (Nat × Nat)) : Sb := ⟨fixS ++ [(7, .var 7), (8, .var 8)], [(2, some (2, .nil))], ids⟩
def sqE2 (k : Ct) (ids : List (Nat × Nat)) : Sb := ⟨fixS ++ [(7, .wrap .u8 (.var 15)), (8, .lin k.cE [(6, 1)])], [(2, some (0, .cons (.sym .i64 (.wrap .u8 (.var 15))) .nil))], ids⟩
/-- at the beginning: the number with its sign -/
def sqJ0 (k : Ct) (t0 : Tm) (ids : List (Nat × Nat)) : Sb := ⟨fixS ++ [(4, .lit 0), (15, t0), (6, .lit k.s0)], [(0, none)], ids⟩
def sqJ (c : Int) (t o : Tm) (b : Bool) (ids : List (Nat × Nat)) : Sb := ⟨fixS ++ [(4, .lin 1 [(4, 1)]), (15, t), (6, .lin c [(6, 1)])], [(0, some (0, outQ b o))], ids⟩

theorem i8_wrap {x : Int} (h : 0 ≤ x ∧ x ≤ 255) : IntKind.i8.wrap x = if 128 ≤ x then x - 256 else x := by
  simp only [IntKind.wrap, IntKind.bits, IntKind.signed, Bool.true_and, decide_eq_true_eq, Int.reducePow, Nat.reduceSub, ge_iff_le]
  split <;> split <;> omega
theorem u8_i8 {x : Int} (h : 0 ≤ x ∧ x ≤ 255) : IntKind.u8.wrap (IntKind.i8.wrap x) = x := by
  rw [u8_wrap, i8_wrap h]
  split <;> omega

/-- how a lowered loop tells its case, what the number becomes, what is put out -/
structure Wz where
  K : Tm
  turn : Bool
  tA : Tm
  tB : Tm
  tC : Tm
  tD : Tm
  oA : Tm
  oB : Tm
  oC : Tm
  oD : Tm
structure Wz.Ok [InW] (s : Shq) (y : Wz) : Prop where
  K : ∀ d : SD, d.Bd → @Tm.den (envQ s.k d) y.K = kS InW.by_ InW.fr d.i
  tA : ∀ d : SD, d.Bd → @Tm.den (envQ s.k d) y.tA = IntKind.i8.wrap ((d.n + 1) % 256)
  tB : ∀ d : SD, d.Bd → @Tm.den (envQ s.k d) y.tB = IntKind.i8.wrap ((d.n * 2 + 3) % 256)
  tC : ∀ d : SD, d.Bd → @Tm.den (envQ s.k d) y.tC = IntKind.i8.wrap ((d.n + 3) % 256)
  tD : ∀ d : SD, d.Bd → @Tm.den (envQ s.k d) y.tD = IntKind.i8.wrap ((d.n + 255) % 256)
  oA : ∀ d : SD, d.Bd → @Tm.den (envQ s.k d) y.oA = (d.n + 1) % 256
  oD : ∀ d : SD, d.Bd → @Tm.den (envQ s.k d) y.oD = (d.n + 255) % 256
abbrev tU : Tm := .wrap .u8 (.var 15)
abbrev tAl : Tm := .wrap .i8 (.wrap .u8 (.wrap .i32 (.bin .add .i64 tU (.lit 1))))
abbrev tDl : Tm := .wrap .i8 (.wrap .u8 (.wrap .i32 (.bin .sub .i64 tU (.lit 1))))
def wLow : Wz := ⟨.wrap .i32 (.ap 17 (.wrap .i32 (.bin .add .i64 (.wrap .i32 (.bin .mul .i64 (.var 4) tBy)) tFr)) (.lit 5)), false, tAl,
  .wrap .i8 (.wrap .u8 (.wrap .i32 (.bin .add .i64 (.wrap .u8 (.wrap .i8 (.wrap .u8 (.wrap .i32 (.bin .mul .i64 tU (.lit 2)))))) (.lit 3)))), .wrap .i8 (.wrap .u8 (.wrap .i32 (.bin .add .i64 tU (.lit 3)))), tDl, .wrap .u8 tAl, .lit 0, .lit 0, .wrap .u8 tDl⟩

theorem low_add [InW] {s : Shq} (d : SD) (hd : d.Bd) (c : Int) (hc : 0 ≤ c ∧ c ≤ 300) : @Tm.den (envQ s.k d) (.wrap .u8 (.wrap .i32 (.bin .add .i64 tU (.lit c)))) = (d.n + c) % 256 := by
  have h := hd.n
  show IntKind.u8.wrap (IntKind.i32.wrap (IntKind.i64.wrap (IntKind.u8.wrap (IntKind.i8.wrap d.n) + c))) = _
  rw [u8_i8 h, w64 (by omega) (by omega), w32 (by omega) (by omega), u8_wrap]
theorem low_dec [InW] {s : Shq} (d : SD) (hd : d.Bd) : @Tm.den (envQ s.k d) (.wrap .u8 (.wrap .i32 (.bin .sub .i64 tU (.lit 1)))) = (d.n + 255) % 256 := by
  have h := hd.n
  show IntKind.u8.wrap (IntKind.i32.wrap (IntKind.i64.wrap (IntKind.u8.wrap (IntKind.i8.wrap d.n) - 1))) = _
  rw [u8_i8 h, w64 (by omega) (by omega), w32 (by omega) (by omega), u8_wrap]
  omega
theorem wLow_ok [InW] (s : Shq) : wLow.Ok s where
  K d hd := (wModel_ok s).K d hd
  tA d hd := congrArg (IntKind.i8.wrap) (low_add d hd 1 (by decide))
  tB d hd := by
    have h := hd.n
    show IntKind.i8.wrap (IntKind.u8.wrap (IntKind.i32.wrap (IntKind.i64.wrap (IntKind.u8.wrap (IntKind.i8.wrap (IntKind.u8.wrap (IntKind.i32.wrap (IntKind.i64.wrap (IntKind.u8.wrap (IntKind.i8.wrap d.n) * 2))))) + 3)))) = _
    rw [u8_i8 h, w64 (x := d.n * 2) (by omega) (by omega), w32 (x := d.n * 2) (by omega) (by omega), u8_wrap (d.n * 2), u8_i8 (by omega), w64 (by omega) (by omega), w32 (by omega) (by omega), u8_wrap]
    congr 1
    omega
  tC d hd := congrArg (IntKind.i8.wrap) (low_add d hd 3 (by decide))
  tD d hd := congrArg (IntKind.i8.wrap) (low_dec d hd)
  oA d hd := by
    have e : @Tm.den (envQ s.k d) (.wrap .u8 tAl) = IntKind.u8.wrap (IntKind.i8.wrap ((d.n + 1) % 256)) := congrArg (fun x => IntKind.u8.wrap (IntKind.i8.wrap x)) (low_add d hd 1 (by decide))
    exact e.trans (u8_i8 (by omega))
  oD d hd := by
    have e : @Tm.den (envQ s.k d) (.wrap .u8 tDl) = IntKind.u8.wrap (IntKind.i8.wrap ((d.n + 255) % 256)) := congrArg (fun x => IntKind.u8.wrap (IntKind.i8.wrap x)) (low_dec d hd)
    exact e.trans (u8_i8 (by omega))

def akz (y : Wz) (n : Int) (b : Bool) : Tm × Tm × Bool := ak ⟨y.K, y.turn, .lit 0, .lit 0, .lit 0, .lit 0⟩ n b
def akzs (y : Wz) (a b c : Bool) : Asks := [akz y 0 a, akz y 1 b, akz y 2 c]
section
variable [InW] {s : Shq}
theorem sqI2_ok (ids : List (Nat × Nat)) : SymOk (env1 s) (env1 s) (sqI2 ids) := symOk rfl (fixS_ok ⟨rfl, rfl, trivial⟩) ⟨⟨[], rfl, (List.append_nil _).symm⟩, trivial⟩
theorem sqE2_ok {d : SD} (hd : d.Bd) (h : finS s.k = (d.n, d.st + s.k.cE, d.out)) (ids : List (Nat × Nat)) : SymOk (env1 s) (envQ s.k d) (sqE2 s.k ids) :=
  symOk rfl (fixS_ok ⟨by show (finS s.k).1 = IntKind.u8.wrap (IntKind.i8.wrap d.n); rw [h, u8_i8 hd.n], by show (finS s.k).2.1 = s.k.cE + (1 * d.st + 0); rw [h]; show d.st + s.k.cE = _; omega, trivial⟩) ⟨⟨[d.n], by show some [IntKind.u8.wrap (IntKind.i8.wrap d.n)] = _; rw [u8_i8 hd.n], by show (finS s.k).2.2 ++ [(finS s.k).1] = d.out ++ [d.n]; rw [h]⟩, trivial⟩
theorem sqJ0_ok {t0 : Tm} (ht : @Tm.den (env1 s) t0 = IntKind.i8.wrap (InW.fi % 256)) (ids : List (Nat × Nat)) : SymOk (envQ s.k (SD.at0 s.k)) (env1 s) (sqJ0 s.k t0 ids) := symOk rfl (fixS_ok ⟨rfl, ht.symm, rfl, trivial⟩) ⟨rfl, trivial⟩
theorem sqJ_out (d : SD) {t o : Tm} {n : Int} (c : Int) (ht : @Tm.den (envQ s.k d) t = IntKind.i8.wrap n) (ho : @Tm.den (envQ s.k d) o = n) (ids : List (Nat × Nat)) : SymOk (envQ s.k ⟨d.i + 1, n, d.st + c, d.out ++ [n]⟩) (envQ s.k d) (sqJ c t o true ids) :=
  symOk rfl (fixS_ok ⟨by show d.i + 1 = 1 + (1 * d.i + 0); omega, ht.symm, by show d.st + c = c + (1 * d.st + 0); omega, trivial⟩) ⟨⟨[n], by show some [@Tm.den (envQ s.k d) o] = _; rw [ho], rfl⟩, trivial⟩
theorem sqJ_no (d : SD) {t o : Tm} {n : Int} (c : Int) (ht : @Tm.den (envQ s.k d) t = IntKind.i8.wrap n) (ids : List (Nat × Nat)) : SymOk (envQ s.k ⟨d.i + 1, n, d.st + c, d.out⟩) (envQ s.k d) (sqJ c t o false ids) :=
  symOk rfl (fixS_ok ⟨by show d.i + 1 = 1 + (1 * d.i + 0); omega, ht.symm, by show d.st + c = c + (1 * d.st + 0); omega, trivial⟩) ⟨⟨[], rfl, (List.append_nil _).symm⟩, trivial⟩
theorem akzs_ok {d : SD} {y : Wz} (hy : y.Ok s) (hd : d.Bd) {a b c : Bool} (h0 : (kS InW.by_ InW.fr d.i == 0) = a) (h1 : (kS InW.by_ InW.fr d.i == 1) = b) (h2 : (kS InW.by_ InW.fr d.i == 2) = c) : EqsQ s d (akzs y a b c) := by
  have one : ∀ {n : Int} {b : Bool}, (kS InW.by_ InW.fr d.i == n) = b → (@Tm.den (envQ s.k d) (akz y n b).1 == @Tm.den (envQ s.k d) (akz y n b).2.1) = (akz y n b).2.2 := fun {n b} h => by
    unfold akz ak
    have hK := hy.K d hd
    cases y.turn
    · show (@Tm.den (envQ s.k d) y.K == n) = b
      rw [hK, h]
    · show (n == @Tm.den (envQ s.k d) y.K) = b
      rw [hK, ← h]
      exact Bool.beq_comm
  intro x hx
  simp only [akzs, List.mem_cons, List.not_mem_nil, or_false] at hx
  rcases hx with rfl | rfl | rfl
  · exact one h0
  · exact one h1
  · exact one h2
end

/-- some rounds, as the evaluator has them -/
def RunT [InW] {s : Shq} (hs : InQ s) {d : SD} (hd : d.Bd) (eqs lts : Asks) (he : EqsQ s d eqs) (hl : LtsQ s d lts) (f : FuncId) (k n : Nat) (S : List (Nat × AV)) (m : HL) (q : R → Bool) : Prop :=
  q (iterR ((@comp (envR hs hd eqs lts he hl) Tryz.prog (ntmOfJ Tryz.prog f) (bodyAt Tryz.prog f k)).run (@callT (envR hs hd eqs lts he hl) Tryz.prog (@knownS (envR hs hd eqs lts he hl) s.nd []) [] 990)) n (frameE S) m.lay) = true

/-- so many rounds -/
structure Rnq where
  j0 : Nat
  nA : Nat
  nB : Nat
  nC : Nat
  nD : Nat
  nE : Nat
structure Rnq.Ok (r : Rnq) : Prop where
  j0 : 1 ≤ r.j0 ∧ r.j0 ≤ 60
  nA : 1 ≤ r.nA ∧ r.nA ≤ 60
  nB : 1 ≤ r.nB ∧ r.nB ≤ 60
  nC : 1 ≤ r.nC ∧ r.nC ≤ 60
  nD : 1 ≤ r.nD ∧ r.nD ≤ 60
  nE : 1 ≤ r.nE ∧ r.nE ≤ 60

theorem switch_knownJ [InW] {s : Shq} (hs : InQ s) (f : FuncId) (k : Nat) {r : Rnq} (hR : r.Ok) {y : Wz} {t0 : Tm} {keep : List Nat} {S So : List (Nat × AV)} {m mo : HL} {X : Exit} {i0 iI iA iB iC iD iE : List (Nat × Nat)} (hX : X ≠ .normal) (hkm : (keep.all fun id => Nat.blt id m.next) = true) (hy : y.Ok s) (ht : @Tm.den (env1 s) t0 = IntKind.i8.wrap (InW.fi % 256))
    (hA : ∀ (d : SD) (hd : d.Bd) he hl, RunT hs hd (akzs y true false false) (askT true) he hl f k r.nA S m (roundB (sqJ s.k.cA y.tA y.oA true iA) keep S m))
    (hB : ∀ (d : SD) (hd : d.Bd) he hl, RunT hs hd (akzs y false true false) (askT true) he hl f k r.nB S m (roundB (sqJ s.k.cB y.tB y.oB false iB) keep S m))
    (hC : ∀ (d : SD) (hd : d.Bd) he hl, RunT hs hd (akzs y false false true) (askT true) he hl f k r.nC S m (roundB (sqJ s.k.cC y.tC y.oC false iC) keep S m))
    (hD : ∀ (d : SD) (hd : d.Bd) he hl, RunT hs hd (akzs y false false false) (askT true) he hl f k r.nD S m (roundB (sqJ s.k.cD y.tD y.oD true iD) keep S m))
    (hE' : ∀ (d : SD) (hd : d.Bd) he hl, RunT hs hd [] (askT false) he hl f k r.nE S m (endB (sqE2 s.k iE) keep m So mo X)) :
    @SoundC (env1 s) Tryz.prog Keep.none (ntmOfJ Tryz.prog f) (.loop (bodyAt Tryz.prog f k)) (@ovJ (envT hs) Tryz.prog (ntmOfJ Tryz.prog f) (bodyAt Tryz.prog f k) r.j0 (sqJ0 s.k t0 i0) (sqI2 iI) keep S m X So mo) := by
  refine @loop_soundJ Tryz.prog (ntmOfJ Tryz.prog f) (envT hs) SD (envQ s.k) (InvS s.k) SD.mu keep S m X So mo (bodyAt Tryz.prog f k) 60 r.j0 (sqJ0 s.k t0 i0) (sqI2 iI) (SD.at0 s.k) hX mixed hkm (fun d hi => ?_) (InvS.at0 hs.k) hR.j0 (sqJ0_ok ht i0) (sqI2_ok iI)
  have hd := hi.bd
  by_cases h1 : d.i < InW.tm
  · have hl := askT_ok (s := s) (d := d) (r := true) (by simpa using h1)
    by_cases k0 : kS InW.by_ InW.fr d.i = 0
    · have he := akzs_ok (s := s) (a := true) (b := false) (c := false) hy hd (by rw [k0]; rfl) (by rw [k0]; rfl) (by rw [k0]; rfl)
      have hr := hA d hd he hl
      unfold RunT at hr
      exact ⟨envR hs hd (akzs y true false false) (askT true) he hl, _, r.nA, rfl, hR.nA.1, hR.nA.2, @callT_ok Tryz.prog Keep.none (envR hs hd (akzs y true false false) (askT true) he hl) mixed (@knownS (envR hs hd (akzs y true false false) (askT true) he hl) s.nd []) (knownS_ok hs hd noPadsS) [] tabNilS 990, .inl ⟨sqJ s.k.cA y.tA y.oA true iA, _, hi.wA hs.k h1 k0, muS_lt h1 _ _ _, hr, sqJ_out d s.k.cA (hy.tA d hd) (hy.oA d hd) iA⟩⟩
    · by_cases k1 : kS InW.by_ InW.fr d.i = 1
      · have he := akzs_ok (s := s) (a := false) (b := true) (c := false) hy hd (by rw [k1]; rfl) (by rw [k1]; rfl) (by rw [k1]; rfl)
        have hr := hB d hd he hl
        unfold RunT at hr
        exact ⟨envR hs hd (akzs y false true false) (askT true) he hl, _, r.nB, rfl, hR.nB.1, hR.nB.2, @callT_ok Tryz.prog Keep.none (envR hs hd (akzs y false true false) (askT true) he hl) mixed (@knownS (envR hs hd (akzs y false true false) (askT true) he hl) s.nd []) (knownS_ok hs hd noPadsS) [] tabNilS 990, .inl ⟨sqJ s.k.cB y.tB y.oB false iB, _, hi.wB hs.k h1 k1, muS_lt h1 _ _ _, hr, sqJ_no d s.k.cB (hy.tB d hd) iB⟩⟩
      · by_cases k2 : kS InW.by_ InW.fr d.i = 2
        · have he := akzs_ok (s := s) (a := false) (b := false) (c := true) hy hd (by rw [k2]; rfl) (by rw [k2]; rfl) (by rw [k2]; rfl)
          have hr := hC d hd he hl
          unfold RunT at hr
          exact ⟨envR hs hd (akzs y false false true) (askT true) he hl, _, r.nC, rfl, hR.nC.1, hR.nC.2, @callT_ok Tryz.prog Keep.none (envR hs hd (akzs y false false true) (askT true) he hl) mixed (@knownS (envR hs hd (akzs y false false true) (askT true) he hl) s.nd []) (knownS_ok hs hd noPadsS) [] tabNilS 990, .inl ⟨sqJ s.k.cC y.tC y.oC false iC, _, hi.wC hs.k h1 k2, muS_lt h1 _ _ _, hr, sqJ_no d s.k.cC (hy.tC d hd) iC⟩⟩
        · have he := akzs_ok (s := s) (a := false) (b := false) (c := false) hy hd (by simpa using k0) (by simpa using k1) (by simpa using k2)
          have hr := hD d hd he hl
          unfold RunT at hr
          exact ⟨envR hs hd (akzs y false false false) (askT true) he hl, _, r.nD, rfl, hR.nD.1, hR.nD.2, @callT_ok Tryz.prog Keep.none (envR hs hd (akzs y false false false) (askT true) he hl) mixed (@knownS (envR hs hd (akzs y false false false) (askT true) he hl) s.nd []) (knownS_ok hs hd noPadsS) [] tabNilS 990, .inl ⟨sqJ s.k.cD y.tD y.oD true iD, _, hi.wD hs.k h1 k0 k1 k2, muS_lt h1 _ _ _, hr, sqJ_out d s.k.cD (hy.tD d hd) (hy.oD d hd) iD⟩⟩
  · have hl := askT_ok (s := s) (d := d) (r := false) (by simpa using h1)
    have hr := hE' d hd noQ1 hl
    unfold RunT at hr
    exact ⟨envR hs hd [] (askT false) noQ1 hl, _, r.nE, rfl, hR.nE.1, hR.nE.2, @callT_ok Tryz.prog Keep.none (envR hs hd [] (askT false) noQ1 hl) mixed (@knownS (envR hs hd [] (askT false) noQ1 hl) s.nd []) (knownS_ok hs hd noPadsS) [] tabNilS 990, .inr ⟨sqE2 s.k iE, hr, sqE2_ok hd (hi.end_ h1) iE⟩⟩

/-- four numbers, as they come in -/
theorem four_inS [InW] {s : Shq} : @VRl (env1 s) (fun _ => none) (.cons (.agg (.cons (.sym .i64 (.var 10)) (.cons (.sym .i64 (.var 11)) (.cons (.sym .i64 (.var 12)) (.cons (.sym .i64 (.var 13)) .nil))))) .nil) (#[.agg #[.int .i64 InW.f0, .int .i64 InW.f1, .int .i64 InW.f2, .int .i64 InW.f3]] : Array Value).toList := by
  refine ⟨_, _, rfl, ⟨[_, _, _, _], rfl, ⟨_, _, rfl, rfl, _, _, rfl, rfl, _, _, rfl, rfl, _, _, rfl, rfl, rfl⟩, ?_⟩, rfl⟩
  intro u hu
  simp only [List.mem_cons, List.not_mem_nil, or_false] at hu
  rcases hu with rfl | rfl | rfl | rfl <;> rfl

end Go.Proofs.YtjpgogmnabkgnaaGreat

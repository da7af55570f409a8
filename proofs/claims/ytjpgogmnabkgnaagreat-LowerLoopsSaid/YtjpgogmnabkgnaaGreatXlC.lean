/- Loops by four numbers: contracts; a loop that is known, once its four ways are. -/
import Derived.Test.YtjpgogmnabkgnaaGreatXlB
namespace Go.Proofs.YtjpgogmnabkgnaaGreat
open Go.RowKit Go.Proofs.YtjpgogmnabkgnaaGreat.Ev

set_option maxHeartbeats 1000000 in
theorem withinL (i : Int) (m : Nat) (hm : 0 < m) (hm2 : m ≤ 1000) (w : World) : Calls Tryz.prog 13 #[.int .i64 i, .int .i64 m] w fun e w' => e = .returned (.int .i64 (withF i m)) ∧ Below w.heap.size w w' := by
  have hu0 : 0 ≤ IntKind.u64.wrap i := by
    have h : IntKind.u64.wrap i = i % 18446744073709551616 := by simp [IntKind.wrap, IntKind.bits, IntKind.signed]
    omega
  have hun : IntKind.u64.wrap (m : Int) = m := by simp [IntKind.wrap, IntKind.bits]; omega
  go_enter Tryz.func13, Tryz.ntmps13
  go_wp2_with fail
  go_ret
  have h2 := Int.emod_nonneg (IntKind.u64.wrap i) (show (m : Int) ≠ 0 by omega)
  have h3 := Int.emod_lt_of_pos (IntKind.u64.wrap i) (show (0 : Int) < m by omega)
  refine ⟨?_, Below.refl _ _⟩
  show Ending.returned (.int .i64 (wrap64 (IntKind.u64.wrap i % m))) = _
  rw [IntWalk.wrap64_in _ (by omega)]
  rfl

set_option maxHeartbeats 2000000 in
theorem decL (n : Nat) (w : World) (hn : n < 10) : Calls Tryz.prog 14 #[.int .i64 n] w fun e w' => e = .returned (.string ⟨#[UInt8.ofNat (48 + n)]⟩) ∧ Below w.heap.size w w' := by
  have h : n = 0 ∨ n = 1 ∨ n = 2 ∨ n = 3 ∨ n = 4 ∨ n = 5 ∨ n = 6 ∨ n = 7 ∨ n = 8 ∨ n = 9 := by omega
  rcases h with rfl | rfl | rfl | rfl | rfl | rfl | rfl | rfl | rfl | rfl
  all_goals
    go_enter Tryz.func14, Tryz.ntmps14
    go_wp2_with fail
    go_ret
    exact ⟨rfl, Below.refl _ _⟩

/-- within bounds -/
def kWithL (args : AV) (h : H) : Option (AV × H) := match args with
  | .cons (.sym .i64 (.var j)) (.cons (.int .i64 (.ofNat m)) .nil) => match j with
    | 10 => match Nat.beq m 20 with
      | true => some (.sym .i64 (.lin 9 [(0, 1)]), h)
      | false => none
    | 11 => match Nat.beq m 25 with
      | true => some (.sym .i64 (.lin 9 [(1, 1)]), h)
      | false => none
    | 12 => match Nat.beq m 4 with
      | true => some (.sym .i64 (.lin (-1) [(2, 1)]), h)
      | false => none
    | 13 => match Nat.beq m 25 with
      | true => some (.sym .i64 (.lin 9 [(3, 1)]), h)
      | false => none
    | _ => none
  | _ => none

theorem kWithL_one [SEnv] {j m : Nat} {i : Int} {t : Tm} {h : H} (hm : 0 < m) (hm2 : m ≤ 1000) (hi : SEnv0.rho j = i) (hv : t.den = withF i m) : SoundCall Tryz.prog Keep.none 13 (.cons (.sym .i64 (.var j)) (.cons (.int .i64 (.ofNat m)) .nil)) h (.sym .i64 t) h := by
  intro ι w vs hh _ hvs
  obtain ⟨v1, m1, hvl, hv1, v2, m2, rfl, hv2, rfl⟩ := hvs
  have hv1 : v1 = .int .i64 (SEnv0.rho j) := hv1
  have hv2 : v2 = .int .i64 (Int.ofNat m) := hv2
  subst hv1 hv2
  obtain rfl : vs = #[.int .i64 i, .int .i64 (m : Int)] := by rw [← Array.toList_inj, hvl, hi]; rfl
  refine (withinL i m hm hm2 w).mono fun e w' ⟨he, hbw⟩ => ?_
  obtain ⟨q1, q2⟩ := hh.grown hbw
  exact ⟨ι, _, he, by simp only [VR]; rw [hv], q1, q2⟩

theorem kWithL_ok [InL] {s : Shp} (hs : InS s) {d : LD} (hd : d.Bd) {args : AV} {h : H} {v : AV} {h' : H} (hr : kWithL args h = some (v, h')) : @SoundCall (envD s.k d) Tryz.prog Keep.none 13 args h v h' := by
  letI := envP hs hd [] [] (fun _ h => by cases h) (fun _ h => by cases h)
  unfold kWithL at hr
  split at hr
  case h_2 => cases hr
  rename_i j m
  split at hr
  · split at hr
    · rename_i hm
      obtain rfl : m = 20 := by simpa using hm
      injection hr with hr
      injection hr with e1 e2
      subst e1 e2
      exact kWithL_one (i := InL.f0) (by decide) (by decide) rfl (by show 9 + (1 * InL.fr + 0) = withF InL.f0 20; unfold InL.fr; omega)
    · cases hr
  · split at hr
    · rename_i hm
      obtain rfl : m = 25 := by simpa using hm
      injection hr with hr
      injection hr with e1 e2
      subst e1 e2
      exact kWithL_one (i := InL.f1) (by decide) (by decide) rfl (by show 9 + (1 * InL.to + 0) = withF InL.f1 25; unfold InL.to; omega)
    · cases hr
  · split at hr
    · rename_i hm
      obtain rfl : m = 4 := by simpa using hm
      injection hr with hr
      injection hr with e1 e2
      subst e1 e2
      exact kWithL_one (i := InL.f2) (by decide) (by decide) rfl (by show -1 + (1 * InL.by_ + 0) = withF InL.f2 4; unfold InL.by_; omega)
    · cases hr
  · split at hr
    · rename_i hm
      obtain rfl : m = 25 := by simpa using hm
      injection hr with hr
      injection hr with e1 e2
      subst e1 e2
      exact kWithL_one (i := InL.f3) (by decide) (by decide) rfl (by show 9 + (1 * InL.sp + 0) = withF InL.f3 25; unfold InL.sp; omega)
    · cases hr
  · cases hr

def knownCmp [SEnv] : Known := fun f args h => match isIn f twos with
  | true => kCmp args h
  | false => none
theorem knownCmp_ok [SEnv] : knownCmp.Ok Tryz.prog K0 := by
  intro f args h v h' hr
  unfold knownCmp at hr
  split at hr
  · rename_i hf
    exact kCmp_ok (twos_ok f (isIn_ok hf)) hr
  · cases hr

/-- what is known -/
def knownL [SEnv] (l : List Ent) : Known := (kPads l).or ((Known.one 14 kDec).or ((Known.one 13 kWithL).or ((Known.one 18 kEqM).or ((Known.one 18 kEqL).or (knownCmp.or knownTwo)))))
theorem knownL_ok [InL] {s : Shp} (hs : InS s) {d : LD} (hd : d.Bd) {eqs lts : Asks} {he hl} {l : List Ent} (hp : ∀ x ∈ l, @Ent.Ok (envD s.k d) Tryz.prog Keep.none x) : @Known.Ok (envD s.k d) Tryz.prog Keep.none (@knownL (envP hs hd eqs lts he hl) l) := by
  letI := envP hs hd eqs lts he hl
  have h1 := @kPads_ok _ Tryz.prog l hp
  have h2 : (Known.one 14 kDec).Ok Tryz.prog Keep.none := @Known.one_ok _ _ _ _ _ (kDec_ok fun n w h => decL n w h)
  have h3 : (Known.one 13 kWithL).Ok Tryz.prog Keep.none := @Known.one_ok _ _ _ _ _ (kWithL_ok hs hd)
  have h4 : (Known.one 18 kEqL).Ok Tryz.prog Keep.none := @Known.one_ok _ _ _ _ _ kEqL_ok
  have h6 : (Known.one 18 kEqM).Ok Tryz.prog Keep.none := @Known.one_ok _ _ _ _ _ (kEqM_ok rfl)
  have h5 : knownTwo.Ok Tryz.prog Keep.none := @knownTwo_ok _ app_two
  exact @Known.or_ok _ _ _ _ _ h1 (@Known.or_ok _ _ _ _ _ h2 (@Known.or_ok _ _ _ _ _ h3 (@Known.or_ok _ _ _ _ _ h6 (@Known.or_ok _ _ _ _ _ h4 (@Known.or_ok _ _ _ _ _ knownCmp_ok h5)))))
theorem noPads [InL] {s : Shp} {d : LD} : ∀ x ∈ ([] : List Ent), @Ent.Ok (envD s.k d) Tryz.prog Keep.none x := fun _ h => by cases h

/-- for writing out -/
abbrev b8 (n : Int) : AV := .int .u8 n
def idL (l : List Nat) : List (Nat × Nat) := l.map fun i => (i, i)

/-! ### what is told anew -/

def NumsOk (ρ0 ρ1 : SEnv0) : List (Nat × Tm) → Prop
  | [] => True
  | (i, t) :: l => ρ0.rho i = @Tm.den ρ1 t ∧ NumsOk ρ0 ρ1 l
def ListsOk (ρ0 ρ1 : SEnv0) : List (Nat × Option (Nat × AV)) → Prop
  | [] => True
  | (b, none) :: l => ρ0.lst b = [] ∧ ListsOk ρ0 ρ1 l
  | (b, some (c, ts)) :: l => (∃ m, @denL ρ1 ts = some m ∧ ρ0.lst b = ρ1.lst c ++ m) ∧ ListsOk ρ0 ρ1 l

theorem NumsOk.look {ρ0 ρ1 : SEnv0} : ∀ {l : List (Nat × Tm)}, NumsOk ρ0 ρ1 l → ∀ i t, Ev.look l i = some t → ρ0.rho i = @Tm.den ρ1 t
  | [], _, _, _, h => by cases h
  | (k, x) :: l, h, i, t, hl => by
    simp only [Ev.look] at hl
    split at hl
    · rename_i hk
      have hk : k = i := by simpa using hk
      injection hl with hl
      subst hk hl
      exact h.1
    · exact NumsOk.look h.2 i t hl

theorem ListsOk.look {ρ0 ρ1 : SEnv0} : ∀ {l : List (Nat × Option (Nat × AV))}, ListsOk ρ0 ρ1 l → ∀ b x, Ev.look l b = some x → ListsOk ρ0 ρ1 [(b, x)]
  | [], _, _, _, h => by cases h
  | (k, y) :: l, h, b, x, hl => by
    simp only [Ev.look] at hl
    split at hl
    · rename_i hk
      have hk : k = b := by simpa using hk
      injection hl with hl
      subst hk hl
      cases y with
      | none => exact ⟨h.1, trivial⟩
      | some y => exact ⟨h.1, trivial⟩
    · exact ListsOk.look (by cases y <;> exact h.2) b x hl

theorem symOk {ρ0 ρ1 : SEnv0} {s : Sb} (ha : ρ0.app = ρ1.app) (hn : NumsOk ρ0 ρ1 s.nums) (hl : ListsOk ρ0 ρ1 s.lists) : SymOk ρ0 ρ1 s :=
  ⟨ha, hn.look, fun b _ _ h => (hl.look b _ h).1, fun b h => (hl.look b _ h).1⟩

/-- those that stay -/
def fixN : List (Nat × Tm) := [(0, .var 0), (1, .var 1), (2, .var 2), (3, .var 3), (10, .var 10), (11, .var 11), (12, .var 12), (13, .var 13)]
theorem fixN_ok [InL] {k : Cs} {d d' : LD} {l : List (Nat × Tm)} (h : NumsOk (envD k d) (envD k d') l) : NumsOk (envD k d) (envD k d') (fixN ++ l) := ⟨rfl, rfl, rfl, rfl, rfl, rfl, rfl, rfl, h⟩

abbrev tSum (a b : Nat) : Tm := .lin 0 [(a, 1), (b, 1)]
/-- at the beginning -/
def sb0 (k : Cs) (t0 : Tm) (ids : List (Nat × Nat)) : Sb := ⟨fixN ++ [(4, t0), (5, .lit 0), (6, .lit k.s0)], [(0, none)], ids⟩
/-- what is left, told as it is -/
def sbI (ids : List (Nat × Nat)) : Sb := ⟨fixN ++ [(7, .var 7), (8, .var 8)], [(1, some (1, .nil))], ids⟩
def sbGo (k : Cs) (ids : List (Nat × Nat)) : Sb := ⟨fixN ++ [(4, tSum 2 4), (5, tSum 4 5), (6, .lin k.c2 [(6, 1)])], [(0, some (0, .cons (.sym .i64 (tSum 4 5)) .nil))], ids⟩
def sbSkip (k : Cs) (ids : List (Nat × Nat)) : Sb := ⟨fixN ++ [(4, tSum 2 4), (5, .var 5), (6, .lin k.c1 [(6, 1)])], [(0, some (0, .nil))], ids⟩
def sbStop (k : Cs) (ids : List (Nat × Nat)) : Sb := ⟨fixN ++ [(7, .var 4), (8, .lin k.c3 [(6, 1)])], [(1, some (0, .nil))], ids⟩
def sbEnd (k : Cs) (ids : List (Nat × Nat)) : Sb := ⟨fixN ++ [(7, .var 4), (8, .lin k.c4 [(6, 1)])], [(1, some (0, .nil))], ids⟩

section
variable [InL] {s : Shp}
theorem sb0_ok {t0 : Tm} (ht : @Tm.den (env0 s) t0 = InL.fr) (ids : List (Nat × Nat)) : SymOk (envD s.k (LD.at0 s.k)) (env0 s) (sb0 s.k t0 ids) := symOk rfl (fixN_ok ⟨ht.symm, rfl, rfl, trivial⟩) ⟨rfl, trivial⟩
theorem sbI_ok (ids : List (Nat × Nat)) : SymOk (env0 s) (env0 s) (sbI ids) := symOk rfl (fixN_ok ⟨rfl, rfl, trivial⟩) ⟨⟨[], rfl, (List.append_nil _).symm⟩, trivial⟩
theorem sbGo_ok (d : LD) (ids : List (Nat × Nat)) : SymOk (envD s.k ⟨d.i + InL.by_, d.sm + d.i, d.st + s.k.c2, d.out ++ [d.sm + d.i]⟩) (envD s.k d) (sbGo s.k ids) :=
  symOk rfl (fixN_ok ⟨by show d.i + InL.by_ = 0 + (1 * InL.by_ + (1 * d.i + 0)); omega, by show d.sm + d.i = 0 + (1 * d.i + (1 * d.sm + 0)); omega, by show d.st + s.k.c2 = s.k.c2 + (1 * d.st + 0); omega, trivial⟩)
    ⟨⟨[d.sm + d.i], by show some [0 + (1 * d.i + (1 * d.sm + 0))] = _; rw [show 0 + (1 * d.i + (1 * d.sm + 0)) = d.sm + d.i by omega], rfl⟩, trivial⟩
theorem sbSkip_ok (d : LD) (ids : List (Nat × Nat)) : SymOk (envD s.k ⟨d.i + InL.by_, d.sm, d.st + s.k.c1, d.out⟩) (envD s.k d) (sbSkip s.k ids) :=
  symOk rfl (fixN_ok ⟨by show d.i + InL.by_ = 0 + (1 * InL.by_ + (1 * d.i + 0)); omega, rfl, by show d.st + s.k.c1 = s.k.c1 + (1 * d.st + 0); omega, trivial⟩) ⟨⟨[], rfl, (List.append_nil _).symm⟩, trivial⟩
theorem sbStop_ok {d : LD} (h : finL s.k = (d.i, d.st + s.k.c3, d.out)) (ids : List (Nat × Nat)) : SymOk (env0 s) (envD s.k d) (sbStop s.k ids) :=
  symOk rfl (fixN_ok ⟨by show (finL s.k).1 = d.i; rw [h], by show (finL s.k).2.1 = s.k.c3 + (1 * d.st + 0); rw [h]; show d.st + s.k.c3 = _; omega, trivial⟩) ⟨⟨[], rfl, by show (finL s.k).2.2 = d.out ++ []; rw [h, List.append_nil]⟩, trivial⟩
theorem sbEnd_ok {d : LD} (h : finL s.k = (d.i, d.st + s.k.c4, d.out)) (ids : List (Nat × Nat)) : SymOk (env0 s) (envD s.k d) (sbEnd s.k ids) :=
  symOk rfl (fixN_ok ⟨by show (finL s.k).1 = d.i; rw [h], by show (finL s.k).2.1 = s.k.c4 + (1 * d.st + 0); rw [h]; show d.st + s.k.c4 = _; omega, trivial⟩) ⟨⟨[], rfl, by show (finL s.k).2.2 = d.out ++ []; rw [h, List.append_nil]⟩, trivial⟩
end

/-! ### a loop that is known -/

def ntmOf (P : Program) (f : FuncId) : Nat := match P.funcs[f]? with
  | some fn => fn.ntmps
  | none => 0
def bodyOf (P : Program) (f : FuncId) : Code := match P.funcs[f]? with
  | some fn => (match fn.body with
    | some c => (loopsOf c).headD .skip
    | none => .skip)
  | none => .skip
def oneLoop (P : Program) (f : FuncId) : Bool := match P.funcs[f]? with
  | some fn => (match fn.body with
    | some c => Nat.beq (loopsOf c).length 1
    | none => false)
  | none => false

theorem hov_of {P : Program} {K : Keep} [SEnv0] {f : FuncId} {ov : C} (h1 : oneLoop P f = true) (h : SoundC P K (ntmOf P f) (.loop (bodyOf P f)) ov) : ∀ fn c, P.funcs[f]? = some fn → fn.body = some c → ∀ b ∈ loopsOf c, SoundC P K fn.ntmps (.loop b) ov := by
  intro fn c hfn hc b hb
  unfold oneLoop at h1
  unfold ntmOf bodyOf at h
  rw [hfn] at h1 h
  simp only [hc] at h1 h
  match hl : loopsOf c, hb with
  | [x], hb =>
    rw [hl] at h
    obtain rfl : b = x := by simpa using hb
    exact h
  | [], hb => cases hb
  | _ :: _ :: _, _ => rw [hl] at h1; simp at h1

abbrev tTo : Tm := .lin 0 [(1, 1)]
abbrev tSp : Tm := .lin 0 [(3, 1)]
abbrev askR (rem : Tm) (r : Bool) : Asks := [(rem, .lit 1, r)]
abbrev askI (r : Bool) : Asks := [(.var 4, tTo, r)]
abbrev askS (r : Bool) : Asks := [(.var 4, tTo, true), (.var 4, tSp, r)]

section
variable [InL] {s : Shp} {d : LD}
theorem askR_ok {rem : Tm} {r : Bool} (h : (@Tm.den (envD s.k d) rem == 1) = r) : ∀ x ∈ askR rem r, (@Tm.den (envD s.k d) x.1 == @Tm.den (envD s.k d) x.2.1) = x.2.2 := by
  intro x hx
  obtain rfl : x = _ := by simpa using hx
  exact h
theorem askI_ok {r : Bool} (h : decide (d.i < InL.to) = r) : ∀ x ∈ askI r, decide (@Tm.den (envD s.k d) x.1 < @Tm.den (envD s.k d) x.2.1) = x.2.2 := by
  intro x hx
  obtain rfl : x = _ := by simpa using hx
  show decide (d.i < 0 + (1 * InL.to + 0)) = r
  rw [show 0 + (1 * InL.to + 0) = InL.to by omega]
  exact h
theorem askS_ok {r : Bool} (hi : d.i < InL.to) (h : decide (d.i < InL.sp) = r) : ∀ x ∈ askS r, decide (@Tm.den (envD s.k d) x.1 < @Tm.den (envD s.k d) x.2.1) = x.2.2 := by
  intro x hx
  rcases List.mem_cons.1 hx with rfl | hx
  · show decide (d.i < 0 + (1 * InL.to + 0)) = true
    rw [show 0 + (1 * InL.to + 0) = InL.to by omega]
    exact decide_eq_true hi
  · obtain rfl : x = _ := by simpa using hx
    show decide (d.i < 0 + (1 * InL.sp + 0)) = r
    rw [show 0 + (1 * InL.sp + 0) = InL.sp by omega]
    exact h
theorem noEq : ∀ x ∈ ([] : Asks), (@Tm.den (envD s.k d) x.1 == @Tm.den (envD s.k d) x.2.1) = x.2.2 := fun _ h => by cases h
end

abbrev EqsOk [InL] (s : Shp) (d : LD) (l : Asks) : Prop := ∀ x ∈ l, (@Tm.den (envD s.k d) x.1 == @Tm.den (envD s.k d) x.2.1) = x.2.2
abbrev LtsOk [InL] (s : Shp) (d : LD) (l : Asks) : Prop := ∀ x ∈ l, decide (@Tm.den (envD s.k d) x.1 < @Tm.den (envD s.k d) x.2.1) = x.2.2

/-- one round, as the evaluator has it -/
def RunL [InL] {s : Shp} (hs : InS s) {d : LD} (hd : d.Bd) (eqs lts : Asks) (he : EqsOk s d eqs) (hl : LtsOk s d lts) (f : FuncId) (S : List (Nat × AV)) (m : HL) (q : R → Bool) : Prop :=
  q ((@comp (envP hs hd eqs lts he hl) Tryz.prog (ntmOf Tryz.prog f) (bodyOf Tryz.prog f)).run (@callT (envP hs hd eqs lts he hl) Tryz.prog (@knownL (envP hs hd eqs lts he hl) []) [] 990) (frameE S) m.lay) = true

theorem tabNil [InL] {s : Shp} {d : LD} : @Tab.Ok (envD s.k d) Tryz.prog Keep.none [] := fun _ h => by cases h

theorem loop_known [InL] {s : Shp} (hs : InS s) (f : FuncId) {rem t0 : Tm} {keep : List Nat} {S So : List (Nat × AV)} {m mo : HL} {X : Exit} {i0 iI i1 i2 i3 i4 : List (Nat × Nat)} (hX : X ≠ .normal)
    (hrem : ∀ d : LD, d.Bd → @Tm.den (envD s.k d) rem = Int.tmod d.i 3) (ht : @Tm.den (env0 s) t0 = InL.fr)
    (hgo : ∀ (d : LD) (hd : d.Bd) he hl, RunL hs hd (askR rem false) (askS true) he hl f S m (roundB (sbGo s.k i1) keep S m))
    (hskip : ∀ (d : LD) (hd : d.Bd) he hl, RunL hs hd (askR rem true) (askI true) he hl f S m (roundB (sbSkip s.k i2) keep S m))
    (hstop : ∀ (d : LD) (hd : d.Bd) he hl, RunL hs hd (askR rem false) (askS false) he hl f S m (endB (sbStop s.k i3) keep m So mo X))
    (hend : ∀ (d : LD) (hd : d.Bd) he hl, RunL hs hd [] (askI false) he hl f S m (endB (sbEnd s.k i4) keep m So mo X)) :
    @SoundC (env0 s) Tryz.prog Keep.none (ntmOf Tryz.prog f) (.loop (bodyOf Tryz.prog f)) (ovC (sb0 s.k t0 i0) (sbI iI) keep S m X So mo) := by
  refine @loop_sound Tryz.prog (ntmOf Tryz.prog f) (envS hs) LD (envD s.k) (LD.at0 s.k) keep S m X So mo (bodyOf Tryz.prog f) (sb0 s.k t0 i0) (sbI iI) (fun ι a w hE hh => ?_) (sb0_ok ht i0) (sbI_ok iI)
  refine loop_rule (ρs := env0 s) (env := envD s.k) (Inv := InvL s.k) (μ := LD.mu) hX (fun d hi ι a w hE hh => ?_) (InvL.at0 hs.k) hE hh
  have hd := hi.bd
  by_cases h1 : d.i < InL.to
  · by_cases h2 : Int.tmod d.i 3 = 1
    · have he := askR_ok (s := s) (d := d) (rem := rem) (r := true) (by rw [hrem d hd, h2]; rfl)
      have hl := askI_ok (s := s) (d := d) (r := true) (by simpa using h1)
      have hr := hskip d hd he hl
      unfold RunL at hr
      exact @round_norm Tryz.prog (ntmOf Tryz.prog f) (envP hs hd (askR rem true) (askI true) he hl) _ LD (envD s.k) (InvL s.k) LD.mu keep S m X So mo (bodyOf Tryz.prog f) d _ rfl mixed _ (@callT_ok Tryz.prog Keep.none (envP hs hd (askR rem true) (askI true) he hl) mixed (@knownL (envP hs hd (askR rem true) (askI true) he hl) []) (knownL_ok hs hd (eqs := askR rem true) (lts := askI true) (he := he) (hl := hl) noPads) [] tabNil 990) (sbSkip s.k i2) hr (sbSkip_ok d i2) (hi.skip hs.k h1 h2) (mu_lt h1 _ _ _) ι a w hE hh
    · have he := askR_ok (s := s) (d := d) (rem := rem) (r := false) (by rw [hrem d hd]; simpa using h2)
      by_cases h3 : d.i < InL.sp
      · have hl := askS_ok (s := s) (d := d) (r := true) h1 (by simpa using h3)
        have hr := hgo d hd he hl
        unfold RunL at hr
        exact @round_norm Tryz.prog (ntmOf Tryz.prog f) (envP hs hd (askR rem false) (askS true) he hl) _ LD (envD s.k) (InvL s.k) LD.mu keep S m X So mo (bodyOf Tryz.prog f) d _ rfl mixed _ (@callT_ok Tryz.prog Keep.none (envP hs hd (askR rem false) (askS true) he hl) mixed (@knownL (envP hs hd (askR rem false) (askS true) he hl) []) (knownL_ok hs hd (eqs := askR rem false) (lts := askS true) (he := he) (hl := hl) noPads) [] tabNil 990) (sbGo s.k i1) hr (sbGo_ok d i1) (hi.go hs.k h1 h2 h3) (mu_lt h1 _ _ _) ι a w hE hh
      · have hl := askS_ok (s := s) (d := d) (r := false) h1 (by simpa using h3)
        have hr := hstop d hd he hl
        unfold RunL at hr
        exact @round_end Tryz.prog (ntmOf Tryz.prog f) (envP hs hd (askR rem false) (askS false) he hl) _ LD (envD s.k) (InvL s.k) LD.mu keep S m X So mo (bodyOf Tryz.prog f) d rfl mixed _ (@callT_ok Tryz.prog Keep.none (envP hs hd (askR rem false) (askS false) he hl) mixed (@knownL (envP hs hd (askR rem false) (askS false) he hl) []) (knownL_ok hs hd (eqs := askR rem false) (lts := askS false) (he := he) (hl := hl) noPads) [] tabNil 990) (sbStop s.k i3) hr (sbStop_ok (hi.stop h1 h2 h3) i3) ι a w hE hh
  · have hl := askI_ok (s := s) (d := d) (r := false) (by simpa using h1)
    have hr := hend d hd noEq hl
    unfold RunL at hr
    exact @round_end Tryz.prog (ntmOf Tryz.prog f) (envP hs hd ([]) (askI false) noEq hl) _ LD (envD s.k) (InvL s.k) LD.mu keep S m X So mo (bodyOf Tryz.prog f) d rfl mixed _ (@callT_ok Tryz.prog Keep.none (envP hs hd ([]) (askI false) noEq hl) mixed (@knownL (envP hs hd ([]) (askI false) noEq hl) []) (knownL_ok hs hd (eqs := []) (lts := askI false) (he := noEq) (hl := hl) noPads) [] tabNil 990) (sbEnd s.k i4) hr (sbEnd_ok (hi.end_ h1) i4) ι a w hE hh

theorem rem_law [InL] {s : Shp} (d : LD) (_ : d.Bd) : @Tm.den (envD s.k d) (.bin .rem .i64 (.var 4) (.lit 3)) = Int.tmod d.i 3 := rfl
theorem rem_model [InL] {s : Shp} (d : LD) (hd : d.Bd) : @Tm.den (envD s.k d) (.wrap .i32 (.ap 17 (.var 4) (.lit 3))) = Int.tmod d.i 3 := by
  obtain ⟨⟨h1, h2⟩, _⟩ := hd
  show IntKind.i32.wrap (IntKind.i64.wrap (twoF 17 d.i 3)) = _
  have e : twoF 17 d.i 3 = Int.tmod d.i 3 := by
    unfold twoF divF remF
    simp
  have h3 : Int.tmod d.i 3 ≤ 2 ∧ -2 ≤ Int.tmod d.i 3 := by
    rw [Int.tmod_eq_emod]
    split <;> omega
  rw [e, wrap_id (k := .i64) (by show (-9223372036854775808 : Int) ≤ _; omega) (by show _ ≤ (9223372036854775807 : Int); omega), wrap_id (k := .i32) (by show (-2147483648 : Int) ≤ _; omega) (by show _ ≤ (2147483647 : Int); omega)]

/-! ### a loop that comes back after some rounds, and puts out one more behind it -/

def sbI2 (ids : List (Nat × Nat)) : Sb := ⟨fixN ++ [(7, .var 7), (8, .var 8)], [(2, some (2, .nil))], ids⟩
def sbStop2 (k : Cs) (ids : List (Nat × Nat)) : Sb := ⟨fixN ++ [(7, .var 4), (8, .lin k.c3 [(6, 1)])], [(2, some (0, .cons (.sym .i64 (.var 4)) .nil))], ids⟩
def sbEnd2 (k : Cs) (ids : List (Nat × Nat)) : Sb := ⟨fixN ++ [(7, .var 4), (8, .lin k.c4 [(6, 1)])], [(2, some (0, .cons (.sym .i64 (.var 4)) .nil))], ids⟩
section
variable [InL] {s : Shp}
theorem sbI2_ok (ids : List (Nat × Nat)) : SymOk (env0 s) (env0 s) (sbI2 ids) := symOk rfl (fixN_ok ⟨rfl, rfl, trivial⟩) ⟨⟨[], rfl, (List.append_nil _).symm⟩, trivial⟩
theorem sbStop2_ok {d : LD} (h : finL s.k = (d.i, d.st + s.k.c3, d.out)) (ids : List (Nat × Nat)) : SymOk (env0 s) (envD s.k d) (sbStop2 s.k ids) :=
  symOk rfl (fixN_ok ⟨by show (finL s.k).1 = d.i; rw [h], by show (finL s.k).2.1 = s.k.c3 + (1 * d.st + 0); rw [h]; show d.st + s.k.c3 = _; omega, trivial⟩) ⟨⟨[d.i], rfl, by show (finL s.k).2.2 ++ [(finL s.k).1] = d.out ++ [d.i]; rw [h]⟩, trivial⟩
theorem sbEnd2_ok {d : LD} (h : finL s.k = (d.i, d.st + s.k.c4, d.out)) (ids : List (Nat × Nat)) : SymOk (env0 s) (envD s.k d) (sbEnd2 s.k ids) :=
  symOk rfl (fixN_ok ⟨by show (finL s.k).1 = d.i; rw [h], by show (finL s.k).2.1 = s.k.c4 + (1 * d.st + 0); rw [h]; show d.st + s.k.c4 = _; omega, trivial⟩) ⟨⟨[d.i], rfl, by show (finL s.k).2.2 ++ [(finL s.k).1] = d.out ++ [d.i]; rw [h]⟩, trivial⟩
end

/-- some rounds, as the evaluator has them -/
def RunJ [InL] {s : Shp} (hs : InS s) {d : LD} (hd : d.Bd) (eqs lts : Asks) (he : EqsOk s d eqs) (hl : LtsOk s d lts) (f : FuncId) (k n : Nat) (S : List (Nat × AV)) (m : HL) (q : R → Bool) : Prop :=
  q (iterR ((@comp (envP hs hd eqs lts he hl) Tryz.prog (ntmOfJ Tryz.prog f) (bodyAt Tryz.prog f k)).run (@callT (envP hs hd eqs lts he hl) Tryz.prog (@knownL (envP hs hd eqs lts he hl) []) [] 990)) n (frameE S) m.lay) = true

/-- so many rounds -/
structure Rnd where
  j0 : Nat
  n1 : Nat
  n2 : Nat
  n3 : Nat
  n4 : Nat
structure Rnd.Ok (r : Rnd) : Prop where
  j0 : 1 ≤ r.j0 ∧ r.j0 ≤ 60
  n1 : 1 ≤ r.n1 ∧ r.n1 ≤ 60
  n2 : 1 ≤ r.n2 ∧ r.n2 ≤ 60
  n3 : 1 ≤ r.n3 ∧ r.n3 ≤ 60
  n4 : 1 ≤ r.n4 ∧ r.n4 ≤ 60

theorem loop_knownJ [InL] {s : Shp} (hs : InS s) (f : FuncId) (k : Nat) {r : Rnd} (hR : r.Ok) {rem t0 : Tm} {keep : List Nat} {S So : List (Nat × AV)} {m mo : HL} {X : Exit} {i0 iI i1 i2 i3 i4 : List (Nat × Nat)} (hX : X ≠ .normal) (hkm : (keep.all fun id => Nat.blt id m.next) = true)
    (hrem : ∀ d : LD, d.Bd → @Tm.den (envD s.k d) rem = Int.tmod d.i 3) (ht : @Tm.den (env0 s) t0 = InL.fr)
    (hgo : ∀ (d : LD) (hd : d.Bd) he hl, RunJ hs hd (askR rem false) (askS true) he hl f k r.n1 S m (roundB (sbGo s.k i1) keep S m))
    (hskip : ∀ (d : LD) (hd : d.Bd) he hl, RunJ hs hd (askR rem true) (askI true) he hl f k r.n2 S m (roundB (sbSkip s.k i2) keep S m))
    (hstop : ∀ (d : LD) (hd : d.Bd) he hl, RunJ hs hd (askR rem false) (askS false) he hl f k r.n3 S m (endB (sbStop2 s.k i3) keep m So mo X))
    (hend : ∀ (d : LD) (hd : d.Bd) he hl, RunJ hs hd [] (askI false) he hl f k r.n4 S m (endB (sbEnd2 s.k i4) keep m So mo X)) :
    @SoundC (env0 s) Tryz.prog Keep.none (ntmOfJ Tryz.prog f) (.loop (bodyAt Tryz.prog f k)) (@ovJ (envS hs) Tryz.prog (ntmOfJ Tryz.prog f) (bodyAt Tryz.prog f k) r.j0 (sb0 s.k t0 i0) (sbI2 iI) keep S m X So mo) := by
  refine @loop_soundJ Tryz.prog (ntmOfJ Tryz.prog f) (envS hs) LD (envD s.k) (InvL s.k) LD.mu keep S m X So mo (bodyAt Tryz.prog f k) 60 r.j0 (sb0 s.k t0 i0) (sbI2 iI) (LD.at0 s.k) hX mixed hkm (fun d hi => ?_) (InvL.at0 hs.k) hR.j0 (sb0_ok ht i0) (sbI2_ok iI)
  have hd := hi.bd
  by_cases h1 : d.i < InL.to
  · by_cases h2 : Int.tmod d.i 3 = 1
    · have he := askR_ok (s := s) (d := d) (rem := rem) (r := true) (by rw [hrem d hd, h2]; rfl)
      have hl := askI_ok (s := s) (d := d) (r := true) (by simpa using h1)
      have hr := hskip d hd he hl
      unfold RunJ at hr
      exact ⟨envP hs hd (askR rem true) (askI true) he hl, _, r.n2, rfl, hR.n2.1, hR.n2.2, @callT_ok Tryz.prog Keep.none (envP hs hd (askR rem true) (askI true) he hl) mixed (@knownL (envP hs hd (askR rem true) (askI true) he hl) []) (knownL_ok hs hd noPads) [] tabNil 990, .inl ⟨sbSkip s.k i2, _, hi.skip hs.k h1 h2, mu_lt h1 _ _ _, hr, sbSkip_ok d i2⟩⟩
    · have he := askR_ok (s := s) (d := d) (rem := rem) (r := false) (by rw [hrem d hd]; simpa using h2)
      by_cases h3 : d.i < InL.sp
      · have hl := askS_ok (s := s) (d := d) (r := true) h1 (by simpa using h3)
        have hr := hgo d hd he hl
        unfold RunJ at hr
        exact ⟨envP hs hd (askR rem false) (askS true) he hl, _, r.n1, rfl, hR.n1.1, hR.n1.2, @callT_ok Tryz.prog Keep.none (envP hs hd (askR rem false) (askS true) he hl) mixed (@knownL (envP hs hd (askR rem false) (askS true) he hl) []) (knownL_ok hs hd noPads) [] tabNil 990, .inl ⟨sbGo s.k i1, _, hi.go hs.k h1 h2 h3, mu_lt h1 _ _ _, hr, sbGo_ok d i1⟩⟩
      · have hl := askS_ok (s := s) (d := d) (r := false) h1 (by simpa using h3)
        have hr := hstop d hd he hl
        unfold RunJ at hr
        exact ⟨envP hs hd (askR rem false) (askS false) he hl, _, r.n3, rfl, hR.n3.1, hR.n3.2, @callT_ok Tryz.prog Keep.none (envP hs hd (askR rem false) (askS false) he hl) mixed (@knownL (envP hs hd (askR rem false) (askS false) he hl) []) (knownL_ok hs hd noPads) [] tabNil 990, .inr ⟨sbStop2 s.k i3, hr, sbStop2_ok (hi.stop h1 h2 h3) i3⟩⟩
  · have hl := askI_ok (s := s) (d := d) (r := false) (by simpa using h1)
    have hr := hend d hd noEq hl
    unfold RunJ at hr
    exact ⟨envP hs hd [] (askI false) noEq hl, _, r.n4, rfl, hR.n4.1, hR.n4.2, @callT_ok Tryz.prog Keep.none (envP hs hd [] (askI false) noEq hl) mixed (@knownL (envP hs hd [] (askI false) noEq hl) []) (knownL_ok hs hd noPads) [] tabNil 990, .inr ⟨sbEnd2 s.k i4, hr, sbEnd2_ok (hi.end_ h1) i4⟩⟩

/-- four numbers, as they come in -/
theorem four_inL [InL] {s : Shp} : @VRl (env0 s) (fun _ => none) (.cons (.agg (.cons (.sym .i64 (.var 10)) (.cons (.sym .i64 (.var 11)) (.cons (.sym .i64 (.var 12)) (.cons (.sym .i64 (.var 13)) .nil))))) .nil) (#[.agg #[.int .i64 InL.f0, .int .i64 InL.f1, .int .i64 InL.f2, .int .i64 InL.f3]] : Array Value).toList := by
  refine ⟨_, _, rfl, ⟨[_, _, _, _], rfl, ⟨_, _, rfl, rfl, _, _, rfl, rfl, _, _, rfl, rfl, _, _, rfl, rfl, rfl⟩, ?_⟩, rfl⟩
  intro u hu
  simp only [List.mem_cons, List.not_mem_nil, or_false] at hu
  rcases hu with rfl | rfl | rfl | rfl <;> rfl

/-- an array of four numbers -/
theorem arg_four {P : Program} {w : World} {r : Reach} {base : Nat} {t tb : TypeId} {v : Value} (ht : P.underlying t = some (.array 4 tb)) (hc : P.cellsOf t = 4) (hts : P.cellTypes P.depth t = some [tb, tb, tb, tb]) (hb : P.underlying tb = some (.int .i64)) (h : Value.okWide P w r base t v) :
    ∃ a b c d, v = .agg #[.int .i64 a, .int .i64 b, .int .i64 c, .int .i64 d] ∧ I64 a ∧ I64 b ∧ I64 c ∧ I64 d := by
  simp only [Value.okWide, ht] at h
  obtain ⟨⟨cs⟩, rfl, hsz, ts, h1, _, h2⟩ := h
  rw [hts] at h1
  injection h1 with h1
  subst h1
  rw [hc] at hsz
  have num : ∀ {v : Value}, Cell.okWide P w r base tb v → ∃ n, v = .int .i64 n ∧ I64 n := by
    intro v hv
    simp only [Cell.okWide, hb] at hv
    cases v <;> simp_all [Cell.ok, IntKind.has, IntKind.min, IntKind.max, IntKind.bits, IntKind.signed]
    exact ⟨by omega, by omega⟩
  match cs, hsz with
  | [x, y, z, q], _ =>
    obtain ⟨u, q1, q2⟩ := h2 0 x rfl
    obtain ⟨u', q3, q4⟩ := h2 1 y rfl
    obtain ⟨u2, q5, q6⟩ := h2 2 z rfl
    obtain ⟨u3, q7, q8⟩ := h2 3 q rfl
    cases (show some tb = some u from q1)
    cases (show some tb = some u' from q3)
    cases (show some tb = some u2 from q5)
    cases (show some tb = some u3 from q7)
    obtain ⟨a, rfl, ha⟩ := num q2
    obtain ⟨b, rfl, hb⟩ := num q4
    obtain ⟨c, rfl, hc⟩ := num q6
    obtain ⟨d, rfl, hd⟩ := num q8
    exact ⟨a, b, c, d, rfl, ha, hb, hc, hd⟩

end Go.Proofs.YtjpgogmnabkgnaaGreat

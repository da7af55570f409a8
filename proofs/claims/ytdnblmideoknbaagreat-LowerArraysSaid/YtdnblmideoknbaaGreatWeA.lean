/- Four numbers that come in, brought within bounds: what is known of them; small numbers' digits; contracts. -/
import Derived.Test.YtdnblmideoknbaaGreatWdA
import Derived.Test.YtdnblmideoknbaaGreatVz
namespace Go.Proofs.YtdnblmideoknbaaGreat
open Go.RowKit Go.Proofs.YtdnblmideoknbaaGreat.Ev

/-- a number within -/
def withF (i m : Int) : Int := IntKind.u64.wrap i % m

/-- an array's length, which one is asked; what is in it: by, from -/
class In4 where
  f0 : Int
  f1 : Int
  f2 : Int
  f3 : Int
  h0 : I64 f0
  h1 : I64 f1
  h2 : I64 f2
  h3 : I64 f3

def In4.n [In4] : Int := 1 + withF In4.f0 8
def In4.a [In4] : Int := withF In4.f3 In4.n
def In4.by_ [In4] : Int := withF In4.f1 10
def In4.fr [In4] : Int := withF In4.f2 10

def rhoA (n a b f f0 f1 f2 f3 : Int) (i : Nat) : Int := match i with
  | 0 => n
  | 1 => a
  | 2 => b
  | 3 => f
  | 10 => f0
  | 11 => f1
  | 12 => f2
  | 13 => f3
  | _ => 0

instance env0A [In4] : SEnv0 where
  rho := rhoA In4.n In4.a In4.by_ In4.fr In4.f0 In4.f1 In4.f2 In4.f3
  app := appW

theorem withF_rng (i m : Int) (hm : 0 < m) : 0 ≤ withF i m ∧ withF i m < m := ⟨Int.emod_nonneg _ (by omega), Int.emod_lt_of_pos _ hm⟩
theorem In4.n_rng [In4] : 1 ≤ In4.n ∧ In4.n ≤ 8 := by
  have := withF_rng In4.f0 8 (by decide)
  unfold In4.n
  omega
theorem In4.a_rng [In4] : 0 ≤ In4.a ∧ In4.a < In4.n := withF_rng _ _ (by have := In4.n_rng; omega)
theorem In4.b_rng [In4] : 0 ≤ In4.by_ ∧ In4.by_ ≤ 9 := by have := withF_rng In4.f1 10 (by decide); unfold In4.by_; omega
theorem In4.f_rng [In4] : 0 ≤ In4.fr ∧ In4.fr ≤ 9 := by have := withF_rng In4.f2 10 (by decide); unfold In4.fr; omega

/-- bounds -/
def loA (n a : Int) (i : Nat) : Int := match i with
  | 0 => n
  | 1 => a
  | 2 => 0
  | 3 => 0
  | _ => -9223372036854775808
def hiA (n a : Int) (i : Nat) : Int := match i with
  | 0 => n
  | 1 => a
  | 2 => 9
  | 3 => 9
  | _ => 9223372036854775807

theorem rngA [In4] (n1 a1 n2 a2 : Int) (hn : n1 ≤ In4.n ∧ In4.n ≤ n2) (ha : a1 ≤ In4.a ∧ In4.a ≤ a2) (i : Nat) : loA n1 a1 i ≤ (env0A.rho i : Int) ∧ (env0A.rho i : Int) ≤ hiA n2 a2 i := by
  have z : (-9223372036854775808 : Int) ≤ 0 ∧ (0 : Int) ≤ 9223372036854775807 := ⟨by decide, by decide⟩
  match i with
  | 0 => exact hn
  | 1 => exact ha
  | 2 => exact In4.b_rng
  | 3 => exact In4.f_rng
  | 4 => exact z
  | 5 => exact z
  | 6 => exact z
  | 7 => exact z
  | 8 => exact z
  | 9 => exact z
  | 10 => exact In4.h0
  | 11 => exact In4.h1
  | 12 => exact In4.h2
  | 13 => exact In4.h3
  | _ + 14 => exact z

/-- whatever the length -/
abbrev envGen [In4] : SEnv where
  toSEnv0 := env0A
  lo := loA 1 0
  hi := hiA 8 7
  rng_ok := rngA 1 0 8 7 In4.n_rng ⟨In4.a_rng.1, by have := In4.a_rng; have := In4.n_rng; omega⟩
  app_ok := app64
  askEq _ _ := none
  askLt _ _ := none
  eq_ok := fun h => by cases h
  lt_ok := fun h => by cases h

/-- of one length -/
abbrev envSpec [In4] (n0 a0 : Nat) (hn : In4.n = n0) (ha : In4.a = a0) : SEnv where
  toSEnv0 := env0A
  lo := loA n0 a0
  hi := hiA n0 a0
  rng_ok := rngA n0 a0 n0 a0 ⟨by omega, by omega⟩ ⟨by omega, by omega⟩
  app_ok := app64
  askEq _ _ := none
  askLt _ _ := none
  eq_ok := fun h => by cases h
  lt_ok := fun h => by cases h

set_option maxHeartbeats 1000000 in
theorem withinA (i : Int) (m : Nat) (hm : 0 < m) (hm2 : m ≤ 1000) (w : World) : Calls Tryz.prog 12 #[.int .i64 i, .int .i64 m] w fun e w' => e = .returned (.int .i64 (withF i m)) ∧ Below w.heap.size w w' := by
  have hu0 : 0 ≤ IntKind.u64.wrap i := by
    have h : IntKind.u64.wrap i = i % 18446744073709551616 := by simp [IntKind.wrap, IntKind.bits, IntKind.signed]
    omega
  have hun : IntKind.u64.wrap (m : Int) = m := by simp [IntKind.wrap, IntKind.bits]; omega
  go_enter Tryz.func12, Tryz.ntmps12
  go_wp2_with fail
  go_ret
  have h2 := Int.emod_nonneg (IntKind.u64.wrap i) (show (m : Int) ≠ 0 by omega)
  have h3 := Int.emod_lt_of_pos (IntKind.u64.wrap i) (show (0 : Int) < m by omega)
  refine ⟨?_, Below.refl _ _⟩
  show Ending.returned (.int .i64 (wrap64 (IntKind.u64.wrap i % m))) = _
  rw [IntWalk.wrap64_in _ (by omega)]
  rfl

set_option maxHeartbeats 2000000 in
theorem decA (n : Nat) (w : World) (hn : n < 10) : Calls Tryz.prog 13 #[.int .i64 n] w fun e w' => e = .returned (.string ⟨#[UInt8.ofNat (48 + n)]⟩) ∧ Below w.heap.size w w' := by
  have h : n = 0 ∨ n = 1 ∨ n = 2 ∨ n = 3 ∨ n = 4 ∨ n = 5 ∨ n = 6 ∨ n = 7 ∨ n = 8 ∨ n = 9 := by omega
  rcases h with rfl | rfl | rfl | rfl | rfl | rfl | rfl | rfl | rfl | rfl
  all_goals
    go_enter Tryz.func13, Tryz.ntmps13
    go_wp2_with fail
    go_ret
    exact ⟨rfl, Below.refl _ _⟩

/-- within bounds -/
def kWith (n0 a0 : Nat) (args : AV) (h : H) : Option (AV × H) := match args with
  | .cons (.sym .i64 (.var j)) (.cons (.int .i64 (.ofNat m)) .nil) => match j with
    | 10 => match Nat.beq m 8 with
      | true => some (.int .i64 (.ofNat (Nat.pred n0)), h)
      | false => none
    | 11 => match Nat.beq m 10 with
      | true => some (.sym .i64 (.var 2), h)
      | false => none
    | 12 => match Nat.beq m 10 with
      | true => some (.sym .i64 (.var 3), h)
      | false => none
    | 13 => match Nat.beq m n0 with
      | true => some (.int .i64 (.ofNat a0), h)
      | false => none
    | _ => none
  | _ => none

theorem kWith_one [SEnv] {j m : Nat} {i : Int} {h : H} {v : AV} (hm : 0 < m) (hm2 : m ≤ 1000) (hi : SEnv0.rho j = i) (hv : ∀ ι, VR ι v (.int .i64 (withF i m))) : SoundCall Tryz.prog Keep.none 12 (.cons (.sym .i64 (.var j)) (.cons (.int .i64 (.ofNat m)) .nil)) h v h := by
  intro ι w vs hh _ hvs
  obtain ⟨v1, m1, hvl, hv1, v2, m2, rfl, hv2, rfl⟩ := hvs
  have hv1 : v1 = .int .i64 (SEnv0.rho j) := hv1
  have hv2 : v2 = .int .i64 (Int.ofNat m) := hv2
  subst hv1 hv2
  obtain rfl : vs = #[.int .i64 i, .int .i64 (m : Int)] := by rw [← Array.toList_inj, hvl, hi]; rfl
  refine (withinA i m hm hm2 w).mono fun e w' ⟨he, hbw⟩ => ?_
  obtain ⟨q1, q2⟩ := hh.grown hbw
  exact ⟨ι, _, he, hv ι, q1, q2⟩

theorem kWith_ok [In4] (n0 a0 : Nat) (hn : In4.n = n0) (ha : In4.a = a0) {args : AV} {h : H} {v : AV} {h' : H} (hr : kWith n0 a0 args h = some (v, h')) : @SoundCall env0A Tryz.prog Keep.none 12 args h v h' := by
  letI := envGen
  have hr0 := In4.n_rng
  unfold kWith at hr
  split at hr
  case h_2 => cases hr
  rename_i j m
  split at hr
  · split at hr
    · rename_i hm
      obtain rfl : m = 8 := by simpa using hm
      injection hr with hr
      injection hr with e1 e2
      subst e1 e2
      refine kWith_one (i := In4.f0) (by decide) (by decide) rfl fun ι => ?_
      have e : withF In4.f0 ((8 : Nat) : Int) = (Nat.pred n0 : Nat) := by
        have h1 : 1 + withF In4.f0 8 = (n0 : Int) := hn
        have h2 : (Nat.pred n0 : Int) = n0 - 1 := by
          rw [Nat.pred_eq_sub_one]; omega
        show withF In4.f0 8 = _
        omega
      rw [e]
      rfl
    · cases hr
  · split at hr
    · rename_i hm
      obtain rfl : m = 10 := by simpa using hm
      injection hr with hr
      injection hr with e1 e2
      subst e1 e2
      exact kWith_one (i := In4.f1) (by decide) (by decide) rfl fun ι => rfl
    · cases hr
  · split at hr
    · rename_i hm
      obtain rfl : m = 10 := by simpa using hm
      injection hr with hr
      injection hr with e1 e2
      subst e1 e2
      exact kWith_one (i := In4.f2) (by decide) (by decide) rfl fun ι => rfl
    · cases hr
  · split at hr
    · rename_i hm
      obtain rfl : m = n0 := by simpa using hm
      injection hr with hr
      injection hr with e1 e2
      subst e1 e2
      refine kWith_one (i := In4.f3) (by omega) (by omega) rfl fun ι => ?_
      have e : withF In4.f3 (m : Int) = (a0 : Int) := by rw [← hn]; exact ha
      rw [e]
      rfl
    · cases hr
  · cases hr

/-- what is known where a call is proved -/
abbrev knownA [SEnv] : Known := knownTwo
theorem knownA_ok [In4] : @Known.Ok env0A Tryz.prog Keep.none (@knownA envGen) := @knownTwo_ok envGen app_two

/-- what is known where the law is -/
def knownL [SEnv] (n0 a0 : Nat) (l : List Ent) : Known := (kPads l).or ((Known.one 13 kDec).or ((Known.one 12 (kWith n0 a0)).or knownTwo))
theorem knownL_ok [In4] (n0 a0 : Nat) (hn : In4.n = n0) (ha : In4.a = a0) {l : List Ent} (hl : ∀ x ∈ l, @Ent.Ok env0A Tryz.prog Keep.none x) : @Known.Ok env0A Tryz.prog Keep.none (@knownL (envSpec n0 a0 hn ha) n0 a0 l) := by
  letI := envSpec n0 a0 hn ha
  have h1 := @kPads_ok _ Tryz.prog l hl
  have h2 : (Known.one 13 kDec).Ok Tryz.prog Keep.none := @Known.one_ok _ _ _ _ _ (kDec_ok fun n w h => decA n w h)
  have h3 : (Known.one 12 (kWith n0 a0)).Ok Tryz.prog Keep.none := @Known.one_ok _ _ _ _ _ (kWith_ok n0 a0 hn ha)
  have h4 : knownTwo.Ok Tryz.prog Keep.none := @knownTwo_ok _ app_two
  exact @Known.or_ok _ _ _ _ _ h1 (@Known.or_ok _ _ _ _ _ h2 (@Known.or_ok _ _ _ _ _ h3 h4))

/-- four numbers, as they come in -/
theorem four_in [In4] : @VRl env0A (fun _ => none) (.cons (.agg (.cons (.sym .i64 (.var 10)) (.cons (.sym .i64 (.var 11)) (.cons (.sym .i64 (.var 12)) (.cons (.sym .i64 (.var 13)) .nil))))) .nil) (#[.agg #[.int .i64 In4.f0, .int .i64 In4.f1, .int .i64 In4.f2, .int .i64 In4.f3]] : Array Value).toList := by
  refine ⟨_, _, rfl, ⟨[_, _, _, _], rfl, ⟨_, _, rfl, rfl, _, _, rfl, rfl, _, _, rfl, rfl, _, _, rfl, rfl, rfl⟩, ?_⟩, rfl⟩
  intro u hu
  simp only [List.mem_cons, List.not_mem_nil, or_false] at hu
  rcases hu with rfl | rfl | rfl | rfl <;> rfl

/-- an array of four numbers -/
theorem arg_four {P : Program} {w : World} {r : Reach} {base : Nat} {t tb : TypeId} {v : Value} (ht : P.underlying t = some (.array 4 tb)) (hc : P.cellsOf t = 4) (hts : P.cellTypes P.depth t = some [tb, tb, tb, tb]) (hb : P.underlying tb = some (.int .i64)) (h : Value.okWide P w r base t v) :
    ∃ a b c d, v = .agg #[.int .i64 a, .int .i64 b, .int .i64 c, .int .i64 d] ∧ I64 a ∧ I64 b ∧ I64 c ∧ I64 d := by
  simp only [Value.okWide, ht] at h
  obtain ⟨⟨cs⟩, rfl, hsz, ts, h1, _, h2⟩ := h
  rw [hts] at h1
  injection h1 with h1
  subst h1
  rw [hc] at hsz
  have num : ∀ {v : Value}, Cell.okWide P w r base tb v → ∃ n, v = .int .i64 n ∧ I64 n := by
    intro v hv
    simp only [Cell.okWide, hb] at hv
    cases v <;> simp_all [Cell.ok, IntKind.has, IntKind.min, IntKind.max, IntKind.bits, IntKind.signed]
    exact ⟨by omega, by omega⟩
  match cs, hsz with
  | [x, y, z, q], _ =>
    obtain ⟨u, q1, q2⟩ := h2 0 x rfl
    obtain ⟨u', q3, q4⟩ := h2 1 y rfl
    obtain ⟨u2, q5, q6⟩ := h2 2 z rfl
    obtain ⟨u3, q7, q8⟩ := h2 3 q rfl
    cases (show some tb = some u from q1)
    cases (show some tb = some u' from q3)
    cases (show some tb = some u2 from q5)
    cases (show some tb = some u3 from q7)
    obtain ⟨a, rfl, ha⟩ := num q2
    obtain ⟨b, rfl, hb⟩ := num q4
    obtain ⟨c, rfl, hc⟩ := num q6
    obtain ⟨d, rfl, hd⟩ := num q8
    exact ⟨a, b, c, d, rfl, ha, hb, hc, hd⟩

end Go.Proofs.YtdnblmideoknbaaGreat

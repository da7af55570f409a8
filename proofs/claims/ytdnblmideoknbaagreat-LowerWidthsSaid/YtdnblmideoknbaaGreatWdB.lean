/- Two numbers that come in: answers that are the same numbers; what is known at a law's beginning. -/
import Derived.Test.YtdnblmideoknbaaGreatWdA
import Derived.Test.YtdnblmideoknbaaGreatVz
namespace Go.Proofs.YtdnblmideoknbaaGreat
open Go.RowKit Go.Proofs.YtdnblmideoknbaaGreat.Ev

/-- two numbers -/
class In2 where
  a : Int
  b : Int
  ha : I64 a
  hb : I64 b
  z : Bool
  l : Bool
  hz : decide (b = 0) = z
  hl : decide (IntKind.u32.wrap (IntKind.i8.wrap a) < IntKind.u32.wrap b) = l

def rhoW (a b : Int) (i : Nat) : Int := match i with
  | 0 => a
  | 1 => b
  | _ => 0

instance env0W [In2] : SEnv0 where
  rho := rhoW In2.a In2.b
  app := appW

theorem rho64 [In2] (i : Nat) : -9223372036854775808 ≤ (env0W.rho i : Int) ∧ (env0W.rho i : Int) ≤ 9223372036854775807 := by
  show -9223372036854775808 ≤ rhoW In2.a In2.b i ∧ rhoW In2.a In2.b i ≤ _
  unfold rhoW
  split
  · exact In2.ha
  · exact In2.hb
  · omega

/-- what is known: bounds, and these -/
abbrev envW [In2] (eqs lts : Asks) (he : ∀ x ∈ eqs, (x.1.den == x.2.1.den) = x.2.2) (hl : ∀ x ∈ lts, decide (x.1.den < x.2.1.den) = x.2.2) : SEnv where
  toSEnv0 := env0W
  lo _ := -9223372036854775808
  hi _ := 9223372036854775807
  rng_ok := rho64
  app_ok := app64
  askEq := lookA eqs
  askLt := lookA lts
  eq_ok := lookA_ok (q := fun a b => a.den == b.den) he
  lt_ok := lookA_ok (q := fun a b => decide (a.den < b.den)) hl

theorem i8_in (a : Int) : -128 ≤ IntKind.i8.wrap a ∧ IntKind.i8.wrap a ≤ 127 := wrap_in .i8 a
theorem u16_in (a : Int) : 0 ≤ IntKind.u16.wrap a ∧ IntKind.u16.wrap a ≤ 65535 := wrap_in .u16 a
theorem u32_in (a : Int) : 0 ≤ IntKind.u32.wrap a ∧ IntKind.u32.wrap a ≤ 4294967295 := wrap_in .u32 a
theorem w64 {x : Int} (h1 : -9223372036854775808 ≤ x) (h2 : x ≤ 9223372036854775807) : IntKind.i64.wrap x = x := wrap_id h1 h2
theorem w32 {x : Int} (h1 : 0 ≤ x) (h2 : x ≤ 4294967295) : IntKind.u32.wrap x = x := wrap_id h1 h2

theorem mul_in (a b : Int) : -8388480 ≤ IntKind.i8.wrap a * IntKind.u16.wrap b ∧ IntKind.i8.wrap a * IntKind.u16.wrap b ≤ 8388480 := by
  obtain ⟨h1, h2⟩ := i8_in a
  obtain ⟨h3, h4⟩ := u16_in b
  generalize IntKind.i8.wrap a = x at *
  generalize IntKind.u16.wrap b = y at *
  have e1 : (x + 128) * y ≥ 0 := Int.mul_nonneg (by omega) h3
  have e2 : (127 - x) * y ≥ 0 := Int.mul_nonneg (by omega) h3
  rw [Int.add_mul] at e1
  rw [Int.sub_mul] at e2
  omega

theorem askMul (a b : Int) : IntKind.i32.wrap (IntKind.i64.wrap (IntKind.i8.wrap a * IntKind.u16.wrap b)) = IntKind.i64.wrap (IntKind.i8.wrap a * IntKind.u16.wrap b) := by
  have h := mul_in a b
  rw [w64 (by omega) (by omega)]
  exact wrap_id (k := .i32) (by show (-2147483648 : Int) ≤ _; omega) (by show _ ≤ (2147483647 : Int); omega)

theorem askQuo0 (a : Int) : appW 15 a 0 = -1 := by
  unfold appW
  rw [show twoF ((15 : Nat) : Int) a 0 = quoF a 0 from rfl]
  unfold quoF
  rw [if_pos rfl]
  decide
theorem askRem0 (a : Int) (ha : I64 a) : appW 17 a 0 = a := by
  unfold appW
  rw [show twoF ((17 : Nat) : Int) a 0 = remF a 0 from rfl]
  unfold remF
  rw [if_pos rfl]
  exact w64 ha.1 ha.2
theorem askQuo (a b : Int) (hb : b ≠ 0) : appW 15 a b = IntKind.i64.wrap (Int.tdiv a b) := by
  unfold appW
  rw [show twoF ((15 : Nat) : Int) a b = quoF a b from rfl]
  unfold quoF
  rw [if_neg hb]
  split
  · rename_i h
    obtain ⟨rfl, rfl⟩ := h
    decide
  · rfl
theorem askRem (a b : Int) (h2 : I64 b) (hb : b ≠ 0) : appW 17 a b = Int.tmod a b := by
  unfold appW
  rw [show twoF ((17 : Nat) : Int) a b = remF a b from rfl]
  unfold remF
  rw [if_neg hb]
  split
  · rename_i h
    obtain ⟨rfl, rfl⟩ := h
    decide
  · have := tmod_rng (a := a) (I64r_of h2) hb
    unfold I64r at this
    exact w64 this.1 this.2
theorem askShr (b : Int) : IntKind.u32.wrap (appW 23 (IntKind.u32.wrap b) 1) = IntKind.i64.wrap (Int.fdiv (IntKind.u32.wrap b) (2 ^ min (1 : Int).toNat 32)) := by
  obtain ⟨h1, h2⟩ := u32_in b
  generalize IntKind.u32.wrap b = x at *
  unfold appW
  have e : twoF ((23 : Nat) : Int) x 1 = wrap64 (IntKind.u64.wrap x / 2 ^ (shN 1).toNat) := rfl
  rw [e, show (shN 1).toNat = 1 from by decide, wrap_id (k := .u64) (n := x) h1 (by show x ≤ (18446744073709551615 : Int); omega), show (2 : Int) ^ (1 : Nat) = 2 from rfl, show (2 : Int) ^ min (1 : Int).toNat 32 = 2 from rfl, Int.fdiv_eq_ediv_of_nonneg x (by omega)]
  have h3 : 0 ≤ x / 2 ∧ x / 2 ≤ x := by omega
  rw [← wrap64_eq, w64 (x := x / 2) (by omega) (by omega), w64 (x := x / 2) (by omega) (by omega), w32 h3.1 (by omega)]
theorem askLess (a b : Int) (l : Bool) (h : decide (IntKind.u32.wrap (IntKind.i8.wrap a) < IntKind.u32.wrap b) = l) : IntKind.u32.wrap (appW 28 (IntKind.u32.wrap (IntKind.i8.wrap a)) (IntKind.u32.wrap b)) = if l then 1 else 0 := by
  have h1 := u32_in (IntKind.i8.wrap a)
  have h2 := u32_in b
  generalize IntKind.u32.wrap (IntKind.i8.wrap a) = x at *
  generalize IntKind.u32.wrap b = y at *
  unfold appW
  have e : twoF ((28 : Nat) : Int) x y = if decide (IntKind.u64.wrap x < IntKind.u64.wrap y) then 1 else 0 := rfl
  rw [e, wrap_id (k := .u64) (n := x) h1.1 (by show x ≤ (18446744073709551615 : Int); omega), wrap_id (k := .u64) (n := y) h2.1 (by show y ≤ (18446744073709551615 : Int); omega), h]
  cases l <;> decide
theorem askXor (b : Int) : IntKind.u32.wrap (binD .xor .i64 (-1) (IntKind.u32.wrap b)) = binD .xor .u32 4294967295 (IntKind.u32.wrap b) := by
  obtain ⟨h1, h2⟩ := u32_in b
  generalize IntKind.u32.wrap b = x at *
  obtain ⟨n, rfl⟩ := Int.eq_ofNat_of_zero_le h1
  have e1 : binD .xor .i64 (-1) (n : Int) = -1 - n := by
    show IntKind.i64.wrap (BitVec.ofInt 64 (-1) ^^^ BitVec.ofInt 64 (n : Int)).toNat = _
    rw [show BitVec.ofInt 64 (-1) = BitVec.allOnes 64 from by decide, BitVec.allOnes_xor, BitVec.toNat_not, BitVec.toNat_ofInt]
    rw [wrap64_eq]
    unfold wrap64
    omega
  have e2 : binD .xor .u32 4294967295 (n : Int) = 4294967295 - n := by
    show IntKind.u32.wrap (BitVec.ofInt 32 4294967295 ^^^ BitVec.ofInt 32 (n : Int)).toNat = _
    rw [show BitVec.ofInt 32 4294967295 = BitVec.allOnes 32 from by decide, BitVec.allOnes_xor, BitVec.toNat_not, BitVec.toNat_ofInt]
    have e : ((2 ^ 32 - 1 - ((n : Int) % (2 ^ 32 : Nat)).toNat : Nat) : Int) = 4294967295 - n := by omega
    rw [e]
    exact w32 (by omega) (by omega)
  rw [e1, e2]
  show (-1 - (n : Int)) % 4294967296 = _
  omega

theorem u32_i32 (b : Int) : IntKind.u32.wrap (IntKind.i32.wrap (IntKind.u32.wrap b)) = IntKind.u32.wrap b := by
  simp only [IntKind.wrap, IntKind.bits, IntKind.signed, Bool.true_and, Bool.false_and, Bool.false_eq_true, if_false, decide_eq_true_eq, Int.reducePow]
  split <;> omega
theorem u16_i16 (b : Int) : IntKind.u16.wrap (IntKind.i16.wrap (IntKind.u16.wrap b)) = IntKind.u16.wrap b := by
  simp only [IntKind.wrap, IntKind.bits, IntKind.signed, Bool.true_and, Bool.false_and, Bool.false_eq_true, if_false, decide_eq_true_eq, Int.reducePow]
  split <;> omega
theorem askXor2 (b : Int) : IntKind.u32.wrap (appW 21 (IntKind.u32.wrap b) (-1)) = binD .xor .u32 4294967295 (IntKind.u32.wrap b) := by
  rw [← askXor]
  unfold appW
  have e : twoF ((21 : Nat) : Int) (IntKind.u32.wrap b) (-1) = bits .xor .i64 (IntKind.u32.wrap b) (-1) := rfl
  rw [e]
  obtain ⟨h1, h2⟩ := u32_in b
  generalize IntKind.u32.wrap b = x at *
  obtain ⟨n, rfl⟩ := Int.eq_ofNat_of_zero_le h1
  have e1 : binD .xor .i64 (-1) (n : Int) = -1 - n := by
    show IntKind.i64.wrap (BitVec.ofInt 64 (-1) ^^^ BitVec.ofInt 64 (n : Int)).toNat = _
    rw [show BitVec.ofInt 64 (-1) = BitVec.allOnes 64 from by decide, BitVec.allOnes_xor, BitVec.toNat_not, BitVec.toNat_ofInt]
    rw [wrap64_eq]
    unfold wrap64
    omega
  have e2 : bits .xor .i64 (n : Int) (-1) = -1 - n := by
    unfold bits
    show IntKind.i64.wrap ((BitVec.ofInt 64 (n : Int) ^^^ BitVec.ofInt 64 (-1)).toNat : Int) = _
    rw [show BitVec.ofInt 64 (-1) = BitVec.allOnes 64 from by decide, BitVec.xor_allOnes, BitVec.toNat_not, BitVec.toNat_ofInt]
    rw [wrap64_eq]
    unfold wrap64
    omega
  rw [e1, e2, w64 (by omega) (by omega)]
theorem askLess2 (a b : Int) (l : Bool) (h : decide (IntKind.u32.wrap (IntKind.i8.wrap a) < IntKind.u32.wrap b) = l) : appW 28 (IntKind.u32.wrap (IntKind.i8.wrap a)) (IntKind.u32.wrap b) = if l then 1 else 0 := by
  have h1 := u32_in (IntKind.i8.wrap a)
  have h2 := u32_in b
  generalize IntKind.u32.wrap (IntKind.i8.wrap a) = x at *
  generalize IntKind.u32.wrap b = y at *
  unfold appW
  have e : twoF ((28 : Nat) : Int) x y = if decide (IntKind.u64.wrap x < IntKind.u64.wrap y) then 1 else 0 := rfl
  rw [e, wrap_id (k := .u64) (n := x) h1.1 (by show x ≤ (18446744073709551615 : Int); omega), wrap_id (k := .u64) (n := y) h2.1 (by show y ≤ (18446744073709551615 : Int); omega), h]
  cases l <;> decide

abbrev tB : Tm := .wrap .u32 (.var 1)
abbrev tC : Tm := .wrap .u32 (.wrap .i8 (.var 0))
abbrev tB2 : Tm := .wrap .u32 (.wrap .i32 tB)
abbrev tM2 : Tm := .bin .mul .i64 (.wrap .i8 (.var 0)) (.wrap .u16 (.wrap .i16 (.wrap .u16 (.var 1))))
abbrev tM : Tm := .bin .mul .i64 (.wrap .i8 (.var 0)) (.wrap .u16 (.var 1))

def eqsW (z l : Bool) : Asks :=
  (.var 1, .lit 0, z) :: (.wrap .i32 tM, tM, true) :: (.wrap .u32 (.ap 23 tB (.lit 1)), .wrap .i64 (.bin .shr .u32 tB (.lit 1)), true) ::
  (.wrap .u32 (.bin .xor .i64 (.lit (-1)) tB), .bin .xor .u32 (.lit 4294967295) tB, true) ::
  (.wrap .i32 tM2, tM, true) :: (.wrap .u32 (.ap 23 tB2 (.lit 1)), .wrap .i64 (.bin .shr .u32 tB (.lit 1)), true) ::
  (.wrap .u32 (.ap 21 tB2 (.lit (-1))), .bin .xor .u32 (.lit 4294967295) tB, true) ::
  (.ap 28 tC tB2, .lit 1, l) :: (.ap 28 tC tB2, .lit 0, !l) ::
  (.wrap .u32 (.ap 28 tC tB), .lit 1, l) :: (.wrap .u32 (.ap 28 tC tB), .lit 0, !l) :: (match z with
  | true => [(.ap 15 (.var 0) (.var 1), .lit (-1), true), (.ap 17 (.var 0) (.var 1), .var 0, true)]
  | false => [(.ap 15 (.var 0) (.var 1), .bin .quo .i64 (.var 0) (.var 1), true), (.ap 17 (.var 0) (.var 1), .bin .rem .i64 (.var 0) (.var 1), true)])
def ltsW (l : Bool) : Asks := [(tC, tB, l)]

theorem eqsW_ok [In2] : ∀ x ∈ eqsW In2.z In2.l, (x.1.den == x.2.1.den) = x.2.2 := by
  have hz := In2.hz
  have hl := askLess _ _ _ In2.hl
  have h1 := askMul In2.a In2.b
  have h2 := askShr In2.b
  have h3 := askXor In2.b
  have h4 := u32_i32 In2.b
  have h5 := u16_i16 In2.b
  have h6 := askXor2 In2.b
  have hl2 := askLess2 _ _ _ In2.hl
  have q0 := askQuo0 In2.a
  have r0 := askRem0 In2.a In2.ha
  have q1 := askQuo In2.a In2.b
  have r1 := askRem In2.a In2.b In2.hb
  intro x hx
  unfold eqsW at hx
  rcases List.mem_cons.1 hx with rfl | hx
  · show (In2.b == 0) = In2.z
    rw [← hz]
    exact (Bool.eq_iff_iff.2 (by rw [beq_iff_eq, decide_eq_true_eq]))
  rcases List.mem_cons.1 hx with rfl | hx
  · exact beq_iff_eq.2 h1
  rcases List.mem_cons.1 hx with rfl | hx
  · exact beq_iff_eq.2 h2
  rcases List.mem_cons.1 hx with rfl | hx
  · exact beq_iff_eq.2 h3
  rcases List.mem_cons.1 hx with rfl | hx
  · refine beq_iff_eq.2 ?_
    show IntKind.i32.wrap (IntKind.i64.wrap (IntKind.i8.wrap In2.a * IntKind.u16.wrap (IntKind.i16.wrap (IntKind.u16.wrap In2.b)))) = IntKind.i64.wrap (IntKind.i8.wrap In2.a * IntKind.u16.wrap In2.b)
    rw [h5]; exact h1
  rcases List.mem_cons.1 hx with rfl | hx
  · refine beq_iff_eq.2 ?_
    show IntKind.u32.wrap (appW 23 (IntKind.u32.wrap (IntKind.i32.wrap (IntKind.u32.wrap In2.b))) 1) = IntKind.i64.wrap (Int.fdiv (IntKind.u32.wrap In2.b) (2 ^ min (1 : Int).toNat 32))
    rw [h4]; exact h2
  rcases List.mem_cons.1 hx with rfl | hx
  · refine beq_iff_eq.2 ?_
    show IntKind.u32.wrap (appW 21 (IntKind.u32.wrap (IntKind.i32.wrap (IntKind.u32.wrap In2.b))) (-1)) = binD .xor .u32 4294967295 (IntKind.u32.wrap In2.b)
    rw [h4]; exact h6
  rcases List.mem_cons.1 hx with rfl | hx
  · show (appW 28 (IntKind.u32.wrap (IntKind.i8.wrap In2.a)) (IntKind.u32.wrap (IntKind.i32.wrap (IntKind.u32.wrap In2.b))) == 1) = In2.l
    rw [h4, hl2]
    cases In2.l <;> rfl
  rcases List.mem_cons.1 hx with rfl | hx
  · show (appW 28 (IntKind.u32.wrap (IntKind.i8.wrap In2.a)) (IntKind.u32.wrap (IntKind.i32.wrap (IntKind.u32.wrap In2.b))) == 0) = !In2.l
    rw [h4, hl2]
    cases In2.l <;> rfl
  rcases List.mem_cons.1 hx with rfl | hx
  · show (IntKind.u32.wrap (appW 28 (IntKind.u32.wrap (IntKind.i8.wrap In2.a)) (IntKind.u32.wrap In2.b)) == 1) = In2.l
    rw [hl]
    cases In2.l <;> rfl
  rcases List.mem_cons.1 hx with rfl | hx
  · show (IntKind.u32.wrap (appW 28 (IntKind.u32.wrap (IntKind.i8.wrap In2.a)) (IntKind.u32.wrap In2.b)) == 0) = !In2.l
    rw [hl]
    cases In2.l <;> rfl
  have hz2 := hz
  cases hzz : In2.z
  · rw [hzz] at hx hz2
    have hb : In2.b ≠ 0 := by simpa using hz2
    rcases List.mem_cons.1 hx with rfl | hx
    · exact beq_iff_eq.2 (q1 hb)
    rcases List.mem_cons.1 hx with rfl | hx
    · exact beq_iff_eq.2 (r1 hb)
    cases hx
  · rw [hzz] at hx hz2
    have hb : In2.b = 0 := by simpa using hz2
    rcases List.mem_cons.1 hx with rfl | hx
    · refine beq_iff_eq.2 ?_
      show appW 15 In2.a In2.b = -1
      rw [hb]; exact q0
    rcases List.mem_cons.1 hx with rfl | hx
    · refine beq_iff_eq.2 ?_
      show appW 17 In2.a In2.b = In2.a
      rw [hb]; exact r0
    cases hx

theorem ltsW_ok [In2] : ∀ x ∈ ltsW In2.l, decide (x.1.den < x.2.1.den) = x.2.2 := by
  intro x hx
  unfold ltsW at hx
  rcases List.mem_cons.1 hx with rfl | hx
  · exact In2.hl
  cases hx

instance envI [In2] : SEnv := envW (eqsW In2.z In2.l) (ltsW In2.l) eqsW_ok ltsW_ok

def someO (r : O) : Option (AV × H) := match r with
  | .ok v h => some (v, h)
  | .no _ => none
theorem someO_ok {r : O} {v : AV} {h : H} (e : someO r = some (v, h)) : r = .ok v h := by
  cases r with
  | ok a b =>
    have e : some (a, b) = some (v, h) := e
    injection e with e
    injection e with e1 e2
    rw [e1, e2]
  | no _ => cases e

/-- Wide: whichever way it goes it takes as many numbers -/
def kWide (run : FuncId → AV → H → O) (z : Bool) (f : FuncId) (args : AV) (h : H) : Option (AV × H) := match z with
  | true => someO (run f args ⟨h.objs, Nat.add h.next 8⟩)
  | false => none

/-- calls that are known by their contracts -/
def knownX (run : FuncId → AV → H → O) (two : Known) (z : Bool) : Known := fun f args h => match Nat.beq f 11 with
  | true => kWide run z f args h
  | false => two f args h
def knownG [SEnv] (P : Program) (z : Bool) : Known := knownX (callT P noKnown [] 100) knownTwo z

theorem known_ok [In2] : (knownG Tryz.prog In2.z).Ok Tryz.prog K0 := by
  intro f args h v h' hr
  unfold knownG knownX at hr
  split at hr
  · unfold kWide at hr
    split at hr
    · exact sound_pad (callT_ok mixed noKnown_ok Tab.ok_nil 100 _ _ _ _ _ (someO_ok hr))
    · cases hr
  · exact knownTwo_ok app_two hr

/-- the two numbers, as they come in -/
theorem two_in [In2] : VRl (fun _ => none) (.cons (.agg (.cons (.sym .i64 (.var 0)) (.cons (.sym .i64 (.var 1)) .nil))) .nil) (#[.agg #[.int .i64 In2.a, .int .i64 In2.b]] : Array Value).toList := by
  refine ⟨_, _, rfl, ⟨[_, _], rfl, ⟨_, _, rfl, rfl, _, _, rfl, rfl, rfl⟩, ?_⟩, rfl⟩
  intro u hu
  simp only [List.mem_cons, List.not_mem_nil, or_false] at hu
  rcases hu with rfl | rfl <;> rfl

end Go.Proofs.YtdnblmideoknbaaGreat

/- A switch in a loop by four numbers: what it comes to; what is known of them, round for round. -/
import Derived.Test.YtjpgogmnabkgnaaGreatXlC
import Derived.Laws.Concat
namespace Go.Proofs.YtjpgogmnabkgnaaGreat
open Go.RowKit Go.Proofs.YtjpgogmnabkgnaaGreat.Ev

class InW where
  f0 : Int
  f1 : Int
  f2 : Int
  f3 : Int
  h0 : I64 f0
  h1 : I64 f1
  h2 : I64 f2
  h3 : I64 f3

def InW.tm [InW] : Int := withF InW.f0 10
def InW.by_ [InW] : Int := withF InW.f1 10
def InW.fr [InW] : Int := withF InW.f2 10
def InW.fi [InW] : Int := withF InW.f3 600
theorem InW.tm_rng [InW] : 0 ≤ InW.tm ∧ InW.tm ≤ 9 := by have := withF_rng InW.f0 10 (by decide); unfold InW.tm; omega
theorem InW.by_rng [InW] : 0 ≤ InW.by_ ∧ InW.by_ ≤ 9 := by have := withF_rng InW.f1 10 (by decide); unfold InW.by_; omega
theorem InW.fr_rng [InW] : 0 ≤ InW.fr ∧ InW.fr ≤ 9 := by have := withF_rng InW.f2 10 (by decide); unfold InW.fr; omega
theorem InW.fi_rng [InW] : 0 ≤ InW.fi ∧ InW.fi ≤ 599 := by have := withF_rng InW.f3 600 (by decide); unfold InW.fi; omega
/-- its digits -/
def InW.d1 [InW] : Int := InW.fi % 10
def InW.d2 [InW] : Int := InW.fi / 10 % 10
def InW.d3 [InW] : Int := InW.fi / 100

/-- how many steps: ahead of it, by which way, at the end -/
structure Ct where
  s0 : Int
  cA : Int
  cB : Int
  cC : Int
  cD : Int
  cE : Int
structure Ct.Ok (k : Ct) : Prop where
  s0 : 0 ≤ k.s0 ∧ k.s0 ≤ 60
  cA : 0 ≤ k.cA ∧ k.cA ≤ 45
  cB : 0 ≤ k.cB ∧ k.cB ≤ 45
  cC : 0 ≤ k.cC ∧ k.cC ≤ 45
  cD : 0 ≤ k.cD ∧ k.cD ≤ 45
  cE : 0 ≤ k.cE ∧ k.cE ≤ 60
/-- so many digits; steps -/
structure Shq where
  nd : Nat
  k : Ct

/-- which case -/
def kS (by_ fr i : Int) : Int := Int.tmod (i * by_ + fr) 5
/-- what is left: the number, steps, what it puts out -/
def simS (k : Ct) (tm by_ fr : Int) : Nat → Int → Int → Int → List Int → Int × Int × List Int
  | 0, _, n, st, out => (n, st + k.cE, out)
  | m + 1, i, n, st, out =>
    if i < tm then
      if kS by_ fr i = 0 then simS k tm by_ fr m (i + 1) ((n + 1) % 256) (st + k.cA) (out ++ [(n + 1) % 256])
      else if kS by_ fr i = 1 then simS k tm by_ fr m (i + 1) ((n * 2 + 3) % 256) (st + k.cB) out
      else if kS by_ fr i = 2 then simS k tm by_ fr m (i + 1) ((n + 3) % 256) (st + k.cC) out
      else simS k tm by_ fr m (i + 1) ((n + 255) % 256) (st + k.cD) (out ++ [(n + 255) % 256])
    else (n, st + k.cE, out)

structure SD where
  i : Int
  n : Int
  st : Int
  out : List Int
structure SD.Bd (d : SD) : Prop where
  i : 0 ≤ d.i ∧ d.i ≤ 10
  n : 0 ≤ d.n ∧ d.n ≤ 255
  st : 0 ≤ d.st ∧ d.st ≤ 60 + 45 * d.i
  out : (d.out.length : Int) ≤ d.i

theorem SD.Bd.step {d : SD} (h : d.Bd) {tm : Int} (ht : tm ≤ 9) (hi : d.i < tm) {n c : Int} {l : List Int} (hn : 0 ≤ n ∧ n ≤ 255) (hc : 0 ≤ c ∧ c ≤ 45) (hl : l.length ≤ 1) : SD.Bd ⟨d.i + 1, n, d.st + c, d.out ++ l⟩ := by
  obtain ⟨⟨h1, h2⟩, _, ⟨h5, h6⟩, h7⟩ := h
  refine ⟨⟨by show 0 ≤ d.i + 1; omega, by show d.i + 1 ≤ 10; omega⟩, hn, ⟨by show 0 ≤ d.st + c; omega, by show d.st + c ≤ 60 + 45 * (d.i + 1); omega⟩, ?_⟩
  show ((d.out ++ l).length : Int) ≤ d.i + 1
  rw [List.length_append]
  omega

theorem simS_rng {k : Ct} (hk : k.Ok) {tm by_ fr : Int} (ht : tm ≤ 9) : ∀ (m : Nat) (d : SD), d.Bd → (0 ≤ (simS k tm by_ fr m d.i d.n d.st d.out).1 ∧ (simS k tm by_ fr m d.i d.n d.st d.out).1 ≤ 255) ∧ (0 ≤ (simS k tm by_ fr m d.i d.n d.st d.out).2.1 ∧ (simS k tm by_ fr m d.i d.n d.st d.out).2.1 ≤ 1500) ∧ (simS k tm by_ fr m d.i d.n d.st d.out).2.2.length ≤ 900
  | 0, d, h => by
    obtain ⟨⟨h1, h2⟩, h3, ⟨h5, h6⟩, h7⟩ := h
    have := hk.cE
    exact ⟨h3, ⟨by show 0 ≤ d.st + k.cE; omega, by show d.st + k.cE ≤ 1500; omega⟩, by show d.out.length ≤ 900; omega⟩
  | m + 1, d, h => by
    have hh := h
    obtain ⟨⟨h1, h2⟩, h3, ⟨h5, h6⟩, h7⟩ := h
    have := hk.cE
    simp only [simS]
    split
    · rename_i hi
      split
      · exact simS_rng hk ht m ⟨d.i + 1, (d.n + 1) % 256, d.st + k.cA, d.out ++ [(d.n + 1) % 256]⟩ (hh.step ht hi (by omega) hk.cA (by simp))
      · split
        · have q := simS_rng hk (by_ := by_) (fr := fr) ht m ⟨d.i + 1, (d.n * 2 + 3) % 256, d.st + k.cB, d.out ++ []⟩ (hh.step ht hi (by omega) hk.cB (by simp))
          rw [List.append_nil] at q
          exact q
        · split
          · have q := simS_rng hk (by_ := by_) (fr := fr) ht m ⟨d.i + 1, (d.n + 3) % 256, d.st + k.cC, d.out ++ []⟩ (hh.step ht hi (by omega) hk.cC (by simp))
            rw [List.append_nil] at q
            exact q
          · exact simS_rng hk ht m ⟨d.i + 1, (d.n + 255) % 256, d.st + k.cD, d.out ++ [(d.n + 255) % 256]⟩ (hh.step ht hi (by omega) hk.cD (by simp))
    · exact ⟨h3, ⟨by show 0 ≤ d.st + k.cE; omega, by show d.st + k.cE ≤ 1500; omega⟩, by show d.out.length ≤ 900; omega⟩

def SD.at0 [InW] (k : Ct) : SD := ⟨0, InW.fi % 256, k.s0, []⟩
def finS [InW] (k : Ct) : Int × Int × List Int := simS k InW.tm InW.by_ InW.fr 9 0 (InW.fi % 256) k.s0 []
theorem SD.at0_bd [InW] {k : Ct} (hk : k.Ok) : (SD.at0 k).Bd := by
  have h := InW.fi_rng
  obtain ⟨⟨k1, k2⟩, _⟩ := hk
  exact ⟨⟨Int.le_refl _, by show (0 : Int) ≤ 10; omega⟩, ⟨by show 0 ≤ InW.fi % 256; omega, by show InW.fi % 256 ≤ 255; omega⟩, ⟨k1, by show k.s0 ≤ 60 + 45 * 0; omega⟩, by show ((0 : Nat) : Int) ≤ 0; omega⟩
theorem finS_rng [InW] {k : Ct} (hk : k.Ok) : (0 ≤ (finS k).1 ∧ (finS k).1 ≤ 255) ∧ (0 ≤ (finS k).2.1 ∧ (finS k).2.1 ≤ 1500) ∧ (finS k).2.2.length ≤ 900 :=
  simS_rng hk InW.tm_rng.2 9 _ (SD.at0_bd hk)

structure InvS [InW] (k : Ct) (d : SD) : Prop where
  way : ∃ m : Nat, InW.tm - d.i ≤ m ∧ simS k InW.tm InW.by_ InW.fr m d.i d.n d.st d.out = finS k
  bd : d.Bd

theorem InvS.at0 [InW] {k : Ct} (hk : k.Ok) : InvS k (SD.at0 k) :=
  ⟨⟨9, by have h1 := InW.tm_rng; show InW.tm - 0 ≤ 9; omega, rfl⟩, SD.at0_bd hk⟩
theorem InvS.wA [InW] {k : Ct} (hk : k.Ok) {d : SD} (h : InvS k d) (hi : d.i < InW.tm) (hm : kS InW.by_ InW.fr d.i = 0) : InvS k ⟨d.i + 1, (d.n + 1) % 256, d.st + k.cA, d.out ++ [(d.n + 1) % 256]⟩ := by
  obtain ⟨⟨m, h1, h2⟩, h3⟩ := h
  cases m with
  | zero => omega
  | succ m =>
    simp only [simS, hi, hm, if_true] at h2
    exact ⟨⟨m, by show InW.tm - (d.i + 1) ≤ m; omega, h2⟩, h3.step InW.tm_rng.2 hi (by omega) hk.cA (by simp)⟩
theorem InvS.wB [InW] {k : Ct} (hk : k.Ok) {d : SD} (h : InvS k d) (hi : d.i < InW.tm) (hm : kS InW.by_ InW.fr d.i = 1) : InvS k ⟨d.i + 1, (d.n * 2 + 3) % 256, d.st + k.cB, d.out⟩ := by
  obtain ⟨⟨m, h1, h2⟩, h3⟩ := h
  cases m with
  | zero => omega
  | succ m =>
    have e : ¬ (1 : Int) = 0 := by decide
    simp only [simS, hi, hm, e, if_true, if_false] at h2
    have q := h3.step InW.tm_rng.2 hi (n := (d.n * 2 + 3) % 256) (c := k.cB) (l := []) (by omega) hk.cB (by simp)
    rw [List.append_nil] at q
    exact ⟨⟨m, by show InW.tm - (d.i + 1) ≤ m; omega, h2⟩, q⟩
theorem InvS.wC [InW] {k : Ct} (hk : k.Ok) {d : SD} (h : InvS k d) (hi : d.i < InW.tm) (hm : kS InW.by_ InW.fr d.i = 2) : InvS k ⟨d.i + 1, (d.n + 3) % 256, d.st + k.cC, d.out⟩ := by
  obtain ⟨⟨m, h1, h2⟩, h3⟩ := h
  cases m with
  | zero => omega
  | succ m =>
    have e : ¬ (2 : Int) = 0 := by decide
    have e2 : ¬ (2 : Int) = 1 := by decide
    simp only [simS, hi, hm, e, e2, if_true, if_false] at h2
    have q := h3.step InW.tm_rng.2 hi (n := (d.n + 3) % 256) (c := k.cC) (l := []) (by omega) hk.cC (by simp)
    rw [List.append_nil] at q
    exact ⟨⟨m, by show InW.tm - (d.i + 1) ≤ m; omega, h2⟩, q⟩
theorem InvS.wD [InW] {k : Ct} (hk : k.Ok) {d : SD} (h : InvS k d) (hi : d.i < InW.tm) (h0 : ¬ kS InW.by_ InW.fr d.i = 0) (h1' : ¬ kS InW.by_ InW.fr d.i = 1) (h2' : ¬ kS InW.by_ InW.fr d.i = 2) : InvS k ⟨d.i + 1, (d.n + 255) % 256, d.st + k.cD, d.out ++ [(d.n + 255) % 256]⟩ := by
  obtain ⟨⟨m, h1, h2⟩, h3⟩ := h
  cases m with
  | zero => omega
  | succ m =>
    simp only [simS, hi, h0, h1', h2', if_true, if_false] at h2
    exact ⟨⟨m, by show InW.tm - (d.i + 1) ≤ m; omega, h2⟩, h3.step InW.tm_rng.2 hi (by omega) hk.cD (by simp)⟩
theorem InvS.end_ [InW] {k : Ct} {d : SD} (h : InvS k d) (hi : ¬ d.i < InW.tm) : finS k = (d.n, d.st + k.cE, d.out) := by
  obtain ⟨⟨m, h1, h2⟩, h3⟩ := h
  cases m with
  | zero => exact h2.symm
  | succ m =>
    simp only [simS, hi, if_false] at h2
    exact h2.symm
def SD.mu [InW] (d : SD) : Nat := (InW.tm - d.i).toNat
theorem muS_lt [InW] {d : SD} (hi : d.i < InW.tm) (x y : Int) (l : List Int) : SD.mu ⟨d.i + 1, x, y, l⟩ < d.mu := by
  show (InW.tm - (d.i + 1)).toNat < (InW.tm - d.i).toNat
  omega

/-! ### what the names stand for -/

def rhoS (v0 v1 v2 v3 v4 v5 v6 v7 v8 v9 f0 f1 f2 f3 v14 v15 : Int) (i : Nat) : Int := match i with
  | 0 => v0
  | 1 => v1
  | 2 => v2
  | 3 => v3
  | 4 => v4
  | 5 => v5
  | 6 => v6
  | 7 => v7
  | 8 => v8
  | 9 => v9
  | 10 => f0
  | 11 => f1
  | 12 => f2
  | 13 => f3
  | 14 => v14
  | 15 => v15
  | _ => 0

abbrev envQ [InW] (k : Ct) (d : SD) : SEnv0 where
  rho := rhoS InW.tm InW.by_ InW.fr InW.d3 d.i d.n d.st (finS k).1 (finS k).2.1 InW.d2 InW.f0 InW.f1 InW.f2 InW.f3 InW.d1 (IntKind.i8.wrap d.n)
  app := appW
  lst := lstL d.out (finS k).2.2 ((finS k).2.2 ++ [(finS k).1])

def loQ (nd : Nat) (i : Nat) : Int := match i with
  | 0 => 0
  | 1 => 0
  | 2 => 0
  | 3 => (if nd = 3 then 1 else 0)
  | 4 => 0
  | 5 => 0
  | 6 => 0
  | 7 => 0
  | 8 => 0
  | 9 => (if nd = 2 then 1 else 0)
  | 14 => 0
  | 15 => -128
  | _ => -9223372036854775808
def hiQ (nd : Nat) (i : Nat) : Int := match i with
  | 0 => 9
  | 1 => 9
  | 2 => 9
  | 3 => (if nd = 3 then 5 else 0)
  | 4 => 10
  | 5 => 255
  | 6 => 1400
  | 7 => 255
  | 8 => 1500
  | 9 => (if nd = 1 then 0 else 9)
  | 14 => 9
  | 15 => 127
  | _ => 9223372036854775807

/-- so many digits has the first -/
structure InQ [InW] (s : Shq) : Prop where
  nd : (s.nd = 1 ∧ InW.fi ≤ 9) ∨ (s.nd = 2 ∧ 10 ≤ InW.fi ∧ InW.fi ≤ 99) ∨ (s.nd = 3 ∧ 100 ≤ InW.fi)
  k : s.k.Ok

theorem rngQ [InW] {s : Shq} (hs : InQ s) {d : SD} (hd : d.Bd) (i : Nat) : loQ s.nd i ≤ ((envQ s.k d).rho i : Int) ∧ ((envQ s.k d).rho i : Int) ≤ hiQ s.nd i := by
  have z : (-9223372036854775808 : Int) ≤ 0 ∧ (0 : Int) ≤ 9223372036854775807 := ⟨by decide, by decide⟩
  obtain ⟨⟨h1, h2⟩, h3, ⟨h5, h6⟩, h7⟩ := hd
  have hf := finS_rng (k := s.k) hs.k
  have hr := InW.fi_rng
  have hn := hs.nd
  match i with
  | 0 => exact InW.tm_rng
  | 1 => exact InW.by_rng
  | 2 => exact InW.fr_rng
  | 3 =>
    show (if s.nd = 3 then (1 : Int) else 0) ≤ InW.fi / 100 ∧ InW.fi / 100 ≤ (if s.nd = 3 then (5 : Int) else 0)
    rcases hn with ⟨e, _⟩ | ⟨e, _⟩ | ⟨e, _⟩ <;> rw [e] <;> simp <;> omega
  | 4 => exact ⟨h1, h2⟩
  | 5 => exact h3
  | 6 => exact ⟨h5, by show d.st ≤ 1400; omega⟩
  | 7 => exact hf.1
  | 8 => exact hf.2.1
  | 9 =>
    show (if s.nd = 2 then (1 : Int) else 0) ≤ InW.fi / 10 % 10 ∧ InW.fi / 10 % 10 ≤ (if s.nd = 1 then (0 : Int) else 9)
    rcases hn with ⟨e, _⟩ | ⟨e, _⟩ | ⟨e, _⟩ <;> rw [e] <;> simp <;> omega
  | 10 => exact InW.h0
  | 11 => exact InW.h1
  | 12 => exact InW.h2
  | 13 => exact InW.h3
  | 14 => exact ⟨by show (0 : Int) ≤ InW.fi % 10; omega, by show InW.fi % 10 ≤ 9; omega⟩
  | 15 => exact wrap_in .i8 d.n
  | _ + 16 => exact z

theorem lstQ_ok [InW] {s : Shq} (hs : InQ s) {d : SD} (hd : d.Bd) (b : Nat) : ((envQ s.k d).lst b).length ≤ 1000 := by
  obtain ⟨⟨h1, h2⟩, _, _, h7⟩ := hd
  have hf := finS_rng (k := s.k) hs.k
  match b with
  | 0 => show d.out.length ≤ 1000; omega
  | 1 => exact Nat.le_trans hf.2.2 (by decide)
  | 2 =>
    show ((finS s.k).2.2 ++ [(finS s.k).1]).length ≤ 1000
    rw [List.length_append, List.length_singleton]
    have := hf.2.2
    omega
  | _ + 3 => exact Nat.zero_le _

abbrev EqsQ [InW] (s : Shq) (d : SD) (l : Asks) : Prop := ∀ x ∈ l, (@Tm.den (envQ s.k d) x.1 == @Tm.den (envQ s.k d) x.2.1) = x.2.2
abbrev LtsQ [InW] (s : Shq) (d : SD) (l : Asks) : Prop := ∀ x ∈ l, decide (@Tm.den (envQ s.k d) x.1 < @Tm.den (envQ s.k d) x.2.1) = x.2.2

abbrev envR [InW] {s : Shq} (hs : InQ s) {d : SD} (hd : d.Bd) (eqs lts : Asks) (he : EqsQ s d eqs) (hl : LtsQ s d lts) : SEnv where
  toSEnv0 := envQ s.k d
  lo := loQ s.nd
  hi := hiQ s.nd
  rng_ok := rngQ hs hd
  app_ok := app64
  lst_ok := lstQ_ok hs hd
  askEq := lookA eqs
  askLt := lookA lts
  eq_ok := fun h => lookA_ok (q := fun a b => @Tm.den (envQ s.k d) a == @Tm.den (envQ s.k d) b) he h
  lt_ok := fun h => lookA_ok (q := fun a b => decide (@Tm.den (envQ s.k d) a < @Tm.den (envQ s.k d) b)) hl h

theorem noQ1 [InW] {s : Shq} {d : SD} : EqsQ s d [] := fun _ h => by cases h
theorem noQ2 [InW] {s : Shq} {d : SD} : LtsQ s d [] := fun _ h => by cases h
abbrev envT [InW] {s : Shq} (hs : InQ s) : SEnv := envR hs (SD.at0_bd hs.k) [] [] noQ1 noQ2
abbrev env1 [InW] (s : Shq) : SEnv0 := envQ s.k (SD.at0 s.k)

end Go.Proofs.YtjpgogmnabkgnaaGreat

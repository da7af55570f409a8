/- Four numbers of a loop: what it comes to; what is known of them, round for round. -/
import Derived.Test.YtjpgogmnabkgnaaGreatXlA
namespace Go.Proofs.YtjpgogmnabkgnaaGreat
open Go.RowKit Go.Proofs.YtjpgogmnabkgnaaGreat.Ev

/-- a number within -/
def withF (i m : Int) : Int := IntKind.u64.wrap i % m
theorem withF_rng (i m : Int) (hm : 0 < m) : 0 ≤ withF i m ∧ withF i m < m := ⟨Int.emod_nonneg _ (by omega), Int.emod_lt_of_pos _ hm⟩

class InL where
  f0 : Int
  f1 : Int
  f2 : Int
  f3 : Int
  h0 : I64 f0
  h1 : I64 f1
  h2 : I64 f2
  h3 : I64 f3

def InL.fr [InL] : Int := withF InL.f0 20 - 9
def InL.to [InL] : Int := withF InL.f1 25 - 9
def InL.by_ [InL] : Int := 1 + withF InL.f2 4
def InL.sp [InL] : Int := withF InL.f3 25 - 9
theorem InL.fr_rng [InL] : -9 ≤ InL.fr ∧ InL.fr ≤ 10 := by have := withF_rng InL.f0 20 (by decide); unfold InL.fr; omega
theorem InL.to_rng [InL] : -9 ≤ InL.to ∧ InL.to ≤ 15 := by have := withF_rng InL.f1 25 (by decide); unfold InL.to; omega
theorem InL.by_rng [InL] : 1 ≤ InL.by_ ∧ InL.by_ ≤ 4 := by have := withF_rng InL.f2 4 (by decide); unfold InL.by_; omega
theorem InL.sp_rng [InL] : -9 ≤ InL.sp ∧ InL.sp ≤ 15 := by have := withF_rng InL.f3 25 (by decide); unfold InL.sp; omega

/-- how many steps: ahead of it, of a round that is passed over, of one that is not, of the last one that breaks, of the last one -/
structure Cs where
  s0 : Int
  c1 : Int
  c2 : Int
  c3 : Int
  c4 : Int
/-- a text's shape: bounds; steps -/
structure Shp where
  a0 : Int
  b0 : Int
  a1 : Int
  b1 : Int
  a3 : Int
  b3 : Int
  k : Cs
structure Cs.Ok (k : Cs) : Prop where
  s0 : 0 ≤ k.s0 ∧ k.s0 ≤ 60
  c1 : 0 ≤ k.c1 ∧ k.c1 ≤ 45
  c2 : 0 ≤ k.c2 ∧ k.c2 ≤ 45
  c3 : 0 ≤ k.c3 ∧ k.c3 ≤ 60
  c4 : 0 ≤ k.c4 ∧ k.c4 ≤ 60

/-- where a loop ends: i, steps, what it puts out -/
def simL (k : Cs) (to by_ sp : Int) : Nat → Int → Int → Int → List Int → Int × Int × List Int
  | 0, i, _, st, out => (i, st + k.c4, out)
  | n + 1, i, s, st, out =>
    if i < to then
      if Int.tmod i 3 = 1 then simL k to by_ sp n (i + by_) s (st + k.c1) out
      else if sp ≤ i then (i, st + k.c3, out)
      else simL k to by_ sp n (i + by_) (s + i) (st + k.c2) (out ++ [s + i])
    else (i, st + k.c4, out)

structure LD where
  i : Int
  sm : Int
  st : Int
  out : List Int

structure LD.Bd (d : LD) : Prop where
  i : -9 ≤ d.i ∧ d.i ≤ 18
  sm : -15 * (d.i + 9) ≤ d.sm ∧ d.sm ≤ 15 * (d.i + 9)
  st : 0 ≤ d.st ∧ d.st ≤ 60 + 45 * (d.i + 9)
  out : (d.out.length : Int) ≤ d.i + 9

theorem LD.Bd.skip {d : LD} (h : d.Bd) {to by_ : Int} {k : Cs} (hk : k.Ok) (ht : to ≤ 15) (hb : 1 ≤ by_ ∧ by_ ≤ 4) (hi : d.i < to) : LD.Bd ⟨d.i + by_, d.sm, d.st + k.c1, d.out⟩ := by
  obtain ⟨⟨h1, h2⟩, ⟨h3, h4⟩, ⟨h5, h6⟩, h7⟩ := h
  obtain ⟨_, ⟨k1, k2⟩, _, _, _⟩ := hk
  exact ⟨⟨by show -9 ≤ d.i + by_; omega, by show d.i + by_ ≤ 18; omega⟩, ⟨by show _ * (d.i + by_ + 9) ≤ d.sm; omega, by show d.sm ≤ _ * (d.i + by_ + 9); omega⟩, ⟨by show 0 ≤ d.st + k.c1; omega, by show d.st + k.c1 ≤ 60 + 45 * (d.i + by_ + 9); omega⟩, by show (d.out.length : Int) ≤ d.i + by_ + 9; omega⟩
theorem LD.Bd.go {d : LD} (h : d.Bd) {to by_ : Int} {k : Cs} (hk : k.Ok) (ht : to ≤ 15) (hb : 1 ≤ by_ ∧ by_ ≤ 4) (hi : d.i < to) : LD.Bd ⟨d.i + by_, d.sm + d.i, d.st + k.c2, d.out ++ [d.sm + d.i]⟩ := by
  obtain ⟨⟨h1, h2⟩, ⟨h3, h4⟩, ⟨h5, h6⟩, h7⟩ := h
  obtain ⟨_, _, ⟨k1, k2⟩, _, _⟩ := hk
  refine ⟨⟨by show -9 ≤ d.i + by_; omega, by show d.i + by_ ≤ 18; omega⟩, ⟨by show _ * (d.i + by_ + 9) ≤ d.sm + d.i; omega, by show d.sm + d.i ≤ _ * (d.i + by_ + 9); omega⟩, ⟨by show 0 ≤ d.st + k.c2; omega, by show d.st + k.c2 ≤ 60 + 45 * (d.i + by_ + 9); omega⟩, ?_⟩
  show ((d.out ++ [d.sm + d.i]).length : Int) ≤ d.i + by_ + 9
  simp only [List.length_append, List.length_singleton]
  omega

theorem simL_rng {k : Cs} (hk : k.Ok) {to by_ sp : Int} (ht : to ≤ 15) (hb : 1 ≤ by_ ∧ by_ ≤ 4) : ∀ (n : Nat) (d : LD), d.Bd → (-9 ≤ (simL k to by_ sp n d.i d.sm d.st d.out).1 ∧ (simL k to by_ sp n d.i d.sm d.st d.out).1 ≤ 18) ∧ (0 ≤ (simL k to by_ sp n d.i d.sm d.st d.out).2.1 ∧ (simL k to by_ sp n d.i d.sm d.st d.out).2.1 ≤ 1500) ∧ (simL k to by_ sp n d.i d.sm d.st d.out).2.2.length ≤ 900
  | 0, d, h => by
    obtain ⟨⟨h1, h2⟩, _, ⟨h5, h6⟩, h7⟩ := h
    obtain ⟨_, _, _, _, ⟨k1, k2⟩⟩ := hk
    exact ⟨⟨h1, h2⟩, ⟨by show 0 ≤ d.st + k.c4; omega, by show d.st + k.c4 ≤ 1500; omega⟩, by show d.out.length ≤ 900; omega⟩
  | n + 1, d, h => by
    have hh := h
    have hk2 := hk
    obtain ⟨⟨h1, h2⟩, _, ⟨h5, h6⟩, h7⟩ := h
    obtain ⟨_, _, _, ⟨k3, k4⟩, ⟨k1, k2⟩⟩ := hk2
    simp only [simL]
    split
    · rename_i hi
      split
      · exact simL_rng hk ht hb n _ (hh.skip hk ht hb hi)
      · split
        · exact ⟨⟨h1, h2⟩, ⟨by show 0 ≤ d.st + k.c3; omega, by show d.st + k.c3 ≤ 1500; omega⟩, by show d.out.length ≤ 900; omega⟩
        · exact simL_rng hk ht hb n _ (hh.go hk ht hb hi)
    · exact ⟨⟨h1, h2⟩, ⟨by show 0 ≤ d.st + k.c4; omega, by show d.st + k.c4 ≤ 1500; omega⟩, by show d.out.length ≤ 900; omega⟩

def LD.at0 [InL] (k : Cs) : LD := ⟨InL.fr, 0, k.s0, []⟩
def finL [InL] (k : Cs) : Int × Int × List Int := simL k InL.to InL.by_ InL.sp 24 InL.fr 0 k.s0 []
theorem LD.at0_bd [InL] {k : Cs} (hk : k.Ok) : (LD.at0 k).Bd := by
  have h := InL.fr_rng
  obtain ⟨⟨k1, k2⟩, _⟩ := hk
  exact ⟨⟨h.1, by show InL.fr ≤ 18; omega⟩, ⟨by show _ * (InL.fr + 9) ≤ 0; omega, by show 0 ≤ _ * (InL.fr + 9); omega⟩, ⟨k1, by show k.s0 ≤ 60 + 45 * (InL.fr + 9); omega⟩, by show ((0 : Nat) : Int) ≤ InL.fr + 9; omega⟩
theorem finL_rng [InL] {k : Cs} (hk : k.Ok) : (-9 ≤ (finL k).1 ∧ (finL k).1 ≤ 18) ∧ (0 ≤ (finL k).2.1 ∧ (finL k).2.1 ≤ 1500) ∧ (finL k).2.2.length ≤ 900 :=
  simL_rng hk (by have := InL.to_rng; omega) InL.by_rng 24 _ (LD.at0_bd hk)

/-- on the way to the end -/
structure InvL [InL] (k : Cs) (d : LD) : Prop where
  way : ∃ n : Nat, InL.to - d.i ≤ n ∧ simL k InL.to InL.by_ InL.sp n d.i d.sm d.st d.out = finL k
  bd : d.Bd

theorem InvL.at0 [InL] {k : Cs} (hk : k.Ok) : InvL k (LD.at0 k) :=
  ⟨⟨24, by have h1 := InL.to_rng; have h2 := InL.fr_rng; show InL.to - InL.fr ≤ 24; omega, rfl⟩, LD.at0_bd hk⟩
theorem InvL.skip [InL] {k : Cs} (hk : k.Ok) {d : LD} (h : InvL k d) (hi : d.i < InL.to) (hm : Int.tmod d.i 3 = 1) : InvL k ⟨d.i + InL.by_, d.sm, d.st + k.c1, d.out⟩ := by
  obtain ⟨⟨n, h1, h2⟩, h3⟩ := h
  have hb := InL.by_rng
  have ht := InL.to_rng
  cases n with
  | zero => omega
  | succ n =>
    simp only [simL, hi, hm, if_true] at h2
    exact ⟨⟨n, by show InL.to - (d.i + InL.by_) ≤ n; omega, h2⟩, h3.skip hk ht.2 hb hi⟩
theorem InvL.go [InL] {k : Cs} (hk : k.Ok) {d : LD} (h : InvL k d) (hi : d.i < InL.to) (hm : ¬ Int.tmod d.i 3 = 1) (hs : d.i < InL.sp) : InvL k ⟨d.i + InL.by_, d.sm + d.i, d.st + k.c2, d.out ++ [d.sm + d.i]⟩ := by
  obtain ⟨⟨n, h1, h2⟩, h3⟩ := h
  have hb := InL.by_rng
  have ht := InL.to_rng
  cases n with
  | zero => omega
  | succ n =>
    have hs' : ¬ InL.sp ≤ d.i := by omega
    simp only [simL, hi, hm, hs', if_true, if_false] at h2
    exact ⟨⟨n, by show InL.to - (d.i + InL.by_) ≤ n; omega, h2⟩, h3.go hk ht.2 hb hi⟩
theorem InvL.stop [InL] {k : Cs} {d : LD} (h : InvL k d) (hi : d.i < InL.to) (hm : ¬ Int.tmod d.i 3 = 1) (hs : ¬ d.i < InL.sp) : finL k = (d.i, d.st + k.c3, d.out) := by
  obtain ⟨⟨n, h1, h2⟩, h3⟩ := h
  cases n with
  | zero => omega
  | succ n =>
    have hs' : InL.sp ≤ d.i := by omega
    simp only [simL, hi, hm, hs', if_true, if_false] at h2
    exact h2.symm
theorem InvL.end_ [InL] {k : Cs} {d : LD} (h : InvL k d) (hi : ¬ d.i < InL.to) : finL k = (d.i, d.st + k.c4, d.out) := by
  obtain ⟨⟨n, h1, h2⟩, h3⟩ := h
  cases n with
  | zero => exact h2.symm
  | succ n =>
    simp only [simL, hi, if_false] at h2
    exact h2.symm

def LD.mu [InL] (d : LD) : Nat := (InL.to - d.i).toNat
theorem mu_lt [InL] {d : LD} (hi : d.i < InL.to) (x y : Int) (l : List Int) : LD.mu ⟨d.i + InL.by_, x, y, l⟩ < d.mu := by
  have hb := InL.by_rng
  show (InL.to - (d.i + InL.by_)).toNat < (InL.to - d.i).toNat
  omega

/-! ### what the names stand for -/

def rhoL (v0 v1 v2 v3 v4 v5 v6 v7 v8 f0 f1 f2 f3 : Int) (i : Nat) : Int := match i with
  | 0 => v0
  | 1 => v1
  | 2 => v2
  | 3 => v3
  | 4 => v4
  | 5 => v5
  | 6 => v6
  | 7 => v7
  | 8 => v8
  | 10 => f0
  | 11 => f1
  | 12 => f2
  | 13 => f3
  | _ => 0
def lstL (a b c : List Int) (i : Nat) : List Int := match i with
  | 0 => a
  | 1 => b
  | 2 => c
  | _ => []

abbrev envD [InL] (k : Cs) (d : LD) : SEnv0 where
  rho := rhoL InL.fr InL.to InL.by_ InL.sp d.i d.sm d.st (finL k).1 (finL k).2.1 InL.f0 InL.f1 InL.f2 InL.f3
  app := appW
  lst := lstL d.out (finL k).2.2 ((finL k).2.2 ++ [(finL k).1])

def loL (s : Shp) (i : Nat) : Int := match i with
  | 0 => s.a0
  | 1 => s.a1
  | 2 => 1
  | 3 => s.a3
  | 4 => -9
  | 5 => -420
  | 6 => 0
  | 7 => -9
  | 8 => 0
  | _ => -9223372036854775808
def hiL (s : Shp) (i : Nat) : Int := match i with
  | 0 => s.b0
  | 1 => s.b1
  | 2 => 4
  | 3 => s.b3
  | 4 => 18
  | 5 => 420
  | 6 => 1400
  | 7 => 18
  | 8 => 1500
  | _ => 9223372036854775807

/-- four numbers of a shape -/
structure InS [InL] (s : Shp) : Prop where
  r0 : s.a0 ≤ InL.fr ∧ InL.fr ≤ s.b0
  r1 : s.a1 ≤ InL.to ∧ InL.to ≤ s.b1
  r3 : s.a3 ≤ InL.sp ∧ InL.sp ≤ s.b3
  k : s.k.Ok

theorem rngL [InL] {s : Shp} (hs : InS s) {d : LD} (hd : d.Bd) (i : Nat) : loL s i ≤ ((envD s.k d).rho i : Int) ∧ ((envD s.k d).rho i : Int) ≤ hiL s i := by
  have z : (-9223372036854775808 : Int) ≤ 0 ∧ (0 : Int) ≤ 9223372036854775807 := ⟨by decide, by decide⟩
  obtain ⟨⟨h1, h2⟩, ⟨h3, h4⟩, ⟨h5, h6⟩, h7⟩ := hd
  have hf := finL_rng (k := s.k) hs.k
  match i with
  | 0 => exact hs.r0
  | 1 => exact hs.r1
  | 2 => exact InL.by_rng
  | 3 => exact hs.r3
  | 4 => exact ⟨h1, h2⟩
  | 5 => exact ⟨by show (-420 : Int) ≤ d.sm; omega, by show d.sm ≤ 420; omega⟩
  | 6 => exact ⟨h5, by show d.st ≤ 1400; omega⟩
  | 7 => exact hf.1
  | 8 => exact hf.2.1
  | 9 => exact z
  | 10 => exact InL.h0
  | 11 => exact InL.h1
  | 12 => exact InL.h2
  | 13 => exact InL.h3
  | _ + 14 => exact z

theorem lstL_ok [InL] {s : Shp} (hs : InS s) {d : LD} (hd : d.Bd) (b : Nat) : ((envD s.k d).lst b).length ≤ 1000 := by
  obtain ⟨⟨h1, h2⟩, _, _, h7⟩ := hd
  have hf := finL_rng (k := s.k) hs.k
  match b with
  | 0 => show d.out.length ≤ 1000; omega
  | 1 => exact Nat.le_trans hf.2.2 (by decide)
  | 2 =>
    show ((finL s.k).2.2 ++ [(finL s.k).1]).length ≤ 1000
    rw [List.length_append, List.length_singleton]
    have := hf.2.2
    omega
  | _ + 3 => exact Nat.zero_le _

/-- a round of one way -/
abbrev envP [InL] {s : Shp} (hs : InS s) {d : LD} (hd : d.Bd) (eqs lts : Asks) (he : ∀ x ∈ eqs, (@Tm.den (envD s.k d) x.1 == @Tm.den (envD s.k d) x.2.1) = x.2.2) (hl : ∀ x ∈ lts, decide (@Tm.den (envD s.k d) x.1 < @Tm.den (envD s.k d) x.2.1) = x.2.2) : SEnv where
  toSEnv0 := envD s.k d
  lo := loL s
  hi := hiL s
  rng_ok := rngL hs hd
  app_ok := app64
  lst_ok := lstL_ok hs hd
  askEq := lookA eqs
  askLt := lookA lts
  eq_ok := fun h => lookA_ok (q := fun a b => @Tm.den (envD s.k d) a == @Tm.den (envD s.k d) b) he h
  lt_ok := fun h => lookA_ok (q := fun a b => decide (@Tm.den (envD s.k d) a < @Tm.den (envD s.k d) b)) hl h

/-- where nothing goes round -/
abbrev envS [InL] {s : Shp} (hs : InS s) : SEnv := envP hs (LD.at0_bd hs.k) [] [] (fun _ h => by cases h) (fun _ h => by cases h)
abbrev env0 [InL] (s : Shp) : SEnv0 := envD s.k (LD.at0 s.k)

end Go.Proofs.YtjpgogmnabkgnaaGreat

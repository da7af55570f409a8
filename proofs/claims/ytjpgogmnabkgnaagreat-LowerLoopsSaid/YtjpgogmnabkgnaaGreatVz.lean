/- Calls that were proved, whatever the number that is next: texts and numbers that are the same. Contracts of small functions. -/
import Derived.Test.YtjpgogmnabkgnaaGreatVw
namespace Go.Proofs.YtjpgogmnabkgnaaGreat.Ev
open Go.RowKit

/-- memory whose next number is later -/
theorem hr_pad [SEnv] {h : H} {ι : Io} {w : World} (hh : HR h ι w) (k : Nat) : HR ⟨h.objs, Nat.add h.next k⟩ ι w :=
  ⟨hh.obj, hh.share, fun id hid => hh.fresh id (by have : h.next + k ≤ id := hid; omega), hh.lt⟩

theorem sound_pad [SEnv] {P : Program} {f : FuncId} {args : AV} {h h' : H} {v : AV} {k : Nat} (hs : SoundCall P Keep.none f args ⟨h.objs, Nat.add h.next k⟩ v h') : SoundCall P Keep.none f args h v h' := by
  intro ι w vs hh _ hv
  refine (hs ι w vs (hr_pad hh k) trivial hv).mono fun e w' ⟨ι', u, he, hu, hr, hp⟩ => ⟨ι', u, he, hu, hr, ?_⟩
  have hn : h.next + k ≤ h'.next := hp.next
  exact ⟨hp.ext, hp.size, hp.blk, hp.own, hp.os, hp.tape, hp.output, by omega, fun id l hl hn => by
    obtain ⟨q1, q2⟩ := hp.new id l hl hn
    have q1 : h.next + k ≤ id := q1
    exact ⟨by omega, q2⟩⟩

def noKnown : Known := fun _ _ _ => none
theorem noKnown_ok [SEnv] {P : Program} {K : Keep} : noKnown.Ok P K := fun h => by cases h

def Known.or (X Y : Known) : Known := fun f args h => match X f args h with
  | some r => some r
  | none => Y f args h
theorem Known.or_ok [SEnv] {P : Program} {K : Keep} {X Y : Known} (hX : X.Ok P K) (hY : Y.Ok P K) : (X.or Y).Ok P K := by
  intro f args h v h' hr
  unfold Known.or at hr
  split at hr
  · rename_i r hx
    injection hr with hr
    subst hr
    exact hX hx
  · exact hY hr

/-- one function's contract -/
def Known.one (g : FuncId) (k : AV → H → Option (AV × H)) : Known := fun f args h => match Nat.beq f g with
  | true => k args h
  | false => none
theorem Known.one_ok [SEnv] {P : Program} {K : Keep} {g : FuncId} {k : AV → H → Option (AV × H)} (hk : ∀ {args h v h'}, k args h = some (v, h') → SoundCall P K g args h v h') : (Known.one g k).Ok P K := by
  intro f args h v h' hr
  unfold Known.one at hr
  split at hr
  · rename_i hf
    obtain rfl : f = g := by simpa using hf
    exact hk hr
  · cases hr

/-! ### calls that know of no memory -/

theorem Ent.args_ok [SEnv] {P : Program} {K : Keep} {x : Ent} (hx : x.Ok P K) {args : AV} (ha : eqvAV args x.args = true) : Ent.Ok P K ⟨x.f, args, x.m, x.v, x.m'⟩ :=
  ⟨fun ι w vs hh hK hv => hx.1 ι w vs hh hK ((eqvAV_ok ha ι).2 _ hv), hx.2⟩

def isNilL : List (Nat × AObj) → Bool
  | [] => true
  | _ :: _ => false

def padE [SEnv] (x : Ent) (args : AV) (h : H) : Option (AV × H) := match and (eqvAV args x.args) (and (isNilL x.m.objs) (Nat.ble h.next x.m.next)) with
  | true => some (x.v, x.out ⟨h.objs, x.m.next⟩)
  | false => none

theorem padE_ok [SEnv] {P : Program} {x : Ent} (hx : x.Ok P Keep.none) {args : AV} {h : H} {v : AV} {h' : H} (hr : padE x args h = some (v, h')) : SoundCall P Keep.none x.f args h v h' := by
  unfold padE at hr
  split at hr
  case h_2 => cases hr
  rename_i hc
  simp only [Bool.and_eq_true, Nat.ble_eq] at hc
  obtain ⟨ha, hn, hle⟩ := hc
  injection hr with hr
  injection hr with e1 e2
  subst e1 e2
  have hx' := Ent.args_ok hx ha
  have hm : x.m.objs = [] := by cases hq : x.m.objs with
    | nil => rfl
    | cons a l => rw [hq] at hn; cases hn
  have hin : x.m.inH ⟨h.objs, x.m.next⟩ = true := by
    unfold HL.inH
    rw [hm]
    simp [holdsL]
  have hs := Ent.frame hx' (h := ⟨h.objs, x.m.next⟩) hin
  obtain ⟨k, hk⟩ : ∃ k, x.m.next = Nat.add h.next k := ⟨x.m.next - h.next, by show _ = h.next + _; omega⟩
  have hs2 : SoundCall P Keep.none x.f args ⟨h.objs, Nat.add h.next k⟩ x.v (x.out ⟨h.objs, x.m.next⟩) := by rw [← hk]; exact hs
  exact sound_pad hs2

def kPads [SEnv] : List Ent → Known
  | [] => noKnown
  | x :: l => (Known.one x.f (padE x)).or (kPads l)

theorem kPads_ok [SEnv] {P : Program} : ∀ {l : List Ent}, (∀ x ∈ l, x.Ok P Keep.none) → (kPads l).Ok P Keep.none
  | [], _ => noKnown_ok
  | _ :: _, h => Known.or_ok (Known.one_ok (padE_ok (h _ List.mem_cons_self))) (kPads_ok fun y hy => h y (List.mem_cons_of_mem _ hy))

/-! ### a small number's digit -/

def digOk (r : Option Rg) : Bool := match r with
  | some r => and (leI 0 r.lo) (leI r.hi 9)
  | none => false

def kDec [SEnv] (args : AV) (h : H) : Option (AV × H) := match args with
  | .cons x .nil => match x with
    | .int .i64 (.ofNat m) => match Nat.blt m 10 with
      | true => forceN (Nat.add 48 m) fun b => some (.str 1 b, h)
      | false => none
    | .sym .i64 t => match digOk (rangeT t) with
      | true => some (.sstr (.cons (symI .u8 (mkBin .add .i64 t (.lit 48))) .nil), h)
      | false => none
    | _ => none
  | _ => none

theorem kDec_ok [SEnv] {P : Program} {K : Keep} {f : FuncId} (hc : ∀ (n : Nat) (w : World), n < 10 → Calls P f #[.int .i64 n] w fun e w' => e = .returned (.string ⟨#[UInt8.ofNat (48 + n)]⟩) ∧ Below w.heap.size w w')
    {args : AV} {h : H} {v : AV} {h' : H} (hr : kDec args h = some (v, h')) : SoundCall P K f args h v h' := by
  unfold kDec at hr
  split at hr
  case h_2 => cases hr
  rename_i x
  split at hr
  case h_3 => cases hr
  · rename_i m
    split at hr
    case h_2 => cases hr
    rename_i hm
    have hm : m < 10 := by simpa using hm
    rw [forceN_eq] at hr
    injection hr with hr
    injection hr with e1 e2
    subst e1 e2
    intro ι w vs hh _ hv
    obtain ⟨v1, m1, hvs, hv1, rfl⟩ := hv
    have hv1 : v1 = .int .i64 (Int.ofNat m) := hv1
    subst hv1
    obtain rfl : vs = #[.int .i64 (m : Int)] := by rw [← Array.toList_inj, hvs]; rfl
    refine (hc m w hm).mono fun e w' ⟨he, hbw⟩ => ?_
    obtain ⟨q1, q2⟩ := hh.grown hbw
    refine ⟨ι, _, he, ?_, q1, q2⟩
    simp only [VR]
    have e48 : (48 + m) % 256 = 48 + m := Nat.mod_eq_of_lt (by omega)
    refine ⟨?_, by show 48 + m < 256 ^ 1; omega⟩
    show Value.string ⟨#[UInt8.ofNat (48 + m)]⟩ = .string (strV 1 (Nat.add 48 m))
    unfold strV decS decS
    show Value.string ⟨#[UInt8.ofNat (48 + m)]⟩ = .string ⟨#[UInt8.ofNat ((48 + m) % 256)]⟩
    rw [e48]
  · rename_i t
    split at hr
    case h_2 => cases hr
    rename_i hd
    injection hr with hr
    injection hr with e1 e2
    subst e1 e2
    unfold digOk at hd
    split at hd
    case h_2 => cases hd
    rename_i r hrg
    obtain ⟨h1, h2⟩ := rangeT_ok t hrg
    simp only [Bool.and_eq_true, leI_eq, decide_eq_true_eq] at hd
    intro ι w vs hh _ hv
    obtain ⟨v1, m1, hvs, hv1, rfl⟩ := hv
    have hv1 : v1 = .int .i64 t.den := hv1
    subst hv1
    obtain ⟨n, hn⟩ : ∃ n : Nat, t.den = n := ⟨t.den.toNat, by omega⟩
    obtain rfl : vs = #[.int .i64 (n : Int)] := by rw [← Array.toList_inj, hvs, hn]
    refine (hc n w (by omega)).mono fun e w' ⟨he, hbw⟩ => ?_
    obtain ⟨q1, q2⟩ := hh.grown hbw
    refine ⟨ι, _, he, ?_, q1, q2⟩
    simp only [VR]
    refine ⟨[UInt8.ofNat (48 + n)], rfl, ?_⟩
    simp only [List.map_cons, List.map_nil, VRl]
    refine ⟨_, _, rfl, ?_, rfl⟩
    have e1 : ((UInt8.ofNat (48 + n)).toNat : Int) = (mkBin .add .i64 t (.lit 48)).den := by
      rw [mkBin_den]
      show _ = IntKind.i64.wrap (t.den + 48)
      rw [wrap_id (by show (-9223372036854775808 : Int) ≤ _; omega) (by show _ ≤ (9223372036854775807 : Int); omega), hn, show (UInt8.ofNat (48 + n)).toNat = (48 + n) % 2 ^ 8 from rfl, Nat.mod_eq_of_lt (show 48 + n < 2 ^ 8 by omega)]
      omega
    rw [e1]
    exact symI_eq _ _

end Go.Proofs.YtjpgogmnabkgnaaGreat.Ev

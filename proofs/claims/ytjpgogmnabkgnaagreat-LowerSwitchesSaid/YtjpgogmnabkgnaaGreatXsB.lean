/- A switch in a loop by four numbers: contracts; the loop that is known, once its five ways are. -/
import Derived.Test.YtjpgogmnabkgnaaGreatXsA
namespace Go.Proofs.YtjpgogmnabkgnaaGreat
open Go.RowKit Go.Proofs.YtjpgogmnabkgnaaGreat.Ev

def dg (n : Nat) : UInt8 := UInt8.ofNat (48 + n)

set_option maxHeartbeats 2000000 in
theorem dec_more (n : Nat) (l : List UInt8) (h10 : 10 ≤ n) (hn : n < 1000) (hll : l.length ≤ 2) (w : World)
    (hl : ∀ W, Calls Tryz.prog 14 #[.int .i64 (n / 10 : Nat)] W fun e w' => e = .returned (.string ⟨l.toArray⟩) ∧ Below W.heap.size W w') :
    Calls Tryz.prog 14 #[.int .i64 n] w fun e w' => e = .returned (.string ⟨(l ++ [dg (n % 10)]).toArray⟩) ∧ Below w.heap.size w w' := by
  have hq : Int.tdiv (n : Int) 10 = (n / 10 : Nat) := by rw [Int.tdiv_eq_ediv_of_nonneg (by omega)]; omega
  have hr : Int.tmod (n : Int) 10 = (n % 10 : Nat) := by rw [Int.tmod_eq_emod_of_nonneg (by omega)]; omega
  have h1 : decide ((n : Int) < 0) = false := by simp
  have h2 : decide ((n : Int) < 10) = false := by simp; omega
  have hd := fun W => decL (n % 10) W (by omega)
  have hadd := fun W => run_string_add_sum (P := Tryz.prog) W ⟨l.toArray⟩ ⟨#[UInt8.ofNat (48 + n % 10)]⟩ (by simp [ByteArray.size]; omega)
  go_enter Tryz.func14, Tryz.ntmps14
  go_wp2_with fail
  first
    | refine (hl _).mono ?_
    | (rw [show (wrap64 ((n : Int).tdiv 10)) = ((n / 10 : Nat) : Int) by rw [hq]; exact IntWalk.wrap64_in _ (by omega)]; refine (hl _).mono ?_)
    | (rw [show ((n : Int) / 10) = ((n / 10 : Nat) : Int) by omega]; refine (hl _).mono ?_)
  rintro e w1 ⟨rfl, hb1⟩
  go_wp2_with fail
  first
    | refine (hd _).mono ?_
    | (rw [hr]; refine (hd _).mono ?_)
    | (rw [show ((n : Int) % 10) = ((n % 10 : Nat) : Int) by omega]; refine (hd _).mono ?_)
  rintro e w2 ⟨rfl, hb2⟩
  go_wp2_with fail
  go_ret
  refine ⟨?_, hb1.trans (hb2.mono hb1.size)⟩
  refine congrArg (fun x => Ending.returned (.string x)) (?_ : _ = (⟨(l ++ [dg (n % 10)]).toArray⟩ : ByteArray))
  apply ByteArray.ext
  simp [ByteArray.data_append, dg]

theorem decS1 (n : Nat) (w : World) (hn : n < 10) : Calls Tryz.prog 14 #[.int .i64 n] w fun e w' => e = .returned (.string ⟨[dg n].toArray⟩) ∧ Below w.heap.size w w' := decL n w hn
theorem decS2 (n : Nat) (w : World) (h : 10 ≤ n) (hn : n < 100) : Calls Tryz.prog 14 #[.int .i64 n] w fun e w' => e = .returned (.string ⟨[dg (n / 10), dg (n % 10)].toArray⟩) ∧ Below w.heap.size w w' :=
  dec_more n [dg (n / 10)] h (by omega) (by simp) w fun W => decS1 (n / 10) W (by omega)
theorem decS3 (n : Nat) (w : World) (h : 100 ≤ n) (hn : n < 1000) : Calls Tryz.prog 14 #[.int .i64 n] w fun e w' => e = .returned (.string ⟨[dg (n / 100), dg (n / 10 % 10), dg (n % 10)].toArray⟩) ∧ Below w.heap.size w w' := by
  have h1 := dec_more n [dg (n / 10 / 10), dg (n / 10 % 10)] (by omega) hn (by simp) w fun W => decS2 (n / 10) W (by omega) (by omega)
  rw [show n / 10 / 10 = n / 100 by omega] at h1
  exact h1

/-- digits of a number of two or three -/
def kDecS (nd : Nat) (args : AV) (h : H) : Option (AV × H) := match args with
  | .cons (.sym .i64 t) .nil => match nd with
    | 2 => (match eqTm t (.lin 0 [(9, 10), (14, 1)]) with
      | true => some (.sstr (.cons (.sym .u8 (.lin 48 [(9, 1)])) (.cons (.sym .u8 (.lin 48 [(14, 1)])) .nil)), h)
      | false => none)
    | 3 => (match eqTm t (.lin 0 [(3, 100), (9, 10), (14, 1)]) with
      | true => some (.sstr (.cons (.sym .u8 (.lin 48 [(3, 1)])) (.cons (.sym .u8 (.lin 48 [(9, 1)])) (.cons (.sym .u8 (.lin 48 [(14, 1)])) .nil))), h)
      | false => none)
    | _ => none
  | _ => none

theorem dg_nat (n : Nat) (h : n < 10) : ((dg n).toNat : Int) = 48 + n := by
  unfold dg
  rw [UInt8.toNat_ofNat_of_lt' (by show 48 + n < 256; omega)]
  omega

theorem kDecS_ok [InW] {s : Shq} (hs : InQ s) {d : SD} (hd : d.Bd) {args : AV} {h : H} {v : AV} {h' : H} (hr : kDecS s.nd args h = some (v, h')) : @SoundCall (envQ s.k d) Tryz.prog Keep.none 14 args h v h' := by
  letI := envR hs hd [] [] noQ1 noQ2
  have hf := InW.fi_rng
  obtain ⟨n, hn⟩ : ∃ n : Nat, InW.fi = n := ⟨InW.fi.toNat, by omega⟩
  obtain ⟨nd, hnd⟩ : ∃ nd, s.nd = nd := ⟨_, rfl⟩
  rw [hnd] at hr
  unfold kDecS at hr
  split at hr
  case h_2 => cases hr
  rename_i t
  split at hr
  · split at hr
    case h_2 => cases hr
    rename_i ht
    have ht := eqTm_eq _ _ ht
    subst ht
    injection hr with hr
    injection hr with e1 e2
    subst e1 e2
    intro ι w vs hh _ hvs
    obtain ⟨v1, m1, hvl, hv1, rfl⟩ := hvs
    have hq := hs.nd
    rw [hnd] at hq
    have hv1 : v1 = .int .i64 (0 + (10 * (InW.fi / 10 % 10) + (1 * (InW.fi % 10) + 0))) := hv1
    rw [show 0 + (10 * (InW.fi / 10 % 10) + (1 * (InW.fi % 10) + 0)) = (n : Int) by omega] at hv1
    subst hv1
    obtain rfl : vs = #[.int .i64 (n : Int)] := by rw [← Array.toList_inj, hvl]
    refine (decS2 n w (by omega) (by omega)).mono fun e w' ⟨he, hbw⟩ => ?_
    obtain ⟨q1, q2⟩ := hh.grown hbw
    refine ⟨ι, _, he, ⟨_, rfl, ⟨_, _, rfl, ?_, ⟨_, _, rfl, ?_, rfl⟩⟩⟩, q1, q2⟩
    · show Value.int .u8 ((dg (n / 10)).toNat : Int) = .int .u8 (48 + (1 * (InW.fi / 10 % 10) + 0))
      rw [dg_nat _ (by omega)]
      congr 1
      omega
    · show Value.int .u8 ((dg (n % 10)).toNat : Int) = .int .u8 (48 + (1 * (InW.fi % 10) + 0))
      rw [dg_nat _ (by omega)]
      congr 1
      omega
  · split at hr
    case h_2 => cases hr
    rename_i ht
    have ht := eqTm_eq _ _ ht
    subst ht
    injection hr with hr
    injection hr with e1 e2
    subst e1 e2
    intro ι w vs hh _ hvs
    obtain ⟨v1, m1, hvl, hv1, rfl⟩ := hvs
    have hq := hs.nd
    rw [hnd] at hq
    have hv1 : v1 = .int .i64 (0 + (100 * (InW.fi / 100) + (10 * (InW.fi / 10 % 10) + (1 * (InW.fi % 10) + 0)))) := hv1
    rw [show 0 + (100 * (InW.fi / 100) + (10 * (InW.fi / 10 % 10) + (1 * (InW.fi % 10) + 0))) = (n : Int) by omega] at hv1
    subst hv1
    obtain rfl : vs = #[.int .i64 (n : Int)] := by rw [← Array.toList_inj, hvl]
    refine (decS3 n w (by omega) (by omega)).mono fun e w' ⟨he, hbw⟩ => ?_
    obtain ⟨q1, q2⟩ := hh.grown hbw
    refine ⟨ι, _, he, ⟨_, rfl, ⟨_, _, rfl, ?_, ⟨_, _, rfl, ?_, ⟨_, _, rfl, ?_, rfl⟩⟩⟩⟩, q1, q2⟩
    · show Value.int .u8 ((dg (n / 100)).toNat : Int) = .int .u8 (48 + (1 * (InW.fi / 100) + 0))
      rw [dg_nat _ (by omega)]
      congr 1
      omega
    · show Value.int .u8 ((dg (n / 10 % 10)).toNat : Int) = .int .u8 (48 + (1 * (InW.fi / 10 % 10) + 0))
      rw [dg_nat _ (by omega)]
      congr 1
      omega
    · show Value.int .u8 ((dg (n % 10)).toNat : Int) = .int .u8 (48 + (1 * (InW.fi % 10) + 0))
      rw [dg_nat _ (by omega)]
      congr 1
      omega
  · cases hr

end Go.Proofs.YtjpgogmnabkgnaaGreat

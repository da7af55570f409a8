/- A list and one more held against a list. -/
import Derived.Test.YtjpgogmnabkgnaaGreatWlA
import Derived.Test.YtjpgogmnabkgnaaGreatVn
namespace Go.Proofs.YtjpgogmnabkgnaaGreat
open Go.RowKit Go.Proofs.YtjpgogmnabkgnaaGreat.Ev

def kEqM (args : AV) (h : H) : Option (AV × H) := match args with
  | .cons (.ssl i 2 .nil) (.cons (.ssl j 1 (.cons (.sym .i64 (.var 7)) .nil)) .nil) => match h.objs.get i, h.objs.get j with
    | some (.spine 2 .nil), some (.spine 1 (.cons (.sym .i64 (.var 7)) .nil)) => some (.bool true, h)
    | _, _ => none
  | _ => none

theorem kEqM_ok [SEnv] (hl : SEnv0.lst 2 = SEnv0.lst 1 ++ [SEnv0.rho 7]) {args : AV} {h : H} {v : AV} {h' : H} (hr : kEqM args h = some (v, h')) : SoundCall Tryz.prog K0 18 args h v h' := by
  unfold kEqM at hr
  split at hr
  case h_2 => cases hr
  rename_i i j
  split at hr
  case h_2 => cases hr
  rename_i hi hj
  injection hr with hr
  injection hr with e4 e5
  subst e4 e5
  intro ι w vs hh _ hvs
  obtain ⟨v1, m1, hlv, hv1, v2, m2, rfl, hv2, rfl⟩ := hvs
  obtain rfl : vs = #[v1, v2] := by rw [← Array.toList_inj, hlv]
  obtain ⟨m, q1, q2⟩ := longs_at hh hi hv1
  obtain ⟨m', q3, q4⟩ := longs_at hh hj hv2
  have e1 : m = [] := denL_nil q1
  subst e1
  have e2 : m' = [SEnv0.rho 7] := by
    have : some [SEnv0.rho 7] = some m' := q3
    injection this with this
    exact this.symm
  subst e2
  rw [List.append_nil, hl] at q2
  have hb := SEnv.lst_ok 1
  refine (eqLongs_same _ v1 v2 w q2 q4 (by rw [List.length_append, List.length_singleton]; omega)).mono fun e w' ⟨he, hbw⟩ => ?_
  obtain ⟨q5, q6⟩ := hh.grown hbw
  exact ⟨ι, _, he, by simp only [VR], q5, q6⟩

/-- the loop of that number in a function -/
def bodyAt (P : Program) (f : FuncId) (k : Nat) : Code := match P.funcs[f]? with
  | some fn => (match fn.body with
    | some c => (loopAt k c).getD .skip
    | none => .skip)
  | none => .skip
def ntmOfJ (P : Program) (f : FuncId) : Nat := match P.funcs[f]? with
  | some fn => fn.ntmps
  | none => 0

theorem hov_ofJ {P : Program} {K : Keep} [SEnv0] {f : FuncId} {k : Nat} {ov : C} (h : SoundC P K (ntmOfJ P f) (.loop (bodyAt P f k)) ov) : ∀ fn c, P.funcs[f]? = some fn → fn.body = some c → ∀ b, loopAt k c = some b → SoundC P K fn.ntmps (.loop b) ov := by
  intro fn c hfn hc b hb
  unfold ntmOfJ bodyAt at h
  rw [hfn] at h
  simp only [hc, hb] at h
  exact h

end Go.Proofs.YtjpgogmnabkgnaaGreat

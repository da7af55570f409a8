/- EqRules; RuleChecks' function walked. -/
import Derived.Test.YthdicdkgfmiepaaGreatDoorRuZ
import Derived.Test.YthdicdkgfmiepaaGreatDoorRuQ
namespace Go.Proofs.YthdicdkgfmiepaaGreatDoor
open Go.RowKit

set_option maxHeartbeats 4000000 in
theorem eqRules_self (rs : List Rule) (A B : Option Addr) (c d : Nat) (w : World) (hp : RulesIn w A c rs) (hq : RulesIn w B d rs) :
    Calls Tryz.prog 11 #[.slice A rs.length c, .slice B rs.length d] w (SomeBoolBelow true w) := by
  have hm := hp.le
  unfold maxLen at hm
  obtain ⟨n, hn⟩ : ∃ n, Hid (rs.length = n) := ⟨_, Lib.hid rfl⟩
  have HPP := Lib.hid hp
  have HQQ := Lib.hid hq
  rw [hn.out] at hm ⊢
  clear hp hq
  go_enter Tryz.func11, Tryz.ntmps11
  go_wp2_with fail
  go_loopw [5] (fun i wr => ∃ k : Nat, k ≤ n ∧ i = .int .i64 k ∧ Below w.heap.size w wr) (fun i _ => n - (intOf i).toNat)
  case atStart => exact ⟨0, by omega, rfl, Below.refl _ _⟩
  case round =>
    obtain ⟨k, hk, rfl, hb⟩ := hrel
    obtain ⟨wo, rfl⟩ : ∃ wo : World, wo = wr := ⟨_, rfl⟩
    by_cases hlt : k < n
    · have hkl : k < rs.length := by rw [hn.out]; exact hlt
      obtain ⟨okp, hp1⟩ := HPP.out.below hb
      obtain ⟨okq, hq1⟩ := HQQ.out.below hb
      obtain ⟨g, off, A', c', rfl, _, hg, ⟨a0, a1, a2, a3, a4, a5⟩, _, hpi⟩ := rules_at hp1 k hkl
      obtain ⟨g', off', B', d', rfl, _, hg', ⟨b0, b1, b2, b3, b4, b5⟩, _, hqi⟩ := rules_at hq1 k hkl
      obtain ⟨r, hre⟩ : ∃ r, Hid (rs[k] = r) := ⟨_, Lib.hid rfl⟩
      rw [hre.out] at a0 a1 a2 a3 a4 a5 b0 b1 b2 b3 b4 b5 hpi hqi
      have hQ := fun W => eqRule_any r r A' B' c' d' W
      rw [same_self] at hQ
      have HP : Hid (PatIn wo A' c' r.pat) := Lib.hid ⟨_, hpi⟩
      have HQ : Hid (PatIn wo B' d' r.pat) := Lib.hid ⟨_, hqi⟩
      clear hp1 hq1 hpi hqi
      go_wp2_with fail
      go_region_held3 (fun W => W.cell? ⟨g, off + k * 6, none⟩ = some (.int .i64 r.nt) ∧ W.cell? ⟨g, off + k * 6 + 1, none⟩ = some (.int .i64 r.pat.op) ∧ W.cell? ⟨g, off + k * 6 + 2, none⟩ = some (.int .i64 r.pat.nt) ∧ W.cell? ⟨g, off + k * 6 + 3, none⟩ = some (.slice A' r.pat.kids.length c') ∧ W.cell? ⟨g, off + k * 6 + 4, none⟩ = some (.int .i64 r.cost) ∧ W.cell? ⟨g, off + k * 6 + 5, none⟩ = some (.string ⟨r.form.toArray⟩) ∧ W.cell? ⟨g', off' + k * 6, none⟩ = some (.int .i64 r.nt) ∧ W.cell? ⟨g', off' + k * 6 + 1, none⟩ = some (.int .i64 r.pat.op) ∧ W.cell? ⟨g', off' + k * 6 + 2, none⟩ = some (.int .i64 r.pat.nt) ∧ W.cell? ⟨g', off' + k * 6 + 3, none⟩ = some (.slice B' r.pat.kids.length d') ∧ W.cell? ⟨g', off' + k * 6 + 4, none⟩ = some (.int .i64 r.cost) ∧ W.cell? ⟨g', off' + k * 6 + 5, none⟩ = some (.string ⟨r.form.toArray⟩)) ((refine ⟨?_, ?_, ?_, ?_, ?_, ?_, ?_, ?_, ?_, ?_, ?_, ?_⟩ <;> (with_reducible (repeat (first | assumption | refine cell_drewN ?_ _ | refine cell_drew ?_)))))
        ((go_at_call 30; refine (hQ _ (show PatIn _ _ _ _ from by with_reducible (repeat (first | exact HP.out | refine PatIn.drewN ?_ _ | refine PatIn.drew ?_))) (show PatIn _ _ _ _ from by with_reducible (repeat (first | exact HQ.out | refine PatIn.drewN ?_ _ | refine PatIn.drew ?_)))).mono ?_; rintro e w5 ⟨rfl, hb7⟩; obtain ⟨y0, y1, y2, y3, y4, y5⟩ := later6 hb7 ⟨a0, a1, a2, a3, a4, a5⟩; obtain ⟨z0, z1, z2, z3, z4, z5⟩ := later6 hb7 ⟨b0, b1, b2, b3, b4, b5⟩))
      go_wp2_with fail
      go_roundw
      case rel => exact ⟨k + 1, by omega, by go_num, hb.trans (((Below.refl _ _).drew).trans (hb7.mono hb.size))⟩
      case measure => simp [intOf]; omega
    · obtain rfl : k = n := by omega
      go_wp2_with fail
      go_ret
      exact ⟨rfl, hb⟩

theorem RulesWf.take {rs : List Rule} (h : RulesWf rs) (q : Nat) : RulesWf (rs.take q) := by
  refine ⟨Nat.le_trans (by simp; omega) h.1, fun r hr => h.2 r (List.mem_of_mem_take hr)⟩
theorem RulesSmall.take {rs : List Rule} (h : RulesSmall rs) (q : Nat) : RulesSmall (rs.take q) := by
  refine ⟨Nat.le_trans (by simp; omega) h.1, fun j hj => ?_⟩
  rw [List.getElem_take]
  exact h.2 j (by simp at hj; omega)

theorem RepRow.take {w : World} {ok : Nat → Prop} {z : Nat} : ∀ (ds : List D) (cs : List Value) (q : Nat), RepRow w ok z ds cs → RepRow w ok z (ds.take q) cs
  | [], _, _, _ => by simp; unfold RepRow; trivial
  | d :: ds, cs, 0, _ => by simp; unfold RepRow; trivial
  | d :: ds, cs, q + 1, h => by
    unfold RepRow at h
    obtain ⟨a, b, rfl, h1, h2, h3⟩ := h
    rw [List.take_succ_cons]
    unfold RepRow
    exact ⟨a, b, rfl, h1, h2, RepRow.take ds b q h3⟩

theorem rep_take {w : World} {ok : Nat → Prop} {z : Nat} {ds : List D} {A : Option Addr} {n c : Nat} (h : Rep w ok (.lst z ds) [.slice A n c]) (q : Nat) (hq : q ≤ ds.length) : Rep w ok (.lst z (ds.take q)) [.slice A q c] := by
  unfold Rep at h ⊢
  obtain ⟨A', c', he, hc, hm, h⟩ := h
  injection he with he _
  injection he with e1 e2 e3
  subst e1 e3
  refine ⟨A, c, by rw [List.length_take, Nat.min_eq_left hq], by rw [List.length_take]; omega, hm, fun hn => ?_⟩
  rw [List.length_take] at hn
  obtain ⟨g, off, cur, t, fr, hA, hok, hg, hrow⟩ := h (by omega)
  exact ⟨g, off, cur, t, fr, hA, hok, hg, RepRow.take ds _ q hrow⟩

theorem RulesIn.take {w : World} {A : Option Addr} {c : Nat} {rs : List Rule} (h : RulesIn w A c rs) (q : Nat) (hq : q ≤ rs.length) : RulesIn w A c (rs.take q) := by
  obtain ⟨ok, h⟩ := h
  refine ⟨ok, ?_⟩
  have := rep_take h q (by simpa using hq)
  rw [← List.map_take] at this
  rw [List.length_take, Nat.min_eq_left hq]
  exact this

theorem RulesIn.cap {w : World} {A : Option Addr} {c : Nat} {rs : List Rule} (h : RulesIn w A c rs) : rs.length ≤ c := by
  obtain ⟨ok, h⟩ := h
  obtain ⟨A', c', he, h1, _⟩ := h.len
  injection he with e1 e2 e3
  rw [List.length_map] at h1
  omega

theorem rulesIn_of_own {w' : World} {B : Nat} {A : Option Addr} {n c : Nat} {T : TypeId} {ok : Nat → Prop} {rs : List Rule} (h : Own w' B ok T 6 (.slice A n c) (rs.map encR)) : n = rs.length ∧ RulesIn w' A c rs := by
  have hr := h.rep
  obtain ⟨A', c', he, _⟩ := hr.len
  injection he with e1 e2 e3
  rw [List.length_map] at e2
  subst e1 e2 e3
  exact ⟨rfl, ⟨_, hr⟩⟩

end Go.Proofs.YthdicdkgfmiepaaGreatDoor

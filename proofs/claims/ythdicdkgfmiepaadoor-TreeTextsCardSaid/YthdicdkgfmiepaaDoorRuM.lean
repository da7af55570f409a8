/- The reference's Form, and the statement's own helpers. -/
import Derived.Test.YthdicdkgfmiepaaDoorRuL
namespace Go.Proofs.YthdicdkgfmiepaaDoor
open Go.RowKit

def RuleRetB (r : Rule) (b : Bool) (w : World) : Ending → World → Prop := RuleRet w.heap.size r (.bool b) w

set_option maxHeartbeats 4000000 in
theorem refForm_any (s : List UInt8) (w : World) :
    Calls Tryd.prog 12 #[.string ⟨s.toArray⟩] w (RuleRetB ((formOf s).getD noRule) (formOf s).isSome w) := by
  have hfo := Lib.hid (formOf_idx s)
  go_enter Tryd.func12, Tryd.ntmps12
  go_wp2_with fail
  refine (refForms_any _).mono ?_
  rintro e w1 ⟨v1, rfl, ho1, hb1⟩
  have hrep := ho1.rep
  obtain ⟨A, c, rfl, _⟩ := hrep.len
  rw [List.length_map] at hrep ⊢
  obtain ⟨n, hn⟩ : ∃ n, Hid (formsR.length = n) := ⟨_, Lib.hid rfl⟩
  have hl2 : n ≤ 100000 := by rw [← hn.out, formsR_len]; omega
  rw [hn.out]
  rw [hn.out] at hrep
  clear ho1
  obtain ⟨hc, hf⟩ := bcell hb1
  have hz1 : w.heap.size < w1.heap.size := by have := hb1.size; simp at this; omega
  have hb01 : Below w.heap.size w w1 := (below_alloc _ _).trans (hb1.mono (by simp))
  go_wp2_with fail
  go_loop [5] (fun i => ∃ k : Nat, k ≤ n ∧ i = .int .i64 k ∧ Hid (∀ j (hj : j < formsR.length), j < k → formsR[j].form ≠ s)) (fun i => n - (intOf i).toNat)
  case atStart => exact ⟨0, by omega, rfl, Lib.hid (fun j _ h => absurd h (by omega))⟩
  case round =>
    obtain ⟨k, hk, rfl, hmiss⟩ := hrel
    by_cases hlt : k < n
    · have hkl : k < formsR.length := by rw [hn.out]; exact hlt
      obtain ⟨g, off, B, d, rfl, hBg, hg, ⟨c0, c1, c2, c3, c4, c5⟩, _, hp⟩ := rules_at hrep k hkl
      obtain ⟨r, hre⟩ : ∃ r, Hid (formsR[k] = r) := ⟨_, Lib.hid rfl⟩
      rw [hre.out] at c0 c1 c2 c3 c4 c5 hp
      have hg1 : w.heap.size < g := by simp at hBg; omega
      have hp2 : Rep w1 (fun g => w.heap.size + 1 ≤ g) (encP r.pat) [.int .i64 r.pat.op, .int .i64 r.pat.nt, .slice B r.pat.kids.length d] := Rep.imp hp (fun g hg _ => by simp at hg; exact hg)
      have HP := Lib.hid hp2
      clear hrep hp hp2
      by_cases hfm : r.form = s
      · have HI : Hid (formOf s = some r) := by
          refine Lib.hid ?_
          have h1 := idxOf_hit formsR s k hkl (by rw [hre.out]; exact hfm) (fun j hj => hmiss.out j (by omega) hj)
          rcases hfo.out with ⟨h2, _⟩ | ⟨k', hk', h2, h3⟩
          · omega
          · have : k' = k := by omega
            subst this; rw [h3, hre.out]
        have hfe : (r.form == s) = true := by simp [hfm]
        have HF := Lib.hid hfm
        clear hfm
        go_wp2_with fail
        refine bodyPost_ret (v := .tuple #[.agg #[.int .i64 r.nt, .int .i64 r.pat.op, .int .i64 r.pat.nt, .slice B r.pat.kids.length d, .int .i64 r.cost, .string ⟨r.form.toArray⟩], .bool true]) (by simp [results, Tryd.results12, go_sem, hc]) rfl ?_
        unfold RuleRetB
        rw [HI.out]
        refine ⟨B, d, rfl, rep_rule_of ?_, ?_⟩
        · refine Rep.imp (ok := fun g => w.heap.size + 1 ≤ g) ?_ (fun g hg _ => by omega)
          iterate 6 refine Rep.setCell ?_ (fun g hg => by simp; omega)
          exact HP.out
        · iterate 6 refine Below.setCell ?_ (by simp) _
          exact hb01
      · have hfe : (r.form == s) = false := by simp [hfm]
        have HF := Lib.hid hfm
        clear hfm
        go_wp2_with fail
        go_round
        case rel =>
          refine ⟨k + 1, by omega, by go_num, Lib.hid (fun j hj hjk => ?_)⟩
          by_cases e : j = k
          · subst e; rw [hre.out]; exact HF.out
          · exact hmiss.out j hj (by omega)
        case measure => simp [intOf]; omega
    · obtain rfl : k = n := by omega
      have HI : Hid (formOf s = none) := by
        refine Lib.hid ?_
        have h1 := idxOf_miss formsR s (fun j hj => hmiss.out j hj (by rw [← hn.out]; exact hj))
        rcases hfo.out with ⟨h2, h3⟩ | ⟨k', hk', h2, h3⟩
        · exact h3
        · omega
      go_wp2_with fail
      refine bodyPost_ret (v := .tuple #[.agg #[.int .i64 0, .int .i64 0, .int .i64 0, .slice none 0 0, .int .i64 0, .string ⟨#[]⟩], .bool false]) (by simp [results, Tryd.results12, go_sem, hc]) rfl ?_
      unfold RuleRetB
      rw [HI.out]
      refine ⟨none, 0, rfl, rep_rule_of (r := noRule) rep_leaf, ?_⟩
      iterate 6 refine Below.setCell ?_ (by simp) _
      exact hb01

set_option maxHeartbeats 400000 in
theorem num12_any (n : Int) (w : World) : Calls Tryd.prog 10 #[.int .i64 n] w fun e w' => e = .returned (.int .i64 n) ∧ w = w' := by
  go_enter Tryd.func10, Tryd.ntmps10
  go_wp2_with fail
  go_ret
  exact ⟨rfl, rfl⟩

end Go.Proofs.YthdicdkgfmiepaaDoor

/- rule.All walked. -/
import Derived.Test.YthdicdkgfmiepaaDoorRuI
namespace Go.Proofs.YthdicdkgfmiepaaDoor
open Go.RowKit

theorem string_info : (Tryd.prog.info? 9).map (fun i => (i.zero, i.size, i.bytes)) = some (some (.string ⟨#[]⟩), 1, 16) := by kernel_rfl

def formD (r : Rule) : D := .str r.form

set_option maxRecDepth 100000 in
set_option maxHeartbeats 2000000 in
theorem all_any (w : World) (ht : Tab w) : Calls Tryd.prog 8 #[] w fun e w' => ∃ v, e = .returned v ∧ Own w' w.heap.size (fun g => w.heap.size ≤ g) 9 1 v (formsR.map formD) ∧ Below w.heap.size w w' := by
  go_enter Tryd.func8, Tryd.ntmps8
  go_wp2_with fail
  refine (forms_any _ ht).mono ?_
  rintro e w1 ⟨v1, rfl, ho1, hb1⟩
  have hrep := ho1.rep
  obtain ⟨A, c, rfl, _⟩ := hrep.len
  rw [List.length_map] at hrep ⊢
  obtain ⟨n, hn⟩ : ∃ n, Hid (formsR.length = n) := ⟨_, Lib.hid rfl⟩
  have hl2 : n ≤ 100000 := by rw [← hn.out, formsR_len]; omega
  rw [hn.out]
  rw [hn.out] at hrep
  clear ho1
  go_wp2_with fail
  go_loopw [1, 6] (fun v i wr => ∃ k : Nat, k ≤ n ∧ i = .int .i64 k ∧ Own wr w1.heap.size (fun g => w.heap.size ≤ g) 9 1 v ((formsR.take k).map formD) ∧ Below w1.heap.size w1 wr) (fun _ i _ => n - (intOf i).toNat)
  case atStart => exact ⟨0, by omega, rfl, Own.nil _ _ _ _ _, Below.refl _ _⟩
  case round =>
    obtain ⟨k, hk, rfl, hown, hb⟩ := hrel
    obtain ⟨wo, rfl⟩ : ∃ wo : World, wo = wr := ⟨_, rfl⟩
    by_cases hlt : k < n
    · have hkl : k < formsR.length := by rw [hn.out]; exact hlt
      obtain ⟨g, off, B, d, rfl, _, hg, ⟨c0, c1, c2, c3, c4, c5⟩, _, _⟩ := rules_at (Rep.below hrep hb) k hkl
      have hts : Hid ((formsR.take (k + 1)).map formD = (formsR.take k).map formD ++ [formD formsR[k]]) := by
        refine Lib.hid ?_
        rw [List.take_succ_eq_append_getElem hkl, List.map_append]; rfl
      obtain ⟨r, hre⟩ : ∃ r, Hid (formsR[k] = r) := ⟨_, Lib.hid rfl⟩
      rw [hre.out] at c0 c1 c2 c3 c4 c5 hts
      have hlen : ((formsR.take k).map formD).length ≤ 1000000 := by simp; omega
      clear hrep
      go_wp2_with (at_builtin; go_must (refine append_one rfl (.tmp 10) (.tmp 13) 23 9 1 16 _ rfl Tryd.underlying23 string_info rfl (by decide) (by decide) w1.heap.size (fun g => w.heap.size ≤ g) _ _ rfl (wo.heap.size + 1) rfl ((hown.alloc _).alloc _) [.string ⟨r.form.toArray⟩] (formD r) (BlkIs.fresh1 _ _ _ _) rfl (by simp [Value.oneCell']) (by unfold formD Rep; rfl) (by omega) (by have := hb.size; simp; omega) ?_); intro v2 w2 hown2 hb2 hk2)
      go_roundw
      case rel => exact ⟨k + 1, by omega, by go_num, by rw [hts.out]; exact hown2, ((hb.alloc hb.size _).alloc (by have := hb.size; simp; omega) _).trans hb2⟩
      case measure => simp [intOf]; omega
    · obtain rfl : k = n := by omega
      go_wp2_with fail
      go_ret
      refine ⟨_, rfl, ?_, hb1.trans (hb.mono hb1.size)⟩
      have h1 : formsR.take k = formsR := List.take_of_length_le (by rw [hn.out]; omega)
      rw [h1] at hown
      exact hown.base hb1.size

end Go.Proofs.YthdicdkgfmiepaaDoor

/- slices.Concat of slices of rules. -/
import Derived.Test.YthdicdkgfmiepaaDoorRuF
namespace Go.Proofs.YthdicdkgfmiepaaDoor
open Go.RowKit

def total (L : List (List D)) : Nat := (L.map List.length).sum
theorem total_take (L : List (List D)) (k : Nat) (h : k < L.length) : total (L.take (k + 1)) = total (L.take k) + (L[k]).length := by
  unfold total
  rw [List.take_succ_eq_append_getElem h, List.map_append, List.sum_append]
  simp only [List.map_cons, List.map_nil, List.sum_cons, List.sum_nil, Nat.add_zero]
theorem total_app (L M : List (List D)) : total (L ++ M) = total L + total M := by
  unfold total
  rw [List.map_append, List.sum_append]
theorem total_le (L : List (List D)) (k : Nat) : total (L.take k) ≤ total L := by
  have := total_app (L.take k) (L.drop k)
  rw [List.take_append_drop] at this
  omega
theorem total_flat (L : List (List D)) : L.flatten.length = total L := by
  unfold total
  rw [List.length_flatten]

set_option maxRecDepth 100000 in
set_option maxHeartbeats 2000000 in
theorem concat_any (L : List (List D)) (vs : Array Value) (g : Nat) (B : Nat) (ok : Nat → Prop) (w : World) (hg : BlkIs w g 26 vs) (hvl : vs.size = L.length) (hL : L.length ≤ 1000)
    (hv : ∀ i (h : i < L.length), ∃ v, vs[i]? = some v ∧ Own w B ok 33 6 v L[i]) (h0 : 0 < total L) (ht : total L ≤ 100000) :
    Calls Tryd.prog 73 #[.slice (some ⟨g, 0, none⟩) L.length L.length] w fun e w' => ∃ v, e = .returned v ∧ Own w' w.heap.size ok 33 6 v L.flatten ∧ Below w.heap.size w w' := by
  go_enter Tryd.func73, Tryd.ntmps73
  go_wp2_with fail
  go_loop [3, 5, 11] (fun s _ i => ∃ k : Nat, k ≤ L.length ∧ i = .int .i64 k ∧ s = .int .i64 (total (L.take k) : Nat)) (fun _ _ i => L.length - (intOf i).toNat)
  case atStart => exact ⟨0, by omega, rfl, by simp [total]⟩
  case round =>
    obtain ⟨k, hk, rfl, rfl⟩ := hrel
    have hle := total_le L k
    by_cases hlt : k < L.length
    · obtain ⟨v, hvk, hown⟩ := hv k hlt
      obtain ⟨A, c, rfl, _⟩ := hown.rep.len
      have hc : w.cell? ⟨g, k, none⟩ = some (.slice A (L[k]).length c) := by rw [hg.cell, hvk]
      have htk := total_take L k hlt
      have hle2 := total_le L (k + 1)
      obtain ⟨m, hm⟩ : ∃ m, Hid ((L[k]).length = m) := ⟨_, Lib.hid rfl⟩
      rw [hm.out] at hc htk
      have HT := Lib.hid htk
      have hm2 : total (L.take k) + m ≤ 100000 := by omega
      clear htk hown hvk hv
      go_wp2_with fail
      go_round
      case rel => exact ⟨k + 1, by omega, by go_num, by rw [HT.out]; go_num⟩
      case measure => simp [intOf]; omega
    · obtain rfl : k = L.length := by omega
      rw [List.take_length]
      clear hle hlt hk
      go_wp2_with fail
      refine (grow_nil (total L) h0 ht w).mono ?_
      rintro e w1 ⟨v1, rfl, hown1, hb1⟩
      go_wp2_with fail
      go_loopw [6, 8, 27] (fun v _ i wr => ∃ k : Nat, k ≤ L.length ∧ i = .int .i64 k ∧ Own wr w.heap.size ok 33 6 v (L.take k).flatten ∧ Below w.heap.size w wr) (fun _ _ i _ => L.length - (intOf i).toNat)
      case atStart => exact ⟨0, by omega, rfl, by obtain ⟨xs, h1, h2⟩ := hown1; exact ⟨xs, h1, h2⟩, hb1⟩
      case round =>
        obtain ⟨k, hk, rfl, hown, hb⟩ := hrel
        obtain ⟨wo, rfl⟩ : ∃ wo : World, wo = wr := ⟨_, rfl⟩
        by_cases hlt : k < L.length
        · obtain ⟨v, hvk, hsrc⟩ := hv k hlt
          obtain ⟨A, c, rfl, _⟩ := hsrc.rep.len
          have hc : wo.cell? ⟨g, k, none⟩ = some (.slice A (L[k]).length c) := by rw [hb.cell (by exact hg.lt), hg.cell, hvk]
          have hle := total_le L k
          have hfl := total_flat (L.take k)
          have htk := total_take L k hlt
          have hle2 := total_le L (k + 1)
          have hfs : Hid ((L.take (k + 1)).flatten = (L.take k).flatten ++ L[k]) := by
            refine Lib.hid ?_
            rw [List.take_succ_eq_append_getElem hlt, List.flatten_append]
            simp only [List.flatten_cons, List.flatten_nil, List.append_nil]
          have hlim : (L.take k).flatten.length + (L[k]).length ≤ 1000000000 := by omega
          have hsrc2 : Own wo B (fun q => ok q ∧ q < w.heap.size) 33 6 (.slice A (L[k]).length c) L[k] := (hsrc.imp (ok' := fun q => ok q ∧ q < w.heap.size) (fun q hq hl => ⟨hq, hl⟩)).below hb
          clear hvk hsrc hv htk hle2 hle hfl
          go_wp2_with (at_builtin; go_must (refine append_all rfl (.tmp 31) (.tmp 32) 26 33 6 72 _ rfl Tryd.underlying26 rule_info rfl (by decide) (by decide) w.heap.size ok _ _ rfl _ rfl hown B (fun q => ok q ∧ q < w.heap.size) L[k] hsrc2 (fun q hq => ⟨hq.1, fun e => absurd (hown.ge q e.symm) (by omega)⟩) hlim hb.size ?_); intro v2 w2 hown2 hb2 hk2)
          go_roundw
          case rel => exact ⟨k + 1, by omega, by go_num, by rw [hfs.out]; exact hown2, hb.trans hb2⟩
          case measure => simp [intOf]; omega
        · obtain rfl : k = L.length := by omega
          rw [List.take_length] at hown
          go_wp2_with fail
          go_ret
          exact ⟨_, rfl, hown, hb⟩

end Go.Proofs.YthdicdkgfmiepaaDoor

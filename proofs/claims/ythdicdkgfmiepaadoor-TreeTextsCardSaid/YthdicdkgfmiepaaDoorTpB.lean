/- How many nodes a tree has: tree.Nodes, tree.Size walked. -/
import Derived.Test.YthdicdkgfmiepaaDoorTpA
namespace Go.Proofs.YthdicdkgfmiepaaDoor
open Go.RowKit

def NodesOk (p : Pat) : Prop := ∀ (A : Option Addr) (c : Nat) (w : World), PatIn w A c p → patN p ≤ 1000 →
  Calls Tryd.prog 55 #[.agg #[.int .i64 p.op, .int .i64 p.nt, .slice A p.kids.length c]] w fun e w' => e = .returned (.int .i64 (patN p)) ∧ Below w.heap.size w w'

set_option maxHeartbeats 1000000 in
theorem nodes_of (p : Pat) (ih : ∀ i (h : i < p.kids.length), NodesOk p.kids[i]) : NodesOk p := by
  intro A c w hp hmost
  have hkp := hp.kids
  have hle := hkp.le
  unfold maxLen at hle
  have hN := Lib.hid (patN_eq p)
  have htot : patsN p.kids ≤ 1000 := by rw [patN_eq] at hmost; omega
  obtain ⟨n, hn⟩ : ∃ n, Hid (p.kids.length = n) := ⟨_, Lib.hid rfl⟩
  obtain ⟨op, hop⟩ : ∃ x, Hid (p.op = x) := ⟨_, Lib.hid rfl⟩
  obtain ⟨nt, hnt⟩ : ∃ x, Hid (p.nt = x) := ⟨_, Lib.hid rfl⟩
  obtain ⟨tot, ht⟩ : ∃ x, Hid (patN p = x) := ⟨_, Lib.hid rfl⟩
  have HK : Hid (PatsIn w A c p.kids) := Lib.hid hkp
  have HT : Hid (patsN p.kids ≤ 1000) := Lib.hid htot
  rw [hn.out] at hle
  rw [hn.out, hop.out, hnt.out, ht.out]
  clear hp hkp hmost htot
  have hb0 := below_alloc w (.cells #[.int .i64 op, .int .i64 nt, .slice A n c] 55)
  go_enter Tryd.func55, Tryd.ntmps55
  go_wp2_with fail
  go_loopw [3, 9] (fun s i wr => ∃ k m : Nat, k ≤ n ∧ i = .int .i64 k ∧ s = .int .i64 m ∧ m ≤ 1001 ∧ Hid (m = 1 + patsN (p.kids.take k)) ∧ Below w.heap.size w wr) (fun _ i _ => n - (intOf i).toNat)
  case atStart => exact ⟨0, 1, by omega, rfl, rfl, by omega, Lib.hid (by simp [patsN]), hb0⟩
  case round =>
    obtain ⟨k, m, hk, rfl, rfl, hm, hmN, hb⟩ := hrel
    obtain ⟨wo, rfl⟩ : ∃ wo : World, wo = wr := ⟨_, rfl⟩
    by_cases hlt : k < n
    · have hkl : k < p.kids.length := by rw [hn.out]; exact hlt
      obtain ⟨ok, hps⟩ := HK.out.below hb
      obtain ⟨g, off, B, c', rfl, _, hg, ⟨a0, a1, a2⟩, hpi⟩ := pats_at hps k hkl
      have hcall := fun W => ih k hkl B c' W
      have htk := patsN_take p.kids k hkl
      have hle2 := patsN_take_le p.kids (k + 1)
      obtain ⟨q, hq⟩ : ∃ q, Hid (p.kids[k] = q) := ⟨_, Lib.hid rfl⟩
      rw [hq.out] at a0 a1 a2 hpi hcall htk
      have HQ : Hid (PatIn wo B c' q) := Lib.hid ⟨_, hpi⟩
      have hbz := hb.size
      clear hps hpi
      have hx1 : m + patN q ≤ 1001 := by have := hmN.out; have := HT.out; omega
      have hx2 : patN q ≤ 1000 := by have := hmN.out; omega
      have HX : Hid (m + patN q = 1 + patsN (p.kids.take (k + 1))) := Lib.hid (by rw [htk, hmN.out]; omega)
      obtain ⟨x, hxe⟩ : ∃ x, Hid (patN q = x) := ⟨_, Lib.hid rfl⟩
      rw [hxe.out] at hcall hx1 hx2 HX
      clear htk hle2
      go_wp2_with fail
      refine (hcall _ (HQ.out.below (below_alloc _ _)) (by omega)).mono ?_
      rintro e w3 ⟨rfl, hb3⟩
      go_wp2_with fail
      go_roundw
      case rel =>
        exact ⟨k + 1, m + x, by omega, by go_num, by go_num, by omega, HX, hb.trans (((below_alloc _ _).mono hbz).trans (hb3.mono (by simp; omega)))⟩
      case measure => simp [intOf]; omega
    · obtain rfl : k = n := by omega
      have hs : Hid (tot = m) := Lib.hid (by
        have h1 : p.kids.take k = p.kids := List.take_of_length_le (by rw [hn.out]; omega)
        have h2 := hmN.out
        rw [h1] at h2
        rw [← ht.out, hN.out, h2])
      go_wp2_with fail
      go_ret
      exact ⟨ret_int (by rw [hs.out]), hb⟩

theorem nodes_any : ∀ p : Pat, NodesOk p
  | .mk op nt kids => nodes_of _ fun i h => nodes_any kids[i]
termination_by p => SizeOf.sizeOf p
decreasing_by
  have := List.sizeOf_lt_of_mem (List.getElem_mem h)
  simp only [Pat.kids] at this
  simp only [Pat.mk.sizeOf_spec]
  omega

end Go.Proofs.YthdicdkgfmiepaaDoor

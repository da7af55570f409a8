/- Which trees may be, by the reference: gantletref6.count walked; tree.May, gantletref6.Tree. -/
import Derived.Test.YthdicdkgfmiepaaDoorCvB
namespace Go.Proofs.YthdicdkgfmiepaaDoor
open Go.RowKit

def fitT (p : Pat) (n : Int) : Bool := treeOk p && decide (n + (patN p : Int) ≤ 200)
def FitTPost (p : Pat) (n : Int) (b : Bool) (w : World) (e : Ending) (w' : World) : Prop := ∃ m : Int, e = .returned (.tuple #[.int .i64 m, .bool b]) ∧ (b = true → m = n + (patN p : Int)) ∧ Below w.heap.size w w'

def FitTOk (p : Pat) : Prop := ∀ (A : Option Addr) (c : Nat) (n : Int) (w : World), PatIn w A c p → 0 ≤ n → n ≤ 200 →
  Calls Tryd.prog 58 #[.agg #[.int .i64 p.op, .int .i64 p.nt, .slice A p.kids.length c], .int .i64 n] w (FitTPost p n (fitT p n) w)

theorem topOk_kids (op nt : Int) (n : Nat) : topOk op nt n = (decide ((n : Int) = kidsOf op) && ((decide (op ≤ 4) || decide (nt = 0)) && (decide (op = 1) || decide (0 ≤ nt)))) := by
  unfold topOk kidsOf isOp isLeaf
  by_cases h1 : 1 ≤ op
  · by_cases h2 : op ≤ 36
    · by_cases h3 : op ≤ 4
      · simp [h1, h2, h3]
      · by_cases h4 : nt = 0
        · simp [h1, h2, h3, h4]
        · simp [h1, h2, h3, h4]
    · simp [h2]
  · simp [h1]

set_option maxRecDepth 100000 in
set_option maxHeartbeats 4000000 in
theorem fitT_of (p : Pat) (ih : ∀ i (h : i < p.kids.length), FitTOk p.kids[i]) : FitTOk p := by
  intro A c n0 w hp hm1 hm2
  have hkp := hp.kids
  have hle := hkp.le
  unfold maxLen at hle
  have hok := Lib.hid (treeOk_eq p)
  have hN := Lib.hid (patN_eq p)
  have hpos := patN_pos p
  obtain ⟨n, hn⟩ : ∃ n, Hid (p.kids.length = n) := ⟨_, Lib.hid rfl⟩
  obtain ⟨op, hop⟩ : ∃ x, Hid (p.op = x) := ⟨_, Lib.hid rfl⟩
  obtain ⟨nt, hnt⟩ : ∃ x, Hid (p.nt = x) := ⟨_, Lib.hid rfl⟩
  obtain ⟨f, hf⟩ : ∃ x, Hid (fitT p n0 = x) := ⟨_, Lib.hid rfl⟩
  have HK : Hid (PatsIn w A c p.kids) := Lib.hid hkp
  rw [hn.out] at hle
  rw [hn.out, hop.out, hnt.out, hf.out]
  clear hp hkp
  have hb0 := below_alloc w (.cells #[.int .i64 op, .int .i64 nt, .slice A n c] 55)
  obtain ⟨bad, hbad⟩ : ∃ b, Hid (b = !(topOk op nt n && decide (n0 + 1 ≤ 200))) := ⟨_, Lib.hid rfl⟩
  have c2 := fun W => kidsR_any op W
  obtain ⟨a, ha⟩ : ∃ a, Hid (kidsOf op = a) := ⟨_, Lib.hid rfl⟩
  rw [ha.out] at c2
  have hbe : Hid (bad = !((decide ((n : Int) = a) && ((decide (op ≤ 4) || decide (nt = 0)) && (decide (op = 1) || decide (0 ≤ nt)))) && decide (n0 + 1 ≤ 200))) := Lib.hid (by rw [hbad.out, topOk_kids, ha.out])
  go_enter Tryd.func58, Tryd.ntmps58
  go_upto_region 2 with fail
  go_cut [41] (fun s wx => s = .bool bad ∧ Below w.heap.size w wx ∧ wx.cell? ⟨w.heap.size, 2, none⟩ = some (.slice A n c) ∧ w.heap.size < wx.heap.size)
  case first =>
    obtain ⟨w1, hw1⟩ : ∃ w1, w1 = w.alloc (.cells #[.int .i64 op, .int .i64 nt, .slice A n c] 55) := ⟨_, rfl⟩
    have r0 : w1.cell? ⟨w.heap.size, 0, none⟩ = some (.int .i64 op) := by rw [hw1]; simp
    have r1 : w1.cell? ⟨w.heap.size, 1, none⟩ = some (.int .i64 nt) := by rw [hw1]; simp
    have r2 : w1.cell? ⟨w.heap.size, 2, none⟩ = some (.slice A n c) := by rw [hw1]; simp
    have hlt1 : w.heap.size < w1.heap.size := by rw [hw1]; simp
    rw [← hw1] at hb0
    rw [← hw1]
    clear hw1
    by_cases h4 : 200 < n0 + 1
    · have h4d : decide (200 < n0 + 1) = true := by simpa using h4
      have hv : bad = true := by rw [hbe.out]; first | grind | (simp; omega)
      subst hv
      go_quiet ((go_at_call 97; exact Calls.quiet_of_same ((c2 _).mono fun _ _ h => ⟨h.1, h.2.symm⟩)))
      go_wp2_with fail
      go_meet
      exact ⟨rfl, below_drewsN hb0 _, cell_drewN r2 _, hlt1⟩
    · have h4d : decide (200 < n0 + 1) = false := by simpa using h4
      by_cases h2 : (n : Int) = a
      · have h2e : ((n : Int) == a) = true := by simpa using h2
        have h2n : ((n : Int) != a) = false := by simp [h2]
        have H2 := Lib.hid h2
        by_cases h5 : op = 1
        · have h5e : (op == 1) = true := by simpa using h5
          have h5n : (op != 1) = false := by simp [h5]
          have h3d : decide (4 < op) = false := by simp; omega
          have hv : bad = false := by rw [hbe.out, h5]; simp; omega
          clear h5 h2
          subst hv
          go_quiet ((go_at_call 97; exact Calls.quiet_of_same ((c2 _).mono fun _ _ h => ⟨h.1, h.2.symm⟩)))
          go_wp2_with fail
          go_meet
          exact ⟨rfl, below_drewsN hb0 _, cell_drewN r2 _, hlt1⟩
        · have h5e : (op == 1) = false := by simpa using h5
          have h5n : (op != 1) = true := by simp [h5]
          by_cases h3 : 4 < op
          · have h3d : decide (4 < op) = true := by simpa using h3
            by_cases h6 : nt = 0
            · subst h6
              have hv : bad = false := by rw [hbe.out]; simp; omega
              clear h2
              subst hv
              go_quiet ((go_at_call 97; exact Calls.quiet_of_same ((c2 _).mono fun _ _ h => ⟨h.1, h.2.symm⟩)))
              go_wp2_with fail
              go_meet
              exact ⟨rfl, below_drewsN hb0 _, cell_drewN r2 _, hlt1⟩
            · have h6e : (nt == 0) = false := by simpa using h6
              have h6n : (nt != 0) = true := by simp [h6]
              have hv : bad = true := by rw [hbe.out]; simp; omega
              clear h2
              subst hv
              go_quiet ((go_at_call 97; exact Calls.quiet_of_same ((c2 _).mono fun _ _ h => ⟨h.1, h.2.symm⟩)))
              go_wp2_with fail
              go_meet
              exact ⟨rfl, below_drewsN hb0 _, cell_drewN r2 _, hlt1⟩
          · have h3d : decide (4 < op) = false := by simpa using h3
            by_cases h6 : nt < 0
            · have h6d : decide (nt < 0) = true := by simpa using h6
              have hv : bad = true := by rw [hbe.out]; simp; omega
              clear h2
              subst hv
              go_quiet ((go_at_call 97; exact Calls.quiet_of_same ((c2 _).mono fun _ _ h => ⟨h.1, h.2.symm⟩)))
              go_wp2_with fail
              go_meet
              exact ⟨rfl, below_drewsN hb0 _, cell_drewN r2 _, hlt1⟩
            · have h6d : decide (nt < 0) = false := by simpa using h6
              have hv : bad = false := by rw [hbe.out]; simp; omega
              clear h2
              subst hv
              go_quiet ((go_at_call 97; exact Calls.quiet_of_same ((c2 _).mono fun _ _ h => ⟨h.1, h.2.symm⟩)))
              go_wp2_with fail
              go_meet
              exact ⟨rfl, below_drewsN hb0 _, cell_drewN r2 _, hlt1⟩
      · have h2e : ((n : Int) == a) = false := by simpa using h2
        have h2n : ((n : Int) != a) = true := by simp [h2]
        have hv : bad = true := by rw [hbe.out]; first | grind | (simp; omega)
        subst hv
        go_quiet ((go_at_call 97; exact Calls.quiet_of_same ((c2 _).mono fun _ _ h => ⟨h.1, h.2.symm⟩)))
        go_wp2_with fail
        go_meet
        exact ⟨rfl, below_drewsN hb0 _, cell_drewN r2 _, hlt1⟩
  case rest =>
    obtain ⟨rfl, hb1, hx2⟩ := hcut
    cases hbv : bad
    · have htop : topOk op nt n = true ∧ n0 + 1 ≤ 200 := by
        have h1 := hbad.out
        rw [hbv] at h1
        simpa using h1.symm
      obtain ⟨htop, hmost⟩ := htop
      have hokk : Hid (treeOk p = true ↔ treesOk p.kids = true) := Lib.hid (by rw [hok.out, hop.out, hnt.out, hn.out, htop]; simp)
      clear hbe hbad htop c2 hbv
      go_wp2_with fail
      have hbk := hx2
      go_loopw [1, 6] (fun s i wr => ∃ k m : Nat, k ≤ n ∧ i = .int .i64 k ∧ s = .int .i64 (n0 + m) ∧ 1 ≤ m ∧ n0 + (m : Int) ≤ 200 ∧ Hid (m = 1 + patsN (p.kids.take k)) ∧ Below w.heap.size w wr ∧ (wr.cell? ⟨w.heap.size, 2, none⟩ = some (.slice A n c) ∧ w.heap.size < wr.heap.size) ∧ Hid (∀ j (h : j < p.kids.length), j < k → treeOk p.kids[j] = true)) (fun _ i _ => n - (intOf i).toNat)
      case atStart => exact ⟨0, 1, by omega, rfl, rfl, by omega, by omega, Lib.hid (by simp [patsN]), hb1, hbk, Lib.hid (fun j _ h => absurd h (by omega))⟩
      case round =>
        obtain ⟨k, m, hk, rfl, rfl, hm0, hmm, hmN, hb, ⟨hcx, hcz⟩, hall⟩ := hrel
        obtain ⟨wo, rfl⟩ : ∃ wo : World, wo = wr := ⟨_, rfl⟩
        clear hb1 hx2 hbk
        by_cases hlt : k < n
        · have hkl : k < p.kids.length := by rw [hn.out]; exact hlt
          obtain ⟨ok, hps⟩ := HK.out.below hb
          obtain ⟨g, off, B, c', rfl, _, hg, ⟨a0, a1, a2⟩, hpi⟩ := pats_at hps k hkl
          have hcall := fun W => ih k hkl B c' (n0 + m) W
          have htk := Lib.hid (patsN_take p.kids k hkl)
          have hle2 := Lib.hid (patsN_take_le p.kids (k + 1))
          obtain ⟨q, hq⟩ : ∃ q, Hid (p.kids[k] = q) := ⟨_, Lib.hid rfl⟩
          rw [hq.out] at a0 a1 a2 hpi hcall htk
          have HQ : Hid (PatIn wo B c' q) := Lib.hid ⟨_, hpi⟩
          have hbz := hb.size
          clear hps hpi
          obtain ⟨fq, hfq⟩ : ∃ x, Hid (fitT q (n0 + m) = x) := ⟨_, Lib.hid rfl⟩
          rw [hfq.out] at hcall
          cases fq
          · obtain rfl : f = false := by
              rw [← hf.out]; unfold fitT
              have h1 := hfq.out
              unfold fitT at h1
              rw [Bool.and_eq_false_iff]
              by_cases hpo : treeOk p = true
              · right
                have h2 := (hokk.out.1 hpo)
                rw [treesOk_iff] at h2
                have h3 := h2 k hkl
                rw [hq.out] at h3
                rw [h3] at h1
                simp only [Bool.true_and, decide_eq_false_iff_not] at h1
                rw [decide_eq_false_iff_not, hN.out]
                have h4 := htk.out
                have h5 := hle2.out
                have h6 := hmN.out
                omega
              · left; simpa using hpo
            go_wp2_with fail
            refine (hcall _ HQ.out (by omega) (by omega)).mono ?_
            rintro e w3 ⟨m2, rfl, _, hb3⟩
            go_wp2_with fail
            go_ret2
            exact ⟨_, rfl, fun h => Bool.noConfusion h, hb.trans (hb3.mono hbz)⟩
          · have h1 := hfq.out
            unfold fitT at h1
            rw [Bool.and_eq_true, decide_eq_true_eq] at h1
            obtain ⟨hqo, hqm⟩ := h1
            obtain ⟨x, hxe⟩ : ∃ x, Hid (patN q = x) := ⟨_, Lib.hid rfl⟩
            rw [hxe.out] at hqm
            have hqo := Lib.hid hqo
            go_wp2_with fail
            refine (hcall _ HQ.out (by omega) (by omega)).mono ?_
            rintro e w3 ⟨m2, rfl, hm2e, hb3⟩
            obtain rfl : m2 = n0 + m + x := by rw [hm2e rfl, hxe.out]
            clear hm2e hcall
            go_wp2_with fail
            go_roundw
            case rel =>
              refine ⟨k + 1, m + x, by omega, by go_num, by rw [show n0 + (m : Int) + (x : Int) = n0 + ((m + x : Nat) : Int) by omega], by omega, by omega, Lib.hid (by rw [htk.out, hmN.out, hxe.out]; omega), hb.trans (hb3.mono hbz), ⟨cell_later hb3 hcx, by have := hb3.size; omega⟩, Lib.hid (fun j hj hjk => ?_)⟩
              by_cases e : j = k
              · subst e; rw [hq.out]; exact hqo.out
              · exact hall.out j hj (by omega)
            case measure => simp [intOf]; omega
        · obtain rfl : k = n := by omega
          have hpn : Hid (patN p = m) := Lib.hid (by
            have h1 : p.kids.take k = p.kids := List.take_of_length_le (by rw [hn.out]; omega)
            have h2 := hmN.out
            rw [h1] at h2
            rw [hN.out, h2])
          obtain rfl : f = true := by
            rw [← hf.out]; unfold fitT
            rw [Bool.and_eq_true, hokk.out, treesOk_iff, decide_eq_true_eq, hpn.out]
            exact ⟨fun j hj => hall.out j hj (by rw [← hn.out]; exact hj), hmm⟩
          go_wp2_with fail
          go_ret2
          exact ⟨_, rfl, fun _ => by rw [hpn.out], hb⟩
    · obtain rfl : f = false := by
        rw [← hf.out]; unfold fitT
        rw [hok.out, hop.out, hnt.out, hn.out]
        have h3 := hbad.out
        rw [hbv] at h3
        by_cases ht : topOk op nt n = true
        · rw [ht] at h3
          simp at h3
          simp
          intro _ _
          omega
        · simp at ht
          rw [ht]; rfl
      go_wp2_with fail
      go_ret2
      exact ⟨_, rfl, fun h => Bool.noConfusion h, hb1⟩

theorem fitT_any : ∀ p : Pat, FitTOk p
  | .mk op nt kids => fitT_of _ fun i h => fitT_any kids[i]
termination_by p => SizeOf.sizeOf p
decreasing_by
  have := List.sizeOf_lt_of_mem (List.getElem_mem h)
  simp only [Pat.kids] at this
  simp only [Pat.mk.sizeOf_spec]
  omega

/-- may a tree be? -/
def mayT (p : Pat) : Bool := fitT p 0

theorem sizeT_pos (p : Pat) : 0 < sizeT p 200 ↔ mayT p = true := by
  unfold sizeT mayT fitT
  have := patN_pos p
  by_cases h : treeOk p = true ∧ (patN p : Int) ≤ 200
  · rw [if_pos h]
    simp [h.1]; omega
  · rw [if_neg h]
    simp
    intro h1
    by_cases h2 : (patN p : Int) ≤ 200
    · exact absurd ⟨h1, h2⟩ h
    · omega

set_option maxHeartbeats 1000000 in
theorem mayT_any (p : Pat) (A : Option Addr) (c : Nat) (w : World) (hp : PatIn w A c p) :
    Calls Tryd.prog 54 #[.agg #[.int .i64 p.op, .int .i64 p.nt, .slice A p.kids.length c]] w (SomeBoolBelow (mayT p) w) := by
  have hc := fun W => sizeT_any p A c 200 W
  have hpos := sizeT_pos p
  have HP := Lib.hid hp
  clear hp
  obtain ⟨z, hz⟩ : ∃ z, Hid (sizeT p 200 = z) := ⟨_, Lib.hid rfl⟩
  rw [hz.out] at hc hpos
  obtain ⟨b, hb⟩ : ∃ b, Hid (mayT p = b) := ⟨_, Lib.hid rfl⟩
  rw [hb.out] at hpos ⊢
  have HB := Lib.hid hpos
  clear hpos
  go_enter Tryd.func54, Tryd.ntmps54
  go_wp2_with fail
  refine (hc _ (HP.out.below (below_alloc _ _)) (by omega) (by omega)).mono ?_
  rintro e w1 ⟨rfl, hb1⟩
  go_wp2_with fail
  go_ret
  refine ⟨ret_bool ?_, (below_alloc _ _).trans (hb1.mono (by simp))⟩
  have := HB.out
  cases b <;> simp_all

set_option maxHeartbeats 1000000 in
theorem mayTR_any (p : Pat) (A : Option Addr) (c : Nat) (w : World) (hp : PatIn w A c p) :
    Calls Tryd.prog 26 #[.agg #[.int .i64 p.op, .int .i64 p.nt, .slice A p.kids.length c]] w (FitTPost p 0 (mayT p) w) := by
  have hc := fun W => fitT_any p A c 0 W
  have HP := Lib.hid hp
  clear hp
  go_enter Tryd.func26, Tryd.ntmps26
  go_wp2_with fail
  refine (hc _ (HP.out.below (below_alloc _ _)) (by omega) (by omega)).mono ?_
  rintro e w1 ⟨m, rfl, h1, hb1⟩
  go_wp2_with fail
  go_ret2
  exact ⟨m, rfl, h1, (below_alloc _ _).trans (hb1.mono (by simp))⟩

end Go.Proofs.YthdicdkgfmiepaaDoor

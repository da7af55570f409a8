/- Which trees may be: tree.size, tree.May walked. -/
import Derived.Test.YthdicdkgfmiepaaDoorCvA
namespace Go.Proofs.YthdicdkgfmiepaaDoor
open Go.RowKit

/-- may a node be, but for its kids? (N: in the place of a pattern's nonterminal) -/
def topOk (op n : Int) (kids : Nat) : Bool := isOp op && (decide ((kids : Int) = arityOf op) && ((isLeaf op || decide (n = 0)) && (!isLeaf op || (decide (op = 1) || decide (0 ≤ n)))))
mutual
def treeOk : Pat → Bool
  | .mk op n ks => topOk op n ks.length && treesOk ks
def treesOk : List Pat → Bool
  | [] => true
  | p :: ps => treeOk p && treesOk ps
end
theorem treeOk_eq (p : Pat) : treeOk p = (topOk p.op p.nt p.kids.length && treesOk p.kids) := by
  cases p; unfold treeOk; rfl
theorem treesOk_iff : ∀ ps : List Pat, treesOk ps = true ↔ ∀ j (h : j < ps.length), treeOk ps[j] = true
  | [] => by simp [treesOk]
  | p :: ps => by
    unfold treesOk
    rw [Bool.and_eq_true, treesOk_iff ps]
    constructor
    · rintro ⟨h1, h2⟩ j hj
      cases j with
      | zero => exact h1
      | succ j => exact h2 j (by simpa using hj)
    · intro h
      exact ⟨h 0 (by simp), fun j hj => h (j + 1) (by simpa using hj)⟩

def sizeT (p : Pat) (most : Int) : Int := if treeOk p = true ∧ (patN p : Int) ≤ most then patN p else -1

def SizeTOk (p : Pat) : Prop := ∀ (A : Option Addr) (c : Nat) (most : Int) (w : World), PatIn w A c p → -1000 ≤ most → most ≤ 1000 →
  Calls Tryd.prog 93 #[.agg #[.int .i64 p.op, .int .i64 p.nt, .slice A p.kids.length c], .int .i64 most] w fun e w' => e = .returned (.int .i64 (sizeT p most)) ∧ Below w.heap.size w w'

set_option maxRecDepth 100000 in
set_option maxHeartbeats 4000000 in
theorem sizeT_of (p : Pat) (ih : ∀ i (h : i < p.kids.length), SizeTOk p.kids[i]) : SizeTOk p := by
  intro A c most w hp hm1 hm2
  have hkp := hp.kids
  have hle := hkp.le
  unfold maxLen at hle
  have hok := Lib.hid (treeOk_eq p)
  have hN := Lib.hid (patN_eq p)
  have hpos := patN_pos p
  obtain ⟨n, hn⟩ : ∃ n, Hid (p.kids.length = n) := ⟨_, Lib.hid rfl⟩
  obtain ⟨op, hop⟩ : ∃ x, Hid (p.op = x) := ⟨_, Lib.hid rfl⟩
  obtain ⟨nt, hnt⟩ : ∃ x, Hid (p.nt = x) := ⟨_, Lib.hid rfl⟩
  have HK : Hid (PatsIn w A c p.kids) := Lib.hid hkp
  rw [hn.out] at hle
  rw [hn.out, hop.out, hnt.out]
  clear hp hkp
  have hb0 := below_alloc w (.cells #[.int .i64 op, .int .i64 nt, .slice A n c] 55)
  obtain ⟨bad, hbad⟩ : ∃ b, Hid (b = !(topOk op nt n && decide (1 ≤ most))) := ⟨_, Lib.hid rfl⟩
  have c1 := fun W => isOp_any op W
  have c2 := fun W => arity_any op W
  have c3 := fun W => isLeaf_any op W
  obtain ⟨a, ha⟩ : ∃ a, Hid (arityOf op = a) := ⟨_, Lib.hid rfl⟩
  obtain ⟨o, ho⟩ : ∃ o, Hid (isOp op = o) := ⟨_, Lib.hid rfl⟩
  obtain ⟨lf, hlf⟩ : ∃ o, Hid (isLeaf op = o) := ⟨_, Lib.hid rfl⟩
  rw [ho.out] at c1
  rw [ha.out] at c2
  rw [hlf.out] at c3
  have hbe : Hid (bad = !((o && (decide ((n : Int) = a) && ((lf || decide (nt = 0)) && (!lf || (decide (op = 1) || decide (0 ≤ nt)))))) && decide (1 ≤ most))) := Lib.hid (by rw [hbad.out]; unfold topOk; rw [ho.out, ha.out, hlf.out])
  go_enter Tryd.func93, Tryd.ntmps93
  go_upto_region 1 with fail
  go_cut [51] (fun s wx => s = .bool bad ∧ Below w.heap.size w wx ∧ wx.cell? ⟨w.heap.size, 2, none⟩ = some (.slice A n c))
  case first =>
    obtain ⟨w1, hw1⟩ : ∃ w1, w1 = w.alloc (.cells #[.int .i64 op, .int .i64 nt, .slice A n c] 55) := ⟨_, rfl⟩
    have r0 : w1.cell? ⟨w.heap.size, 0, none⟩ = some (.int .i64 op) := by rw [hw1]; simp
    have r1 : w1.cell? ⟨w.heap.size, 1, none⟩ = some (.int .i64 nt) := by rw [hw1]; simp
    have r2 : w1.cell? ⟨w.heap.size, 2, none⟩ = some (.slice A n c) := by rw [hw1]; simp
    have hlt1 : w.heap.size < w1.heap.size := by rw [hw1]; simp
    rw [← hw1] at hb0
    rw [← hw1]
    clear hw1
    rcases (by cases o <;> simp : o = false ∨ o = true) with rfl | rfl
    · have hv : bad = true := by rw [hbe.out]; first | grind | (simp)
      subst hv
      go_quiet ((first | (go_at_call 114; exact Calls.quiet_of_same ((c1 _).mono fun _ _ h => ⟨h.1, h.2.symm⟩)) | (go_at_call 105; exact Calls.quiet_of_same ((c2 _).mono fun _ _ h => ⟨h.1, h.2.symm⟩)) | (go_at_call 94; exact Calls.quiet_of_same ((c3 _).mono fun _ _ h => ⟨h.1, h.2.symm⟩))))
      go_wp2_with fail
      go_meet
      exact ⟨rfl, below_drewsN hb0 _, cell_drewN r2 _⟩
    · by_cases h2 : (n : Int) = a
      · have h2e : ((n : Int) == a) = true := by simpa using h2
        have h2n : ((n : Int) != a) = false := by simp [h2]
        have H2 := Lib.hid h2
        clear h2
        rcases (by cases lf <;> simp : lf = false ∨ lf = true) with rfl | rfl
        · by_cases h3 : nt = 0
          · subst h3
            by_cases h4 : most < 1
            · have h4d : decide (most < 1) = true := by simpa using h4
              have hv : bad = true := by rw [hbe.out]; first | grind | (simp; omega)
              subst hv
              go_quiet ((first | (go_at_call 114; exact Calls.quiet_of_same ((c1 _).mono fun _ _ h => ⟨h.1, h.2.symm⟩)) | (go_at_call 105; exact Calls.quiet_of_same ((c2 _).mono fun _ _ h => ⟨h.1, h.2.symm⟩)) | (go_at_call 94; exact Calls.quiet_of_same ((c3 _).mono fun _ _ h => ⟨h.1, h.2.symm⟩))))
              go_wp2_with fail
              go_meet
              exact ⟨rfl, below_drewsN hb0 _, cell_drewN r2 _⟩
            · have h4d : decide (most < 1) = false := by simpa using h4
              have hv : bad = false := by rw [hbe.out]; first | grind | (simp [H2.out]; omega)
              subst hv
              go_quiet ((first | (go_at_call 114; exact Calls.quiet_of_same ((c1 _).mono fun _ _ h => ⟨h.1, h.2.symm⟩)) | (go_at_call 105; exact Calls.quiet_of_same ((c2 _).mono fun _ _ h => ⟨h.1, h.2.symm⟩)) | (go_at_call 94; exact Calls.quiet_of_same ((c3 _).mono fun _ _ h => ⟨h.1, h.2.symm⟩))))
              go_wp2_with fail
              go_meet
              exact ⟨rfl, below_drewsN hb0 _, cell_drewN r2 _⟩
          · have h3e : (nt == 0) = false := by simpa using h3
            have h3n : (nt != 0) = true := by simp [h3]
            have hv : bad = true := by rw [hbe.out]; first | grind | (simp; omega)
            subst hv
            go_quiet ((first | (go_at_call 114; exact Calls.quiet_of_same ((c1 _).mono fun _ _ h => ⟨h.1, h.2.symm⟩)) | (go_at_call 105; exact Calls.quiet_of_same ((c2 _).mono fun _ _ h => ⟨h.1, h.2.symm⟩)) | (go_at_call 94; exact Calls.quiet_of_same ((c3 _).mono fun _ _ h => ⟨h.1, h.2.symm⟩))))
            go_wp2_with fail
            go_meet
            exact ⟨rfl, below_drewsN hb0 _, cell_drewN r2 _⟩
        · by_cases h5 : op = 1
          · have h5e : (op == 1) = true := by simpa using h5
            have h5n : (op != 1) = false := by simp [h5]
            have H5 := Lib.hid h5
            clear h5
            by_cases h4 : most < 1
            · have h4d : decide (most < 1) = true := by simpa using h4
              have hv : bad = true := by rw [hbe.out]; first | grind | (simp; omega)
              subst hv
              go_quiet ((first | (go_at_call 114; exact Calls.quiet_of_same ((c1 _).mono fun _ _ h => ⟨h.1, h.2.symm⟩)) | (go_at_call 105; exact Calls.quiet_of_same ((c2 _).mono fun _ _ h => ⟨h.1, h.2.symm⟩)) | (go_at_call 94; exact Calls.quiet_of_same ((c3 _).mono fun _ _ h => ⟨h.1, h.2.symm⟩))))
              go_wp2_with fail
              go_meet
              exact ⟨rfl, below_drewsN hb0 _, cell_drewN r2 _⟩
            · have h4d : decide (most < 1) = false := by simpa using h4
              have hv : bad = false := by rw [hbe.out]; first | grind | (simp [H2.out, H5.out]; omega)
              subst hv
              go_quiet ((first | (go_at_call 114; exact Calls.quiet_of_same ((c1 _).mono fun _ _ h => ⟨h.1, h.2.symm⟩)) | (go_at_call 105; exact Calls.quiet_of_same ((c2 _).mono fun _ _ h => ⟨h.1, h.2.symm⟩)) | (go_at_call 94; exact Calls.quiet_of_same ((c3 _).mono fun _ _ h => ⟨h.1, h.2.symm⟩))))
              go_wp2_with fail
              go_meet
              exact ⟨rfl, below_drewsN hb0 _, cell_drewN r2 _⟩
          · have h5e : (op == 1) = false := by simpa using h5
            have h5n : (op != 1) = true := by simp [h5]
            by_cases h6 : nt < 0
            · have h6d : decide (nt < 0) = true := by simpa using h6
              have hv : bad = true := by rw [hbe.out]; first | grind | (simp; omega)
              subst hv
              go_quiet ((first | (go_at_call 114; exact Calls.quiet_of_same ((c1 _).mono fun _ _ h => ⟨h.1, h.2.symm⟩)) | (go_at_call 105; exact Calls.quiet_of_same ((c2 _).mono fun _ _ h => ⟨h.1, h.2.symm⟩)) | (go_at_call 94; exact Calls.quiet_of_same ((c3 _).mono fun _ _ h => ⟨h.1, h.2.symm⟩))))
              go_wp2_with fail
              go_meet
              exact ⟨rfl, below_drewsN hb0 _, cell_drewN r2 _⟩
            · have h6d : decide (nt < 0) = false := by simpa using h6
              by_cases h4 : most < 1
              · have h4d : decide (most < 1) = true := by simpa using h4
                have hv : bad = true := by rw [hbe.out]; first | grind | (simp; omega)
                subst hv
                go_quiet ((first | (go_at_call 114; exact Calls.quiet_of_same ((c1 _).mono fun _ _ h => ⟨h.1, h.2.symm⟩)) | (go_at_call 105; exact Calls.quiet_of_same ((c2 _).mono fun _ _ h => ⟨h.1, h.2.symm⟩)) | (go_at_call 94; exact Calls.quiet_of_same ((c3 _).mono fun _ _ h => ⟨h.1, h.2.symm⟩))))
                go_wp2_with fail
                go_meet
                exact ⟨rfl, below_drewsN hb0 _, cell_drewN r2 _⟩
              · have h4d : decide (most < 1) = false := by simpa using h4
                have hv : bad = false := by rw [hbe.out]; first | grind | (simp [H2.out]; omega)
                subst hv
                go_quiet ((first | (go_at_call 114; exact Calls.quiet_of_same ((c1 _).mono fun _ _ h => ⟨h.1, h.2.symm⟩)) | (go_at_call 105; exact Calls.quiet_of_same ((c2 _).mono fun _ _ h => ⟨h.1, h.2.symm⟩)) | (go_at_call 94; exact Calls.quiet_of_same ((c3 _).mono fun _ _ h => ⟨h.1, h.2.symm⟩))))
                go_wp2_with fail
                go_meet
                exact ⟨rfl, below_drewsN hb0 _, cell_drewN r2 _⟩
      · have h2e : ((n : Int) == a) = false := by simpa using h2
        have h2n : ((n : Int) != a) = true := by simp [h2]
        have hv : bad = true := by rw [hbe.out]; first | grind | (simp; omega)
        subst hv
        go_quiet ((first | (go_at_call 114; exact Calls.quiet_of_same ((c1 _).mono fun _ _ h => ⟨h.1, h.2.symm⟩)) | (go_at_call 105; exact Calls.quiet_of_same ((c2 _).mono fun _ _ h => ⟨h.1, h.2.symm⟩)) | (go_at_call 94; exact Calls.quiet_of_same ((c3 _).mono fun _ _ h => ⟨h.1, h.2.symm⟩))))
        go_wp2_with fail
        go_meet
        exact ⟨rfl, below_drewsN hb0 _, cell_drewN r2 _⟩
  case rest =>
    obtain ⟨rfl, hb1, hx2⟩ := hcut
    cases hbv : bad
    · have hbe2 := hbe.out
      have htop : topOk op nt n = true ∧ 1 ≤ most := by
        have h1 := hbad.out
        rw [hbv] at h1
        simpa using h1.symm
      obtain ⟨htop, hmost⟩ := htop
      have hokk : Hid (treeOk p = treesOk p.kids) := Lib.hid (by rw [hok.out, hop.out, hnt.out, hn.out, htop]; rfl)
      have h0 : ¬ most < 1 := by omega
      clear hbe2 hbe hbad htop c1 c2 c3 hbv
      go_wp2_with fail
      go_loopw [5, 55] (fun s i wr => ∃ k m : Nat, k ≤ n ∧ i = .int .i64 k ∧ s = .int .i64 m ∧ 1 ≤ m ∧ (m : Int) ≤ most ∧ Hid (m = 1 + patsN (p.kids.take k)) ∧ Below w.heap.size w wr ∧ Hid (∀ j (h : j < p.kids.length), j < k → treeOk p.kids[j] = true)) (fun _ i _ => n - (intOf i).toNat)
      case atStart => exact ⟨0, 1, by omega, rfl, rfl, by omega, by omega, Lib.hid (by simp [patsN]), hb1, Lib.hid (fun j _ h => absurd h (by omega))⟩
      case round =>
        obtain ⟨k, m, hk, rfl, rfl, hm0, hmm, hmN, hb, hall⟩ := hrel
        obtain ⟨wo, rfl⟩ : ∃ wo : World, wo = wr := ⟨_, rfl⟩
        clear hb1 hx2
        by_cases hlt : k < n
        · have hkl : k < p.kids.length := by rw [hn.out]; exact hlt
          obtain ⟨ok, hps⟩ := HK.out.below hb
          obtain ⟨g, off, B, c', rfl, _, hg, ⟨a0, a1, a2⟩, hpi⟩ := pats_at hps k hkl
          have hcall := fun W => ih k hkl B c' (most - m) W
          have htk := Lib.hid (patsN_take p.kids k hkl)
          have hle2 := Lib.hid (patsN_take_le p.kids (k + 1))
          obtain ⟨q, hq⟩ : ∃ q, Hid (p.kids[k] = q) := ⟨_, Lib.hid rfl⟩
          rw [hq.out] at a0 a1 a2 hpi hcall htk
          have HQ : Hid (PatIn wo B c' q) := Lib.hid ⟨_, hpi⟩
          have hbz := hb.size
          clear hps hpi
          by_cases hgood : treeOk q = true ∧ (patN q : Int) ≤ most - m
          · have hx : sizeT q (most - m) = patN q := by unfold sizeT; rw [if_pos hgood]
            rw [hx] at hcall
            obtain ⟨x, hxe⟩ : ∃ x, Hid (patN q = x) := ⟨_, Lib.hid rfl⟩
            have hxm : (x : Int) ≤ most - m := by rw [← hxe.out]; exact hgood.2
            have hqo := Lib.hid hgood.1
            rw [hxe.out] at hcall
            clear hx hgood
            go_wp2_with fail
            refine (hcall _ (HQ.out.below (below_alloc _ _)) (by omega) (by omega)).mono ?_
            rintro e w3 ⟨rfl, hb3⟩
            go_wp2_with fail
            go_roundw
            case rel =>
              refine ⟨k + 1, m + x, by omega, by go_num, by go_num, by omega, by omega, Lib.hid (by rw [htk.out, hmN.out, hxe.out]; omega), hb.trans (((below_alloc _ _).mono hbz).trans (hb3.mono (by simp; omega))), Lib.hid (fun j hj hjk => ?_)⟩
              by_cases e : j = k
              · subst e; rw [hq.out]; exact hqo.out
              · exact hall.out j hj (by omega)
            case measure => simp [intOf]; omega
          · have hx : sizeT q (most - m) = -1 := by unfold sizeT; rw [if_neg hgood]
            rw [hx] at hcall
            have hs : Hid (sizeT p most = -1) := Lib.hid (by
              unfold sizeT
              rw [if_neg]
              rintro ⟨h1, h2⟩
              rw [hokk.out, treesOk_iff] at h1
              have h3 := h1 k hkl
              rw [hq.out] at h3
              have h4 := htk.out
              have h5 := hle2.out
              rw [hN.out] at h2
              have h6 := hmN.out
              exact hgood ⟨h3, by omega⟩)
            clear hx hgood
            go_wp2_with fail
            refine (hcall _ (HQ.out.below (below_alloc _ _)) (by omega) (by omega)).mono ?_
            rintro e w3 ⟨rfl, hb3⟩
            go_wp2_with fail
            go_ret
            exact ⟨ret_int hs.out.symm, hb.trans (((below_alloc _ _).mono hbz).trans (hb3.mono (by simp; omega)))⟩
        · obtain rfl : k = n := by omega
          have hs : Hid (sizeT p most = m) := Lib.hid (by
            have h1 : p.kids.take k = p.kids := List.take_of_length_le (by rw [hn.out]; omega)
            have h2 := hmN.out
            rw [h1] at h2
            unfold sizeT
            rw [if_pos, hN.out, h2]
            refine ⟨?_, by rw [hN.out, ← h2]; exact hmm⟩
            rw [hokk.out, treesOk_iff]
            exact fun j hj => hall.out j hj (by rw [← hn.out]; exact hj))
          go_wp2_with fail
          go_ret
          exact ⟨ret_int hs.out.symm, hb⟩

    · have hs : Hid (sizeT p most = -1) := Lib.hid (by
        unfold sizeT
        rw [if_neg]
        rintro ⟨h1, h2⟩
        rw [hok.out, hop.out, hnt.out, hn.out, Bool.and_eq_true] at h1
        have h3 := hbad.out
        rw [hbv, h1.1] at h3
        simp at h3
        omega)
      go_wp2_with fail
      go_ret
      exact ⟨ret_int hs.out.symm, hb1⟩

theorem sizeT_any : ∀ p : Pat, SizeTOk p
  | .mk op nt kids => sizeT_of _ fun i h => sizeT_any kids[i]
termination_by p => SizeOf.sizeOf p
decreasing_by
  have := List.sizeOf_lt_of_mem (List.getElem_mem h)
  simp only [Pat.kids] at this
  simp only [Pat.mk.sizeOf_spec]
  omega

end Go.Proofs.YthdicdkgfmiepaaDoor

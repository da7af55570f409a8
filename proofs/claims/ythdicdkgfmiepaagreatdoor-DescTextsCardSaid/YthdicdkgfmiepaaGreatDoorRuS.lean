/- Which patterns may be: desc.size and the reference's pat walked. -/
import Derived.Test.YthdicdkgfmiepaaGreatDoorRuR
import Derived.Test.YthdicdkgfmiepaaGreatDoorRuP
namespace Go.Proofs.YthdicdkgfmiepaaGreatDoor
open Go.RowKit

mutual
def patOk : Pat → Bool
  | .mk op nt ks => if op = 0 then isNt nt && ks.isEmpty else isOp op && decide (nt = 0) && decide ((ks.length : Int) = arityOf op) && patsOk ks
def patsOk : List Pat → Bool
  | [] => true
  | p :: ps => patOk p && patsOk ps
end
mutual
def patN : Pat → Nat
  | .mk _ _ ks => 1 + patsN ks
def patsN : List Pat → Nat
  | [] => 0
  | p :: ps => patN p + patsN ps
end
theorem patOk_eq (p : Pat) : patOk p = if p.op = 0 then isNt p.nt && p.kids.isEmpty else isOp p.op && decide (p.nt = 0) && decide ((p.kids.length : Int) = arityOf p.op) && patsOk p.kids := by
  cases p; unfold patOk; rfl
theorem patN_eq (p : Pat) : patN p = 1 + patsN p.kids := by cases p; unfold patN; rfl
theorem patN_pos (p : Pat) : 1 ≤ patN p := by rw [patN_eq]; omega
theorem patsN_append (a b : List Pat) : patsN (a ++ b) = patsN a + patsN b := by
  induction a with
  | nil => simp [patsN]
  | cons p ps ih => simp only [List.cons_append, patsN, ih]; omega
theorem patsN_take (ps : List Pat) (k : Nat) (h : k < ps.length) : patsN (ps.take (k + 1)) = patsN (ps.take k) + patN ps[k] := by
  rw [List.take_succ_eq_append_getElem h, patsN_append]; simp [patsN]
theorem patsN_take_le (ps : List Pat) (k : Nat) : patsN (ps.take k) ≤ patsN ps := by
  have := patsN_append (ps.take k) (ps.drop k)
  rw [List.take_append_drop] at this; omega
theorem patsOk_iff : ∀ ps : List Pat, patsOk ps = true ↔ ∀ j (h : j < ps.length), patOk ps[j] = true
  | [] => by simp [patsOk]
  | p :: ps => by
    unfold patsOk
    rw [Bool.and_eq_true, patsOk_iff ps]
    constructor
    · rintro ⟨h1, h2⟩ j hj
      cases j with
      | zero => exact h1
      | succ j => exact h2 j (by simpa using hj)
    · intro h
      exact ⟨h 0 (by simp), fun j hj => h (j + 1) (by simpa using hj)⟩

def sizeP (p : Pat) (most : Int) : Int := if patOk p = true ∧ (patN p : Int) ≤ most then patN p else -1

theorem below_drewsN {B : Nat} {w w' : World} (h : Below B w w') (n : Nat) : Below B w (w'.drewN n) := h.trans ⟨rfl, rfl, rfl, Nat.le_refl _, fun _ _ => rfl⟩

def SizeOk (p : Pat) : Prop := ∀ (A : Option Addr) (c : Nat) (most : Int) (w : World), PatIn w A c p → -1000 ≤ most → most ≤ 1000 →
  Calls Tryz.prog 40 #[.agg #[.int .i64 p.op, .int .i64 p.nt, .slice A p.kids.length c], .int .i64 most] w fun e w' => e = .returned (.int .i64 (sizeP p most)) ∧ Below w.heap.size w w'

set_option maxRecDepth 100000 in
set_option maxHeartbeats 2000000 in
theorem size_of (p : Pat) (ih : ∀ i (h : i < p.kids.length), SizeOk p.kids[i]) : SizeOk p := by
  intro A c most w hp hm1 hm2
  have hkp := hp.kids
  have hle := hkp.le
  unfold maxLen at hle
  have hok := Lib.hid (patOk_eq p)
  have hN := Lib.hid (patN_eq p)
  have hpos := patN_pos p
  obtain ⟨n, hn⟩ : ∃ n, Hid (p.kids.length = n) := ⟨_, Lib.hid rfl⟩
  obtain ⟨op, hop⟩ : ∃ x, Hid (p.op = x) := ⟨_, Lib.hid rfl⟩
  obtain ⟨nt, hnt⟩ : ∃ x, Hid (p.nt = x) := ⟨_, Lib.hid rfl⟩
  have HK : Hid (PatsIn w A c p.kids) := Lib.hid hkp
  rw [hn.out] at hle
  rw [hn.out, hop.out, hnt.out]
  clear hp hkp
  have hb0 := below_alloc w (.cells #[.int .i64 op, .int .i64 nt, .slice A n c] 45)
  by_cases h0 : most < 1
  · have hs : Hid (sizeP p most = -1) := Lib.hid (by unfold sizeP; rw [if_neg (by omega)])
    rw [hs.out]
    go_enter Tryz.func40, Tryz.ntmps40
    go_wp2_with fail
    go_ret
    exact ⟨ret_int rfl, hb0⟩
  · by_cases hz : op = 0
    · subst hz
      cases h1 : isNt nt
      · have hs : Hid (sizeP p most = -1) := Lib.hid (by unfold sizeP; rw [if_neg]; rw [hok.out, if_pos hop.out, hnt.out, h1]; simp)
        rw [hs.out]
        have c1 := fun W => isNt_any nt W
        rw [h1] at c1
        go_enter Tryz.func40, Tryz.ntmps40
        go_wp2_with (go_at_call 39; refine (c1 _).mono ?_; rintro e w' ⟨rfl, rfl⟩)
        go_ret
        exact ⟨ret_int rfl, hb0⟩
      · have c1 := fun W => isNt_any nt W
        rw [h1] at c1
        by_cases hn0 : 0 < n
        · have hs : Hid (sizeP p most = -1) := Lib.hid (by
            unfold sizeP; rw [if_neg]; rw [hok.out, if_pos hop.out]
            have : p.kids.isEmpty = false := by rw [List.isEmpty_eq_false_iff, ← List.length_pos_iff, hn.out]; exact hn0
            rw [this]; simp)
          rw [hs.out]
          go_enter Tryz.func40, Tryz.ntmps40
          go_wp2_with (go_at_call 39; refine (c1 _).mono ?_; rintro e w' ⟨rfl, rfl⟩)
          go_ret
          exact ⟨ret_int rfl, hb0⟩
        · obtain rfl : n = 0 := by omega
          have hs : Hid (sizeP p most = 1) := Lib.hid (by
            have hk0 : p.kids = [] := List.eq_nil_of_length_eq_zero hn.out
            unfold sizeP
            rw [hN.out, hok.out, if_pos hop.out, hk0, hnt.out, h1, if_pos]
            · simp [patsN]
            · simp [patsN]; omega)
          rw [hs.out]
          go_enter Tryz.func40, Tryz.ntmps40
          go_wp2_with (go_at_call 39; refine (c1 _).mono ?_; rintro e w' ⟨rfl, rfl⟩)
          go_ret
          exact ⟨ret_int rfl, hb0⟩
    · have hze : (op == 0) = false := by simpa using hz
      have c1 := fun W => isOp_any op W
      have c2 := fun W => arity_any op W
      obtain ⟨a, ha⟩ : ∃ a, Hid (arityOf op = a) := ⟨_, Lib.hid rfl⟩
      obtain ⟨o, ho⟩ : ∃ o, Hid (isOp op = o) := ⟨_, Lib.hid rfl⟩
      rw [ho.out] at c1
      rw [ha.out] at c2
      cases o
      · have hs : Hid (sizeP p most = -1) := Lib.hid (by
          unfold sizeP; rw [if_neg]; rw [hok.out, if_neg (by rw [hop.out]; exact hz), hop.out, hnt.out, hn.out]
          rw [ho.out]; simp)
        rw [hs.out]
        go_enter Tryz.func40, Tryz.ntmps40
        go_wp2_with fail
        obtain ⟨w1, hw1⟩ : ∃ w1, w1 = w.alloc (.cells #[.int .i64 op, .int .i64 nt, .slice A n c] 45) := ⟨_, rfl⟩
        rw [← hw1] at hb0
        have r0 : w1.cell? ⟨w.heap.size, 0, none⟩ = some (.int .i64 op) := by rw [hw1]; simp
        have r1 : w1.cell? ⟨w.heap.size, 1, none⟩ = some (.int .i64 nt) := by rw [hw1]; simp
        have r2 : w1.cell? ⟨w.heap.size, 2, none⟩ = some (.slice A n c) := by rw [hw1]; simp
        have hlt1 : w.heap.size < w1.heap.size := by rw [hw1]; simp
        rw [← hw1]
        clear hw1
        go_quiet ((first | (go_at_call 57; exact Calls.quiet_of_same ((c1 _).mono fun _ _ h => ⟨h.1, h.2.symm⟩)) | (go_at_call 58; exact Calls.quiet_of_same ((c2 _).mono fun _ _ h => ⟨h.1, h.2.symm⟩))))
        go_wp2_with fail
        go_ret
        exact ⟨ret_int rfl, below_drewsN hb0 _⟩
      rcases Classical.em (¬ nt = 0) with h2 | h2
      · have h2e : (nt == 0) = false := by simpa using h2
        have hs : Hid (sizeP p most = -1) := Lib.hid (by
          unfold sizeP; rw [if_neg]; rw [hok.out, if_neg (by rw [hop.out]; exact hz), hop.out, hnt.out, hn.out]
          simp [h2])
        rw [hs.out]
        go_enter Tryz.func40, Tryz.ntmps40
        go_wp2_with fail
        obtain ⟨w1, hw1⟩ : ∃ w1, w1 = w.alloc (.cells #[.int .i64 op, .int .i64 nt, .slice A n c] 45) := ⟨_, rfl⟩
        rw [← hw1] at hb0
        have r0 : w1.cell? ⟨w.heap.size, 0, none⟩ = some (.int .i64 op) := by rw [hw1]; simp
        have r1 : w1.cell? ⟨w.heap.size, 1, none⟩ = some (.int .i64 nt) := by rw [hw1]; simp
        have r2 : w1.cell? ⟨w.heap.size, 2, none⟩ = some (.slice A n c) := by rw [hw1]; simp
        have hlt1 : w.heap.size < w1.heap.size := by rw [hw1]; simp
        rw [← hw1]
        clear hw1
        go_quiet ((first | (go_at_call 57; exact Calls.quiet_of_same ((c1 _).mono fun _ _ h => ⟨h.1, h.2.symm⟩)) | (go_at_call 58; exact Calls.quiet_of_same ((c2 _).mono fun _ _ h => ⟨h.1, h.2.symm⟩))))
        go_wp2_with fail
        go_ret
        exact ⟨ret_int rfl, below_drewsN hb0 _⟩
      have h2 : nt = 0 := by omega
      subst h2
      rcases Classical.em (¬ (n : Int) = a) with h3 | h3
      · have h3e : ((n : Int) == a) = false := by simpa using h3
        have hs : Hid (sizeP p most = -1) := Lib.hid (by
          unfold sizeP; rw [if_neg]; rw [hok.out, if_neg (by rw [hop.out]; exact hz), hop.out, hnt.out, hn.out]
          rw [ha.out]; simp [h3])
        rw [hs.out]
        go_enter Tryz.func40, Tryz.ntmps40
        go_wp2_with fail
        obtain ⟨w1, hw1⟩ : ∃ w1, w1 = w.alloc (.cells #[.int .i64 op, .int .i64 0, .slice A n c] 45) := ⟨_, rfl⟩
        rw [← hw1] at hb0
        have r0 : w1.cell? ⟨w.heap.size, 0, none⟩ = some (.int .i64 op) := by rw [hw1]; simp
        have r1 : w1.cell? ⟨w.heap.size, 1, none⟩ = some (.int .i64 0) := by rw [hw1]; simp
        have r2 : w1.cell? ⟨w.heap.size, 2, none⟩ = some (.slice A n c) := by rw [hw1]; simp
        have hlt1 : w.heap.size < w1.heap.size := by rw [hw1]; simp
        rw [← hw1]
        clear hw1
        go_quiet ((first | (go_at_call 57; exact Calls.quiet_of_same ((c1 _).mono fun _ _ h => ⟨h.1, h.2.symm⟩)) | (go_at_call 58; exact Calls.quiet_of_same ((c2 _).mono fun _ _ h => ⟨h.1, h.2.symm⟩))))
        go_wp2_with fail
        go_ret
        exact ⟨ret_int rfl, below_drewsN hb0 _⟩
      · have hokk : Hid (patOk p = patsOk p.kids) := Lib.hid (by rw [hok.out, if_neg (by rw [hop.out]; exact hz), hop.out, hnt.out, hn.out, ho.out, ha.out]; simp at h3; simp [h3])
        have h3 : (n : Int) = a := by omega
        have h3e : ((n : Int) == a) = true := by simpa using h3
        go_enter Tryz.func40, Tryz.ntmps40
        go_wp2_with fail
        obtain ⟨w1, hw1⟩ : ∃ w1, w1 = w.alloc (.cells #[.int .i64 op, .int .i64 0, .slice A n c] 45) := ⟨_, rfl⟩
        rw [← hw1] at hb0
        have r0 : w1.cell? ⟨w.heap.size, 0, none⟩ = some (.int .i64 op) := by rw [hw1]; simp
        have r1 : w1.cell? ⟨w.heap.size, 1, none⟩ = some (.int .i64 0) := by rw [hw1]; simp
        have r2 : w1.cell? ⟨w.heap.size, 2, none⟩ = some (.slice A n c) := by rw [hw1]; simp
        have hlt1 : w.heap.size < w1.heap.size := by rw [hw1]; simp
        rw [← hw1]
        clear hw1
        go_quiet ((first | (go_at_call 57; exact Calls.quiet_of_same ((c1 _).mono fun _ _ h => ⟨h.1, h.2.symm⟩)) | (go_at_call 58; exact Calls.quiet_of_same ((c2 _).mono fun _ _ h => ⟨h.1, h.2.symm⟩))))
        go_wp2_with fail
        go_loopw [5, 45] (fun s i wr => ∃ k m : Nat, k ≤ n ∧ i = .int .i64 k ∧ s = .int .i64 m ∧ 1 ≤ m ∧ (m : Int) ≤ most ∧ Hid (m = 1 + patsN (p.kids.take k)) ∧ Below w.heap.size w wr ∧ Hid (∀ j (h : j < p.kids.length), j < k → patOk p.kids[j] = true)) (fun _ i _ => n - (intOf i).toNat)
        case atStart => exact ⟨0, 1, by omega, rfl, rfl, by omega, by omega, Lib.hid (by simp [patsN]), below_drewsN hb0 _, Lib.hid (fun j _ h => absurd h (by omega))⟩
        case round =>
          obtain ⟨k, m, hk, rfl, rfl, hm0, hmm, hmN, hb, hall⟩ := hrel
          obtain ⟨wo, rfl⟩ : ∃ wo : World, wo = wr := ⟨_, rfl⟩
          clear r0 r1 r2 hlt1 hb0 h3e h3
          by_cases hlt : k < n
          · have hkl : k < p.kids.length := by rw [hn.out]; exact hlt
            obtain ⟨ok, hps⟩ := HK.out.below hb
            obtain ⟨g, off, B, c', rfl, _, hg, ⟨a0, a1, a2⟩, hpi⟩ := pats_at hps k hkl
            have hcall := fun W => ih k hkl B c' (most - m) W
            have htk := Lib.hid (patsN_take p.kids k hkl)
            have hle2 := Lib.hid (patsN_take_le p.kids (k + 1))
            obtain ⟨q, hq⟩ : ∃ q, Hid (p.kids[k] = q) := ⟨_, Lib.hid rfl⟩
            rw [hq.out] at a0 a1 a2 hpi hcall htk
            have HQ : Hid (PatIn wo B c' q) := Lib.hid ⟨_, hpi⟩
            have hbz := hb.size
            clear hps hpi
            by_cases hgood : patOk q = true ∧ (patN q : Int) ≤ most - m
            · have hx : sizeP q (most - m) = patN q := by unfold sizeP; rw [if_pos hgood]
              rw [hx] at hcall
              obtain ⟨x, hxe⟩ : ∃ x, Hid (patN q = x) := ⟨_, Lib.hid rfl⟩
              have hxm : (x : Int) ≤ most - m := by rw [← hxe.out]; exact hgood.2
              have hqo := Lib.hid hgood.1
              rw [hxe.out] at hcall
              clear hx hgood
              go_wp2_with fail
              refine (hcall _ (HQ.out.below (below_alloc _ _)) (by omega) (by omega)).mono ?_
              rintro e w3 ⟨rfl, hb3⟩
              go_wp2_with fail
              go_roundw
              case rel =>
                refine ⟨k + 1, m + x, by omega, by go_num, by go_num, by omega, by omega, Lib.hid (by rw [htk.out, hmN.out, hxe.out]; omega), hb.trans (((below_alloc _ _).mono hbz).trans (hb3.mono (by simp; omega))), Lib.hid (fun j hj hjk => ?_)⟩
                by_cases e : j = k
                · subst e; rw [hq.out]; exact hqo.out
                · exact hall.out j hj (by omega)
              case measure => simp [intOf]; omega
            · have hx : sizeP q (most - m) = -1 := by unfold sizeP; rw [if_neg hgood]
              rw [hx] at hcall
              have hs : Hid (sizeP p most = -1) := Lib.hid (by
                unfold sizeP
                rw [if_neg]
                rintro ⟨h1, h2⟩
                rw [hokk.out, patsOk_iff] at h1
                have h3 := h1 k hkl
                rw [hq.out] at h3
                have h4 := htk.out
                have h5 := hle2.out
                rw [hN.out] at h2
                have h6 := hmN.out
                exact hgood ⟨h3, by omega⟩)
              clear hx hgood
              go_wp2_with fail
              refine (hcall _ (HQ.out.below (below_alloc _ _)) (by omega) (by omega)).mono ?_
              rintro e w3 ⟨rfl, hb3⟩
              go_wp2_with fail
              go_ret
              exact ⟨ret_int hs.out.symm, hb.trans (((below_alloc _ _).mono hbz).trans (hb3.mono (by simp; omega)))⟩
          · obtain rfl : k = n := by omega
            have hs : Hid (sizeP p most = m) := Lib.hid (by
              have h1 : p.kids.take k = p.kids := List.take_of_length_le (by rw [hn.out]; omega)
              have h2 := hmN.out
              rw [h1] at h2
              unfold sizeP
              rw [if_pos, hN.out, h2]
              refine ⟨?_, by rw [hN.out, ← h2]; exact hmm⟩
              rw [hokk.out, patsOk_iff]
              exact fun j hj => hall.out j hj (by rw [← hn.out]; exact hj))
            go_wp2_with fail
            go_ret
            exact ⟨ret_int hs.out.symm, hb⟩

theorem size_any : ∀ p : Pat, SizeOk p
  | .mk op nt kids => size_of _ fun i h => size_any kids[i]
termination_by p => SizeOf.sizeOf p
decreasing_by
  have := List.sizeOf_lt_of_mem (List.getElem_mem h)
  simp only [Pat.kids] at this
  simp only [Pat.mk.sizeOf_spec]
  omega

end Go.Proofs.YthdicdkgfmiepaaGreatDoor

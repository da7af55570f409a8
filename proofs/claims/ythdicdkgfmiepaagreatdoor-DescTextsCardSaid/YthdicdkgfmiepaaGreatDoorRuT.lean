/- Which patterns may be, by the reference: gantletref11.pat walked. -/
import Derived.Test.YthdicdkgfmiepaaGreatDoorRuS
namespace Go.Proofs.YthdicdkgfmiepaaGreatDoor
open Go.RowKit

def fitP (p : Pat) (n : Int) : Bool := patOk p && decide (n + (patN p : Int) ≤ 8)
def FitPost (p : Pat) (n : Int) (b : Bool) (w : World) (e : Ending) (w' : World) : Prop := ∃ m : Int, e = .returned (.tuple #[.int .i64 m, .bool b]) ∧ (b = true → m = n + (patN p : Int)) ∧ Below w.heap.size w w'

def FitOk (p : Pat) : Prop := ∀ (A : Option Addr) (c : Nat) (n : Int) (w : World), PatIn w A c p → 0 ≤ n → n ≤ 8 →
  Calls Tryz.prog 23 #[.agg #[.int .i64 p.op, .int .i64 p.nt, .slice A p.kids.length c], .int .i64 n] w (FitPost p n (fitP p n) w)

theorem arityOf_nonneg (n : Int) : 0 ≤ arityOf n := by unfold arityOf; split; omega; split <;> omega

set_option maxRecDepth 100000 in
set_option maxHeartbeats 2000000 in
theorem fit_of (p : Pat) (ih : ∀ i (h : i < p.kids.length), FitOk p.kids[i]) : FitOk p := by
  intro A c n0 w hp hm1 hm2
  have hkp := hp.kids
  have hle := hkp.le
  unfold maxLen at hle
  have hok := Lib.hid (patOk_eq p)
  have hN := Lib.hid (patN_eq p)
  have hpos := patN_pos p
  obtain ⟨n, hn⟩ : ∃ n, Hid (p.kids.length = n) := ⟨_, Lib.hid rfl⟩
  obtain ⟨op, hop⟩ : ∃ x, Hid (p.op = x) := ⟨_, Lib.hid rfl⟩
  obtain ⟨nt, hnt⟩ : ∃ x, Hid (p.nt = x) := ⟨_, Lib.hid rfl⟩
  obtain ⟨f, hf⟩ : ∃ x, Hid (fitP p n0 = x) := ⟨_, Lib.hid rfl⟩
  have HK : Hid (PatsIn w A c p.kids) := Lib.hid hkp
  rw [hn.out] at hle
  rw [hn.out, hop.out, hnt.out, hf.out]
  clear hp hkp
  have hb0 := below_alloc w (.cells #[.int .i64 op, .int .i64 nt, .slice A n c] 45)
  by_cases h0 : 8 < n0 + 1
  · obtain rfl : f = false := by rw [← hf.out]; unfold fitP; simp; omega
    go_enter Tryz.func23, Tryz.ntmps23
    go_wp2_with fail
    go_ret2
    exact ⟨_, rfl, fun h => Bool.noConfusion h, hb0⟩
  · by_cases hz : op = 0
    · subst hz
      have hok2 : Hid (patOk p = (isNt nt && p.kids.isEmpty)) := Lib.hid (by rw [hok.out, if_pos hop.out, hnt.out])
      by_cases hn0 : 0 < n
      · obtain rfl : f = false := by
          rw [← hf.out]; unfold fitP; rw [hok2.out]
          have : p.kids.isEmpty = false := by rw [List.isEmpty_eq_false_iff, ← List.length_pos_iff, hn.out]; exact hn0
          rw [this]; simp
        have hnz : ((n : Int) == 0) = false := by simp; omega
        go_enter Tryz.func23, Tryz.ntmps23
        go_wp2_with fail
        go_ret2
        exact ⟨_, rfl, fun h => Bool.noConfusion h, hb0⟩
      · obtain rfl : n = 0 := by omega
        have hk0 : p.kids = [] := List.eq_nil_of_length_eq_zero hn.out
        have hN1 : Hid (patN p = 1) := Lib.hid (by rw [hN.out, hk0]; simp [patsN])
        have hfe : Hid (f = isNt nt) := Lib.hid (by
          rw [← hf.out]; unfold fitP; rw [hok2.out, hk0, hN1.out]
          have : decide (n0 + ((1 : Nat) : Int) ≤ 8) = true := by simp; omega
          rw [this]; simp)
        have hw : Hid (within nt 0 3 = isNt nt) := Lib.hid rfl
        go_enter Tryz.func23, Tryz.ntmps23
        go_wp2_with (go_at_call 24; refine (between_any _ _ _ _).mono ?_; rintro e w' ⟨rfl, rfl⟩)
        go_ret2
        exact ⟨n0 + 1, by rw [hfe.out, ← hw.out]; rfl, fun _ => by rw [hN1.out]; rfl, hb0⟩
    · have hze : (op == 0) = false := by simpa using hz
      have c2 := fun W => kidsR_any op W
      obtain ⟨a, ha⟩ : ∃ a, Hid (kidsOf op = a) := ⟨_, Lib.hid rfl⟩
      rw [ha.out] at c2
      have hka : Hid ((n : Int) = a ↔ isOp op = true ∧ (n : Int) = arityOf op) := Lib.hid (by
        rw [← ha.out]; unfold kidsOf
        by_cases h : isOp op = true
        · rw [if_pos h]; simp [h]
        · rw [if_neg h]; simp [h])
      have hok2 : Hid (patOk p = true ↔ nt = 0 ∧ (n : Int) = a ∧ patsOk p.kids = true) := Lib.hid (by
        rw [hok.out, if_neg (by rw [hop.out]; exact hz), hop.out, hnt.out, hn.out, hka.out]
        simp only [Bool.and_eq_true, decide_eq_true_eq]
        constructor
        · rintro ⟨⟨⟨h1, h2⟩, h3⟩, h4⟩; exact ⟨h2, ⟨h1, h3⟩, h4⟩
        · rintro ⟨h2, ⟨h1, h3⟩, h4⟩; exact ⟨⟨⟨h1, h2⟩, h3⟩, h4⟩)
      by_cases h2 : nt = 0
      · subst h2
        by_cases h3 : (n : Int) = a
        · have h3e : ((n : Int) == a) = true := by simpa using h3
          have h3n : ((n : Int) != a) = false := by simp [h3]
          have hokk : Hid (patOk p = true ↔ patsOk p.kids = true) := Lib.hid (by rw [hok2.out]; simp [h3])
          have H3 := Lib.hid h3
          clear h3
          go_enter Tryz.func23, Tryz.ntmps23
          go_wp2_with fail
          obtain ⟨w1, hw1⟩ : ∃ w1, w1 = w.alloc (.cells #[.int .i64 op, .int .i64 0, .slice A n c] 45) := ⟨_, rfl⟩
          rw [← hw1] at hb0
          have r0 : w1.cell? ⟨w.heap.size, 0, none⟩ = some (.int .i64 op) := by rw [hw1]; simp
          have r1 : w1.cell? ⟨w.heap.size, 1, none⟩ = some (.int .i64 0) := by rw [hw1]; simp
          have r2 : w1.cell? ⟨w.heap.size, 2, none⟩ = some (.slice A n c) := by rw [hw1]; simp
          have hlt1 : w.heap.size < w1.heap.size := by rw [hw1]; simp
          rw [← hw1]
          clear hw1
          go_quiet ((go_at_call 46; exact Calls.quiet_of_same ((c2 _).mono fun _ _ h => ⟨h.1, h.2.symm⟩)))
          go_wp2_with fail
          have hbk : w1.cell? ⟨w.heap.size, 2, none⟩ = some (.slice A n c) ∧ w.heap.size < w1.heap.size := ⟨r2, hlt1⟩
          go_loopw [1, 6] (fun s i wr => ∃ k m : Nat, k ≤ n ∧ i = .int .i64 k ∧ s = .int .i64 (n0 + m) ∧ 1 ≤ m ∧ n0 + (m : Int) ≤ 8 ∧ Hid (m = 1 + patsN (p.kids.take k)) ∧ Below w.heap.size w wr ∧ (wr.cell? ⟨w.heap.size, 2, none⟩ = some (.slice A n c) ∧ w.heap.size < wr.heap.size) ∧ Hid (∀ j (h : j < p.kids.length), j < k → patOk p.kids[j] = true)) (fun _ i _ => n - (intOf i).toNat)
          case atStart => exact ⟨0, 1, by omega, rfl, rfl, by omega, by omega, Lib.hid (by simp [patsN]), below_drewsN hb0 _, hbk, Lib.hid (fun j _ h => absurd h (by omega))⟩
          case round =>
            obtain ⟨k, m, hk, rfl, rfl, hm0, hmm, hmN, hb, ⟨hcx, hcz⟩, hall⟩ := hrel
            obtain ⟨wo, rfl⟩ : ∃ wo : World, wo = wr := ⟨_, rfl⟩
            clear r0 r1 r2 hlt1 hb0 h3e h3n hbk
            by_cases hlt : k < n
            · have hkl : k < p.kids.length := by rw [hn.out]; exact hlt
              obtain ⟨ok, hps⟩ := HK.out.below hb
              obtain ⟨g, off, B, c', rfl, _, hg, ⟨a0, a1, a2⟩, hpi⟩ := pats_at hps k hkl
              have hcall := fun W => ih k hkl B c' (n0 + m) W
              have htk := Lib.hid (patsN_take p.kids k hkl)
              have hle2 := Lib.hid (patsN_take_le p.kids (k + 1))
              obtain ⟨q, hq⟩ : ∃ q, Hid (p.kids[k] = q) := ⟨_, Lib.hid rfl⟩
              rw [hq.out] at a0 a1 a2 hpi hcall htk
              have HQ : Hid (PatIn wo B c' q) := Lib.hid ⟨_, hpi⟩
              have hbz := hb.size
              clear hps hpi
              obtain ⟨fq, hfq⟩ : ∃ x, Hid (fitP q (n0 + m) = x) := ⟨_, Lib.hid rfl⟩
              rw [hfq.out] at hcall
              cases fq
              · obtain rfl : f = false := by
                  rw [← hf.out]; unfold fitP
                  have h1 := hfq.out
                  unfold fitP at h1
                  rw [Bool.and_eq_false_iff]
                  by_cases hpo : patOk p = true
                  · right
                    have h2 := (hokk.out.1 hpo)
                    rw [patsOk_iff] at h2
                    have h3 := h2 k hkl
                    rw [hq.out] at h3
                    rw [h3] at h1
                    simp only [Bool.true_and, decide_eq_false_iff_not] at h1
                    rw [decide_eq_false_iff_not, hN.out]
                    have h4 := htk.out
                    have h5 := hle2.out
                    have h6 := hmN.out
                    omega
                  · left; simpa using hpo
                go_wp2_with fail
                refine (hcall _ HQ.out (by omega) (by omega)).mono ?_
                rintro e w3 ⟨m2, rfl, _, hb3⟩
                go_wp2_with fail
                go_ret2
                exact ⟨_, rfl, fun h => Bool.noConfusion h, hb.trans (hb3.mono hbz)⟩
              · have h1 := hfq.out
                unfold fitP at h1
                rw [Bool.and_eq_true, decide_eq_true_eq] at h1
                obtain ⟨hqo, hqm⟩ := h1
                obtain ⟨x, hxe⟩ : ∃ x, Hid (patN q = x) := ⟨_, Lib.hid rfl⟩
                rw [hxe.out] at hqm
                have hqo := Lib.hid hqo
                go_wp2_with fail
                refine (hcall _ HQ.out (by omega) (by omega)).mono ?_
                rintro e w3 ⟨m2, rfl, hm2e, hb3⟩
                obtain rfl : m2 = n0 + m + x := by rw [hm2e rfl, hxe.out]
                clear hm2e hcall
                go_wp2_with fail
                go_roundw
                case rel =>
                  refine ⟨k + 1, m + x, by omega, by go_num, by rw [show n0 + (m : Int) + (x : Int) = n0 + ((m + x : Nat) : Int) by omega], by omega, by omega, Lib.hid (by rw [htk.out, hmN.out, hxe.out]; omega), hb.trans (hb3.mono hbz), ⟨cell_later hb3 hcx, by have := hb3.size; omega⟩, Lib.hid (fun j hj hjk => ?_)⟩
                  by_cases e : j = k
                  · subst e; rw [hq.out]; exact hqo.out
                  · exact hall.out j hj (by omega)
                case measure => simp [intOf]; omega
            · obtain rfl : k = n := by omega
              have hpn : Hid (patN p = m) := Lib.hid (by
                have h1 : p.kids.take k = p.kids := List.take_of_length_le (by rw [hn.out]; omega)
                have h2 := hmN.out
                rw [h1] at h2
                rw [hN.out, h2])
              obtain rfl : f = true := by
                rw [← hf.out]; unfold fitP
                rw [Bool.and_eq_true, hokk.out, patsOk_iff, decide_eq_true_eq, hpn.out]
                exact ⟨fun j hj => hall.out j hj (by rw [← hn.out]; exact hj), hmm⟩
              go_wp2_with fail
              go_ret2
              exact ⟨_, rfl, fun _ => by rw [hpn.out], hb⟩
        · have h3e : ((n : Int) == a) = false := by simpa using h3
          have h3n : ((n : Int) != a) = true := by simp [h3]
          obtain rfl : f = false := by
            rw [← hf.out]; unfold fitP
            rw [Bool.and_eq_false_iff]; left
            rw [← Bool.not_eq_true, hok2.out]; exact fun h => h3 h.2.1
          go_enter Tryz.func23, Tryz.ntmps23
          go_wp2_with fail
          obtain ⟨w1, hw1⟩ : ∃ w1, w1 = w.alloc (.cells #[.int .i64 op, .int .i64 0, .slice A n c] 45) := ⟨_, rfl⟩
          rw [← hw1] at hb0
          have r0 : w1.cell? ⟨w.heap.size, 0, none⟩ = some (.int .i64 op) := by rw [hw1]; simp
          have r1 : w1.cell? ⟨w.heap.size, 1, none⟩ = some (.int .i64 0) := by rw [hw1]; simp
          have r2 : w1.cell? ⟨w.heap.size, 2, none⟩ = some (.slice A n c) := by rw [hw1]; simp
          have hlt1 : w.heap.size < w1.heap.size := by rw [hw1]; simp
          rw [← hw1]
          clear hw1
          go_quiet ((go_at_call 46; exact Calls.quiet_of_same ((c2 _).mono fun _ _ h => ⟨h.1, h.2.symm⟩)))
          go_wp2_with fail
          go_ret2
          exact ⟨_, rfl, fun h => Bool.noConfusion h, below_drewsN hb0 _⟩
      · have h2e : (nt == 0) = false := by simpa using h2
        have h2n : (nt != 0) = true := by simp [h2]
        obtain rfl : f = false := by
          rw [← hf.out]; unfold fitP
          rw [Bool.and_eq_false_iff]; left
          rw [← Bool.not_eq_true, hok2.out]; exact fun h => h2 h.1
        go_enter Tryz.func23, Tryz.ntmps23
        go_wp2_with fail
        obtain ⟨w1, hw1⟩ : ∃ w1, w1 = w.alloc (.cells #[.int .i64 op, .int .i64 nt, .slice A n c] 45) := ⟨_, rfl⟩
        rw [← hw1] at hb0
        have r0 : w1.cell? ⟨w.heap.size, 0, none⟩ = some (.int .i64 op) := by rw [hw1]; simp
        have r1 : w1.cell? ⟨w.heap.size, 1, none⟩ = some (.int .i64 nt) := by rw [hw1]; simp
        have r2 : w1.cell? ⟨w.heap.size, 2, none⟩ = some (.slice A n c) := by rw [hw1]; simp
        have hlt1 : w.heap.size < w1.heap.size := by rw [hw1]; simp
        rw [← hw1]
        clear hw1
        go_quiet ((go_at_call 46; exact Calls.quiet_of_same ((c2 _).mono fun _ _ h => ⟨h.1, h.2.symm⟩)))
        go_wp2_with fail
        go_ret2
        exact ⟨_, rfl, fun h => Bool.noConfusion h, below_drewsN hb0 _⟩

theorem fit_any : ∀ p : Pat, FitOk p
  | .mk op nt kids => fit_of _ fun i h => fit_any kids[i]
termination_by p => SizeOf.sizeOf p
decreasing_by
  have := List.sizeOf_lt_of_mem (List.getElem_mem h)
  simp only [Pat.kids] at this
  simp only [Pat.mk.sizeOf_spec]
  omega

end Go.Proofs.YthdicdkgfmiepaaGreatDoor

/- Whether a tree is of numbers alone: tree.Plain, gantletref6.Pure walked. -/
import Derived.Test.YthdicdkgfmiepaaDoorTpB
namespace Go.Proofs.YthdicdkgfmiepaaDoor
open Go.RowKit

set_option maxHeartbeats 400000 in
theorem loadT_any (n : Int) (w : World) : Calls Tryd.prog 78 #[.int .i64 n] w fun e w' => e = .returned (.bool (isLoadT n)) ∧ w = w' := by
  go_enter Tryd.func78, Tryd.ntmps78
  go_wp2
  all_goals
    go_ret
    refine ⟨ret_bool ?_, rfl⟩
    grind [isLoadT]

set_option maxHeartbeats 400000 in
theorem loadR_any (n : Int) (w : World) : Calls Tryd.prog 59 #[.int .i64 n] w fun e w' => e = .returned (.bool (isLoadT n)) ∧ w = w' := by
  go_enter Tryd.func59, Tryd.ntmps59
  go_wp2
  all_goals
    go_ret
    refine ⟨ret_bool ?_, rfl⟩
    grind [isLoadT]

def PlainOk (f : Nat) (p : Pat) : Prop := ∀ (A : Option Addr) (c : Nat) (w : World), PatIn w A c p →
  Calls Tryd.prog f #[.agg #[.int .i64 p.op, .int .i64 p.nt, .slice A p.kids.length c]] w (SomeBoolBelow (plainT p) w)

set_option maxHeartbeats 1000000 in
theorem plain_of (p : Pat) (ih : ∀ i (h : i < p.kids.length), PlainOk 56 p.kids[i]) : PlainOk 56 p := by
  intro A c w hp
  have hkp := hp.kids
  have hle := hkp.le
  unfold maxLen at hle
  have hN := Lib.hid (plainT_eq p)
  obtain ⟨n, hn⟩ : ∃ n, Hid (p.kids.length = n) := ⟨_, Lib.hid rfl⟩
  obtain ⟨op, hop⟩ : ∃ x, Hid (p.op = x) := ⟨_, Lib.hid rfl⟩
  obtain ⟨nt, hnt⟩ : ∃ x, Hid (p.nt = x) := ⟨_, Lib.hid rfl⟩
  obtain ⟨ans, ha⟩ : ∃ x, Hid (plainT p = x) := ⟨_, Lib.hid rfl⟩
  have HK : Hid (PatsIn w A c p.kids) := Lib.hid hkp
  rw [hn.out] at hle
  rw [hn.out, hop.out, hnt.out, ha.out]
  clear hp hkp
  have hb0 := below_alloc w (.cells #[.int .i64 op, .int .i64 nt, .slice A n c] 55)
  obtain ⟨bad, hbad⟩ : ∃ b, Hid (plainTop op = !b) := ⟨!plainTop op, Lib.hid (by simp)⟩
  have c1 := fun W => loadT_any op W
  have c3 := fun W => isLeaf_any op W
  have hb2 := hbad.out
  unfold plainTop at hb2
  obtain ⟨o, ho⟩ : ∃ o, Hid (isLoadT op = o) := ⟨_, Lib.hid rfl⟩
  obtain ⟨lf, hlf⟩ : ∃ o, Hid (isLeaf op = o) := ⟨_, Lib.hid rfl⟩
  rw [ho.out] at c1 hb2
  rw [hlf.out] at c3 hb2
  have HB := Lib.hid hb2
  clear hb2
  go_enter Tryd.func56, Tryd.ntmps56
  go_upto_region 1 with fail
  go_cut [17] (fun s wx => s = .bool bad ∧ Below w.heap.size w wx ∧ wx.cell? ⟨w.heap.size, 2, none⟩ = some (.slice A n c))
  case first =>
    cases o
    · cases lf
      · obtain rfl : bad = false := by simpa using HB.out
        go_wp2_with (first | (go_at_call 78; refine (c1 _).mono ?_; rintro e w1 ⟨rfl, rfl⟩) | (go_at_call 94; refine (c3 _).mono ?_; rintro e w1 ⟨rfl, rfl⟩))
        go_meet
        exact ⟨rfl, hb0, by simp⟩
      · by_cases h5 : op = 1
        · have h5n : (op != 1) = false := by simp [h5]
          obtain rfl : bad = false := by have := HB.out; rw [h5] at this; simpa using this
          clear h5
          go_wp2_with (first | (go_at_call 78; refine (c1 _).mono ?_; rintro e w1 ⟨rfl, rfl⟩) | (go_at_call 94; refine (c3 _).mono ?_; rintro e w1 ⟨rfl, rfl⟩))
          go_meet
          exact ⟨rfl, hb0, by simp⟩
        · have h5n : (op != 1) = true := by simp [h5]
          obtain rfl : bad = true := by have := HB.out; simp [h5] at this; exact this
          go_wp2_with (first | (go_at_call 78; refine (c1 _).mono ?_; rintro e w1 ⟨rfl, rfl⟩) | (go_at_call 94; refine (c3 _).mono ?_; rintro e w1 ⟨rfl, rfl⟩))
          go_meet
          exact ⟨rfl, hb0, by simp⟩
    · obtain rfl : bad = true := by have := HB.out; simpa using this
      go_wp2_with (first | (go_at_call 78; refine (c1 _).mono ?_; rintro e w1 ⟨rfl, rfl⟩) | (go_at_call 94; refine (c3 _).mono ?_; rintro e w1 ⟨rfl, rfl⟩))
      go_meet
      exact ⟨rfl, hb0, by simp⟩
  case rest =>
    obtain ⟨rfl, hb1, hx2⟩ := hcut
    clear c1 c3 HB
    cases hbv : bad
    · have hokk : Hid (plainT p = plainsT p.kids) := Lib.hid (by rw [hN.out, hop.out, hbad.out, hbv]; rfl)
      clear hbv
      go_wp2_with fail
      go_loopw [21] (fun i wr => ∃ k : Nat, k ≤ n ∧ i = .int .i64 k ∧ Below w.heap.size w wr ∧ Hid (∀ j (h : j < p.kids.length), j < k → plainT p.kids[j] = true)) (fun i _ => n - (intOf i).toNat)
      case atStart => exact ⟨0, by omega, rfl, hb1, Lib.hid (fun j _ h => absurd h (by omega))⟩
      case round =>
        obtain ⟨k, hk, rfl, hb, hall⟩ := hrel
        obtain ⟨wo, rfl⟩ : ∃ wo : World, wo = wr := ⟨_, rfl⟩
        clear hb1 hx2
        by_cases hlt : k < n
        · have hkl : k < p.kids.length := by rw [hn.out]; exact hlt
          obtain ⟨ok, hps⟩ := HK.out.below hb
          obtain ⟨g, off, B, c', rfl, _, hg, ⟨a0, a1, a2⟩, hpi⟩ := pats_at hps k hkl
          have hcall := fun W => ih k hkl B c' W
          obtain ⟨q, hq⟩ : ∃ q, Hid (p.kids[k] = q) := ⟨_, Lib.hid rfl⟩
          rw [hq.out] at a0 a1 a2 hpi hcall
          have HQ : Hid (PatIn wo B c' q) := Lib.hid ⟨_, hpi⟩
          have hbz := hb.size
          clear hps hpi
          obtain ⟨x, hxe⟩ : ∃ x, Hid (plainT q = x) := ⟨_, Lib.hid rfl⟩
          rw [hxe.out] at hcall
          cases x
          · obtain rfl : ans = false := by
              rw [← ha.out, hokk.out]
              cases hv : plainsT p.kids
              · rfl
              · have h1 := (plainsT_iff _).1 hv k hkl
                rw [hq.out, hxe.out] at h1
                cases h1
            go_wp2_with fail
            refine (hcall _ (HQ.out.below (below_alloc _ _))).mono ?_
            rintro e w3 ⟨rfl, hb3⟩
            go_wp2_with fail
            go_ret
            exact ⟨rfl, hb.trans (((below_alloc _ _).mono hbz).trans (hb3.mono (by simp; omega)))⟩
          · go_wp2_with fail
            refine (hcall _ (HQ.out.below (below_alloc _ _))).mono ?_
            rintro e w3 ⟨rfl, hb3⟩
            go_wp2_with fail
            go_roundw
            case rel =>
              refine ⟨k + 1, by omega, by go_num, hb.trans (((below_alloc _ _).mono hbz).trans (hb3.mono (by simp; omega))), Lib.hid (fun j hj hjk => ?_)⟩
              by_cases e : j = k
              · subst e; rw [hq.out]; exact hxe.out
              · exact hall.out j hj (by omega)
            case measure => simp [intOf]; omega
        · obtain rfl : k = n := by omega
          obtain rfl : ans = true := by
            rw [← ha.out, hokk.out, plainsT_iff]
            exact fun j hj => hall.out j hj (by rw [← hn.out]; exact hj)
          go_wp2_with fail
          go_ret
          exact ⟨rfl, hb⟩
    · obtain rfl : ans = false := by rw [← ha.out, hN.out, hop.out, hbad.out, hbv]; rfl
      go_wp2_with fail
      go_ret
      exact ⟨rfl, hb1⟩

theorem plain_any : ∀ p : Pat, PlainOk 56 p
  | .mk op nt kids => plain_of _ fun i h => plain_any kids[i]
termination_by p => SizeOf.sizeOf p
decreasing_by
  have := List.sizeOf_lt_of_mem (List.getElem_mem h)
  simp only [Pat.kids] at this
  simp only [Pat.mk.sizeOf_spec]
  omega

set_option maxHeartbeats 1000000 in
theorem pureR_of (p : Pat) (ih : ∀ i (h : i < p.kids.length), PlainOk 27 p.kids[i]) : PlainOk 27 p := by
  intro A c w hp
  have hkp := hp.kids
  have hle := hkp.le
  unfold maxLen at hle
  have hN := Lib.hid (plainT_eq p)
  obtain ⟨n, hn⟩ : ∃ n, Hid (p.kids.length = n) := ⟨_, Lib.hid rfl⟩
  obtain ⟨op, hop⟩ : ∃ x, Hid (p.op = x) := ⟨_, Lib.hid rfl⟩
  obtain ⟨nt, hnt⟩ : ∃ x, Hid (p.nt = x) := ⟨_, Lib.hid rfl⟩
  obtain ⟨ans, ha⟩ : ∃ x, Hid (plainT p = x) := ⟨_, Lib.hid rfl⟩
  have HK : Hid (PatsIn w A c p.kids) := Lib.hid hkp
  rw [hn.out] at hle
  rw [hn.out, hop.out, hnt.out, ha.out]
  clear hp hkp
  have hb0 := below_alloc w (.cells #[.int .i64 op, .int .i64 nt, .slice A n c] 55)
  obtain ⟨bad, hbad⟩ : ∃ b, Hid (plainTop op = !b) := ⟨!plainTop op, Lib.hid (by simp)⟩
  have c1 := fun W => loadR_any op W
  have hb2 := hbad.out
  unfold plainTop isLeaf at hb2
  obtain ⟨o, ho⟩ : ∃ o, Hid (isLoadT op = o) := ⟨_, Lib.hid rfl⟩
  rw [ho.out] at c1 hb2
  have HB := Lib.hid hb2
  clear hb2
  go_enter Tryd.func27, Tryd.ntmps27
  go_upto_region 1 with fail
  go_cut [21] (fun s wx => s = .bool bad ∧ Below w.heap.size w wx ∧ wx.cell? ⟨w.heap.size, 2, none⟩ = some (.slice A n c))
  case first =>
    by_cases h2 : op = 2
    · have e2 : (op == 2) = true := by simpa using h2
      obtain rfl : bad = true := by have := HB.out; subst h2; simpa using this.symm
      clear h2
      go_wp2_with fail
      go_meet
      exact ⟨rfl, hb0, by simp⟩
    · have e2 : (op == 2) = false := by simpa using h2
      by_cases h3 : op = 3
      · have e3 : (op == 3) = true := by simpa using h3
        obtain rfl : bad = true := by have := HB.out; subst h3; simpa using this.symm
        clear h3 h2
        go_wp2_with fail
        go_meet
        exact ⟨rfl, hb0, by simp⟩
      · have e3 : (op == 3) = false := by simpa using h3
        by_cases h4 : op = 4
        · have e4 : (op == 4) = true := by simpa using h4
          obtain rfl : bad = true := by have := HB.out; subst h4; simpa using this.symm
          clear h4 h3 h2
          go_wp2_with fail
          go_meet
          exact ⟨rfl, hb0, by simp⟩
        · have e4 : (op == 4) = false := by simpa using h4
          obtain rfl : bad = o := by
            have := HB.out
            have hx : (decide (1 ≤ op) && decide (op ≤ 4) && !decide (op = 1)) = false := by simp; omega
            rw [hx] at this
            simpa using this.symm
          go_wp2_with (go_at_call 59; refine (c1 _).mono ?_; rintro e w1 ⟨rfl, rfl⟩)
          go_meet
          exact ⟨rfl, hb0, by simp⟩
  case rest =>
    obtain ⟨rfl, hb1, hx2⟩ := hcut
    clear c1 HB
    cases hbv : bad
    · have hokk : Hid (plainT p = plainsT p.kids) := Lib.hid (by rw [hN.out, hop.out, hbad.out, hbv]; rfl)
      clear hbv
      go_wp2_with fail
      have hbk : w.heap.size < wc.heap.size := by
        apply Nat.lt_of_not_le
        intro hge
        simp [World.cell?, Array.getElem?_eq_none hge] at hx2
      go_loopw [3] (fun i wr => ∃ k : Nat, k ≤ n ∧ i = .int .i64 k ∧ Below w.heap.size w wr ∧ (wr.cell? ⟨w.heap.size, 2, none⟩ = some (.slice A n c) ∧ w.heap.size < wr.heap.size) ∧ Hid (∀ j (h : j < p.kids.length), j < k → plainT p.kids[j] = true)) (fun i _ => n - (intOf i).toNat)
      case atStart => exact ⟨0, by omega, rfl, hb1, ⟨hx2, hbk⟩, Lib.hid (fun j _ h => absurd h (by omega))⟩
      case round =>
        obtain ⟨k, hk, rfl, hb, ⟨hcx, hcz⟩, hall⟩ := hrel
        obtain ⟨wo, rfl⟩ : ∃ wo : World, wo = wr := ⟨_, rfl⟩
        clear hb1 hx2 hbk
        by_cases hlt : k < n
        · have hkl : k < p.kids.length := by rw [hn.out]; exact hlt
          obtain ⟨ok, hps⟩ := HK.out.below hb
          obtain ⟨g, off, B, c', rfl, _, hg, ⟨a0, a1, a2⟩, hpi⟩ := pats_at hps k hkl
          have hcall := fun W => ih k hkl B c' W
          obtain ⟨q, hq⟩ : ∃ q, Hid (p.kids[k] = q) := ⟨_, Lib.hid rfl⟩
          rw [hq.out] at a0 a1 a2 hpi hcall
          have HQ : Hid (PatIn wo B c' q) := Lib.hid ⟨_, hpi⟩
          have hbz := hb.size
          clear hps hpi
          obtain ⟨x, hxe⟩ : ∃ x, Hid (plainT q = x) := ⟨_, Lib.hid rfl⟩
          rw [hxe.out] at hcall
          cases x
          · obtain rfl : ans = false := by
              rw [← ha.out, hokk.out]
              cases hv : plainsT p.kids
              · rfl
              · have h1 := (plainsT_iff _).1 hv k hkl
                rw [hq.out, hxe.out] at h1
                cases h1
            go_wp2_with fail
            refine (hcall _ HQ.out).mono ?_
            rintro e w3 ⟨rfl, hb3⟩
            go_wp2_with fail
            go_ret
            exact ⟨rfl, hb.trans (hb3.mono hbz)⟩
          · go_wp2_with fail
            refine (hcall _ HQ.out).mono ?_
            rintro e w3 ⟨rfl, hb3⟩
            go_wp2_with fail
            go_roundw
            case rel =>
              refine ⟨k + 1, by omega, by go_num, hb.trans (hb3.mono hbz), ⟨cell_later hb3 hcx, by have := hb3.size; omega⟩, Lib.hid (fun j hj hjk => ?_)⟩
              by_cases e : j = k
              · subst e; rw [hq.out]; exact hxe.out
              · exact hall.out j hj (by omega)
            case measure => simp [intOf]; omega
        · obtain rfl : k = n := by omega
          obtain rfl : ans = true := by
            rw [← ha.out, hokk.out, plainsT_iff]
            exact fun j hj => hall.out j hj (by rw [← hn.out]; exact hj)
          go_wp2_with fail
          go_ret
          exact ⟨rfl, hb⟩
    · obtain rfl : ans = false := by rw [← ha.out, hN.out, hop.out, hbad.out, hbv]; rfl
      go_wp2_with fail
      go_ret
      exact ⟨rfl, hb1⟩

theorem pureR_any : ∀ p : Pat, PlainOk 27 p
  | .mk op nt kids => pureR_of _ fun i h => pureR_any kids[i]
termination_by p => SizeOf.sizeOf p
decreasing_by
  have := List.sizeOf_lt_of_mem (List.getElem_mem h)
  simp only [Pat.kids] at this
  simp only [Pat.mk.sizeOf_spec]
  omega

end Go.Proofs.YthdicdkgfmiepaaDoor

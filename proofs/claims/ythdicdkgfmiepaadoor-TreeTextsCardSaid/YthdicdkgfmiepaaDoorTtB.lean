/- A tree's text behind others: tree.write walked. -/
import Derived.Test.YthdicdkgfmiepaaDoorTtA
namespace Go.Proofs.YthdicdkgfmiepaaDoor
open Go.RowKit

theorem kids_len : ∀ (l : List Pat) (i : Nat), (∀ k ∈ l, PatWf k) → (kidsT i l).length ≤ 31 * patsN l
  | [], i, _ => by simp [kidsT]
  | x :: l, i, h => by
    have h1 := kids_len l (i + 1) (fun k hk => h k (by simp [hk]))
    have h2 := text_len x (h x (by simp))
    have h3 : (sepT i).length ≤ 2 := by unfold sepT; split <;> simp
    simp only [kidsT, List.length_append, patsN]
    omega

theorem Buf.base {B : Nat} {W0 W1 w : World} {v : Value} {s : List UInt8} (h : Buf B W1 v s w) (hb : Below B W0 W1) (ho : Lib.OthersKept 5 none W0 W1) : Buf B W0 v s w :=
  ⟨h.1, hb.trans h.2.1, h.2.2.1, ho.trans h.2.2.2⟩

abbrev Pow (B : Nat) (w : World) : Prop := Lib.TabBelow Tryd.prog B w "internal/strconv.uint64pow10" .u64 Lib.pow10Tab
def WriteRet (B : Nat) (w : World) (s : List UInt8) (e : Ending) (w' : World) : Prop := ∃ v, e = .returned v ∧ Buf B w v s w'

def WriteOk (p : Pat) : Prop := ∀ (B : Nat) (v : Value) (s : List UInt8) (A : Option Addr) (c gw : Nat) (w : World),
  Rep w (fun g => g < B) (encP p) [.int .i64 p.op, .int .i64 p.nt, .slice A p.kids.length c] → PatWf p → treeOk p = true → w.ownsRow B 5 1 v s.length (Lib.byteCells s) → B ≤ w.heap.size →
  BlkIs w gw 9 (strCells opWords).toArray → gw < B → Pow B w → s.length + 31 * patN p ≤ 1000000 →
  Calls Tryd.prog 63 #[v, .agg #[.int .i64 p.op, .int .i64 p.nt, .slice A p.kids.length c], .slice (some ⟨gw, 0, none⟩) 36 36] w (WriteRet B w (s ++ textT p))

theorem rep_kids {w : World} {ok : Nat → Prop} {A : Option Addr} {c : Nat} {p : Pat} (h : Rep w ok (encP p) [.int .i64 p.op, .int .i64 p.nt, .slice A p.kids.length c]) : Rep w ok (.lst 3 (p.kids.map encP)) [.slice A p.kids.length c] := by
  obtain ⟨A', c', he, _, h2⟩ := rep_pat_inv h
  injection he with _ he; injection he with _ he; injection he with he _; injection he with e1 _ e3
  subst e1 e3
  exact h2

theorem rep_far {w w' : World} {B : Nat} {d : D} {cs : List Value} (h : Rep w (fun g => g < B) d cs) (hb : Below B w w') : Rep w' (fun g => g < B) d cs :=
  Rep.keep (fun _ h _ => h) (fun g hg _ => hb.block g hg) _ _ h

theorem Buf.int {B : Nat} {W0 w w' : World} {v v' : Value} {s : List UInt8} {i : Int} (hb : Buf B W0 v s w) (h1 : w'.ownsRow B 5 1 v' (s.length + (Lib.itoa i).length) (Lib.byteCells s ++ Lib.byteCells (Lib.itoa i))) (hb' : Below B w w') (hq : Lib.OthersKept 5 none w w') : Buf B W0 v' (s ++ decT i) w' := by
  rw [itoa_dec] at h1
  refine ⟨?_, hb.2.1.trans hb', Nat.le_trans hb.2.2.1 hb'.size, hb.2.2.2.trans hq⟩
  rw [List.length_append, Lib.byteCells_append]
  exact h1

set_option maxRecDepth 100000 in
set_option maxHeartbeats 4000000 in
theorem write_of (p : Pat) (ih : ∀ i (h : i < p.kids.length), WriteOk p.kids[i]) : WriteOk p := by
  intro B v s A c gw w hp hwf hok hown hB hgw hgB hpow hlen
  have hle := (show PatIn w A c p from ⟨_, hp⟩).kids.le
  unfold maxLen at hle
  have hkr := rep_kids hp
  have hte := Lib.hid (textT_eq p)
  have hwk : Hid (∀ k ∈ p.kids, PatWf k) := Lib.hid hwf.kid
  have hnr := hwf.nt
  have hkok := Lib.hid (treeOk_kid hok)
  have htop : topOk p.op p.nt p.kids.length = true := by rw [treeOk_eq, Bool.and_eq_true] at hok; exact hok.1
  have hkl := patN_eq p
  obtain ⟨n, hn⟩ : ∃ n, Hid (p.kids.length = n) := ⟨_, Lib.hid rfl⟩
  obtain ⟨nt, hnt⟩ : ∃ x, Hid (p.nt = x) := ⟨_, Lib.hid rfl⟩
  obtain ⟨tot, ht⟩ : ∃ x, Hid (patsN p.kids = x) := ⟨_, Lib.hid rfl⟩
  rw [hkl, ht.out] at hlen
  rw [hnt.out] at hnr
  have hop : ∃ m : Nat, 1 ≤ m ∧ m ≤ 36 ∧ p.op = (m : Int) := by
    unfold topOk isOp at htop
    simp at htop
    exact ⟨p.op.toNat, by omega, by omega, by omega⟩
  obtain ⟨m, hm1, hm2, hop⟩ := hop
  have hop := Lib.hid hop
  have hlf : isLeaf (m : Int) = true → n = 0 := by
    intro h
    unfold topOk arityOf at htop
    rw [hop.out, h, hn.out] at htop
    simp at htop
    omega
  have HL := Lib.hid hlf
  have hwl : (wordT (m : Int)).length ≤ 7 := wordT_len _
  have hdl := decT_len hnr
  have HK := Lib.hid hkr
  have HI := Lib.hid ih
  have c3 := fun W => isLeaf_any (m : Int) W
  rw [hop.out, hnt.out] at hte
  rw [hop.out, hnt.out, hn.out]
  rw [hn.out] at hle
  have hwc : w.cell? ⟨gw, m - 1, none⟩ = some (.string ⟨(wordT (m : Int)).toArray⟩) := by
    have := hgw.cell (m - 1)
    rw [opWords_at (m - 1) (by omega)] at this
    rw [this]
    unfold wordT
    rw [show ((m : Int) - 1).toNat = m - 1 by omega]
  obtain ⟨wd, hwd⟩ : ∃ x, Hid (wordT (m : Int) = x) := ⟨_, Lib.hid rfl⟩
  obtain ⟨dt, hdt⟩ : ∃ x, Hid (decT nt = x) := ⟨_, Lib.hid rfl⟩
  obtain ⟨lf, hlfe⟩ : ∃ x, Hid (isLeaf (m : Int) = x) := ⟨_, Lib.hid rfl⟩
  rw [hwd.out] at hwl hwc
  rw [hdt.out] at hdl
  rw [hlfe.out] at c3
  have hte2 := hte.out
  rw [hwd.out, hdt.out, hlfe.out] at hte2
  have hte := Lib.hid hte2
  have hbx0 : BlkIs (w.alloc (.cells #[.int .i64 (m : Int), .int .i64 nt, .slice A n c] 55)) w.heap.size 55 #[.int .i64 (m : Int), .int .i64 nt, .slice A n c] := BlkIs.fresh _ _ _
  have hgw0 := hgw.alloc (.cells #[.int .i64 (m : Int), .int .i64 nt, .slice A n c] 55)
  have hk0 : (0 : Int) ≤ (m : Int) - 1 := by omega
  have hwc0 : (w.alloc (.cells #[.int .i64 (m : Int), .int .i64 nt, .slice A n c] 55)).cell? ⟨gw, m - 1, none⟩ = some (.string ⟨wd.toArray⟩) := cell_alloc hwc _
  have hb0 : Below B w (w.alloc (.cells #[.int .i64 (m : Int), .int .i64 nt, .slice A n c] 55)) := (below_alloc w _).mono hB
  have hq0 : Lib.OthersKept 5 none w (w.alloc (.cells #[.int .i64 (m : Int), .int .i64 nt, .slice A n c] 55)) := (Lib.OthersKept.refl _ _ _).alloc _
  have hown0 := World.ownsRow.alloc hown (.cells #[.int .i64 (m : Int), .int .i64 nt, .slice A n c] 55)
  clear hkl htop hlf hkr ih hte2 hgw hok hwf hown hp hwc
  go_enter Tryd.func63, Tryd.ntmps63
  go_upto_region 1 with fail
  obtain ⟨w1, hw1⟩ : ∃ w1, w1 = w.alloc (.cells #[.int .i64 (m : Int), .int .i64 nt, .slice A n c] 55) := ⟨_, rfl⟩
  have hg1 : w.heap.size < w1.heap.size := by rw [hw1]; simp
  rw [← hw1] at hbx0 hgw0 hwc0 hb0 hq0 hown0
  rw [← hw1]
  clear hw1
  have hB1 : B ≤ w1.heap.size := by omega
  have r0 : w1.cell? ⟨w.heap.size, 0, none⟩ = some (.int .i64 (m : Int)) := hbx0.cell 0
  have HB0 := Lib.hid (Buf.start hown0 rfl hB1)
  have HBX := Lib.hid hbx0
  have HGW := Lib.hid hgw0
  have HPW := Lib.hid (hpow.on hb0)
  clear hown0 hbx0 hgw0 hpow
  go_upto_region 2 with (at_builtin; go_must (first | (refine buf_text rfl (.tmp 9) (.tmp 15) rfl B w1 v s wd rfl HB0.out rfl (by omega) ?_; intro v2 w2 hB2 _) | (refine buf_byte rfl (.tmp 16) (.tmp 17) rfl B w1 v2 (s ++ wd) 40 w2.heap.size rfl (hB2.alloc _) rfl (BlkIs.fresh _ _ _) (by simp; omega) ?_; intro v3 w3 hB3 _)))
  have hl3 : (s ++ wd ++ [40]).length ≤ 1000000 := by simp; omega
  have hl4 : (s ++ wd ++ [40]).length + 31 * tot ≤ 999990 := by simp; omega
  have hfin : Hid (textT p = wd ++ [40] ++ (if lf = true then dt else []) ++ kidsT 0 p.kids ++ [41]) := hte
  obtain ⟨s1, hs1⟩ : ∃ s1, Hid (s ++ wd ++ [40] = s1) := ⟨_, Lib.hid rfl⟩
  rw [hs1.out] at hB3 hl3 hl4
  have HB3 := Lib.hid hB3
  have r1 : w3.cell? ⟨w.heap.size, 0, none⟩ = some (.int .i64 (m : Int)) := (hB3.keep HBX.out (by decide)).cell 0
  have r2 : w3.cell? ⟨w.heap.size, 1, none⟩ = some (.int .i64 nt) := (hB3.keep HBX.out (by decide)).cell 1
  have r3 : w3.cell? ⟨w.heap.size, 2, none⟩ = some (.slice A n c) := (hB3.keep HBX.out (by decide)).cell 2
  clear hB2 hB3 HB0
  cases lf
  · go_wp2_with (go_at_call 94; refine (c3 _).mono ?_; rintro e w9 ⟨rfl, rfl⟩)
    go_loopw [0, 29] (fun b i wr => ∃ k : Nat, k ≤ n ∧ i = .int .i64 k ∧ Hid (Buf B w1 b (s1 ++ kidsT 0 (p.kids.take k)) wr)) (fun _ i _ => n - (intOf i).toNat)
    case atStart => exact ⟨0, by omega, rfl, by simpa [kidsT] using HB3⟩
    case round =>
      obtain ⟨k, hk, rfl, HBk⟩ := hrel
      obtain ⟨wo, rfl⟩ : ∃ wo : World, wo = wr := ⟨_, rfl⟩
      clear HB3 r1 r2 r3
      by_cases hlt : k < n
      · have hkl : k < p.kids.length := by rw [hn.out]; exact hlt
        obtain ⟨g, off, D, c', rfl, hgx, _, ⟨a0, a1, a2⟩, hpi⟩ := pats_at HK.out k hkl
        have hbw := hb0.trans HBk.out.2.1
        have hg : g < wo.heap.size := by have := HBk.out.2.2.1; omega
        replace a0 := (hbw.cell (p := ⟨g, off + k * 3, none⟩) hgx).trans a0
        replace a1 := (hbw.cell (p := ⟨g, off + k * 3 + 1, none⟩) hgx).trans a1
        replace a2 := (hbw.cell (p := ⟨g, off + k * 3 + 2, none⟩) hgx).trans a2
        have htk := Lib.hid (kidsT_take p.kids k hkl)
        have hN1 := patsN_take p.kids k hkl
        have hN2 := patsN_take_le p.kids (k + 1)
        have hN3 := kids_len (p.kids.take k) 0 (fun q hq => hwk.out q (List.mem_of_mem_take hq))
        have hcall := HI.out k hkl
        have hqw := Lib.hid (hwk.out _ (List.getElem_mem hkl))
        have hqo := Lib.hid (hkok.out k hkl)
        obtain ⟨q, hq⟩ : ∃ q, Hid (p.kids[k] = q) := ⟨_, Lib.hid rfl⟩
        rw [hq.out] at a0 a1 a2 hpi hcall htk hN1 hqw hqo
        have HQ := Lib.hid hpi
        have HC := Lib.hid hcall
        rw [ht.out] at hN2
        obtain ⟨kt, hkt⟩ : ∃ x, Hid (kidsT 0 (p.kids.take k) = x) := ⟨_, Lib.hid rfl⟩
        rw [hkt.out] at hN3 HBk htk
        obtain ⟨nq, hnq⟩ : ∃ x, Hid (patN q = x) := ⟨_, Lib.hid rfl⟩
        rw [hnq.out] at hN1
        have hlen2 : (s1 ++ kt).length + 2 + 31 * nq ≤ 1000000 := by
          rw [List.length_append]
          omega
        have hlen3 : (s1 ++ kt).length ≤ 1000000 := by omega
        clear hN1 hN2 hN3 hpi hcall
        have hBo := HBk.out.2.2.1
        rcases Nat.eq_zero_or_pos k with rfl | hkp
        · simp only [Nat.zero_mul, Nat.add_zero] at a0 a1 a2
          go_wp2_with fail
          refine (HC.out B _ (s1 ++ kt) D c' gw _ (rep_far HQ.out (hb0.trans (HBk.out.alloc _).2.1)) hqw.out hqo.out (HBk.out.alloc _).1 (by simp; omega) ((HBk.out.keep HGW.out (by decide)).alloc _) hgB (HPW.out.on (HBk.out.alloc _).2.1) (by rw [hnq.out]; omega)).mono ?_
          rintro e w4 ⟨v4, rfl, hB4⟩
          go_wp2_with fail
          go_roundw
          case rel =>
            refine ⟨1, by omega, by go_num, Lib.hid ?_⟩
            have hx : s1 ++ kidsT 0 (p.kids.take 1) = s1 ++ kt ++ textT q := by rw [htk.out]; simp [sepT]
            rw [hx]
            have hB5 := HBk.out.alloc (.cells #[.int .i64 q.op, .int .i64 q.nt, .slice D q.kids.length c'] 55)
            exact hB4.base hB5.2.1 hB5.2.2.2
          case measure => simp [intOf]; omega
        · have hkd : decide ((0 : Int) < (k : Int)) = true := by simp; omega
          go_wp2_with (at_builtin; go_must (refine buf_text rfl (.tmp 36) (.const (.string ⟨#[44, 32]⟩)) rfl B w1 _ (s1 ++ kt) [44, 32] rfl (HBk.out.alloc _) rfl (by simp only [List.length_cons, List.length_nil]; omega) ?_; intro v4 w4 hB4 hq4; have hbx := blk_kept hq4 (BlkIs.fresh wo 55 #[.int .i64 q.op, .int .i64 q.nt, .slice D q.kids.length c']) (by decide); have x0 : w4.cell? ⟨wo.heap.size, 0, none⟩ = some (.int .i64 q.op) := hbx.cell 0; have x1 : w4.cell? ⟨wo.heap.size, 1, none⟩ = some (.int .i64 q.nt) := hbx.cell 1; have x2 : w4.cell? ⟨wo.heap.size, 2, none⟩ = some (.slice D q.kids.length c') := hbx.cell 2; have HB4 := Lib.hid hB4; clear hB4 hq4 hbx))
          refine (HC.out B _ (s1 ++ kt ++ [44, 32]) D c' gw _ (rep_far HQ.out (hb0.trans HB4.out.2.1)) hqw.out hqo.out HB4.out.1 HB4.out.2.2.1 (HB4.out.keep HGW.out (by decide)) hgB (HPW.out.on HB4.out.2.1) (by rw [hnq.out]; simp only [List.length_append, List.length_cons, List.length_nil] at hlen2 ⊢; omega)).mono ?_
          rintro e w5 ⟨v5, rfl, hB5⟩
          go_wp2_with fail
          go_roundw
          case rel =>
            refine ⟨k + 1, by omega, by go_num, Lib.hid ?_⟩
            have hx : s1 ++ kidsT 0 (p.kids.take (k + 1)) = s1 ++ kt ++ [44, 32] ++ textT q := by rw [htk.out]; simp [sepT, show ¬ k = 0 by omega]
            rw [hx]
            exact hB5.base HB4.out.2.1 HB4.out.2.2.2
          case measure => simp [intOf]; omega
      · obtain rfl : k = n := by omega
        have hke : Hid (p.kids.take k = p.kids) := Lib.hid (List.take_of_length_le (by rw [hn.out]; omega))
        have hN3 := kids_len p.kids 0 hwk.out
        rw [ht.out] at hN3
        rw [hke.out] at HBk
        obtain ⟨kt, hkt⟩ : ∃ x, Hid (kidsT 0 p.kids = x) := ⟨_, Lib.hid rfl⟩
        rw [hkt.out] at HBk hN3
        have hlen3 : (s1 ++ kt).length ≤ 1000000 := by rw [List.length_append]; omega
        go_wp2_with (at_builtin; go_must (refine buf_byte rfl (.tmp 43) (.tmp 44) rfl B w1 _ (s1 ++ kt) 41 _ rfl (HBk.out.alloc _) rfl (BlkIs.fresh _ _ _) (by omega) ?_; intro v5 w5 hB5 _))
        go_ret
        refine ⟨_, rfl, ?_⟩
        have hx : s ++ textT p = s1 ++ kt ++ [41] := by rw [hfin.out, hkt.out, ← hs1.out]; simp
        rw [hx]
        exact hB5.base hb0 hq0
  · obtain rfl : n = 0 := HL.out hlfe.out
    go_wp2_with (first | (go_at_call 94; refine (c3 _).mono ?_; rintro e w9 ⟨rfl, rfl⟩) | (go_at_call 100; refine (Tryd.strconv_AppendInt_10 B _ nt hnr.1 hnr.2 v3 _ w3 HB3.out.1 HB3.out.2.2.1 (by omega) (HPW.out.on HB3.out.2.1)).mono ?_; rintro e w4 ⟨v4, rfl, ho4, hb4, hq4⟩; have HB4 := Lib.hid (HB3.out.int ho4 hb4 hq4); rw [hdt.out] at HB4; have r4 : w4.cell? ⟨w.heap.size, 2, none⟩ = some (.slice A 0 c) := (HB4.out.keep HBX.out (by decide)).cell 2; clear ho4 hb4 hq4))
    have hke : Hid (p.kids = []) := Lib.hid (List.length_eq_zero_iff.1 hn.out)
    have hl5 : (s1 ++ dt).length ≤ 2000000 := by rw [List.length_append]; omega
    go_loopw [0, 29] (fun b i wr => i = .int .i64 0 ∧ b = v4 ∧ wr = w4) (fun _ _ _ => 0)
    case atStart => exact ⟨rfl, rfl, rfl⟩
    case round =>
      obtain ⟨rfl, rfl, rfl⟩ := hrel
      go_wp2_with (at_builtin; go_must (refine buf_byte rfl (.tmp 43) (.tmp 44) rfl B w1 _ (s1 ++ dt) 41 _ rfl (HB4.out.alloc _) rfl (BlkIs.fresh _ _ _) (by omega) ?_; intro v5 w5 hB5 _))
      go_ret
      refine ⟨_, rfl, ?_⟩
      have hx : s ++ textT p = s1 ++ dt ++ [41] := by rw [hfin.out, hke.out, ← hs1.out]; simp [kidsT]
      rw [hx]
      exact hB5.base hb0 hq0


theorem write_any : ∀ p : Pat, WriteOk p
  | .mk op nt kids => write_of _ fun i h => write_any kids[i]
termination_by p => SizeOf.sizeOf p
decreasing_by
  have := List.sizeOf_lt_of_mem (List.getElem_mem h)
  simp only [Pat.kids] at this
  simp only [Pat.mk.sizeOf_spec]
  omega

end Go.Proofs.YthdicdkgfmiepaaDoor

/- The reference's reader of patterns, closed; numbers of one digit. The text of a pattern that may be. The text of rules that may be, whose costs have one digit. -/
import Derived.Test.YtaippkdlibampaaDoorKO
import Derived.Laws.IdiomStrings
namespace Go.Proofs.YtaippkdlibampaaDoor

/- The reference's reader of patterns, closed; numbers of one digit. -/
section
open Go.RowKit

theorem rdPat_ok : ∀ f, RdOk (rdPat f)
  | 0 => by intro s m p s2 m2 h; unfold rdPat at h; cases h
  | f + 1 => pat_step (rdPat f) (rdPat_ok f) f rfl

theorem conv_one (w : World) (b : UInt8) (g : Nat) (hg : g = w.heap.size) : Sem.run Tryd.prog (convert 160 9 (.slice (some ⟨g, 0, none⟩) 1 1)) (w.alloc (.cells #[.int .u8 b.toNat] 5)) = Result.ok (Value.string ⟨#[b]⟩) (w.alloc (.cells #[.int .u8 b.toNat] 5)) := by
  subst hg
  refine run_convert_bytes_back _ 160 9 5 ⟨w.heap.size, 0, none⟩ 1 [b] Tryd.underlying160 Tryd.underlying5 Tryd.underlying9 (fun j hj => ?_)
  obtain rfl : j = 0 := by simpa using hj
  exact (BlkIs.fresh w 5 #[.int .u8 b.toNat]).cell 0

theorem app_list (a b : List UInt8) : ByteArray.mk a.toArray ++ ByteArray.mk b.toArray = ⟨(a ++ b).toArray⟩ := by
  apply ByteArray.ext
  simp [ByteArray.data_append]

set_option maxRecDepth 100000 in
set_option maxHeartbeats 4000000 in
theorem dec1 (d : Nat) (b : UInt8) (hb : b.toNat = 48 + d) (hd : d < 10) (w : World) : Calls Tryd.prog 101 #[.int .i64 d] w fun e w' => e = .returned (.string ⟨#[b]⟩) ∧ Below w.heap.size w w' := by
  have hm : (d : Int) % 10 = d := by omega
  have hq : (d : Int) / 10 = 0 := by omega
  have hcv := conv_one w b w.heap.size rfl
  rw [hb, show ((48 + d : Nat) : Int) = 48 + (d : Int) by omega] at hcv
  go_enter Tryd.func101, Tryd.ntmps101
  go_wp2_with fail
  go_loopw [3, 4] (fun u s wr => u = .int .u64 d ∧ s = .string ⟨#[]⟩ ∧ w = wr) (fun _ _ _ => 0)
  case atStart => exact ⟨rfl, rfl, rfl⟩
  case round =>
    obtain ⟨rfl, rfl, rfl⟩ := hrel
    go_wp2_with fail
    go_ret
    refine ⟨?_, below_alloc _ _⟩
    exact congrArg (fun x => Ending.returned (.string x)) (app_list [b] [])

set_option maxRecDepth 100000 in
set_option maxHeartbeats 4000000 in
theorem num1 (d : Nat) (b : UInt8) (hb : b.toNat = 48 + d) (hd : d < 10) (w : World) : Calls Tryd.prog 57 #[.string ⟨#[b]⟩] w fun e w' => e = .returned (.tuple #[.int .i64 d, .bool true]) ∧ Below w.heap.size w w' := by
  have hdc := fun W => dec1 d b hb hd W
  have hbi : (b.toNat : Int) = 48 + d := by omega
  have hsz : (⟨#[b]⟩ : ByteArray).size = 1 := rfl
  have hget : ((⟨#[b]⟩ : ByteArray)[0]'(by rw [hsz]; omega)) = b := rfl
  go_enter Tryd.func57, Tryd.ntmps57
  go_wp2_with fail
  go_loopw [4, 6] (fun u i wr => w = wr ∧ ((i = .int .i64 0 ∧ u = .int .u64 0) ∨ (i = .int .i64 1 ∧ u = .int .u64 d))) (fun _ i _ => 1 - (intOf i).toNat)
  case atStart => exact ⟨rfl, .inl ⟨rfl, rfl⟩⟩
  case round =>
    obtain ⟨rfl, ⟨rfl, rfl⟩ | ⟨rfl, rfl⟩⟩ := hrel
    · go_wp2_with fail
      go_roundw
      case rel => exact ⟨by first | trivial | rfl, .inr ⟨rfl, by congr 1; omega⟩⟩
      case measure => simp [intOf]
    · go_wp2_with fail
      refine (hdc _).mono ?_
      rintro e w' ⟨rfl, hbw⟩
      go_wp2_with fail
      go_ret2
      exact ⟨rfl, hbw⟩

end

/- The text of a pattern that may be. -/
section
open Go.RowKit

mutual
def patText : Pat → List UInt8
  | .mk op nt ks => if op = 0 then ntWords.getD nt.toNat [] else opWords.getD (op.toNat - 1) [] ++ (kidsText ks 0 ++ (if ks.length = 0 then [] else [41]))
def kidsText : List Pat → Nat → List UInt8
  | [], _ => []
  | p :: ps, i => (if i = 0 then [40] else [44, 32]) ++ (patText p ++ kidsText ps (i + 1))
end
theorem patText_eq (p : Pat) : patText p = if p.op = 0 then ntWords.getD p.nt.toNat [] else opWords.getD (p.op.toNat - 1) [] ++ (kidsText p.kids 0 ++ (if p.kids.length = 0 then [] else [41])) := by
  cases p; unfold patText; rfl
theorem kidsText_take : ∀ (ps : List Pat) (i k : Nat) (h : k < ps.length), kidsText (ps.take (k + 1)) i = kidsText (ps.take k) i ++ ((if i + k = 0 then [40] else [44, 32]) ++ patText ps[k])
  | p :: ps, i, 0, _ => by simp [kidsText]
  | p :: ps, i, k + 1, h => by
    have ih := kidsText_take ps (i + 1) k (by simpa using h)
    simp only [List.take_succ_cons, kidsText, List.getElem_cons_succ]
    rw [ih, show i + 1 + k = i + (k + 1) by omega]
    simp only [List.append_assoc]

theorem ntWord_le (k : Nat) : (ntWords.getD k []).length ≤ 4 := by
  rw [List.getD_eq_getElem?_getD]
  cases h : ntWords[k]? with
  | none => simp
  | some x =>
    have hx := List.mem_of_getElem? h
    have : ∀ y ∈ ntWords, y.length ≤ 4 := by decide
    exact this x hx

mutual
theorem patText_len : ∀ p : Pat, (patText p).length + 2 ≤ 1100 * patN p
  | .mk op nt ks => by
    unfold patText patN
    split
    · have := ntWord_le nt.toNat
      omega
    · have h1 := opWords_le (op.toNat - 1)
      have h2 := kidsText_len ks 0
      rw [List.length_append, List.length_append]
      have h3 : (if ks.length = 0 then ([] : List UInt8) else [41]).length ≤ 1 := by split <;> simp
      omega
theorem kidsText_len : ∀ (ps : List Pat) (i : Nat), (kidsText ps i).length ≤ 1100 * patsN ps
  | [], _ => by simp [kidsText, patsN]
  | p :: ps, i => by
    unfold kidsText patsN
    have h1 := patText_len p
    have h2 := kidsText_len ps (i + 1)
    rw [List.length_append, List.length_append]
    have h3 : (if i = 0 then ([40] : List UInt8) else [44, 32]).length ≤ 2 := by split <;> simp
    omega
end

theorem add_str (a b c : List UInt8) (hc : a ++ b = c) (h : a.length + b.length ≤ 1000000000) (W : World) : Sem.run Tryd.prog (Op.stringOp .add ⟨a.toArray⟩ ⟨b.toArray⟩) W = Result.ok (Value.string ⟨c.toArray⟩) W := by
  rw [← hc, ← app_list]
  exact run_string_add_sum W _ _ (by simp [ByteArray.size]; omega)

def PatTextOk (p : Pat) : Prop := patOk p = true → patN p ≤ 1000 → ∀ (A : Option Addr) (d : Nat) (w : World), PatIn w A d p → Calls Tryd.prog 107 #[.agg #[.int .i64 p.op, .int .i64 p.nt, .slice A p.kids.length d]] w fun e w' => e = .returned (.string ⟨(patText p).toArray⟩) ∧ Below w.heap.size w w'

theorem app_arr (a b : List UInt8) (x : Array UInt8) (hx : x = b.toArray) : ByteArray.mk a.toArray ++ ByteArray.mk x = ⟨(a ++ b).toArray⟩ := by rw [hx]; exact app_list a b

set_option maxRecDepth 100000 in
set_option maxHeartbeats 4000000 in
theorem patText_of (p : Pat) (ih : ∀ i (h : i < p.kids.length), PatTextOk p.kids[i]) : PatTextOk p := by
  intro hok hpn A d w hp
  rw [patN_eq] at hpn
  rw [patOk_eq] at hok
  have hte := Lib.hid (patText_eq p)
  obtain ⟨op, hop⟩ : ∃ x, Hid (p.op = x) := ⟨_, Lib.hid rfl⟩
  obtain ⟨nt, hnt⟩ : ∃ x, Hid (p.nt = x) := ⟨_, Lib.hid rfl⟩
  obtain ⟨ks, hks⟩ : ∃ x, Hid (p.kids = x) := ⟨_, Lib.hid rfl⟩
  obtain ⟨n, hn⟩ : ∃ x, Hid (ks.length = x) := ⟨_, Lib.hid rfl⟩
  have HK : Hid (PatsIn w A d ks) := Lib.hid (by rw [← hks.out]; exact hp.kids)
  have IH : Hid (∀ i (h : i < ks.length), PatTextOk ks[i]) := Lib.hid (by rw [← hks.out]; exact ih)
  rw [hks.out] at hpn
  rw [hop.out, hnt.out, hks.out, hn.out] at hok hte ⊢
  clear hp ih
  by_cases h0 : op = 0
  · subst h0
    rw [if_pos rfl, Bool.and_eq_true] at hok
    obtain ⟨k, hk4, rfl⟩ : ∃ k : Nat, k < 4 ∧ nt = k := by
      have := hok.1
      unfold isNt at this
      simp at this
      exact ⟨nt.toNat, by omega, by omega⟩
    have hkl : k < ntWords.length := hk4
    have hres : Hid (patText p = ntWords[k]) := Lib.hid (by rw [hte.out, if_pos rfl, Int.toNat_natCast, List.getD_eq_getElem?_getD, List.getElem?_eq_getElem hkl]; rfl)
    obtain ⟨x, hx⟩ : ∃ x, Hid (ntWords[k] = x) := ⟨_, Lib.hid rfl⟩
    rw [hres.out, hx.out]
    have hns := fun W => nts_any W
    go_enter Tryd.func107, Tryd.ntmps107
    go_upto_region 2 with fail
    obtain ⟨w1, hw1⟩ : ∃ W, W = w.alloc (.cells #[.int .i64 0, .int .i64 k, .slice A n d] 31) := ⟨_, rfl⟩
    have hb1 : Below w.heap.size w w1 := by rw [hw1]; exact below_alloc _ _
    have b1 : BlkIs w1 w.heap.size 31 #[.int .i64 0, .int .i64 k, .slice A n d] := by rw [hw1]; exact BlkIs.fresh _ _ _
    have c1 : w1.cell? ⟨w.heap.size, 1, none⟩ = some (.int .i64 k) := b1.cell 1
    have hz1 : w.heap.size < w1.heap.size := b1.lt
    rw [← hw1]
    clear hw1
    refine anyJ_begin 5 (fun W => Below w1.heap.size w1 W) (by kernel_rfl) ((Below.refl _ _).drew) (fun hHeld => ?_)
    refine take (i := 1) (d := some 9) (v := .pointer (some ⟨w.heap.size, 1, none⟩)) (by kernel_rfl) rfl rfl rfl (fun _ _ _ h => h) hHeld (fun W hSw => by go_simp) ?_
    simp only [Act.put, List.setIfInBounds_toArray, List.set_cons_zero, List.set_cons_succ]
    refine take (i := 2) (d := some 10) (v := .int .i64 k) (by kernel_rfl) rfl rfl rfl (fun _ _ _ h => h) hHeld (fun W hSw => by have x := cell_later hSw c1; go_simp) ?_
    simp only [Act.put, List.setIfInBounds_toArray, List.set_cons_zero, List.set_cons_succ]
    refine anyJ_only (i := 0) (d := some 8) (by kernel_rfl) rfl rfl rfl (fun K' hK => ?_)
    refine wp_go_call 106 _ _ rfl #[] rfl (fun W => by go_simp) (hns _) (fun e w2 he => ?_)
    obtain ⟨rfl, hw2⟩ := he
    obtain ⟨gn, hgn⟩ : ∃ x, Hid (w1.drew.heap.size = x) := ⟨_, Lib.hid rfl⟩
    have hgnw : w1.heap.size = gn := hgn.out
    have hb2 : Below w1.heap.size w1 w2 := by rw [← hw2]; exact hHeld.alloc (Nat.le_refl _) _
    have bn : BlkIs w2 gn 9 (strCells ntWords).toArray := by rw [← hw2]; exact BlkIs.fresh_at hgn.out.symm
    have cn : w2.cell? ⟨gn, k, none⟩ = some (.string ⟨x.toArray⟩) := (bn.cell k).trans (by rw [← hx.out]; simp [strCells, List.getElem?_eq_getElem hkl])
    rw [hgn.out]
    clear hw2 hns
    refine ⟨_, rfl, hK.out _ _ (fun _ => hb2) (fun hHeld => ?_)⟩
    have hHeld := hHeld (by decide)
    simp only [Act.put, List.setIfInBounds_toArray, List.set_cons_zero, List.set_cons_succ]
    have hz2 : gn < w2.heap.size := bn.lt
    refine anyJ_only (i := 3) (d := some 11) (by kernel_rfl) rfl rfl rfl (fun K' hK => ?_)
    refine wp_val (w' := w2) (v := .pointer (some ⟨gn, k, none⟩)) (by go_simp; omega) (hK.out _ _ (fun _ => hHeld) (fun _ => ?_))
    simp only [Act.put, List.setIfInBounds_toArray, List.set_cons_zero, List.set_cons_succ]
    refine anyJ_only (i := 4) (d := some 12) (by kernel_rfl) rfl rfl rfl (fun K' hK => ?_)
    refine wp_val (w' := w2) (v := .string ⟨x.toArray⟩) (by go_simp) (hK.out _ _ (fun _ => hHeld) (fun _ => ?_))
    simp only [Act.put, List.setIfInBounds_toArray, List.set_cons_zero, List.set_cons_succ]
    refine anyJ_only (i := 5) (d := some 2) (by kernel_rfl) rfl rfl rfl (fun K' hK => ?_)
    refine wp_val (w' := w2) (v := .string ⟨x.toArray⟩) (by go_simp) (hK.out _ _ (fun h => absurd rfl h) (fun _ => ?_))
    simp only [Act.put, List.setIfInBounds_toArray, List.set_cons_zero, List.set_cons_succ]
    refine anyJ_done (by kernel_rfl) ?_ _
    go_wp2_with fail
    go_ret
    exact ⟨rfl, hb1.trans (hb2.mono (by omega))⟩
  · rw [if_neg h0, Bool.and_eq_true, Bool.and_eq_true, Bool.and_eq_true] at hok
    obtain ⟨⟨⟨hi1, _⟩, hi3⟩, ho4⟩ := hok
    have hle : n ≤ 2 := by
      rw [decide_eq_true_eq] at hi3
      have := arity_le2 op
      omega
    clear hi3
    obtain ⟨o, ho1, ho36, rfl⟩ : ∃ o : Nat, 1 ≤ o ∧ o ≤ 36 ∧ op = o := by
      unfold isOp at hi1
      simp at hi1
      exact ⟨op.toNat, by omega, by omega, by omega⟩
    clear hi1
    have HOK := Lib.hid ((patsOk_iff ks).1 ho4)
    have hW := fun W => refWord_any o ho1 ho36 W
    have hoe : ((o : Int) == 0) = false := by simp; omega
    rw [Int.toNat_natCast, if_neg h0] at hte
    obtain ⟨x, hx⟩ : ∃ x, Hid (opWords.getD (o - 1) [] = x) := ⟨_, Lib.hid rfl⟩
    have hxl := opWords_le (o - 1)
    rw [hx.out] at hW hte hxl
    go_enter Tryd.func107, Tryd.ntmps107
    go_wp2_with fail
    refine (hW _).mono ?_
    rintro e w2 ⟨rfl, hw2⟩
    have hb2 : Below w.heap.size w w2 := by rw [← hw2]; exact (below_alloc _ _).alloc (by simp) _
    have b2 : BlkIs w2 w.heap.size 31 #[.int .i64 o, .int .i64 nt, .slice A n d] := by rw [← hw2]; exact (BlkIs.fresh _ _ _).alloc _
    clear hw2 hW
    go_wp2_with fail
    go_loopw [3, 4] (fun s i wr => ∃ k : Nat, k ≤ n ∧ i = .int .i64 k ∧ s = .string ⟨(x ++ kidsText (ks.take k) 0).toArray⟩ ∧ Below w.heap.size w wr ∧ BlkIs wr w.heap.size 31 #[.int .i64 o, .int .i64 nt, .slice A n d]) (fun _ i _ => n - (intOf i).toNat)
    case atStart => exact ⟨0, by omega, rfl, by simp [kidsText], hb2, b2⟩
    case round =>
      obtain ⟨k, hk, rfl, rfl, hb, hbk⟩ := hrel
      obtain ⟨wo, rfl⟩ : ∃ wo : World, wo = wr := ⟨_, rfl⟩
      clear hb2 b2
      have c2 : wo.cell? ⟨w.heap.size, 2, none⟩ = some (.slice A n d) := hbk.cell 2
      have hlz := hbk.lt
      obtain ⟨t, ht⟩ : ∃ t, Hid (x ++ kidsText (ks.take k) 0 = t) := ⟨_, Lib.hid rfl⟩
      have htl : t.length ≤ 2000000 := by
        rw [← ht.out, List.length_append]
        have h1 := kidsText_len (ks.take k) 0
        have h2 := patsN_take_le ks k
        omega
      rw [ht.out]
      by_cases hlt : k < n
      · have hkl : k < ks.length := by rw [hn.out]; exact hlt
        obtain ⟨ok, hps⟩ := HK.out.below hb
        obtain ⟨g, off, B, d2, hA, _, hg, ⟨a0, a1, a2⟩, hq⟩ := pats_at hps k hkl
        cases hA
        have hkn2 : patN ks[k] ≤ 1000 := by
          have h1 := patsN_take ks k hkl
          have h2 := patsN_take_le ks (k + 1)
          omega
        have hyl := patText_len ks[k]
        have hcall := fun W => IH.out k hkl (HOK.out k hkl) hkn2 B d2 W
        have hnext := Lib.hid (kidsText_take ks 0 k hkl)
        obtain ⟨q, hqe⟩ : ∃ x, Hid (ks[k] = x) := ⟨_, Lib.hid rfl⟩
        obtain ⟨y, hy⟩ : ∃ x, Hid (patText ks[k] = x) := ⟨_, Lib.hid rfl⟩
        rw [hy.out] at hcall hnext hyl
        rw [hqe.out] at a0 a1 a2 hq hcall
        have HQ : Hid (PatIn wo B d2 q) := Lib.hid ⟨_, hq⟩
        clear hps hq
        by_cases hk0 : k = 0
        · subst hk0
          simp only [Nat.zero_mul, Nat.add_zero] at a0 a1 a2
          obtain ⟨t2, ht2⟩ : ∃ x, Hid (t ++ [40] = x) := ⟨_, Lib.hid rfl⟩
          obtain ⟨t3, ht3⟩ : ∃ x, Hid (t2 ++ y = x) := ⟨_, Lib.hid rfl⟩
          have ht2l : t2.length ≤ 2000002 := by rw [← ht2.out, List.length_append]; simp; omega
          have add1 := fun W => add_str t [40] t2 ht2.out (by simp; omega) W
          have add2 := fun W => add_str t2 y t3 ht3.out (by omega) W
          go_wp2_with fail
          refine (hcall _ (HQ.out.below (Below.refl _ _))).mono ?_
          rintro e w3 ⟨rfl, hb3⟩
          go_wp2_with fail
          go_roundw
          case rel =>
            refine ⟨0 + 1, by omega, by go_num, ?_, hb.trans (hb3.mono hb.size), hbk.below hb3 hbk.lt⟩
            rw [← ht3.out, ← ht2.out, hnext.out]
            simp only [if_true]
            rw [← List.append_assoc x, ht.out, List.append_assoc t]
          case measure => simp [intOf]; omega
        · have hk0e : ((k : Int) == 0) = false := by simp; omega
          obtain ⟨t2, ht2⟩ : ∃ x, Hid (t ++ [44, 32] = x) := ⟨_, Lib.hid rfl⟩
          obtain ⟨t3, ht3⟩ : ∃ x, Hid (t2 ++ y = x) := ⟨_, Lib.hid rfl⟩
          have ht2l : t2.length ≤ 2000002 := by rw [← ht2.out, List.length_append]; simp; omega
          have add1 := fun W => add_str t [44, 32] t2 ht2.out (by simp; omega) W
          have add2 := fun W => add_str t2 y t3 ht3.out (by omega) W
          go_wp2_with fail
          refine (hcall _ (HQ.out.below (Below.refl _ _))).mono ?_
          rintro e w3 ⟨rfl, hb3⟩
          go_wp2_with fail
          go_roundw
          case rel =>
            refine ⟨k + 1, by omega, by go_num, ?_, hb.trans (hb3.mono hb.size), hbk.below hb3 hbk.lt⟩
            rw [← ht3.out, ← ht2.out, hnext.out, Nat.zero_add, if_neg hk0, ← List.append_assoc x, ht.out, List.append_assoc t]
          case measure => simp [intOf]; omega
      · have hkn : k = n := by omega
        have hall : ks.take k = ks := List.take_of_length_le (by rw [hn.out]; omega)
        rw [hall] at ht
        by_cases hn0 : n = 0
        · have hk00 : k = 0 := by omega
          subst hn0
          go_wp2_with fail
          go_ret
          refine ⟨?_, hb⟩
          have h1 := hte.out
          simp only [if_true, List.append_nil] at h1
          rw [h1, ht.out]
          rfl
        · have hn0' : (0 : Int) < n := by omega
          have add1 := fun W => add_str t [41] (t ++ [41]) rfl (by simp; omega) W
          obtain ⟨t2, ht2⟩ : ∃ x, Hid (t ++ [41] = x) := ⟨_, Lib.hid rfl⟩
          rw [ht2.out] at add1
          go_wp2_with fail
          go_ret
          refine ⟨?_, hb⟩
          rw [hte.out, if_neg hn0, ← List.append_assoc, ht.out, ht2.out]
          rfl

theorem patText_any : ∀ p : Pat, PatTextOk p
  | .mk op nt kids => patText_of _ fun i h => patText_any kids[i]
termination_by p => SizeOf.sizeOf p
decreasing_by
  have := List.sizeOf_lt_of_mem (List.getElem_mem h)
  simp only [Pat.kids] at this
  simp only [Pat.mk.sizeOf_spec]
  omega

end

/- The text of rules that may be, whose costs have one digit. -/
section
open Go.RowKit

def dgt (c : Int) : UInt8 := UInt8.ofNat (48 + c.toNat)
theorem dgt_nat (c : Nat) (h : c < 10) : (dgt (c : Int)).toNat = 48 + c := by unfold dgt; simp; omega
def lineText (r : Rule) : List UInt8 := ntWords.getD r.nt.toNat [] ++ ([32, 60, 45, 32] ++ (patText r.pat ++ ([32, 58, 32] ++ ([dgt r.cost] ++ ([32] ++ (r.form ++ [10]))))))
def rulesText : List Rule → List UInt8
  | [] => []
  | r :: rs => lineText r ++ rulesText rs
theorem rulesText_take : ∀ (rs : List Rule) (k : Nat) (h : k < rs.length), rulesText (rs.take (k + 1)) = rulesText (rs.take k) ++ lineText rs[k]
  | r :: rs, 0, _ => by simp [rulesText]
  | r :: rs, k + 1, h => by
    have ih := rulesText_take rs k (by simpa using h)
    simp only [List.take_succ_cons, rulesText, List.getElem_cons_succ]
    rw [ih, List.append_assoc]

/-- rules that the text is told of here -/
def LineOk (r : Rule) : Prop := 0 ≤ r.nt ∧ r.nt ≤ 3 ∧ patOk r.pat = true ∧ patN r.pat ≤ 8 ∧ 0 ≤ r.cost ∧ r.cost < 10 ∧ r.form.length ≤ 12

set_option maxRecDepth 100000 in
set_option maxHeartbeats 8000000 in
theorem text_any (rs : List Rule) (hrs : ∀ r ∈ rs, LineOk r) (hlen : rs.length ≤ 96) (A : Option Addr) (d : Nat) (w : World) (hp : RulesIn w A d rs) : Calls Tryd.prog 60 #[.slice A rs.length d] w fun e w' => e = .returned (.string ⟨(rulesText rs).toArray⟩) ∧ Below w.heap.size w w' := by
  have HP := Lib.hid hp
  have HO := Lib.hid hrs
  obtain ⟨n, hn⟩ : ∃ x, Hid (rs.length = x) := ⟨_, Lib.hid rfl⟩
  rw [hn.out] at hlen ⊢
  clear hp hrs
  go_enter Tryd.func60, Tryd.ntmps60
  go_wp2_with fail
  go_loopw [3, 4] (fun s i wr => ∃ (k : Nat) (t : List UInt8), k ≤ n ∧ i = .int .i64 k ∧ s = .string ⟨t.toArray⟩ ∧ Hid (t = rulesText (rs.take k)) ∧ t.length ≤ 10000 * k ∧ Below w.heap.size w wr) (fun _ i _ => n - (intOf i).toNat)
  case atStart => exact ⟨0, [], by omega, rfl, rfl, Lib.hid rfl, by simp, Below.refl _ _⟩
  case round =>
    obtain ⟨k, t, hk, rfl, rfl, hte, htl, hb⟩ := hrel
    obtain ⟨wo, rfl⟩ : ∃ wo : World, wo = wr := ⟨_, rfl⟩
    by_cases hlt : k < n
    · have hkl : k < rs.length := by rw [hn.out]; exact hlt
      obtain ⟨ok, hps⟩ := HP.out.below hb
      obtain ⟨g, off, B, d2, hA, _, hg, ⟨a0, a1, a2, a3, a4, a5⟩, _, hq⟩ := rules_at hps k hkl
      cases hA
      have hok := HO.out rs[k] (List.getElem_mem hkl)
      have hnext := Lib.hid (rulesText_take rs k hkl)
      obtain ⟨r, hr⟩ : ∃ x, Hid (rs[k] = x) := ⟨_, Lib.hid rfl⟩
      rw [hr.out] at a0 a1 a2 a3 a4 a5 hq hok hnext
      obtain ⟨h1, h2, h3, h4, h5, h6, h7⟩ := hok
      obtain ⟨nt, hnt⟩ : ∃ m : Nat, r.nt = m := ⟨r.nt.toNat, by omega⟩
      obtain ⟨c, hc⟩ : ∃ m : Nat, r.cost = m := ⟨r.cost.toNat, by omega⟩
      have hnt4 : nt < 4 := by omega
      have hc10 : c < 10 := by omega
      have hll : Hid (lineText r = ntWords.getD nt [] ++ ([32, 60, 45, 32] ++ (patText r.pat ++ ([32, 58, 32] ++ ([dgt c] ++ ([32] ++ (r.form ++ [10]))))))) := Lib.hid (by unfold lineText; rw [hnt, hc, Int.toNat_natCast])
      have hcp := fun W hx => patText_any r.pat h3 (by omega) B d2 W hx
      have hyl := patText_len r.pat
      have hcd := fun W => dec1 c (dgt c) (dgt_nat c hc10) hc10 W
      have hns := fun W => nts_any W
      have hntl : nt < ntWords.length := hnt4
      have hgd : ntWords.getD nt [] = ntWords[nt] := by rw [List.getD_eq_getElem?_getD, List.getElem?_eq_getElem hntl]; rfl
      have hxl := ntWord_le nt
      rw [hgd] at hll hxl
      rw [hnt] at a0
      rw [hc] at a4
      obtain ⟨x, hx⟩ : ∃ x, Hid (ntWords[nt] = x) := ⟨_, Lib.hid rfl⟩
      obtain ⟨q, hqe⟩ : ∃ x, Hid (r.pat = x) := ⟨_, Lib.hid rfl⟩
      obtain ⟨y, hy⟩ : ∃ x, Hid (patText r.pat = x) := ⟨_, Lib.hid rfl⟩
      obtain ⟨f, hf⟩ : ∃ x, Hid (r.form = x) := ⟨_, Lib.hid rfl⟩
      obtain ⟨b, hb0⟩ : ∃ x, Hid (dgt c = x) := ⟨_, Lib.hid rfl⟩
      rw [hx.out, hy.out, hf.out, hb0.out] at hll
      rw [hx.out] at hxl
      rw [hy.out] at hyl hcp
      rw [hqe.out] at hcp a1 a2 a3 hq h4 hyl
      rw [hf.out] at a5 h7
      rw [hb0.out] at hcd
      have HQ : Hid (PatIn wo B d2 q) := Lib.hid ⟨_, hq⟩
      have hyl2 : y.length ≤ 8800 := by omega
      have hz0 := hb.size
      have hd0 : Below wo.heap.size wo wo.drew := (Below.refl _ _).drew
      clear hps hq h1 h2 h3 hnt hc hgd
      obtain ⟨t1, s1⟩ : ∃ z, Hid (t ++ x = z) := ⟨_, Lib.hid rfl⟩
      have l1 : t1.length ≤ 10000 * k + 4 := by rw [← s1.out, List.length_append]; (try simp only [List.length_cons, List.length_nil]); omega
      have d1a := fun W => add_str t x t1 s1.out (by (try simp only [List.length_cons, List.length_nil]); omega) W
      obtain ⟨t2, s2⟩ : ∃ z, Hid (t1 ++ [32, 60, 45, 32] = z) := ⟨_, Lib.hid rfl⟩
      have l2 : t2.length ≤ 10000 * k + 8 := by rw [← s2.out, List.length_append]; (try simp only [List.length_cons, List.length_nil]); omega
      have d2a := fun W => add_str t1 [32, 60, 45, 32] t2 s2.out (by (try simp only [List.length_cons, List.length_nil]); omega) W
      obtain ⟨t3, s3⟩ : ∃ z, Hid (t2 ++ y = z) := ⟨_, Lib.hid rfl⟩
      have l3 : t3.length ≤ 10000 * k + 8808 := by rw [← s3.out, List.length_append]; (try simp only [List.length_cons, List.length_nil]); omega
      have d3a := fun W => add_str t2 y t3 s3.out (by (try simp only [List.length_cons, List.length_nil]); omega) W
      obtain ⟨t4, s4⟩ : ∃ z, Hid (t3 ++ [32, 58, 32] = z) := ⟨_, Lib.hid rfl⟩
      have l4 : t4.length ≤ 10000 * k + 8811 := by rw [← s4.out, List.length_append]; (try simp only [List.length_cons, List.length_nil]); omega
      have d4a := fun W => add_str t3 [32, 58, 32] t4 s4.out (by (try simp only [List.length_cons, List.length_nil]); omega) W
      obtain ⟨t5, s5⟩ : ∃ z, Hid (t4 ++ [b] = z) := ⟨_, Lib.hid rfl⟩
      have l5 : t5.length ≤ 10000 * k + 8812 := by rw [← s5.out, List.length_append]; (try simp only [List.length_cons, List.length_nil]); omega
      have d5a := fun W => add_str t4 [b] t5 s5.out (by (try simp only [List.length_cons, List.length_nil]); omega) W
      obtain ⟨t6, s6⟩ : ∃ z, Hid (t5 ++ [32] = z) := ⟨_, Lib.hid rfl⟩
      have l6 : t6.length ≤ 10000 * k + 8813 := by rw [← s6.out, List.length_append]; (try simp only [List.length_cons, List.length_nil]); omega
      have d6a := fun W => add_str t5 [32] t6 s6.out (by (try simp only [List.length_cons, List.length_nil]); omega) W
      obtain ⟨t7, s7⟩ : ∃ z, Hid (t6 ++ f = z) := ⟨_, Lib.hid rfl⟩
      have l7 : t7.length ≤ 10000 * k + 8825 := by rw [← s7.out, List.length_append]; (try simp only [List.length_cons, List.length_nil]); omega
      have d7a := fun W => add_str t6 f t7 s7.out (by (try simp only [List.length_cons, List.length_nil]); omega) W
      obtain ⟨t8, s8⟩ : ∃ z, Hid (t7 ++ [10] = z) := ⟨_, Lib.hid rfl⟩
      have l8 : t8.length ≤ 10000 * k + 8826 := by rw [← s8.out, List.length_append]; (try simp only [List.length_cons, List.length_nil]); omega
      have d8a := fun W => add_str t7 [10] t8 s8.out (by (try simp only [List.length_cons, List.length_nil]); omega) W
      go_wp2_with fail
      refine anyJ_begin 34 (fun W => Below wo.heap.size wo W) (by kernel_rfl) ((Below.refl _ _).drew) (fun hHeld => ?_)
      refine take (i := 0) (d := some 11) (v := .string ⟨t.toArray⟩) (by kernel_rfl) rfl rfl rfl (fun _ _ _ h => h) hHeld (fun W hSw => by go_simp) ?_
      simp only [Act.put, List.setIfInBounds_toArray, List.set_cons_zero, List.set_cons_succ]
      refine take (i := 2) (d := some 13) (v := .slice (some ⟨g, off, none⟩) n d) (by kernel_rfl) rfl rfl rfl (fun _ _ _ h => h) hHeld (fun W hSw => by go_simp) ?_
      simp only [Act.put, List.setIfInBounds_toArray, List.set_cons_zero, List.set_cons_succ]
      refine take (i := 3) (d := some 14) (v := .int .i64 k) (by kernel_rfl) rfl rfl rfl (fun _ _ _ h => h) hHeld (fun W hSw => by go_simp) ?_
      simp only [Act.put, List.setIfInBounds_toArray, List.set_cons_zero, List.set_cons_succ]
      refine take (i := 4) (d := some 15) (v := .pointer (some ⟨g, off + k * 6, none⟩)) (by kernel_rfl) rfl rfl rfl (fun _ _ _ h => h) hHeld (fun W hSw => by go_simp) ?_
      simp only [Act.put, List.setIfInBounds_toArray, List.set_cons_zero, List.set_cons_succ]
      refine take (i := 5) (d := some 16) (v := .pointer (some ⟨g, off + k * 6, none⟩)) (by kernel_rfl) rfl rfl rfl (fun _ _ _ h => h) hHeld (fun W hSw => by go_simp) ?_
      simp only [Act.put, List.setIfInBounds_toArray, List.set_cons_zero, List.set_cons_succ]
      refine take (i := 6) (d := some 17) (v := .int .i64 nt) (by kernel_rfl) rfl rfl rfl (fun _ _ _ h => h) hHeld (fun W hSw => by have x0 := cell_later hSw a0; go_simp) ?_
      simp only [Act.put, List.setIfInBounds_toArray, List.set_cons_zero, List.set_cons_succ]
      refine take (i := 11) (d := some 22) (v := .slice (some ⟨g, off, none⟩) n d) (by kernel_rfl) rfl rfl rfl (fun _ _ _ h => h) hHeld (fun W hSw => by go_simp) ?_
      simp only [Act.put, List.setIfInBounds_toArray, List.set_cons_zero, List.set_cons_succ]
      refine take (i := 12) (d := some 23) (v := .int .i64 k) (by kernel_rfl) rfl rfl rfl (fun _ _ _ h => h) hHeld (fun W hSw => by go_simp) ?_
      simp only [Act.put, List.setIfInBounds_toArray, List.set_cons_zero, List.set_cons_succ]
      refine take (i := 13) (d := some 24) (v := .pointer (some ⟨g, off + k * 6, none⟩)) (by kernel_rfl) rfl rfl rfl (fun _ _ _ h => h) hHeld (fun W hSw => by go_simp) ?_
      simp only [Act.put, List.setIfInBounds_toArray, List.set_cons_zero, List.set_cons_succ]
      refine take (i := 14) (d := some 25) (v := .pointer (some ⟨g, off + k * 6 + 1, none⟩)) (by kernel_rfl) rfl rfl rfl (fun _ _ _ h => h) hHeld (fun W hSw => by go_simp) ?_
      simp only [Act.put, List.setIfInBounds_toArray, List.set_cons_zero, List.set_cons_succ]
      refine take (i := 15) (d := some 26) (v := .agg #[.int .i64 q.op, .int .i64 q.nt, .slice B q.kids.length d2]) (by kernel_rfl) rfl rfl rfl (fun _ _ _ h => h) hHeld (fun W hSw => by have x1 := cell_later hSw a1; have x2 := cell_later hSw a2; have x3 := cell_later hSw a3; go_simp) ?_
      simp only [Act.put, List.setIfInBounds_toArray, List.set_cons_zero, List.set_cons_succ]
      refine take (i := 19) (d := some 30) (v := .slice (some ⟨g, off, none⟩) n d) (by kernel_rfl) rfl rfl rfl (fun _ _ _ h => h) hHeld (fun W hSw => by go_simp) ?_
      simp only [Act.put, List.setIfInBounds_toArray, List.set_cons_zero, List.set_cons_succ]
      refine take (i := 20) (d := some 31) (v := .int .i64 k) (by kernel_rfl) rfl rfl rfl (fun _ _ _ h => h) hHeld (fun W hSw => by go_simp) ?_
      simp only [Act.put, List.setIfInBounds_toArray, List.set_cons_zero, List.set_cons_succ]
      refine take (i := 21) (d := some 32) (v := .pointer (some ⟨g, off + k * 6, none⟩)) (by kernel_rfl) rfl rfl rfl (fun _ _ _ h => h) hHeld (fun W hSw => by go_simp) ?_
      simp only [Act.put, List.setIfInBounds_toArray, List.set_cons_zero, List.set_cons_succ]
      refine take (i := 22) (d := some 33) (v := .pointer (some ⟨g, off + k * 6 + 4, none⟩)) (by kernel_rfl) rfl rfl rfl (fun _ _ _ h => h) hHeld (fun W hSw => by go_simp) ?_
      simp only [Act.put, List.setIfInBounds_toArray, List.set_cons_zero, List.set_cons_succ]
      refine take (i := 23) (d := some 34) (v := .int .i64 c) (by kernel_rfl) rfl rfl rfl (fun _ _ _ h => h) hHeld (fun W hSw => by have x4 := cell_later hSw a4; go_simp) ?_
      simp only [Act.put, List.setIfInBounds_toArray, List.set_cons_zero, List.set_cons_succ]
      refine take (i := 27) (d := some 38) (v := .slice (some ⟨g, off, none⟩) n d) (by kernel_rfl) rfl rfl rfl (fun _ _ _ h => h) hHeld (fun W hSw => by go_simp) ?_
      simp only [Act.put, List.setIfInBounds_toArray, List.set_cons_zero, List.set_cons_succ]
      refine take (i := 28) (d := some 39) (v := .int .i64 k) (by kernel_rfl) rfl rfl rfl (fun _ _ _ h => h) hHeld (fun W hSw => by go_simp) ?_
      simp only [Act.put, List.setIfInBounds_toArray, List.set_cons_zero, List.set_cons_succ]
      refine take (i := 29) (d := some 40) (v := .pointer (some ⟨g, off + k * 6, none⟩)) (by kernel_rfl) rfl rfl rfl (fun _ _ _ h => h) hHeld (fun W hSw => by go_simp) ?_
      simp only [Act.put, List.setIfInBounds_toArray, List.set_cons_zero, List.set_cons_succ]
      refine take (i := 30) (d := some 41) (v := .pointer (some ⟨g, off + k * 6 + 5, none⟩)) (by kernel_rfl) rfl rfl rfl (fun _ _ _ h => h) hHeld (fun W hSw => by go_simp) ?_
      simp only [Act.put, List.setIfInBounds_toArray, List.set_cons_zero, List.set_cons_succ]
      refine take (i := 31) (d := some 42) (v := .string ⟨f.toArray⟩) (by kernel_rfl) rfl rfl rfl (fun _ _ _ h => h) hHeld (fun W hSw => by have x5 := cell_later hSw a5; go_simp) ?_
      simp only [Act.put, List.setIfInBounds_toArray, List.set_cons_zero, List.set_cons_succ]
      refine anyJ_only (i := 1) (d := some 12) (by kernel_rfl) rfl rfl rfl (fun K' hK => ?_)
      refine wp_go_call 106 _ _ rfl #[] rfl (fun W => by go_simp) (hns _) (fun e w1 he => ?_)
      obtain ⟨rfl, hw1⟩ := he
      obtain ⟨gn, hgn⟩ : ∃ x, Hid (wo.drew.heap.size = x) := ⟨_, Lib.hid rfl⟩
      have hb1 : Below wo.heap.size wo w1 := by rw [← hw1]; exact hd0.alloc (Nat.le_refl _) _
      have bn : BlkIs w1 gn 9 (strCells ntWords).toArray := by rw [← hw1]; exact BlkIs.fresh_at hgn.out.symm
      have cn : w1.cell? ⟨gn, nt, none⟩ = some (.string ⟨x.toArray⟩) := (bn.cell nt).trans (by rw [← hx.out]; simp [strCells, List.getElem?_eq_getElem hntl])
      have hgnw : wo.heap.size = gn := hgn.out
      rw [hgn.out]
      clear hw1
      refine ⟨_, rfl, hK.out _ _ (fun _ => hb1) (fun hHeld => ?_)⟩
      have hHeld := hHeld (by decide)
      simp only [Act.put, List.setIfInBounds_toArray, List.set_cons_zero, List.set_cons_succ]
      refine take (i := 7) (d := some 18) (v := .pointer (some ⟨gn, nt, none⟩)) (by kernel_rfl) rfl rfl rfl (fun _ _ _ h => h) hHeld (fun W hSw => by go_simp; omega) ?_
      simp only [Act.put, List.setIfInBounds_toArray, List.set_cons_zero, List.set_cons_succ]
      have hgl : gn < w1.heap.size := bn.lt
      refine anyJ_two (i := 8) (j := 16) (d := some 19) (d2 := some 27) (by kernel_rfl) rfl rfl rfl rfl rfl rfl (fun K' hK => ?_) (fun K' hK => ?_)
      · skip
        refine wp_val (w' := w1) (v := .string ⟨x.toArray⟩) (by go_simp) (hK.out _ _ (fun _ => hHeld) (fun hHeld => ?_))
        have hHeld := hHeld (by decide)
        simp only [Act.put, List.setIfInBounds_toArray, List.set_cons_zero, List.set_cons_succ]
        refine take (i := 9) (d := some 20) (v := .string ⟨t1.toArray⟩) (by kernel_rfl) rfl rfl rfl (fun _ _ _ h => h) hHeld (fun W hSw => by have x := d1a W; go_simp) ?_
        simp only [Act.put, List.setIfInBounds_toArray, List.set_cons_zero, List.set_cons_succ]
        refine take (i := 10) (d := some 21) (v := .string ⟨t2.toArray⟩) (by kernel_rfl) rfl rfl rfl (fun _ _ _ h => h) hHeld (fun W hSw => by have x := d2a W; go_simp) ?_
        simp only [Act.put, List.setIfInBounds_toArray, List.set_cons_zero, List.set_cons_succ]
        refine anyJ_only (i := 16) (d := some 27) (by kernel_rfl) rfl rfl rfl (fun K' hK => ?_)
        refine wp_go_call 107 _ _ rfl #[.agg #[.int .i64 q.op, .int .i64 q.nt, .slice B q.kids.length d2]] rfl (fun W => by go_simp) (hcp _ (HQ.out.below hb1)) (fun e w2 he => ?_)
        obtain ⟨rfl, hw2⟩ := he
        have hb2 : Below wo.heap.size wo w2 := hb1.trans (hw2.mono hb1.size)
        have bn := bn.below hw2 bn.lt
        have cn := cell_later hw2 cn
        refine ⟨_, rfl, hK.out _ _ (fun _ => hb2) (fun hHeld => ?_)⟩
        have hHeld := hHeld (by decide)
        simp only [Act.put, List.setIfInBounds_toArray, List.set_cons_zero, List.set_cons_succ]
        refine take (i := 17) (d := some 28) (v := .string ⟨t3.toArray⟩) (by kernel_rfl) rfl rfl rfl (fun _ _ _ h => h) hHeld (fun W hSw => by have x := d3a W; go_simp) ?_
        simp only [Act.put, List.setIfInBounds_toArray, List.set_cons_zero, List.set_cons_succ]
        refine take (i := 18) (d := some 29) (v := .string ⟨t4.toArray⟩) (by kernel_rfl) rfl rfl rfl (fun _ _ _ h => h) hHeld (fun W hSw => by have x := d4a W; go_simp) ?_
        simp only [Act.put, List.setIfInBounds_toArray, List.set_cons_zero, List.set_cons_succ]
        refine anyJ_only (i := 24) (d := some 35) (by kernel_rfl) rfl rfl rfl (fun K' hK => ?_)
        refine wp_go_call 101 _ _ rfl #[.int .i64 c] rfl (fun W => by go_simp) (hcd _) (fun e w3 he => ?_)
        obtain ⟨rfl, hw3⟩ := he
        have hb3 : Below wo.heap.size wo w3 := hb2.trans (hw3.mono hb2.size)
        have cn := cell_later hw3 cn
        refine ⟨_, rfl, hK.out _ _ (fun _ => hb3) (fun hHeld => ?_)⟩
        have hHeld := hHeld (by decide)
        simp only [Act.put, List.setIfInBounds_toArray, List.set_cons_zero, List.set_cons_succ]
        refine take (i := 25) (d := some 36) (v := .string ⟨t5.toArray⟩) (by kernel_rfl) rfl rfl rfl (fun _ _ _ h => h) hHeld (fun W hSw => by have x := d5a W; go_simp) ?_
        simp only [Act.put, List.setIfInBounds_toArray, List.set_cons_zero, List.set_cons_succ]
        refine take (i := 26) (d := some 37) (v := .string ⟨t6.toArray⟩) (by kernel_rfl) rfl rfl rfl (fun _ _ _ h => h) hHeld (fun W hSw => by have x := d6a W; go_simp) ?_
        simp only [Act.put, List.setIfInBounds_toArray, List.set_cons_zero, List.set_cons_succ]
        refine take (i := 32) (d := some 43) (v := .string ⟨t7.toArray⟩) (by kernel_rfl) rfl rfl rfl (fun _ _ _ h => h) hHeld (fun W hSw => by have x := d7a W; go_simp) ?_
        simp only [Act.put, List.setIfInBounds_toArray, List.set_cons_zero, List.set_cons_succ]
        refine take (i := 33) (d := some 44) (v := .string ⟨t8.toArray⟩) (by kernel_rfl) rfl rfl rfl (fun _ _ _ h => h) hHeld (fun W hSw => by have x := d8a W; go_simp) ?_
        simp only [Act.put, List.setIfInBounds_toArray, List.set_cons_zero, List.set_cons_succ]
        refine anyJ_only (i := 34) (d := some 3) (by kernel_rfl) rfl rfl rfl (fun K' hK => ?_)
        refine wp_val (w' := w3) (v := .string ⟨t8.toArray⟩) (by go_simp) (hK.out _ _ (fun h => absurd rfl h) (fun _ => ?_))
        simp only [Act.put, List.setIfInBounds_toArray, List.set_cons_zero, List.set_cons_succ]
        refine anyJ_done (by kernel_rfl) ?_ _
        go_wp2_with fail
        go_roundw
        case rel => exact ⟨k + 1, t8, by omega, by go_num, rfl, Lib.hid (by
          rw [hnext.out, hll.out, ← hte.out, ← s8.out, ← s7.out, ← s6.out, ← s5.out, ← s4.out, ← s3.out, ← s2.out, ← s1.out]
          simp only [List.append_assoc]), by omega, hb.trans (hb3.mono hz0)⟩
        case measure => simp [intOf]; omega
      · skip
        refine wp_go_call 107 _ _ rfl #[.agg #[.int .i64 q.op, .int .i64 q.nt, .slice B q.kids.length d2]] rfl (fun W => by go_simp) (hcp _ (HQ.out.below hb1)) (fun e w2 he => ?_)
        obtain ⟨rfl, hw2⟩ := he
        have hb2 : Below wo.heap.size wo w2 := hb1.trans (hw2.mono hb1.size)
        have bn := bn.below hw2 bn.lt
        have cn := cell_later hw2 cn
        refine ⟨_, rfl, hK.out _ _ (fun _ => hb2) (fun hHeld => ?_)⟩
        have hHeld := hHeld (by decide)
        simp only [Act.put, List.setIfInBounds_toArray, List.set_cons_zero, List.set_cons_succ]
        refine anyJ_two (i := 8) (j := 24) (d := some 19) (d2 := some 35) (by kernel_rfl) rfl rfl rfl rfl rfl rfl (fun K' hK => ?_) (fun K' hK => ?_)
        · skip
          refine wp_val (w' := w2) (v := .string ⟨x.toArray⟩) (by go_simp) (hK.out _ _ (fun _ => hHeld) (fun hHeld => ?_))
          have hHeld := hHeld (by decide)
          simp only [Act.put, List.setIfInBounds_toArray, List.set_cons_zero, List.set_cons_succ]
          refine take (i := 9) (d := some 20) (v := .string ⟨t1.toArray⟩) (by kernel_rfl) rfl rfl rfl (fun _ _ _ h => h) hHeld (fun W hSw => by have x := d1a W; go_simp) ?_
          simp only [Act.put, List.setIfInBounds_toArray, List.set_cons_zero, List.set_cons_succ]
          refine take (i := 10) (d := some 21) (v := .string ⟨t2.toArray⟩) (by kernel_rfl) rfl rfl rfl (fun _ _ _ h => h) hHeld (fun W hSw => by have x := d2a W; go_simp) ?_
          simp only [Act.put, List.setIfInBounds_toArray, List.set_cons_zero, List.set_cons_succ]
          refine take (i := 17) (d := some 28) (v := .string ⟨t3.toArray⟩) (by kernel_rfl) rfl rfl rfl (fun _ _ _ h => h) hHeld (fun W hSw => by have x := d3a W; go_simp) ?_
          simp only [Act.put, List.setIfInBounds_toArray, List.set_cons_zero, List.set_cons_succ]
          refine take (i := 18) (d := some 29) (v := .string ⟨t4.toArray⟩) (by kernel_rfl) rfl rfl rfl (fun _ _ _ h => h) hHeld (fun W hSw => by have x := d4a W; go_simp) ?_
          simp only [Act.put, List.setIfInBounds_toArray, List.set_cons_zero, List.set_cons_succ]
          refine anyJ_only (i := 24) (d := some 35) (by kernel_rfl) rfl rfl rfl (fun K' hK => ?_)
          refine wp_go_call 101 _ _ rfl #[.int .i64 c] rfl (fun W => by go_simp) (hcd _) (fun e w3 he => ?_)
          obtain ⟨rfl, hw3⟩ := he
          have hb3 : Below wo.heap.size wo w3 := hb2.trans (hw3.mono hb2.size)
          have cn := cell_later hw3 cn
          refine ⟨_, rfl, hK.out _ _ (fun _ => hb3) (fun hHeld => ?_)⟩
          have hHeld := hHeld (by decide)
          simp only [Act.put, List.setIfInBounds_toArray, List.set_cons_zero, List.set_cons_succ]
          refine take (i := 25) (d := some 36) (v := .string ⟨t5.toArray⟩) (by kernel_rfl) rfl rfl rfl (fun _ _ _ h => h) hHeld (fun W hSw => by have x := d5a W; go_simp) ?_
          simp only [Act.put, List.setIfInBounds_toArray, List.set_cons_zero, List.set_cons_succ]
          refine take (i := 26) (d := some 37) (v := .string ⟨t6.toArray⟩) (by kernel_rfl) rfl rfl rfl (fun _ _ _ h => h) hHeld (fun W hSw => by have x := d6a W; go_simp) ?_
          simp only [Act.put, List.setIfInBounds_toArray, List.set_cons_zero, List.set_cons_succ]
          refine take (i := 32) (d := some 43) (v := .string ⟨t7.toArray⟩) (by kernel_rfl) rfl rfl rfl (fun _ _ _ h => h) hHeld (fun W hSw => by have x := d7a W; go_simp) ?_
          simp only [Act.put, List.setIfInBounds_toArray, List.set_cons_zero, List.set_cons_succ]
          refine take (i := 33) (d := some 44) (v := .string ⟨t8.toArray⟩) (by kernel_rfl) rfl rfl rfl (fun _ _ _ h => h) hHeld (fun W hSw => by have x := d8a W; go_simp) ?_
          simp only [Act.put, List.setIfInBounds_toArray, List.set_cons_zero, List.set_cons_succ]
          refine anyJ_only (i := 34) (d := some 3) (by kernel_rfl) rfl rfl rfl (fun K' hK => ?_)
          refine wp_val (w' := w3) (v := .string ⟨t8.toArray⟩) (by go_simp) (hK.out _ _ (fun h => absurd rfl h) (fun _ => ?_))
          simp only [Act.put, List.setIfInBounds_toArray, List.set_cons_zero, List.set_cons_succ]
          refine anyJ_done (by kernel_rfl) ?_ _
          go_wp2_with fail
          go_roundw
          case rel => exact ⟨k + 1, t8, by omega, by go_num, rfl, Lib.hid (by
            rw [hnext.out, hll.out, ← hte.out, ← s8.out, ← s7.out, ← s6.out, ← s5.out, ← s4.out, ← s3.out, ← s2.out, ← s1.out]
            simp only [List.append_assoc]), by omega, hb.trans (hb3.mono hz0)⟩
          case measure => simp [intOf]; omega
        · skip
          refine wp_go_call 101 _ _ rfl #[.int .i64 c] rfl (fun W => by go_simp) (hcd _) (fun e w3 he => ?_)
          obtain ⟨rfl, hw3⟩ := he
          have hb3 : Below wo.heap.size wo w3 := hb2.trans (hw3.mono hb2.size)
          have cn := cell_later hw3 cn
          refine ⟨_, rfl, hK.out _ _ (fun _ => hb3) (fun hHeld => ?_)⟩
          have hHeld := hHeld (by decide)
          simp only [Act.put, List.setIfInBounds_toArray, List.set_cons_zero, List.set_cons_succ]
          refine anyJ_only (i := 8) (d := some 19) (by kernel_rfl) rfl rfl rfl (fun K' hK => ?_)
          refine wp_val (w' := w3) (v := .string ⟨x.toArray⟩) (by go_simp) (hK.out _ _ (fun _ => hHeld) (fun hHeld => ?_))
          have hHeld := hHeld (by decide)
          simp only [Act.put, List.setIfInBounds_toArray, List.set_cons_zero, List.set_cons_succ]
          refine take (i := 9) (d := some 20) (v := .string ⟨t1.toArray⟩) (by kernel_rfl) rfl rfl rfl (fun _ _ _ h => h) hHeld (fun W hSw => by have x := d1a W; go_simp) ?_
          simp only [Act.put, List.setIfInBounds_toArray, List.set_cons_zero, List.set_cons_succ]
          refine take (i := 10) (d := some 21) (v := .string ⟨t2.toArray⟩) (by kernel_rfl) rfl rfl rfl (fun _ _ _ h => h) hHeld (fun W hSw => by have x := d2a W; go_simp) ?_
          simp only [Act.put, List.setIfInBounds_toArray, List.set_cons_zero, List.set_cons_succ]
          refine take (i := 17) (d := some 28) (v := .string ⟨t3.toArray⟩) (by kernel_rfl) rfl rfl rfl (fun _ _ _ h => h) hHeld (fun W hSw => by have x := d3a W; go_simp) ?_
          simp only [Act.put, List.setIfInBounds_toArray, List.set_cons_zero, List.set_cons_succ]
          refine take (i := 18) (d := some 29) (v := .string ⟨t4.toArray⟩) (by kernel_rfl) rfl rfl rfl (fun _ _ _ h => h) hHeld (fun W hSw => by have x := d4a W; go_simp) ?_
          simp only [Act.put, List.setIfInBounds_toArray, List.set_cons_zero, List.set_cons_succ]
          refine take (i := 25) (d := some 36) (v := .string ⟨t5.toArray⟩) (by kernel_rfl) rfl rfl rfl (fun _ _ _ h => h) hHeld (fun W hSw => by have x := d5a W; go_simp) ?_
          simp only [Act.put, List.setIfInBounds_toArray, List.set_cons_zero, List.set_cons_succ]
          refine take (i := 26) (d := some 37) (v := .string ⟨t6.toArray⟩) (by kernel_rfl) rfl rfl rfl (fun _ _ _ h => h) hHeld (fun W hSw => by have x := d6a W; go_simp) ?_
          simp only [Act.put, List.setIfInBounds_toArray, List.set_cons_zero, List.set_cons_succ]
          refine take (i := 32) (d := some 43) (v := .string ⟨t7.toArray⟩) (by kernel_rfl) rfl rfl rfl (fun _ _ _ h => h) hHeld (fun W hSw => by have x := d7a W; go_simp) ?_
          simp only [Act.put, List.setIfInBounds_toArray, List.set_cons_zero, List.set_cons_succ]
          refine take (i := 33) (d := some 44) (v := .string ⟨t8.toArray⟩) (by kernel_rfl) rfl rfl rfl (fun _ _ _ h => h) hHeld (fun W hSw => by have x := d8a W; go_simp) ?_
          simp only [Act.put, List.setIfInBounds_toArray, List.set_cons_zero, List.set_cons_succ]
          refine anyJ_only (i := 34) (d := some 3) (by kernel_rfl) rfl rfl rfl (fun K' hK => ?_)
          refine wp_val (w' := w3) (v := .string ⟨t8.toArray⟩) (by go_simp) (hK.out _ _ (fun h => absurd rfl h) (fun _ => ?_))
          simp only [Act.put, List.setIfInBounds_toArray, List.set_cons_zero, List.set_cons_succ]
          refine anyJ_done (by kernel_rfl) ?_ _
          go_wp2_with fail
          go_roundw
          case rel => exact ⟨k + 1, t8, by omega, by go_num, rfl, Lib.hid (by
            rw [hnext.out, hll.out, ← hte.out, ← s8.out, ← s7.out, ← s6.out, ← s5.out, ← s4.out, ← s3.out, ← s2.out, ← s1.out]
            simp only [List.append_assoc]), by omega, hb.trans (hb3.mono hz0)⟩
          case measure => simp [intOf]; omega
    · have hkn : k = n := by omega
      have hall : rs.take k = rs := List.take_of_length_le (by rw [hn.out]; omega)
      have hte2 := hte.out
      rw [hall] at hte2
      go_wp2_with fail
      go_ret
      exact ⟨by rw [← hte2]; rfl, hb⟩

end

end Go.Proofs.YtaippkdlibampaaDoor

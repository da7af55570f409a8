/- Trees: they lie as patterns do. EqTree, CopyTree, TreeWeight walked; what comes in decoded. (Printed by gen/gen_tree.py.) -/
import Derived.Test.YthdicdkgfmiepaaDoorRuQ
import Derived.Test.YthdicdkgfmiepaaDoorRuS
namespace Go.Proofs.YthdicdkgfmiepaaDoor
open Go.RowKit

theorem cellsTree : Tryd.prog.cellsOf 55 = 3 := by kernel_rfl
theorem bytesTree : Tryd.prog.bytesOf 55 = 40 := by kernel_rfl

theorem tree_of : ∀ (d : D), HasTy Tryd.prog d 55 → ∃ p, d = encP p ∧ PatWf p
  | d, h => by
    obtain ⟨ds, hd0, h1⟩ := hasTy_st Tryd.underlying55 h
    obtain ⟨d1, r1, rfl, g1, h2⟩ := hasTys_cons h1
    obtain ⟨d2, r2, rfl, g2, h3⟩ := hasTys_cons h2
    obtain ⟨d3, r3, rfl, g3, h4⟩ := hasTys_cons h3
    obtain rfl := hasTys_nil h4
    obtain ⟨op, rfl, w1⟩ := hasTy_int Tryd.underlying3 g1
    obtain ⟨nt, rfl, w2⟩ := hasTy_int Tryd.underlying2 g2
    obtain ⟨ks, rfl, hl, ha⟩ := hasTy_lst Tryd.underlying50 cellsTree bytesTree g3
    obtain ⟨ps, rfl, hp⟩ := allTy_map (enc := encP) (Q := PatWf) ks ha fun d' hm hd => tree_of d' hd
    refine ⟨.mk op nt ps, ?_, ?_⟩
    · rw [encP_eq]; exact hd0
    · unfold PatWf; exact ⟨w1, w2, patsWf_of ps hp⟩
termination_by d => SizeOf.sizeOf d
decreasing_by
  have := List.sizeOf_lt_of_mem hm
  rw [hd0]
  simp
  omega

def EqTreeOk (p : Pat) : Prop := ∀ (q : Pat) (A B : Option Addr) (c d : Nat) (w : World), PatIn w A c p → PatIn w B d q →
  Calls Tryd.prog 31 #[.agg #[.int .i64 p.op, .int .i64 p.nt, .slice A p.kids.length c], .agg #[.int .i64 q.op, .int .i64 q.nt, .slice B q.kids.length d]] w (SomeBoolBelow (same p q) w)

set_option maxHeartbeats 2000000 in
theorem eqTrees_of (ps qs : List Pat) (ih : ∀ i (h : i < ps.length), EqTreeOk ps[i]) (A B : Option Addr) (c d : Nat) (w : World) (hp : PatsIn w A c ps) (hq : PatsIn w B d qs) :
    Calls Tryd.prog 62 #[.slice A ps.length c, .slice B qs.length d] w (SomeBoolBelow (same ps qs) w) := by
  have hm := hp.le
  unfold maxLen at hm
  by_cases hl : ps.length = qs.length
  · obtain ⟨n, hn⟩ : ∃ n, Hid (ps.length = n) := ⟨_, Lib.hid rfl⟩
    have hn2 : Hid (qs.length = n) := Lib.hid (by rw [← hl]; exact hn.out)
    rw [hn.out, hn2.out]
    rw [hn.out] at hm
    clear hl
    go_enter Tryd.func62, Tryd.ntmps62
    go_wp2_with fail
    go_loopw [5] (fun i wr => ∃ k : Nat, k ≤ n ∧ i = .int .i64 k ∧ Below w.heap.size w wr ∧ Hid (∀ j (h1 : j < ps.length) (h2 : j < qs.length), j < k → ps[j] = qs[j])) (fun i _ => n - (intOf i).toNat)
    case atStart => exact ⟨0, by omega, rfl, Below.refl _ _, Lib.hid (fun j _ _ h => absurd h (by omega))⟩
    case round =>
      obtain ⟨k, hk, rfl, hb, hsame⟩ := hrel
      obtain ⟨wo, rfl⟩ : ∃ wo : World, wo = wr := ⟨_, rfl⟩
      by_cases hlt : k < n
      · have hkp : k < ps.length := by rw [hn.out]; exact hlt
        have hkq : k < qs.length := by rw [hn2.out]; exact hlt
        have hp1 := hp.below hb
        have hq1 := hq.below hb
        obtain ⟨okp, hp1⟩ := hp1
        obtain ⟨okq, hq1⟩ := hq1
        obtain ⟨g, off, A', c', rfl, _, hg, ⟨a0, a1, a2⟩, hpi⟩ := pats_at hp1 k hkp
        obtain ⟨g', off', B', d', rfl, _, hg', ⟨b0, b1, b2⟩, hqi⟩ := pats_at hq1 k hkq
        have hc := ih k hkp qs[k] A' B' c' d'
        obtain ⟨p, hpe⟩ : ∃ p, Hid (ps[k] = p) := ⟨_, Lib.hid rfl⟩
        obtain ⟨q, hqe⟩ : ∃ q, Hid (qs[k] = q) := ⟨_, Lib.hid rfl⟩
        rw [hpe.out] at a0 a1 a2 hpi hc
        rw [hqe.out] at b0 b1 b2 hqi hc
        have HP : Hid (PatIn wo A' c' p) := Lib.hid ⟨_, hpi⟩
        have HQ : Hid (PatIn wo B' d' q) := Lib.hid ⟨_, hqi⟩
        clear hp1 hq1 hpi hqi hp hq ih
        have hg0 : g ≠ wo.heap.size := by omega
        have hg0' : g' ≠ wo.heap.size := by omega
        go_wp2_with fail
        obtain ⟨s, hs⟩ : ∃ s, Hid (same p q = s) := ⟨_, Lib.hid rfl⟩
        rw [hs.out] at hc
        cases s
        all_goals
          go_region_held3 (fun W => W.cell? ⟨g, off + k * 3, none⟩ = some (.int .i64 p.op) ∧ W.cell? ⟨g, off + k * 3 + 1, none⟩ = some (.int .i64 p.nt) ∧ W.cell? ⟨g, off + k * 3 + 2, none⟩ = some (.slice A' p.kids.length c') ∧ W.cell? ⟨g', off' + k * 3, none⟩ = some (.int .i64 q.op) ∧ W.cell? ⟨g', off' + k * 3 + 1, none⟩ = some (.int .i64 q.nt) ∧ W.cell? ⟨g', off' + k * 3 + 2, none⟩ = some (.slice B' q.kids.length d')) ((refine ⟨?_, ?_, ?_, ?_, ?_, ?_⟩ <;> (with_reducible (repeat (first | assumption | refine cell_drewN ?_ _ | refine cell_drew ?_)))))
            ((go_at_call 31; refine (hc _ (by with_reducible (repeat (first | exact HP.out | refine PatIn.drewN ?_ _ | refine PatIn.drew ?_))) (by with_reducible (repeat (first | exact HQ.out | refine PatIn.drewN ?_ _ | refine PatIn.drew ?_)))).mono ?_; rintro e w3 ⟨rfl, hb3⟩; obtain ⟨d0, d1, d2⟩ := later3 hb3 ⟨a0, a1, a2⟩; obtain ⟨d3, d4, d5⟩ := later3 hb3 ⟨b0, b1, b2⟩))
          go_wp2_with fail
        · go_ret
          refine ⟨ret_bool ?_, hb.trans (((Below.refl _ _).drew).trans (hb3.mono hb.size))⟩
          symm
          rw [same_false]
          intro he
          have h1 := (same_false p q).1 hs.out
          apply h1
          rw [← hpe.out, ← hqe.out]
          simp only [he]
        · go_roundw
          case rel =>
            refine ⟨k + 1, by omega, by go_num, ?_, Lib.hid (fun j h1 h2 hjk => ?_)⟩
            · exact hb.trans (((Below.refl _ _).drew).trans (hb3.mono hb.size))
            · by_cases e : j = k
              · subst e; rw [hpe.out, hqe.out]; exact (same_iff p q).1 hs.out
              · exact hsame.out j h1 h2 (by omega)
          case measure => simp [intOf]; omega
      · obtain rfl : k = n := by omega
        go_wp2_with fail
        go_ret
        refine ⟨ret_bool ?_, hb⟩
        have : ps = qs := List.ext_getElem (by rw [hn.out, hn2.out]) (fun j h1 h2 => hsame.out j h1 h2 (by rw [← hn.out]; exact h1))
        rw [(same_iff _ _).2 this]
  · go_enter Tryd.func62, Tryd.ntmps62
    go_wp2_with fail
    · go_ret
      refine ⟨ret_bool ?_, Below.refl _ _⟩
      symm
      rw [same_false]
      intro he
      exact hl (by rw [he])

set_option maxHeartbeats 2000000 in
theorem eqTree_of (p : Pat) (ih : ∀ i (h : i < p.kids.length), EqTreeOk p.kids[i]) : EqTreeOk p := by
  intro q A B c d w hp hq
  have hk := fun W => eqTrees_of p.kids q.kids ih A B c d W
  obtain ⟨po, hpo⟩ : ∃ x, Hid (p.op = x) := ⟨_, Lib.hid rfl⟩
  obtain ⟨qo, hqo⟩ : ∃ x, Hid (q.op = x) := ⟨_, Lib.hid rfl⟩
  obtain ⟨pn, hpn⟩ : ∃ x, Hid (p.nt = x) := ⟨_, Lib.hid rfl⟩
  obtain ⟨qn, hqn⟩ : ∃ x, Hid (q.nt = x) := ⟨_, Lib.hid rfl⟩
  have HPK : Hid (PatsIn w A c p.kids) := Lib.hid hp.kids
  have HQK : Hid (PatsIn w B d q.kids) := Lib.hid hq.kids
  have hsm : Hid (same p q = true ↔ po = qo ∧ pn = qn ∧ same p.kids q.kids = true) := by
    refine Lib.hid ?_
    rw [same_iff, same_iff, Pat.ext_iff', hpo.out, hqo.out, hpn.out, hqn.out]
  rw [hpo.out, hqo.out, hpn.out, hqn.out]
  clear hp hq ih
  by_cases h1 : po = qo
  · subst h1
    by_cases h2 : pn = qn
    · subst h2
      have hs : Hid (same p q = same p.kids q.kids) := by
        refine Lib.hid ?_
        rw [Bool.eq_iff_iff, hsm.out]; simp
      rw [hs.out]
      go_enter Tryd.func31, Tryd.ntmps31
      go_wp2_with fail
      refine (hk _ (HPK.out.below (below_box2 _ _ _)) (HQK.out.below (below_box2 _ _ _))).mono ?_
      rintro e w3 ⟨rfl, hb3⟩
      go_wp2_with fail
      go_ret
      exact ⟨ret_bool rfl, (below_box2 _ _ _).trans (hb3.mono (by simp; omega))⟩
    · have hs : Hid (same p q = false) := by
        refine Lib.hid ?_
        rw [← Bool.not_eq_true, hsm.out]; exact fun h => h2 h.2.1
      rw [hs.out]
      have hne : (pn == qn) = false := by simpa using h2
      go_enter Tryd.func31, Tryd.ntmps31
      go_wp2_with fail
      go_ret
      exact ⟨ret_bool rfl, below_box2 _ _ _⟩
  · have hs : Hid (same p q = false) := by
      refine Lib.hid ?_
      rw [← Bool.not_eq_true, hsm.out]; exact fun h => h1 h.1
    rw [hs.out]
    have hne : (po == qo) = false := by simpa using h1
    go_enter Tryd.func31, Tryd.ntmps31
    go_wp2_with fail
    go_ret
    exact ⟨ret_bool rfl, below_box2 _ _ _⟩

theorem eqTree_any : ∀ p : Pat, EqTreeOk p
  | .mk op nt kids => eqTree_of _ fun i h => eqTree_any kids[i]
termination_by p => SizeOf.sizeOf p
decreasing_by
  have := List.sizeOf_lt_of_mem (List.getElem_mem h)
  simp only [Pat.kids] at this
  simp only [Pat.mk.sizeOf_spec]
  omega

def TreeWOk (p : Pat) : Prop := ∀ (A : Option Addr) (c d : Nat) (w : World), PatIn w A c p → d ≤ 1000 →
  Calls Tryd.prog 52 #[.agg #[.int .i64 p.op, .int .i64 p.nt, .slice A p.kids.length c], .int .i64 d] w (fun e w' => WeighPost (1048576 * (d + 1)) (PatSmall p) w e w' ∧ e ≠ .returned (.int .i64 0))

set_option maxHeartbeats 2000000 in
theorem treeW_of (p : Pat) (ih : ∀ i (h : i < p.kids.length), TreeWOk p.kids[i]) : TreeWOk p := by
  intro A c d w hp hd
  have hkp := hp.kids
  have hle := hkp.le
  unfold maxLen at hle
  obtain ⟨n, hn⟩ : ∃ n, Hid (p.kids.length = n) := ⟨_, Lib.hid rfl⟩
  rw [hn.out] at hle ⊢
  have HK : Hid (PatsIn w A c p.kids) := Lib.hid hkp
  clear hp hkp
  by_cases hd0 : d = 0
  · subst hd0
    go_enter Tryd.func52, Tryd.ntmps52
    go_wp2_with fail
    go_ret
    exact ⟨⟨_, rfl, by omega, by omega, fun h => absurd h (by omega), below_alloc _ _⟩, by simp⟩
  · have hd1 : 1 ≤ d := by omega
    have hde : ((d : Int) == 0) = false := by simp; omega
    go_enter Tryd.func52, Tryd.ntmps52
    go_wp2_with fail
    have hbox : BlkIs (w.alloc (.cells #[.int .i64 p.op, .int .i64 p.nt, .slice A n c] 55)) w.heap.size 55 #[.int .i64 p.op, .int .i64 p.nt, .slice A n c] := BlkIs.fresh _ _ _
    have hb0 := below_alloc w (.cells #[.int .i64 p.op, .int .i64 p.nt, .slice A n c] 55)
    go_loopw [5, 6] (fun s i wr => ∃ (m : Int) (k : Nat), k ≤ n ∧ i = .int .i64 k ∧ s = .int .i64 m ∧ 1 + (k : Int) ≤ m ∧ m ≤ 1048576 * (d + 1) ∧ Below w.heap.size w wr ∧ BlkIs wr w.heap.size 55 #[.int .i64 p.op, .int .i64 p.nt, .slice A n c] ∧ Hid (m < 1048576 → ∀ j (h : j < p.kids.length), j < k → PatSmall p.kids[j])) (fun _ i _ => n - (intOf i).toNat)
    case atStart => exact ⟨1, 0, by omega, rfl, rfl, by omega, by omega, hb0, hbox, Lib.hid (fun _ j _ h => absurd h (by omega))⟩
    case round =>
      obtain ⟨m, k, hk, rfl, rfl, hm1, hm2, hb, hbk, hsm⟩ := hrel
      clear hbox hb0
      obtain ⟨wo, rfl⟩ : ∃ wo : World, wo = wr := ⟨_, rfl⟩
      have hbz := hbk.lt
      have hc2 : wo.cell? ⟨w.heap.size, 2, none⟩ = some (.slice A n c) := hbk.cell 2
      by_cases hlt : k < n
      · by_cases hmm : m < 1048576
        · have hkl : k < p.kids.length := by rw [hn.out]; exact hlt
          obtain ⟨ok, hps⟩ := HK.out.below hb
          obtain ⟨g, off, B, c', rfl, _, hg, ⟨a0, a1, a2⟩, hpi⟩ := pats_at hps k hkl
          have hcall := fun W => ih k hkl B c' (d - 1) W
          obtain ⟨q, hq⟩ : ∃ q, Hid (p.kids[k] = q) := ⟨_, Lib.hid rfl⟩
          rw [hq.out] at a0 a1 a2 hpi hcall
          have e1 : ((d - 1 : Nat) : Int) = (d : Int) - 1 := by omega
          rw [e1] at hcall
          have HP : Hid (PatIn wo B c' q) := Lib.hid ⟨_, hpi⟩
          clear hps hpi e1
          go_wp2_with fail
          refine (hcall _ HP.out (by omega)).mono ?_
          rintro e w3 ⟨⟨m2, rfl, h1, h2, h3, hb3⟩, hne⟩
          have hm3 : 1 ≤ m2 := by
            have : m2 ≠ 0 := fun h => hne (by rw [h])
            omega
          have H3 := Lib.hid h3
          clear h3 hne hcall
          have hd2 : (d : Int) ≤ 1000 := by omega
          go_wp2_with fail
          go_roundw
          case rel =>
            refine ⟨m + m2, k + 1, by omega, by go_num, rfl, by omega, by omega, hb.trans (hb3.mono hb.size), hbk.below hb3 hbz, Lib.hid (fun hlt2 j hj hjk => ?_)⟩
            by_cases e : j = k
            · subst e; rw [hq.out]; exact H3.out (by omega)
            · exact hsm.out hmm j hj (by omega)
          case measure => simp [intOf]; omega
        · go_wp2_with fail
          go_ret
          exact ⟨⟨m, rfl, by omega, by omega, fun h => absurd h (by omega), hb⟩, by simp; omega⟩
      · obtain rfl : k = n := by omega
        go_wp2_with fail
        go_ret
        exact ⟨⟨m, rfl, by omega, by omega, fun h => patSmall_of p (by rw [hn.out]; omega) (fun j hj => hsm.out h j hj (by rw [← hn.out]; exact hj)), hb⟩, by simp; omega⟩

theorem treeW_any : ∀ p : Pat, TreeWOk p
  | .mk op nt kids => treeW_of _ fun i h => treeW_any kids[i]
termination_by p => SizeOf.sizeOf p
decreasing_by
  have := List.sizeOf_lt_of_mem (List.getElem_mem h)
  simp only [Pat.kids] at this
  simp only [Pat.mk.sizeOf_spec]
  omega

theorem tree_info : (Tryd.prog.info? 55).map (fun i => (i.zero, i.size, i.bytes)) = some (some (.agg #[.int .i64 0, .int .i64 0, .slice none 0 0]), 3, 40) := by kernel_rfl

def CopyTreeOk (p : Pat) : Prop := ∀ (A : Option Addr) (c : Nat) (w : World), PatIn w A c p → Calls Tryd.prog 22 #[.agg #[.int .i64 p.op, .int .i64 p.nt, .slice A p.kids.length c]] w (PatRet p w)

set_option maxHeartbeats 2000000 in
theorem copyTrees_of (ps : List Pat) (hs : ps.length ≤ 1048576) (ih : ∀ i (h : i < ps.length), CopyTreeOk ps[i]) (A : Option Addr) (c : Nat) (w : World) (hp : PatsIn w A c ps) :
    Calls Tryd.prog 53 #[.slice A ps.length c] w (OwnRet 55 3 (ps.map encP) w) := by
  obtain ⟨n, hn⟩ : ∃ n, Hid (ps.length = n) := ⟨_, Lib.hid rfl⟩
  rw [hn.out] at hs ⊢
  have HP := Lib.hid hp
  clear hp
  go_enter Tryd.func53, Tryd.ntmps53
  go_wp2_with fail
  go_loopw [3, 4] (fun v i wr => ∃ k : Nat, k ≤ n ∧ i = .int .i64 k ∧ Own wr w.heap.size (fun g => w.heap.size ≤ g) 55 3 v ((ps.take k).map encP) ∧ Below w.heap.size w wr) (fun _ i _ => n - (intOf i).toNat)
  case atStart => exact ⟨0, by omega, rfl, Own.nil _ _ _ _ _, Below.refl _ _⟩
  case round =>
    obtain ⟨k, hk, rfl, hown, hb⟩ := hrel
    obtain ⟨wo, rfl⟩ : ∃ wo : World, wo = wr := ⟨_, rfl⟩
    by_cases hlt : k < n
    · have hkl : k < ps.length := by rw [hn.out]; exact hlt
      obtain ⟨ok, hps⟩ := HP.out.below hb
      obtain ⟨g, off, B, c', rfl, _, hg, ⟨a0, a1, a2⟩, hpi⟩ := pats_at hps k hkl
      have hcall := fun W => ih k hkl B c' W
      have hts := Lib.hid (take_map encP ps k hkl)
      obtain ⟨q, hq⟩ : ∃ q, Hid (ps[k] = q) := ⟨_, Lib.hid rfl⟩
      rw [hq.out] at a0 a1 a2 hpi hcall hts
      have hlen : ((ps.take k).map encP).length ≤ 1000000000 := by simp; omega
      have HQ : Hid (PatIn wo B c' q) := Lib.hid ⟨_, hpi⟩
      have hbz := hb.size
      clear hps hpi
      go_wp2_with fail
      refine (hcall _ HQ.out).mono ?_
      rintro e w3 ⟨A3, c3, rfl, hp3, hb3⟩
      have HP3 := Lib.hid hp3
      have hb3z := hb3.size
      clear hp3 hcall
      go_wp2_with (at_builtin; go_must (refine append_one rfl (.tmp 11) (.tmp 17) 50 55 3 40 _ rfl Tryd.underlying50 tree_info rfl (by decide) (by decide) w.heap.size (fun g => w.heap.size ≤ g) _ _ rfl w3.heap.size rfl ((hown.below hb3).alloc _) [.int .i64 q.op, .int .i64 q.nt, .slice A3 q.kids.length c3] (encP q) (BlkIs.fresh _ _ _) rfl (by simp [Value.oneCell']) ((HP3.out.imp (fun g hg _ => ⟨by omega, hown.ne_far hg⟩)).alloc _) hlen (by simp; omega) ?_); intro v2 w2 hown2 hb2 hk2)
      go_roundw
      case rel => exact ⟨k + 1, by omega, by go_num, by rw [hts.out]; exact hown2, (((hb.trans (hb3.mono hbz))).alloc (by omega) _).trans hb2⟩
      case measure => simp [intOf]; omega
    · obtain rfl : k = n := by omega
      go_wp2_with fail
      go_ret
      have h1 : ps.take k = ps := List.take_of_length_le (by rw [hn.out]; omega)
      rw [h1] at hown
      exact ⟨_, rfl, hown, hb⟩

set_option maxHeartbeats 2000000 in
theorem copyTree_of (p : Pat) (hs : p.kids.length ≤ 1048576) (ih : ∀ i (h : i < p.kids.length), CopyTreeOk p.kids[i]) : CopyTreeOk p := by
  intro A c w hp
  have hcall := fun W => copyTrees_of p.kids hs ih A c W
  have HP := Lib.hid hp.kids
  clear hp hs ih
  go_enter Tryd.func22, Tryd.ntmps22
  go_wp2_with fail
  refine (hcall _ ?_).mono ?_
  · refine PatsIn.below ?_ (below_alloc _ _)
    refine PatsIn.below ?_ (below_alloc _ _)
    exact PatsIn.below HP.out (below_alloc _ _)
  rintro e w3 ⟨v, rfl, hown, hb3⟩
  have hrep := hown.rep
  obtain ⟨A3, c3, rfl, _⟩ := hrep.len
  rw [List.length_map] at hrep ⊢
  have HR := Lib.hid hrep
  obtain ⟨hc, hf⟩ := bcell hb3
  have hz3 : w.heap.size + 2 < w3.heap.size := by have := hb3.size; simp at this; omega
  have hz31 : w.heap.size + 1 < w3.heap.size := by omega
  clear hown hrep hcall
  go_wp2_with fail
  refine bodyPost_ret (v := .agg #[.int .i64 p.op, .int .i64 p.nt, .slice A3 p.kids.length c3]) (by simp [results, Tryd.results22, go_sem, hc]) rfl ?_
  refine ⟨A3, c3, rfl, rep_pat_mk ?_, ?_⟩
  · refine Rep.imp (ok := fun g => w.heap.size + 3 ≤ g) ?_ (fun g hg _ => by omega)
    iterate 4 refine Rep.setCell ?_ (fun g hg => by simp; omega)
    exact Rep.imp HR.out (fun g hg _ => by simp at hg; omega)
  · iterate 4 refine Below.setCell ?_ (by simp; try omega) _
    exact (below_box3 _ _ _ _).trans (hb3.mono (by simp; omega))

theorem copyTree_any : ∀ p : Pat, PatSmall p → CopyTreeOk p
  | .mk op nt kids, h => copyTree_of _ h.len fun i hi => copyTree_any kids[i] (h.kid i hi)
termination_by p => SizeOf.sizeOf p
decreasing_by
  have := List.sizeOf_lt_of_mem (List.getElem_mem hi)
  simp only [Pat.kids] at this
  simp only [Pat.mk.sizeOf_spec]
  omega

end Go.Proofs.YthdicdkgfmiepaaDoor

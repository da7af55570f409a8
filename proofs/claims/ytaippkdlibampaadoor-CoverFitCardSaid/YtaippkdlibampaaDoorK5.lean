/- Trees: they lie as patterns do. EqTree, CopyTree, TreeWeight walked; what comes in decoded. (Printed by gen/gen_tree.py.) Which trees may be: tree.size, tree.May walked. Which trees may be, by the reference: gantletref6.count walked; tree.May, gantletref6.Tree. The cheapest covers, in plain words: what a rule costs at a node, the least of all, by turns; that there is just one answer. The five turns find a node's best; so does any way that goes on until nothing changes. -/
import Derived.Test.YtaippkdlibampaaDoorK4
namespace Go.Proofs.YtaippkdlibampaaDoor

/- Trees: they lie as patterns do. EqTree, CopyTree, TreeWeight walked; what comes in decoded. (Printed by gen/gen_tree.py.) -/
section
open Go.RowKit

theorem cellsTree : Tryd.prog.cellsOf 64 = 3 := by kernel_rfl
theorem bytesTree : Tryd.prog.bytesOf 64 = 40 := by kernel_rfl

theorem tree_of : ∀ (d : D), HasTy Tryd.prog d 64 → ∃ p, d = encP p ∧ PatWf p
  | d, h => by
    obtain ⟨ds, hd0, h1⟩ := hasTy_st Tryd.underlying64 h
    obtain ⟨d1, r1, rfl, g1, h2⟩ := hasTys_cons h1
    obtain ⟨d2, r2, rfl, g2, h3⟩ := hasTys_cons h2
    obtain ⟨d3, r3, rfl, g3, h4⟩ := hasTys_cons h3
    obtain rfl := hasTys_nil h4
    obtain ⟨op, rfl, w1⟩ := hasTy_int Tryd.underlying3 g1
    obtain ⟨nt, rfl, w2⟩ := hasTy_int Tryd.underlying2 g2
    obtain ⟨ks, rfl, hl, ha⟩ := hasTy_lst Tryd.underlying50 cellsTree bytesTree g3
    obtain ⟨ps, rfl, hp⟩ := allTy_map (enc := encP) (Q := PatWf) ks ha fun d' hm hd => tree_of d' hd
    refine ⟨.mk op nt ps, ?_, ?_⟩
    · rw [encP_eq]; exact hd0
    · unfold PatWf; exact ⟨w1, w2, patsWf_of ps hp⟩
termination_by d => SizeOf.sizeOf d
decreasing_by
  have := List.sizeOf_lt_of_mem hm
  rw [hd0]
  simp
  omega

def EqTreeOk (p : Pat) : Prop := ∀ (q : Pat) (A B : Option Addr) (c d : Nat) (w : World), PatIn w A c p → PatIn w B d q →
  Calls Tryd.prog 37 #[.agg #[.int .i64 p.op, .int .i64 p.nt, .slice A p.kids.length c], .agg #[.int .i64 q.op, .int .i64 q.nt, .slice B q.kids.length d]] w (SomeBoolBelow (same p q) w)

set_option maxHeartbeats 2000000 in
theorem eqTrees_of (ps qs : List Pat) (ih : ∀ i (h : i < ps.length), EqTreeOk ps[i]) (A B : Option Addr) (c d : Nat) (w : World) (hp : PatsIn w A c ps) (hq : PatsIn w B d qs) :
    Calls Tryd.prog 73 #[.slice A ps.length c, .slice B qs.length d] w (SomeBoolBelow (same ps qs) w) := by
  have hm := hp.le
  unfold maxLen at hm
  by_cases hl : ps.length = qs.length
  · obtain ⟨n, hn⟩ : ∃ n, Hid (ps.length = n) := ⟨_, Lib.hid rfl⟩
    have hn2 : Hid (qs.length = n) := Lib.hid (by rw [← hl]; exact hn.out)
    rw [hn.out, hn2.out]
    rw [hn.out] at hm
    clear hl
    go_enter Tryd.func73, Tryd.ntmps73
    go_wp2_with fail
    go_loopw [5] (fun i wr => ∃ k : Nat, k ≤ n ∧ i = .int .i64 k ∧ Below w.heap.size w wr ∧ Hid (∀ j (h1 : j < ps.length) (h2 : j < qs.length), j < k → ps[j] = qs[j])) (fun i _ => n - (intOf i).toNat)
    case atStart => exact ⟨0, by omega, rfl, Below.refl _ _, Lib.hid (fun j _ _ h => absurd h (by omega))⟩
    case round =>
      obtain ⟨k, hk, rfl, hb, hsame⟩ := hrel
      obtain ⟨wo, rfl⟩ : ∃ wo : World, wo = wr := ⟨_, rfl⟩
      by_cases hlt : k < n
      · have hkp : k < ps.length := by rw [hn.out]; exact hlt
        have hkq : k < qs.length := by rw [hn2.out]; exact hlt
        have hp1 := hp.below hb
        have hq1 := hq.below hb
        obtain ⟨okp, hp1⟩ := hp1
        obtain ⟨okq, hq1⟩ := hq1
        obtain ⟨g, off, A', c', rfl, _, hg, ⟨a0, a1, a2⟩, hpi⟩ := pats_at hp1 k hkp
        obtain ⟨g', off', B', d', rfl, _, hg', ⟨b0, b1, b2⟩, hqi⟩ := pats_at hq1 k hkq
        have hc := ih k hkp qs[k] A' B' c' d'
        obtain ⟨p, hpe⟩ : ∃ p, Hid (ps[k] = p) := ⟨_, Lib.hid rfl⟩
        obtain ⟨q, hqe⟩ : ∃ q, Hid (qs[k] = q) := ⟨_, Lib.hid rfl⟩
        rw [hpe.out] at a0 a1 a2 hpi hc
        rw [hqe.out] at b0 b1 b2 hqi hc
        have HP : Hid (PatIn wo A' c' p) := Lib.hid ⟨_, hpi⟩
        have HQ : Hid (PatIn wo B' d' q) := Lib.hid ⟨_, hqi⟩
        clear hp1 hq1 hpi hqi hp hq ih
        have hg0 : g ≠ wo.heap.size := by omega
        have hg0' : g' ≠ wo.heap.size := by omega
        go_wp2_with fail
        obtain ⟨s, hs⟩ : ∃ s, Hid (same p q = s) := ⟨_, Lib.hid rfl⟩
        rw [hs.out] at hc
        cases s
        all_goals
          go_region_held3 (fun W => W.cell? ⟨g, off + k * 3, none⟩ = some (.int .i64 p.op) ∧ W.cell? ⟨g, off + k * 3 + 1, none⟩ = some (.int .i64 p.nt) ∧ W.cell? ⟨g, off + k * 3 + 2, none⟩ = some (.slice A' p.kids.length c') ∧ W.cell? ⟨g', off' + k * 3, none⟩ = some (.int .i64 q.op) ∧ W.cell? ⟨g', off' + k * 3 + 1, none⟩ = some (.int .i64 q.nt) ∧ W.cell? ⟨g', off' + k * 3 + 2, none⟩ = some (.slice B' q.kids.length d')) ((refine ⟨?_, ?_, ?_, ?_, ?_, ?_⟩ <;> (with_reducible (repeat (first | assumption | refine cell_drewN ?_ _ | refine cell_drew ?_)))))
            ((go_at_call 37; refine (hc _ (by with_reducible (repeat (first | exact HP.out | refine PatIn.drewN ?_ _ | refine PatIn.drew ?_))) (by with_reducible (repeat (first | exact HQ.out | refine PatIn.drewN ?_ _ | refine PatIn.drew ?_)))).mono ?_; rintro e w3 ⟨rfl, hb3⟩; obtain ⟨d0, d1, d2⟩ := later3 hb3 ⟨a0, a1, a2⟩; obtain ⟨d3, d4, d5⟩ := later3 hb3 ⟨b0, b1, b2⟩))
          go_wp2_with fail
        · go_ret
          refine ⟨ret_bool ?_, hb.trans (((Below.refl _ _).drew).trans (hb3.mono hb.size))⟩
          symm
          rw [same_false]
          intro he
          have h1 := (same_false p q).1 hs.out
          apply h1
          rw [← hpe.out, ← hqe.out]
          simp only [he]
        · go_roundw
          case rel =>
            refine ⟨k + 1, by omega, by go_num, ?_, Lib.hid (fun j h1 h2 hjk => ?_)⟩
            · exact hb.trans (((Below.refl _ _).drew).trans (hb3.mono hb.size))
            · by_cases e : j = k
              · subst e; rw [hpe.out, hqe.out]; exact (same_iff p q).1 hs.out
              · exact hsame.out j h1 h2 (by omega)
          case measure => simp [intOf]; omega
      · obtain rfl : k = n := by omega
        go_wp2_with fail
        go_ret
        refine ⟨ret_bool ?_, hb⟩
        have : ps = qs := List.ext_getElem (by rw [hn.out, hn2.out]) (fun j h1 h2 => hsame.out j h1 h2 (by rw [← hn.out]; exact h1))
        rw [(same_iff _ _).2 this]
  · go_enter Tryd.func73, Tryd.ntmps73
    go_wp2_with fail
    · go_ret
      refine ⟨ret_bool ?_, Below.refl _ _⟩
      symm
      rw [same_false]
      intro he
      exact hl (by rw [he])

set_option maxHeartbeats 2000000 in
theorem eqTree_of (p : Pat) (ih : ∀ i (h : i < p.kids.length), EqTreeOk p.kids[i]) : EqTreeOk p := by
  intro q A B c d w hp hq
  have hk := fun W => eqTrees_of p.kids q.kids ih A B c d W
  obtain ⟨po, hpo⟩ : ∃ x, Hid (p.op = x) := ⟨_, Lib.hid rfl⟩
  obtain ⟨qo, hqo⟩ : ∃ x, Hid (q.op = x) := ⟨_, Lib.hid rfl⟩
  obtain ⟨pn, hpn⟩ : ∃ x, Hid (p.nt = x) := ⟨_, Lib.hid rfl⟩
  obtain ⟨qn, hqn⟩ : ∃ x, Hid (q.nt = x) := ⟨_, Lib.hid rfl⟩
  have HPK : Hid (PatsIn w A c p.kids) := Lib.hid hp.kids
  have HQK : Hid (PatsIn w B d q.kids) := Lib.hid hq.kids
  have hsm : Hid (same p q = true ↔ po = qo ∧ pn = qn ∧ same p.kids q.kids = true) := by
    refine Lib.hid ?_
    rw [same_iff, same_iff, Pat.ext_iff', hpo.out, hqo.out, hpn.out, hqn.out]
  rw [hpo.out, hqo.out, hpn.out, hqn.out]
  clear hp hq ih
  by_cases h1 : po = qo
  · subst h1
    by_cases h2 : pn = qn
    · subst h2
      have hs : Hid (same p q = same p.kids q.kids) := by
        refine Lib.hid ?_
        rw [Bool.eq_iff_iff, hsm.out]; simp
      rw [hs.out]
      go_enter Tryd.func37, Tryd.ntmps37
      go_wp2_with fail
      refine (hk _ (HPK.out.below (below_box2 _ _ _)) (HQK.out.below (below_box2 _ _ _))).mono ?_
      rintro e w3 ⟨rfl, hb3⟩
      go_wp2_with fail
      go_ret
      exact ⟨ret_bool rfl, (below_box2 _ _ _).trans (hb3.mono (by simp; omega))⟩
    · have hs : Hid (same p q = false) := by
        refine Lib.hid ?_
        rw [← Bool.not_eq_true, hsm.out]; exact fun h => h2 h.2.1
      rw [hs.out]
      have hne : (pn == qn) = false := by simpa using h2
      go_enter Tryd.func37, Tryd.ntmps37
      go_wp2_with fail
      go_ret
      exact ⟨ret_bool rfl, below_box2 _ _ _⟩
  · have hs : Hid (same p q = false) := by
      refine Lib.hid ?_
      rw [← Bool.not_eq_true, hsm.out]; exact fun h => h1 h.1
    rw [hs.out]
    have hne : (po == qo) = false := by simpa using h1
    go_enter Tryd.func37, Tryd.ntmps37
    go_wp2_with fail
    go_ret
    exact ⟨ret_bool rfl, below_box2 _ _ _⟩

theorem eqTree_any : ∀ p : Pat, EqTreeOk p
  | .mk op nt kids => eqTree_of _ fun i h => eqTree_any kids[i]
termination_by p => SizeOf.sizeOf p
decreasing_by
  have := List.sizeOf_lt_of_mem (List.getElem_mem h)
  simp only [Pat.kids] at this
  simp only [Pat.mk.sizeOf_spec]
  omega

def TreeWOk (p : Pat) : Prop := ∀ (A : Option Addr) (c d : Nat) (w : World), PatIn w A c p → d ≤ 1000 →
  Calls Tryd.prog 65 #[.agg #[.int .i64 p.op, .int .i64 p.nt, .slice A p.kids.length c], .int .i64 d] w (fun e w' => WeighPost (1048576 * (d + 1)) (PatSmall p) w e w' ∧ e ≠ .returned (.int .i64 0))

set_option maxHeartbeats 2000000 in
theorem treeW_of (p : Pat) (ih : ∀ i (h : i < p.kids.length), TreeWOk p.kids[i]) : TreeWOk p := by
  intro A c d w hp hd
  have hkp := hp.kids
  have hle := hkp.le
  unfold maxLen at hle
  obtain ⟨n, hn⟩ : ∃ n, Hid (p.kids.length = n) := ⟨_, Lib.hid rfl⟩
  rw [hn.out] at hle ⊢
  have HK : Hid (PatsIn w A c p.kids) := Lib.hid hkp
  clear hp hkp
  by_cases hd0 : d = 0
  · subst hd0
    go_enter Tryd.func65, Tryd.ntmps65
    go_wp2_with fail
    go_ret
    exact ⟨⟨_, rfl, by omega, by omega, fun h => absurd h (by omega), below_alloc _ _⟩, by simp⟩
  · have hd1 : 1 ≤ d := by omega
    have hde : ((d : Int) == 0) = false := by simp; omega
    go_enter Tryd.func65, Tryd.ntmps65
    go_wp2_with fail
    have hbox : BlkIs (w.alloc (.cells #[.int .i64 p.op, .int .i64 p.nt, .slice A n c] 64)) w.heap.size 64 #[.int .i64 p.op, .int .i64 p.nt, .slice A n c] := BlkIs.fresh _ _ _
    have hb0 := below_alloc w (.cells #[.int .i64 p.op, .int .i64 p.nt, .slice A n c] 64)
    go_loopw [5, 6] (fun s i wr => ∃ (m : Int) (k : Nat), k ≤ n ∧ i = .int .i64 k ∧ s = .int .i64 m ∧ 1 + (k : Int) ≤ m ∧ m ≤ 1048576 * (d + 1) ∧ Below w.heap.size w wr ∧ BlkIs wr w.heap.size 64 #[.int .i64 p.op, .int .i64 p.nt, .slice A n c] ∧ Hid (m < 1048576 → ∀ j (h : j < p.kids.length), j < k → PatSmall p.kids[j])) (fun _ i _ => n - (intOf i).toNat)
    case atStart => exact ⟨1, 0, by omega, rfl, rfl, by omega, by omega, hb0, hbox, Lib.hid (fun _ j _ h => absurd h (by omega))⟩
    case round =>
      obtain ⟨m, k, hk, rfl, rfl, hm1, hm2, hb, hbk, hsm⟩ := hrel
      clear hbox hb0
      obtain ⟨wo, rfl⟩ : ∃ wo : World, wo = wr := ⟨_, rfl⟩
      have hbz := hbk.lt
      have hc2 : wo.cell? ⟨w.heap.size, 2, none⟩ = some (.slice A n c) := hbk.cell 2
      by_cases hlt : k < n
      · by_cases hmm : m < 1048576
        · have hkl : k < p.kids.length := by rw [hn.out]; exact hlt
          obtain ⟨ok, hps⟩ := HK.out.below hb
          obtain ⟨g, off, B, c', rfl, _, hg, ⟨a0, a1, a2⟩, hpi⟩ := pats_at hps k hkl
          have hcall := fun W => ih k hkl B c' (d - 1) W
          obtain ⟨q, hq⟩ : ∃ q, Hid (p.kids[k] = q) := ⟨_, Lib.hid rfl⟩
          rw [hq.out] at a0 a1 a2 hpi hcall
          have e1 : ((d - 1 : Nat) : Int) = (d : Int) - 1 := by omega
          rw [e1] at hcall
          have HP : Hid (PatIn wo B c' q) := Lib.hid ⟨_, hpi⟩
          clear hps hpi e1
          go_wp2_with fail
          refine (hcall _ HP.out (by omega)).mono ?_
          rintro e w3 ⟨⟨m2, rfl, h1, h2, h3, hb3⟩, hne⟩
          have hm3 : 1 ≤ m2 := by
            have : m2 ≠ 0 := fun h => hne (by rw [h])
            omega
          have H3 := Lib.hid h3
          clear h3 hne hcall
          have hd2 : (d : Int) ≤ 1000 := by omega
          go_wp2_with fail
          go_roundw
          case rel =>
            refine ⟨m + m2, k + 1, by omega, by go_num, rfl, by omega, by omega, hb.trans (hb3.mono hb.size), hbk.below hb3 hbz, Lib.hid (fun hlt2 j hj hjk => ?_)⟩
            by_cases e : j = k
            · subst e; rw [hq.out]; exact H3.out (by omega)
            · exact hsm.out hmm j hj (by omega)
          case measure => simp [intOf]; omega
        · go_wp2_with fail
          go_ret
          exact ⟨⟨m, rfl, by omega, by omega, fun h => absurd h (by omega), hb⟩, by simp; omega⟩
      · obtain rfl : k = n := by omega
        go_wp2_with fail
        go_ret
        exact ⟨⟨m, rfl, by omega, by omega, fun h => patSmall_of p (by rw [hn.out]; omega) (fun j hj => hsm.out h j hj (by rw [← hn.out]; exact hj)), hb⟩, by simp; omega⟩

theorem treeW_any : ∀ p : Pat, TreeWOk p
  | .mk op nt kids => treeW_of _ fun i h => treeW_any kids[i]
termination_by p => SizeOf.sizeOf p
decreasing_by
  have := List.sizeOf_lt_of_mem (List.getElem_mem h)
  simp only [Pat.kids] at this
  simp only [Pat.mk.sizeOf_spec]
  omega

theorem tree_info : (Tryd.prog.info? 64).map (fun i => (i.zero, i.size, i.bytes)) = some (some (.agg #[.int .i64 0, .int .i64 0, .slice none 0 0]), 3, 40) := by kernel_rfl

def CopyTreeOk (p : Pat) : Prop := ∀ (A : Option Addr) (c : Nat) (w : World), PatIn w A c p → Calls Tryd.prog 30 #[.agg #[.int .i64 p.op, .int .i64 p.nt, .slice A p.kids.length c]] w (PatRet p w)

set_option maxHeartbeats 2000000 in
theorem copyTrees_of (ps : List Pat) (hs : ps.length ≤ 1048576) (ih : ∀ i (h : i < ps.length), CopyTreeOk ps[i]) (A : Option Addr) (c : Nat) (w : World) (hp : PatsIn w A c ps) :
    Calls Tryd.prog 67 #[.slice A ps.length c] w (OwnRet 64 3 (ps.map encP) w) := by
  obtain ⟨n, hn⟩ : ∃ n, Hid (ps.length = n) := ⟨_, Lib.hid rfl⟩
  rw [hn.out] at hs ⊢
  have HP := Lib.hid hp
  clear hp
  go_enter Tryd.func67, Tryd.ntmps67
  go_wp2_with fail
  go_loopw [3, 4] (fun v i wr => ∃ k : Nat, k ≤ n ∧ i = .int .i64 k ∧ Own wr w.heap.size (fun g => w.heap.size ≤ g) 64 3 v ((ps.take k).map encP) ∧ Below w.heap.size w wr) (fun _ i _ => n - (intOf i).toNat)
  case atStart => exact ⟨0, by omega, rfl, Own.nil _ _ _ _ _, Below.refl _ _⟩
  case round =>
    obtain ⟨k, hk, rfl, hown, hb⟩ := hrel
    obtain ⟨wo, rfl⟩ : ∃ wo : World, wo = wr := ⟨_, rfl⟩
    by_cases hlt : k < n
    · have hkl : k < ps.length := by rw [hn.out]; exact hlt
      obtain ⟨ok, hps⟩ := HP.out.below hb
      obtain ⟨g, off, B, c', rfl, _, hg, ⟨a0, a1, a2⟩, hpi⟩ := pats_at hps k hkl
      have hcall := fun W => ih k hkl B c' W
      have hts := Lib.hid (take_map encP ps k hkl)
      obtain ⟨q, hq⟩ : ∃ q, Hid (ps[k] = q) := ⟨_, Lib.hid rfl⟩
      rw [hq.out] at a0 a1 a2 hpi hcall hts
      have hlen : ((ps.take k).map encP).length ≤ 1000000000 := by simp; omega
      have HQ : Hid (PatIn wo B c' q) := Lib.hid ⟨_, hpi⟩
      have hbz := hb.size
      clear hps hpi
      go_wp2_with fail
      refine (hcall _ HQ.out).mono ?_
      rintro e w3 ⟨A3, c3, rfl, hp3, hb3⟩
      have HP3 := Lib.hid hp3
      have hb3z := hb3.size
      clear hp3 hcall
      go_wp2_with (at_builtin; go_must (refine append_one rfl (.tmp 11) (.tmp 17) 50 64 3 40 _ rfl Tryd.underlying50 tree_info rfl (by decide) (by decide) w.heap.size (fun g => w.heap.size ≤ g) _ _ rfl w3.heap.size rfl ((hown.below hb3).alloc _) [.int .i64 q.op, .int .i64 q.nt, .slice A3 q.kids.length c3] (encP q) (BlkIs.fresh _ _ _) rfl (by simp [Value.oneCell']) ((HP3.out.imp (fun g hg _ => ⟨by omega, hown.ne_far hg⟩)).alloc _) hlen (by simp; omega) ?_); intro v2 w2 hown2 hb2 hk2)
      go_roundw
      case rel => exact ⟨k + 1, by omega, by go_num, by rw [hts.out]; exact hown2, (((hb.trans (hb3.mono hbz))).alloc (by omega) _).trans hb2⟩
      case measure => simp [intOf]; omega
    · obtain rfl : k = n := by omega
      go_wp2_with fail
      go_ret
      have h1 : ps.take k = ps := List.take_of_length_le (by rw [hn.out]; omega)
      rw [h1] at hown
      exact ⟨_, rfl, hown, hb⟩

set_option maxHeartbeats 2000000 in
theorem copyTree_of (p : Pat) (hs : p.kids.length ≤ 1048576) (ih : ∀ i (h : i < p.kids.length), CopyTreeOk p.kids[i]) : CopyTreeOk p := by
  intro A c w hp
  have hcall := fun W => copyTrees_of p.kids hs ih A c W
  have HP := Lib.hid hp.kids
  clear hp hs ih
  go_enter Tryd.func30, Tryd.ntmps30
  go_wp2_with fail
  refine (hcall _ ?_).mono ?_
  · refine PatsIn.below ?_ (below_alloc _ _)
    refine PatsIn.below ?_ (below_alloc _ _)
    exact PatsIn.below HP.out (below_alloc _ _)
  rintro e w3 ⟨v, rfl, hown, hb3⟩
  have hrep := hown.rep
  obtain ⟨A3, c3, rfl, _⟩ := hrep.len
  rw [List.length_map] at hrep ⊢
  have HR := Lib.hid hrep
  obtain ⟨hc, hf⟩ := bcell hb3
  have hz3 : w.heap.size + 2 < w3.heap.size := by have := hb3.size; simp at this; omega
  have hz31 : w.heap.size + 1 < w3.heap.size := by omega
  clear hown hrep hcall
  go_wp2_with fail
  refine bodyPost_ret (v := .agg #[.int .i64 p.op, .int .i64 p.nt, .slice A3 p.kids.length c3]) (by simp [results, Tryd.results30, go_sem, hc]) rfl ?_
  refine ⟨A3, c3, rfl, rep_pat_mk ?_, ?_⟩
  · refine Rep.imp (ok := fun g => w.heap.size + 3 ≤ g) ?_ (fun g hg _ => by omega)
    iterate 4 refine Rep.setCell ?_ (fun g hg => by simp; omega)
    exact Rep.imp HR.out (fun g hg _ => by simp at hg; omega)
  · iterate 4 refine Below.setCell ?_ (by simp; try omega) _
    exact (below_box3 _ _ _ _).trans (hb3.mono (by simp; omega))

theorem copyTree_any : ∀ p : Pat, PatSmall p → CopyTreeOk p
  | .mk op nt kids, h => copyTree_of _ h.len fun i hi => copyTree_any kids[i] (h.kid i hi)
termination_by p => SizeOf.sizeOf p
decreasing_by
  have := List.sizeOf_lt_of_mem (List.getElem_mem hi)
  simp only [Pat.kids] at this
  simp only [Pat.mk.sizeOf_spec]
  omega

end

/- Which trees may be: tree.size, tree.May walked. -/
section
open Go.RowKit

/-- may a node be, but for its kids? (N: in the place of a pattern's nonterminal) -/
def topOk (op n : Int) (kids : Nat) : Bool := isOp op && (decide ((kids : Int) = arityOf op) && ((isLeaf op || decide (n = 0)) && (!isLeaf op || (decide (op = 1) || decide (0 ≤ n)))))
mutual
def treeOk : Pat → Bool
  | .mk op n ks => topOk op n ks.length && treesOk ks
def treesOk : List Pat → Bool
  | [] => true
  | p :: ps => treeOk p && treesOk ps
end
theorem treeOk_eq (p : Pat) : treeOk p = (topOk p.op p.nt p.kids.length && treesOk p.kids) := by
  cases p; unfold treeOk; rfl
theorem treesOk_iff : ∀ ps : List Pat, treesOk ps = true ↔ ∀ j (h : j < ps.length), treeOk ps[j] = true
  | [] => by simp [treesOk]
  | p :: ps => by
    unfold treesOk
    rw [Bool.and_eq_true, treesOk_iff ps]
    constructor
    · rintro ⟨h1, h2⟩ j hj
      cases j with
      | zero => exact h1
      | succ j => exact h2 j (by simpa using hj)
    · intro h
      exact ⟨h 0 (by simp), fun j hj => h (j + 1) (by simpa using hj)⟩

def sizeT (p : Pat) (most : Int) : Int := if treeOk p = true ∧ (patN p : Int) ≤ most then patN p else -1

def SizeTOk (p : Pat) : Prop := ∀ (A : Option Addr) (c : Nat) (most : Int) (w : World), PatIn w A c p → -1000 ≤ most → most ≤ 1000 →
  Calls Tryd.prog 122 #[.agg #[.int .i64 p.op, .int .i64 p.nt, .slice A p.kids.length c], .int .i64 most] w fun e w' => e = .returned (.int .i64 (sizeT p most)) ∧ Below w.heap.size w w'

set_option maxRecDepth 100000 in
set_option maxHeartbeats 4000000 in
theorem sizeT_of (p : Pat) (ih : ∀ i (h : i < p.kids.length), SizeTOk p.kids[i]) : SizeTOk p := by
  intro A c most w hp hm1 hm2
  have hkp := hp.kids
  have hle := hkp.le
  unfold maxLen at hle
  have hok := Lib.hid (treeOk_eq p)
  have hN := Lib.hid (patN_eq p)
  have hpos := patN_pos p
  obtain ⟨n, hn⟩ : ∃ n, Hid (p.kids.length = n) := ⟨_, Lib.hid rfl⟩
  obtain ⟨op, hop⟩ : ∃ x, Hid (p.op = x) := ⟨_, Lib.hid rfl⟩
  obtain ⟨nt, hnt⟩ : ∃ x, Hid (p.nt = x) := ⟨_, Lib.hid rfl⟩
  have HK : Hid (PatsIn w A c p.kids) := Lib.hid hkp
  rw [hn.out] at hle
  rw [hn.out, hop.out, hnt.out]
  clear hp hkp
  have hb0 := below_alloc w (.cells #[.int .i64 op, .int .i64 nt, .slice A n c] 64)
  obtain ⟨bad, hbad⟩ : ∃ b, Hid (b = !(topOk op nt n && decide (1 ≤ most))) := ⟨_, Lib.hid rfl⟩
  have c1 := fun W => isOp_any op W
  have c2 := fun W => arity_any op W
  have c3 := fun W => isLeaf_any op W
  obtain ⟨a, ha⟩ : ∃ a, Hid (arityOf op = a) := ⟨_, Lib.hid rfl⟩
  obtain ⟨o, ho⟩ : ∃ o, Hid (isOp op = o) := ⟨_, Lib.hid rfl⟩
  obtain ⟨lf, hlf⟩ : ∃ o, Hid (isLeaf op = o) := ⟨_, Lib.hid rfl⟩
  rw [ho.out] at c1
  rw [ha.out] at c2
  rw [hlf.out] at c3
  have hbe : Hid (bad = !((o && (decide ((n : Int) = a) && ((lf || decide (nt = 0)) && (!lf || (decide (op = 1) || decide (0 ≤ nt)))))) && decide (1 ≤ most))) := Lib.hid (by rw [hbad.out]; unfold topOk; rw [ho.out, ha.out, hlf.out])
  go_enter Tryd.func122, Tryd.ntmps122
  go_upto_region 1 with fail
  go_cut [51] (fun s wx => s = .bool bad ∧ Below w.heap.size w wx ∧ wx.cell? ⟨w.heap.size, 2, none⟩ = some (.slice A n c))
  case first =>
    obtain ⟨w1, hw1⟩ : ∃ w1, w1 = w.alloc (.cells #[.int .i64 op, .int .i64 nt, .slice A n c] 64) := ⟨_, rfl⟩
    have r0 : w1.cell? ⟨w.heap.size, 0, none⟩ = some (.int .i64 op) := by rw [hw1]; simp
    have r1 : w1.cell? ⟨w.heap.size, 1, none⟩ = some (.int .i64 nt) := by rw [hw1]; simp
    have r2 : w1.cell? ⟨w.heap.size, 2, none⟩ = some (.slice A n c) := by rw [hw1]; simp
    have hlt1 : w.heap.size < w1.heap.size := by rw [hw1]; simp
    rw [← hw1] at hb0
    rw [← hw1]
    clear hw1
    rcases (by cases o <;> simp : o = false ∨ o = true) with rfl | rfl
    · have hv : bad = true := by rw [hbe.out]; first | grind | (simp)
      subst hv
      go_quiet ((first | (go_at_call 119; exact Calls.quiet_of_same ((c1 _).mono fun _ _ h => ⟨h.1, h.2.symm⟩)) | (go_at_call 120; exact Calls.quiet_of_same ((c2 _).mono fun _ _ h => ⟨h.1, h.2.symm⟩)) | (go_at_call 127; exact Calls.quiet_of_same ((c3 _).mono fun _ _ h => ⟨h.1, h.2.symm⟩))))
      go_wp2_with fail
      go_meet
      exact ⟨rfl, below_drewsN hb0 _, cell_drewN r2 _⟩
    · by_cases h2 : (n : Int) = a
      · have h2e : ((n : Int) == a) = true := by simpa using h2
        have h2n : ((n : Int) != a) = false := by simp [h2]
        have H2 := Lib.hid h2
        clear h2
        rcases (by cases lf <;> simp : lf = false ∨ lf = true) with rfl | rfl
        · by_cases h3 : nt = 0
          · subst h3
            by_cases h4 : most < 1
            · have h4d : decide (most < 1) = true := by simpa using h4
              have hv : bad = true := by rw [hbe.out]; first | grind | (simp; omega)
              subst hv
              go_quiet ((first | (go_at_call 119; exact Calls.quiet_of_same ((c1 _).mono fun _ _ h => ⟨h.1, h.2.symm⟩)) | (go_at_call 120; exact Calls.quiet_of_same ((c2 _).mono fun _ _ h => ⟨h.1, h.2.symm⟩)) | (go_at_call 127; exact Calls.quiet_of_same ((c3 _).mono fun _ _ h => ⟨h.1, h.2.symm⟩))))
              go_wp2_with fail
              go_meet
              exact ⟨rfl, below_drewsN hb0 _, cell_drewN r2 _⟩
            · have h4d : decide (most < 1) = false := by simpa using h4
              have hv : bad = false := by rw [hbe.out]; first | grind | (simp [H2.out]; omega)
              subst hv
              go_quiet ((first | (go_at_call 119; exact Calls.quiet_of_same ((c1 _).mono fun _ _ h => ⟨h.1, h.2.symm⟩)) | (go_at_call 120; exact Calls.quiet_of_same ((c2 _).mono fun _ _ h => ⟨h.1, h.2.symm⟩)) | (go_at_call 127; exact Calls.quiet_of_same ((c3 _).mono fun _ _ h => ⟨h.1, h.2.symm⟩))))
              go_wp2_with fail
              go_meet
              exact ⟨rfl, below_drewsN hb0 _, cell_drewN r2 _⟩
          · have h3e : (nt == 0) = false := by simpa using h3
            have h3n : (nt != 0) = true := by simp [h3]
            have hv : bad = true := by rw [hbe.out]; first | grind | (simp; omega)
            subst hv
            go_quiet ((first | (go_at_call 119; exact Calls.quiet_of_same ((c1 _).mono fun _ _ h => ⟨h.1, h.2.symm⟩)) | (go_at_call 120; exact Calls.quiet_of_same ((c2 _).mono fun _ _ h => ⟨h.1, h.2.symm⟩)) | (go_at_call 127; exact Calls.quiet_of_same ((c3 _).mono fun _ _ h => ⟨h.1, h.2.symm⟩))))
            go_wp2_with fail
            go_meet
            exact ⟨rfl, below_drewsN hb0 _, cell_drewN r2 _⟩
        · by_cases h5 : op = 1
          · have h5e : (op == 1) = true := by simpa using h5
            have h5n : (op != 1) = false := by simp [h5]
            have H5 := Lib.hid h5
            clear h5
            by_cases h4 : most < 1
            · have h4d : decide (most < 1) = true := by simpa using h4
              have hv : bad = true := by rw [hbe.out]; first | grind | (simp; omega)
              subst hv
              go_quiet ((first | (go_at_call 119; exact Calls.quiet_of_same ((c1 _).mono fun _ _ h => ⟨h.1, h.2.symm⟩)) | (go_at_call 120; exact Calls.quiet_of_same ((c2 _).mono fun _ _ h => ⟨h.1, h.2.symm⟩)) | (go_at_call 127; exact Calls.quiet_of_same ((c3 _).mono fun _ _ h => ⟨h.1, h.2.symm⟩))))
              go_wp2_with fail
              go_meet
              exact ⟨rfl, below_drewsN hb0 _, cell_drewN r2 _⟩
            · have h4d : decide (most < 1) = false := by simpa using h4
              have hv : bad = false := by rw [hbe.out]; first | grind | (simp [H2.out, H5.out]; omega)
              subst hv
              go_quiet ((first | (go_at_call 119; exact Calls.quiet_of_same ((c1 _).mono fun _ _ h => ⟨h.1, h.2.symm⟩)) | (go_at_call 120; exact Calls.quiet_of_same ((c2 _).mono fun _ _ h => ⟨h.1, h.2.symm⟩)) | (go_at_call 127; exact Calls.quiet_of_same ((c3 _).mono fun _ _ h => ⟨h.1, h.2.symm⟩))))
              go_wp2_with fail
              go_meet
              exact ⟨rfl, below_drewsN hb0 _, cell_drewN r2 _⟩
          · have h5e : (op == 1) = false := by simpa using h5
            have h5n : (op != 1) = true := by simp [h5]
            by_cases h6 : nt < 0
            · have h6d : decide (nt < 0) = true := by simpa using h6
              have hv : bad = true := by rw [hbe.out]; first | grind | (simp; omega)
              subst hv
              go_quiet ((first | (go_at_call 119; exact Calls.quiet_of_same ((c1 _).mono fun _ _ h => ⟨h.1, h.2.symm⟩)) | (go_at_call 120; exact Calls.quiet_of_same ((c2 _).mono fun _ _ h => ⟨h.1, h.2.symm⟩)) | (go_at_call 127; exact Calls.quiet_of_same ((c3 _).mono fun _ _ h => ⟨h.1, h.2.symm⟩))))
              go_wp2_with fail
              go_meet
              exact ⟨rfl, below_drewsN hb0 _, cell_drewN r2 _⟩
            · have h6d : decide (nt < 0) = false := by simpa using h6
              by_cases h4 : most < 1
              · have h4d : decide (most < 1) = true := by simpa using h4
                have hv : bad = true := by rw [hbe.out]; first | grind | (simp; omega)
                subst hv
                go_quiet ((first | (go_at_call 119; exact Calls.quiet_of_same ((c1 _).mono fun _ _ h => ⟨h.1, h.2.symm⟩)) | (go_at_call 120; exact Calls.quiet_of_same ((c2 _).mono fun _ _ h => ⟨h.1, h.2.symm⟩)) | (go_at_call 127; exact Calls.quiet_of_same ((c3 _).mono fun _ _ h => ⟨h.1, h.2.symm⟩))))
                go_wp2_with fail
                go_meet
                exact ⟨rfl, below_drewsN hb0 _, cell_drewN r2 _⟩
              · have h4d : decide (most < 1) = false := by simpa using h4
                have hv : bad = false := by rw [hbe.out]; first | grind | (simp [H2.out]; omega)
                subst hv
                go_quiet ((first | (go_at_call 119; exact Calls.quiet_of_same ((c1 _).mono fun _ _ h => ⟨h.1, h.2.symm⟩)) | (go_at_call 120; exact Calls.quiet_of_same ((c2 _).mono fun _ _ h => ⟨h.1, h.2.symm⟩)) | (go_at_call 127; exact Calls.quiet_of_same ((c3 _).mono fun _ _ h => ⟨h.1, h.2.symm⟩))))
                go_wp2_with fail
                go_meet
                exact ⟨rfl, below_drewsN hb0 _, cell_drewN r2 _⟩
      · have h2e : ((n : Int) == a) = false := by simpa using h2
        have h2n : ((n : Int) != a) = true := by simp [h2]
        have hv : bad = true := by rw [hbe.out]; first | grind | (simp; omega)
        subst hv
        go_quiet ((first | (go_at_call 119; exact Calls.quiet_of_same ((c1 _).mono fun _ _ h => ⟨h.1, h.2.symm⟩)) | (go_at_call 120; exact Calls.quiet_of_same ((c2 _).mono fun _ _ h => ⟨h.1, h.2.symm⟩)) | (go_at_call 127; exact Calls.quiet_of_same ((c3 _).mono fun _ _ h => ⟨h.1, h.2.symm⟩))))
        go_wp2_with fail
        go_meet
        exact ⟨rfl, below_drewsN hb0 _, cell_drewN r2 _⟩
  case rest =>
    obtain ⟨rfl, hb1, hx2⟩ := hcut
    cases hbv : bad
    · have hbe2 := hbe.out
      have htop : topOk op nt n = true ∧ 1 ≤ most := by
        have h1 := hbad.out
        rw [hbv] at h1
        simpa using h1.symm
      obtain ⟨htop, hmost⟩ := htop
      have hokk : Hid (treeOk p = treesOk p.kids) := Lib.hid (by rw [hok.out, hop.out, hnt.out, hn.out, htop]; rfl)
      have h0 : ¬ most < 1 := by omega
      clear hbe2 hbe hbad htop c1 c2 c3 hbv
      go_wp2_with fail
      go_loopw [5, 55] (fun s i wr => ∃ k m : Nat, k ≤ n ∧ i = .int .i64 k ∧ s = .int .i64 m ∧ 1 ≤ m ∧ (m : Int) ≤ most ∧ Hid (m = 1 + patsN (p.kids.take k)) ∧ Below w.heap.size w wr ∧ Hid (∀ j (h : j < p.kids.length), j < k → treeOk p.kids[j] = true)) (fun _ i _ => n - (intOf i).toNat)
      case atStart => exact ⟨0, 1, by omega, rfl, rfl, by omega, by omega, Lib.hid (by simp [patsN]), hb1, Lib.hid (fun j _ h => absurd h (by omega))⟩
      case round =>
        obtain ⟨k, m, hk, rfl, rfl, hm0, hmm, hmN, hb, hall⟩ := hrel
        obtain ⟨wo, rfl⟩ : ∃ wo : World, wo = wr := ⟨_, rfl⟩
        clear hb1 hx2
        by_cases hlt : k < n
        · have hkl : k < p.kids.length := by rw [hn.out]; exact hlt
          obtain ⟨ok, hps⟩ := HK.out.below hb
          obtain ⟨g, off, B, c', rfl, _, hg, ⟨a0, a1, a2⟩, hpi⟩ := pats_at hps k hkl
          have hcall := fun W => ih k hkl B c' (most - m) W
          have htk := Lib.hid (patsN_take p.kids k hkl)
          have hle2 := Lib.hid (patsN_take_le p.kids (k + 1))
          obtain ⟨q, hq⟩ : ∃ q, Hid (p.kids[k] = q) := ⟨_, Lib.hid rfl⟩
          rw [hq.out] at a0 a1 a2 hpi hcall htk
          have HQ : Hid (PatIn wo B c' q) := Lib.hid ⟨_, hpi⟩
          have hbz := hb.size
          clear hps hpi
          by_cases hgood : treeOk q = true ∧ (patN q : Int) ≤ most - m
          · have hx : sizeT q (most - m) = patN q := by unfold sizeT; rw [if_pos hgood]
            rw [hx] at hcall
            obtain ⟨x, hxe⟩ : ∃ x, Hid (patN q = x) := ⟨_, Lib.hid rfl⟩
            have hxm : (x : Int) ≤ most - m := by rw [← hxe.out]; exact hgood.2
            have hqo := Lib.hid hgood.1
            rw [hxe.out] at hcall
            clear hx hgood
            go_wp2_with fail
            refine (hcall _ (HQ.out.below (below_alloc _ _)) (by omega) (by omega)).mono ?_
            rintro e w3 ⟨rfl, hb3⟩
            go_wp2_with fail
            go_roundw
            case rel =>
              refine ⟨k + 1, m + x, by omega, by go_num, by go_num, by omega, by omega, Lib.hid (by rw [htk.out, hmN.out, hxe.out]; omega), hb.trans (((below_alloc _ _).mono hbz).trans (hb3.mono (by simp; omega))), Lib.hid (fun j hj hjk => ?_)⟩
              by_cases e : j = k
              · subst e; rw [hq.out]; exact hqo.out
              · exact hall.out j hj (by omega)
            case measure => simp [intOf]; omega
          · have hx : sizeT q (most - m) = -1 := by unfold sizeT; rw [if_neg hgood]
            rw [hx] at hcall
            have hs : Hid (sizeT p most = -1) := Lib.hid (by
              unfold sizeT
              rw [if_neg]
              rintro ⟨h1, h2⟩
              rw [hokk.out, treesOk_iff] at h1
              have h3 := h1 k hkl
              rw [hq.out] at h3
              have h4 := htk.out
              have h5 := hle2.out
              rw [hN.out] at h2
              have h6 := hmN.out
              exact hgood ⟨h3, by omega⟩)
            clear hx hgood
            go_wp2_with fail
            refine (hcall _ (HQ.out.below (below_alloc _ _)) (by omega) (by omega)).mono ?_
            rintro e w3 ⟨rfl, hb3⟩
            go_wp2_with fail
            go_ret
            exact ⟨ret_int hs.out.symm, hb.trans (((below_alloc _ _).mono hbz).trans (hb3.mono (by simp; omega)))⟩
        · obtain rfl : k = n := by omega
          have hs : Hid (sizeT p most = m) := Lib.hid (by
            have h1 : p.kids.take k = p.kids := List.take_of_length_le (by rw [hn.out]; omega)
            have h2 := hmN.out
            rw [h1] at h2
            unfold sizeT
            rw [if_pos, hN.out, h2]
            refine ⟨?_, by rw [hN.out, ← h2]; exact hmm⟩
            rw [hokk.out, treesOk_iff]
            exact fun j hj => hall.out j hj (by rw [← hn.out]; exact hj))
          go_wp2_with fail
          go_ret
          exact ⟨ret_int hs.out.symm, hb⟩

    · have hs : Hid (sizeT p most = -1) := Lib.hid (by
        unfold sizeT
        rw [if_neg]
        rintro ⟨h1, h2⟩
        rw [hok.out, hop.out, hnt.out, hn.out, Bool.and_eq_true] at h1
        have h3 := hbad.out
        rw [hbv, h1.1] at h3
        simp at h3
        omega)
      go_wp2_with fail
      go_ret
      exact ⟨ret_int hs.out.symm, hb1⟩

theorem sizeT_any : ∀ p : Pat, SizeTOk p
  | .mk op nt kids => sizeT_of _ fun i h => sizeT_any kids[i]
termination_by p => SizeOf.sizeOf p
decreasing_by
  have := List.sizeOf_lt_of_mem (List.getElem_mem h)
  simp only [Pat.kids] at this
  simp only [Pat.mk.sizeOf_spec]
  omega

end

/- Which trees may be, by the reference: gantletref6.count walked; tree.May, gantletref6.Tree. -/
section
open Go.RowKit

def fitT (p : Pat) (n : Int) : Bool := treeOk p && decide (n + (patN p : Int) ≤ 200)
def FitTPost (p : Pat) (n : Int) (b : Bool) (w : World) (e : Ending) (w' : World) : Prop := ∃ m : Int, e = .returned (.tuple #[.int .i64 m, .bool b]) ∧ (b = true → m = n + (patN p : Int)) ∧ Below w.heap.size w w'

def FitTOk (p : Pat) : Prop := ∀ (A : Option Addr) (c : Nat) (n : Int) (w : World), PatIn w A c p → 0 ≤ n → n ≤ 200 →
  Calls Tryd.prog 109 #[.agg #[.int .i64 p.op, .int .i64 p.nt, .slice A p.kids.length c], .int .i64 n] w (FitTPost p n (fitT p n) w)

theorem topOk_kids (op nt : Int) (n : Nat) : topOk op nt n = (decide ((n : Int) = kidsOf op) && ((decide (op ≤ 4) || decide (nt = 0)) && (decide (op = 1) || decide (0 ≤ nt)))) := by
  unfold topOk kidsOf isOp isLeaf
  by_cases h1 : 1 ≤ op
  · by_cases h2 : op ≤ 36
    · by_cases h3 : op ≤ 4
      · simp [h1, h2, h3]
      · by_cases h4 : nt = 0
        · simp [h1, h2, h3, h4]
        · simp [h1, h2, h3, h4]
    · simp [h2]
  · simp [h1]

set_option maxRecDepth 100000 in
set_option maxHeartbeats 4000000 in
theorem fitT_of (p : Pat) (ih : ∀ i (h : i < p.kids.length), FitTOk p.kids[i]) : FitTOk p := by
  intro A c n0 w hp hm1 hm2
  have hkp := hp.kids
  have hle := hkp.le
  unfold maxLen at hle
  have hok := Lib.hid (treeOk_eq p)
  have hN := Lib.hid (patN_eq p)
  have hpos := patN_pos p
  obtain ⟨n, hn⟩ : ∃ n, Hid (p.kids.length = n) := ⟨_, Lib.hid rfl⟩
  obtain ⟨op, hop⟩ : ∃ x, Hid (p.op = x) := ⟨_, Lib.hid rfl⟩
  obtain ⟨nt, hnt⟩ : ∃ x, Hid (p.nt = x) := ⟨_, Lib.hid rfl⟩
  obtain ⟨f, hf⟩ : ∃ x, Hid (fitT p n0 = x) := ⟨_, Lib.hid rfl⟩
  have HK : Hid (PatsIn w A c p.kids) := Lib.hid hkp
  rw [hn.out] at hle
  rw [hn.out, hop.out, hnt.out, hf.out]
  clear hp hkp
  have hb0 := below_alloc w (.cells #[.int .i64 op, .int .i64 nt, .slice A n c] 64)
  obtain ⟨bad, hbad⟩ : ∃ b, Hid (b = !(topOk op nt n && decide (n0 + 1 ≤ 200))) := ⟨_, Lib.hid rfl⟩
  have c2 := fun W => kidsR_any op W
  obtain ⟨a, ha⟩ : ∃ a, Hid (kidsOf op = a) := ⟨_, Lib.hid rfl⟩
  rw [ha.out] at c2
  have hbe : Hid (bad = !((decide ((n : Int) = a) && ((decide (op ≤ 4) || decide (nt = 0)) && (decide (op = 1) || decide (0 ≤ nt)))) && decide (n0 + 1 ≤ 200))) := Lib.hid (by rw [hbad.out, topOk_kids, ha.out])
  go_enter Tryd.func109, Tryd.ntmps109
  go_upto_region 2 with fail
  go_cut [41] (fun s wx => s = .bool bad ∧ Below w.heap.size w wx ∧ wx.cell? ⟨w.heap.size, 2, none⟩ = some (.slice A n c) ∧ w.heap.size < wx.heap.size)
  case first =>
    obtain ⟨w1, hw1⟩ : ∃ w1, w1 = w.alloc (.cells #[.int .i64 op, .int .i64 nt, .slice A n c] 64) := ⟨_, rfl⟩
    have r0 : w1.cell? ⟨w.heap.size, 0, none⟩ = some (.int .i64 op) := by rw [hw1]; simp
    have r1 : w1.cell? ⟨w.heap.size, 1, none⟩ = some (.int .i64 nt) := by rw [hw1]; simp
    have r2 : w1.cell? ⟨w.heap.size, 2, none⟩ = some (.slice A n c) := by rw [hw1]; simp
    have hlt1 : w.heap.size < w1.heap.size := by rw [hw1]; simp
    rw [← hw1] at hb0
    rw [← hw1]
    clear hw1
    by_cases h4 : 200 < n0 + 1
    · have h4d : decide (200 < n0 + 1) = true := by simpa using h4
      have hv : bad = true := by rw [hbe.out]; first | grind | (simp; omega)
      subst hv
      go_quiet ((go_at_call 104; exact Calls.quiet_of_same ((c2 _).mono fun _ _ h => ⟨h.1, h.2.symm⟩)))
      go_wp2_with fail
      go_meet
      exact ⟨rfl, below_drewsN hb0 _, cell_drewN r2 _, hlt1⟩
    · have h4d : decide (200 < n0 + 1) = false := by simpa using h4
      by_cases h2 : (n : Int) = a
      · have h2e : ((n : Int) == a) = true := by simpa using h2
        have h2n : ((n : Int) != a) = false := by simp [h2]
        have H2 := Lib.hid h2
        by_cases h5 : op = 1
        · have h5e : (op == 1) = true := by simpa using h5
          have h5n : (op != 1) = false := by simp [h5]
          have h3d : decide (4 < op) = false := by simp; omega
          have hv : bad = false := by rw [hbe.out, h5]; simp; omega
          clear h5 h2
          subst hv
          go_quiet ((go_at_call 104; exact Calls.quiet_of_same ((c2 _).mono fun _ _ h => ⟨h.1, h.2.symm⟩)))
          go_wp2_with fail
          go_meet
          exact ⟨rfl, below_drewsN hb0 _, cell_drewN r2 _, hlt1⟩
        · have h5e : (op == 1) = false := by simpa using h5
          have h5n : (op != 1) = true := by simp [h5]
          by_cases h3 : 4 < op
          · have h3d : decide (4 < op) = true := by simpa using h3
            by_cases h6 : nt = 0
            · subst h6
              have hv : bad = false := by rw [hbe.out]; simp; omega
              clear h2
              subst hv
              go_quiet ((go_at_call 104; exact Calls.quiet_of_same ((c2 _).mono fun _ _ h => ⟨h.1, h.2.symm⟩)))
              go_wp2_with fail
              go_meet
              exact ⟨rfl, below_drewsN hb0 _, cell_drewN r2 _, hlt1⟩
            · have h6e : (nt == 0) = false := by simpa using h6
              have h6n : (nt != 0) = true := by simp [h6]
              have hv : bad = true := by rw [hbe.out]; simp; omega
              clear h2
              subst hv
              go_quiet ((go_at_call 104; exact Calls.quiet_of_same ((c2 _).mono fun _ _ h => ⟨h.1, h.2.symm⟩)))
              go_wp2_with fail
              go_meet
              exact ⟨rfl, below_drewsN hb0 _, cell_drewN r2 _, hlt1⟩
          · have h3d : decide (4 < op) = false := by simpa using h3
            by_cases h6 : nt < 0
            · have h6d : decide (nt < 0) = true := by simpa using h6
              have hv : bad = true := by rw [hbe.out]; simp; omega
              clear h2
              subst hv
              go_quiet ((go_at_call 104; exact Calls.quiet_of_same ((c2 _).mono fun _ _ h => ⟨h.1, h.2.symm⟩)))
              go_wp2_with fail
              go_meet
              exact ⟨rfl, below_drewsN hb0 _, cell_drewN r2 _, hlt1⟩
            · have h6d : decide (nt < 0) = false := by simpa using h6
              have hv : bad = false := by rw [hbe.out]; simp; omega
              clear h2
              subst hv
              go_quiet ((go_at_call 104; exact Calls.quiet_of_same ((c2 _).mono fun _ _ h => ⟨h.1, h.2.symm⟩)))
              go_wp2_with fail
              go_meet
              exact ⟨rfl, below_drewsN hb0 _, cell_drewN r2 _, hlt1⟩
      · have h2e : ((n : Int) == a) = false := by simpa using h2
        have h2n : ((n : Int) != a) = true := by simp [h2]
        have hv : bad = true := by rw [hbe.out]; first | grind | (simp; omega)
        subst hv
        go_quiet ((go_at_call 104; exact Calls.quiet_of_same ((c2 _).mono fun _ _ h => ⟨h.1, h.2.symm⟩)))
        go_wp2_with fail
        go_meet
        exact ⟨rfl, below_drewsN hb0 _, cell_drewN r2 _, hlt1⟩
  case rest =>
    obtain ⟨rfl, hb1, hx2⟩ := hcut
    cases hbv : bad
    · have htop : topOk op nt n = true ∧ n0 + 1 ≤ 200 := by
        have h1 := hbad.out
        rw [hbv] at h1
        simpa using h1.symm
      obtain ⟨htop, hmost⟩ := htop
      have hokk : Hid (treeOk p = true ↔ treesOk p.kids = true) := Lib.hid (by rw [hok.out, hop.out, hnt.out, hn.out, htop]; simp)
      clear hbe hbad htop c2 hbv
      go_wp2_with fail
      have hbk := hx2
      go_loopw [1, 6] (fun s i wr => ∃ k m : Nat, k ≤ n ∧ i = .int .i64 k ∧ s = .int .i64 (n0 + m) ∧ 1 ≤ m ∧ n0 + (m : Int) ≤ 200 ∧ Hid (m = 1 + patsN (p.kids.take k)) ∧ Below w.heap.size w wr ∧ (wr.cell? ⟨w.heap.size, 2, none⟩ = some (.slice A n c) ∧ w.heap.size < wr.heap.size) ∧ Hid (∀ j (h : j < p.kids.length), j < k → treeOk p.kids[j] = true)) (fun _ i _ => n - (intOf i).toNat)
      case atStart => exact ⟨0, 1, by omega, rfl, rfl, by omega, by omega, Lib.hid (by simp [patsN]), hb1, hbk, Lib.hid (fun j _ h => absurd h (by omega))⟩
      case round =>
        obtain ⟨k, m, hk, rfl, rfl, hm0, hmm, hmN, hb, ⟨hcx, hcz⟩, hall⟩ := hrel
        obtain ⟨wo, rfl⟩ : ∃ wo : World, wo = wr := ⟨_, rfl⟩
        clear hb1 hx2 hbk
        by_cases hlt : k < n
        · have hkl : k < p.kids.length := by rw [hn.out]; exact hlt
          obtain ⟨ok, hps⟩ := HK.out.below hb
          obtain ⟨g, off, B, c', rfl, _, hg, ⟨a0, a1, a2⟩, hpi⟩ := pats_at hps k hkl
          have hcall := fun W => ih k hkl B c' (n0 + m) W
          have htk := Lib.hid (patsN_take p.kids k hkl)
          have hle2 := Lib.hid (patsN_take_le p.kids (k + 1))
          obtain ⟨q, hq⟩ : ∃ q, Hid (p.kids[k] = q) := ⟨_, Lib.hid rfl⟩
          rw [hq.out] at a0 a1 a2 hpi hcall htk
          have HQ : Hid (PatIn wo B c' q) := Lib.hid ⟨_, hpi⟩
          have hbz := hb.size
          clear hps hpi
          obtain ⟨fq, hfq⟩ : ∃ x, Hid (fitT q (n0 + m) = x) := ⟨_, Lib.hid rfl⟩
          rw [hfq.out] at hcall
          cases fq
          · obtain rfl : f = false := by
              rw [← hf.out]; unfold fitT
              have h1 := hfq.out
              unfold fitT at h1
              rw [Bool.and_eq_false_iff]
              by_cases hpo : treeOk p = true
              · right
                have h2 := (hokk.out.1 hpo)
                rw [treesOk_iff] at h2
                have h3 := h2 k hkl
                rw [hq.out] at h3
                rw [h3] at h1
                simp only [Bool.true_and, decide_eq_false_iff_not] at h1
                rw [decide_eq_false_iff_not, hN.out]
                have h4 := htk.out
                have h5 := hle2.out
                have h6 := hmN.out
                omega
              · left; simpa using hpo
            go_wp2_with fail
            refine (hcall _ HQ.out (by omega) (by omega)).mono ?_
            rintro e w3 ⟨m2, rfl, _, hb3⟩
            go_wp2_with fail
            go_ret2
            exact ⟨_, rfl, fun h => Bool.noConfusion h, hb.trans (hb3.mono hbz)⟩
          · have h1 := hfq.out
            unfold fitT at h1
            rw [Bool.and_eq_true, decide_eq_true_eq] at h1
            obtain ⟨hqo, hqm⟩ := h1
            obtain ⟨x, hxe⟩ : ∃ x, Hid (patN q = x) := ⟨_, Lib.hid rfl⟩
            rw [hxe.out] at hqm
            have hqo := Lib.hid hqo
            go_wp2_with fail
            refine (hcall _ HQ.out (by omega) (by omega)).mono ?_
            rintro e w3 ⟨m2, rfl, hm2e, hb3⟩
            obtain rfl : m2 = n0 + m + x := by rw [hm2e rfl, hxe.out]
            clear hm2e hcall
            go_wp2_with fail
            go_roundw
            case rel =>
              refine ⟨k + 1, m + x, by omega, by go_num, by rw [show n0 + (m : Int) + (x : Int) = n0 + ((m + x : Nat) : Int) by omega], by omega, by omega, Lib.hid (by rw [htk.out, hmN.out, hxe.out]; omega), hb.trans (hb3.mono hbz), ⟨cell_later hb3 hcx, by have := hb3.size; omega⟩, Lib.hid (fun j hj hjk => ?_)⟩
              by_cases e : j = k
              · subst e; rw [hq.out]; exact hqo.out
              · exact hall.out j hj (by omega)
            case measure => simp [intOf]; omega
        · obtain rfl : k = n := by omega
          have hpn : Hid (patN p = m) := Lib.hid (by
            have h1 : p.kids.take k = p.kids := List.take_of_length_le (by rw [hn.out]; omega)
            have h2 := hmN.out
            rw [h1] at h2
            rw [hN.out, h2])
          obtain rfl : f = true := by
            rw [← hf.out]; unfold fitT
            rw [Bool.and_eq_true, hokk.out, treesOk_iff, decide_eq_true_eq, hpn.out]
            exact ⟨fun j hj => hall.out j hj (by rw [← hn.out]; exact hj), hmm⟩
          go_wp2_with fail
          go_ret2
          exact ⟨_, rfl, fun _ => by rw [hpn.out], hb⟩
    · obtain rfl : f = false := by
        rw [← hf.out]; unfold fitT
        rw [hok.out, hop.out, hnt.out, hn.out]
        have h3 := hbad.out
        rw [hbv] at h3
        by_cases ht : topOk op nt n = true
        · rw [ht] at h3
          simp at h3
          simp
          intro _ _
          omega
        · simp at ht
          rw [ht]; rfl
      go_wp2_with fail
      go_ret2
      exact ⟨_, rfl, fun h => Bool.noConfusion h, hb1⟩

theorem fitT_any : ∀ p : Pat, FitTOk p
  | .mk op nt kids => fitT_of _ fun i h => fitT_any kids[i]
termination_by p => SizeOf.sizeOf p
decreasing_by
  have := List.sizeOf_lt_of_mem (List.getElem_mem h)
  simp only [Pat.kids] at this
  simp only [Pat.mk.sizeOf_spec]
  omega

/-- may a tree be? -/
def mayT (p : Pat) : Bool := fitT p 0

theorem sizeT_pos (p : Pat) : 0 < sizeT p 200 ↔ mayT p = true := by
  unfold sizeT mayT fitT
  have := patN_pos p
  by_cases h : treeOk p = true ∧ (patN p : Int) ≤ 200
  · rw [if_pos h]
    simp [h.1]; omega
  · rw [if_neg h]
    simp
    intro h1
    by_cases h2 : (patN p : Int) ≤ 200
    · exact absurd ⟨h1, h2⟩ h
    · omega

set_option maxHeartbeats 1000000 in
theorem mayT_any (p : Pat) (A : Option Addr) (c : Nat) (w : World) (hp : PatIn w A c p) :
    Calls Tryd.prog 108 #[.agg #[.int .i64 p.op, .int .i64 p.nt, .slice A p.kids.length c]] w (SomeBoolBelow (mayT p) w) := by
  have hc := fun W => sizeT_any p A c 200 W
  have hpos := sizeT_pos p
  have HP := Lib.hid hp
  clear hp
  obtain ⟨z, hz⟩ : ∃ z, Hid (sizeT p 200 = z) := ⟨_, Lib.hid rfl⟩
  rw [hz.out] at hc hpos
  obtain ⟨b, hb⟩ : ∃ b, Hid (mayT p = b) := ⟨_, Lib.hid rfl⟩
  rw [hb.out] at hpos ⊢
  have HB := Lib.hid hpos
  clear hpos
  go_enter Tryd.func108, Tryd.ntmps108
  go_wp2_with fail
  refine (hc _ (HP.out.below (below_alloc _ _)) (by omega) (by omega)).mono ?_
  rintro e w1 ⟨rfl, hb1⟩
  go_wp2_with fail
  go_ret
  refine ⟨ret_bool ?_, (below_alloc _ _).trans (hb1.mono (by simp))⟩
  have := HB.out
  cases b <;> simp_all

set_option maxHeartbeats 1000000 in
theorem mayTR_any (p : Pat) (A : Option Addr) (c : Nat) (w : World) (hp : PatIn w A c p) :
    Calls Tryd.prog 68 #[.agg #[.int .i64 p.op, .int .i64 p.nt, .slice A p.kids.length c]] w (FitTPost p 0 (mayT p) w) := by
  have hc := fun W => fitT_any p A c 0 W
  have HP := Lib.hid hp
  clear hp
  go_enter Tryd.func68, Tryd.ntmps68
  go_wp2_with fail
  refine (hc _ (HP.out.below (below_alloc _ _)) (by omega) (by omega)).mono ?_
  rintro e w1 ⟨m, rfl, h1, hb1⟩
  go_wp2_with fail
  go_ret2
  exact ⟨m, rfl, h1, (below_alloc _ _).trans (hb1.mono (by simp))⟩

end

/- The cheapest covers, in plain words: what a rule costs at a node, the least of all, by turns; that there is just one answer. -/
section
/-- of each nonterminal the least cost (-1: none), and its rule -/
structure Best where
  c0 : Int
  c1 : Int
  c2 : Int
  c3 : Int
  r0 : Int
  r1 : Int
  r2 : Int
  r3 : Int

namespace Best
def cost (b : Best) : Nat → Int
  | 0 => b.c0
  | 1 => b.c1
  | 2 => b.c2
  | _ => b.c3
def rule (b : Best) : Nat → Int
  | 0 => b.r0
  | 1 => b.r1
  | 2 => b.r2
  | _ => b.r3
def set (b : Best) (n : Nat) (c r : Int) : Best :=
  match n with
  | 0 => { b with c0 := c, r0 := r }
  | 1 => { b with c1 := c, r1 := r }
  | 2 => { b with c2 := c, r2 := r }
  | _ => { b with c3 := c, r3 := r }
def none : Best := ⟨-1, -1, -1, -1, 0, 0, 0, 0⟩
end Best

theorem nt4 {n : Nat} (h : n < 4) : n = 0 ∨ n = 1 ∨ n = 2 ∨ n = 3 := by omega

theorem Best.cost_set (b : Best) {n m : Nat} (hn : n < 4) (hm : m < 4) (c r : Int) : (b.set n c r).cost m = if m = n then c else b.cost m := by
  rcases nt4 hn with rfl | rfl | rfl | rfl <;> rcases nt4 hm with rfl | rfl | rfl | rfl <;> rfl
theorem Best.rule_set (b : Best) {n m : Nat} (hn : n < 4) (hm : m < 4) (c r : Int) : (b.set n c r).rule m = if m = n then r else b.rule m := by
  rcases nt4 hn with rfl | rfl | rfl | rfl <;> rcases nt4 hm with rfl | rfl | rfl | rfl <;> rfl
theorem Best.ext4 {a b : Best} (hc : ∀ n, n < 4 → a.cost n = b.cost n) (hr : ∀ n, n < 4 → a.rule n = b.rule n) : a = b := by
  have e0 := hc 0 (by omega)
  have e1 := hc 1 (by omega)
  have e2 := hc 2 (by omega)
  have e3 := hc 3 (by omega)
  have f0 := hr 0 (by omega)
  have f1 := hr 1 (by omega)
  have f2 := hr 2 (by omega)
  have f3 := hr 3 (by omega)
  cases a; cases b
  simp only [Best.cost, Best.rule] at e0 e1 e2 e3 f0 f1 f2 f3
  subst e0 e1 e2 e3 f0 f1 f2 f3
  rfl
theorem Best.cost_none (n : Nat) : Best.none.cost n = -1 := by
  unfold Best.none Best.cost; split <;> rfl
theorem Best.rule_none (n : Nat) : Best.none.rule n = 0 := by
  unfold Best.none Best.rule; split <;> rfl

/-- what the kids of a pattern cost -/
def kidsSum : List Pat → Nat → (Nat → Nat → Int) → Option Int
  | [], _, _ => some 0
  | p :: ps, i, kc => if kc i p.nt.toNat = -1 then none else (kidsSum ps (i + 1) kc).map (kc i p.nt.toNat + ·)

/-- what a rule costs at a node -/
def ruleCost (r : Rule) (op : Int) (sm : Bool) (kc : Nat → Nat → Int) (x : Nat → Int) : Option Int :=
  if r.pat.op = 0 then (if x r.pat.nt.toNat = -1 then none else some (x r.pat.nt.toNat + r.cost))
  else if r.pat.op ≠ op ∨ (r.nt = 2 ∧ sm = false) then none
  else (kidsSum r.pat.kids 0 kc).map (· + r.cost)

/-- rules whose pattern is a nonterminal alone go one way: from small numbers to numbers to registers to addresses -/
def ChainOk (r : Rule) : Prop := r.pat.op = 0 → (r.nt = 1 ∧ r.pat.nt = 2) ∨ (r.nt = 0 ∧ r.pat.nt = 1) ∨ (r.nt = 3 ∧ r.pat.nt = 0)
def NtOk (r : Rule) : Prop := 0 ≤ r.nt ∧ r.nt ≤ 3

/-- the least that any rule makes of a nonterminal, by the first rule that does -/
def IsMin (rs : List Rule) (op : Int) (sm : Bool) (kc : Nat → Nat → Int) (x : Nat → Int) (nt : Nat) (c at_ : Int) : Prop :=
  (c = -1 ∧ at_ = 0 ∧ ∀ i (h : i < rs.length), rs[i].nt = nt → ruleCost rs[i] op sm kc x = none) ∨
  (∃ (i : Nat) (h : i < rs.length), at_ = i ∧ rs[i].nt = nt ∧ ruleCost rs[i] op sm kc x = some c ∧
    ∀ j (hj : j < rs.length) (c' : Int), rs[j].nt = nt → ruleCost rs[j] op sm kc x = some c' → c < c' ∨ c = c' ∧ i ≤ j)

theorem IsMin.one {rs : List Rule} {op : Int} {sm : Bool} {kc : Nat → Nat → Int} {x y : Nat → Int} {nt : Nat} {c a c' a' : Int} (h : IsMin rs op sm kc x nt c a) (h' : IsMin rs op sm kc y nt c' a')
    (hxy : ∀ i (hi : i < rs.length), rs[i].nt = nt → ruleCost rs[i] op sm kc x = ruleCost rs[i] op sm kc y) : c = c' ∧ a = a' := by
  rcases h with ⟨h1, h2, h3⟩ | ⟨i, hi, h1, h2, h3, h4⟩
  · rcases h' with ⟨g1, g2, _⟩ | ⟨j, hj, _, g2, g3, _⟩
    · exact ⟨by rw [h1, g1], by rw [h2, g2]⟩
    · have := h3 j hj g2
      rw [hxy j hj g2, g3] at this
      cases this
  · rcases h' with ⟨g1, g2, g3⟩ | ⟨j, hj, g1, g2, g3, g4⟩
    · have := g3 i hi h2
      rw [← hxy i hi h2, h3] at this
      cases this
    · have e1 := h4 j hj c' g2 (by rw [hxy j hj g2]; exact g3)
      have e2 := g4 i hi c h2 (by rw [← hxy i hi h2]; exact h3)
      constructor
      · omega
      · rw [h1, g1]; have : i = j := by omega
        rw [this]

/-- a node's best is what it is by its own costs -/
def Fix (rs : List Rule) (op : Int) (sm : Bool) (kc : Nat → Nat → Int) (b : Best) : Prop := ∀ nt, nt < 4 → IsMin rs op sm kc b.cost nt (b.cost nt) (b.rule nt)

theorem ruleCost_cong {r : Rule} {op : Int} {sm : Bool} {kc : Nat → Nat → Int} {x y : Nat → Int} (h : r.pat.op = 0 → x r.pat.nt.toNat = y r.pat.nt.toNat) : ruleCost r op sm kc x = ruleCost r op sm kc y := by
  unfold ruleCost
  by_cases h0 : r.pat.op = 0
  · rw [if_pos h0, if_pos h0, h h0]
  · rw [if_neg h0, if_neg h0]

theorem chain2 {r : Rule} (h : ChainOk r) (hn : r.nt = (2 : Nat)) : r.pat.op ≠ 0 := by
  intro h0; rcases h h0 with ⟨h1, _⟩ | ⟨h1, _⟩ | ⟨h1, _⟩ <;> omega
theorem chain1 {r : Rule} (h : ChainOk r) (hn : r.nt = (1 : Nat)) (h0 : r.pat.op = 0) : r.pat.nt.toNat = 2 := by
  rcases h h0 with ⟨h1, h2⟩ | ⟨h1, h2⟩ | ⟨h1, h2⟩ <;> omega
theorem chain0 {r : Rule} (h : ChainOk r) (hn : r.nt = (0 : Nat)) (h0 : r.pat.op = 0) : r.pat.nt.toNat = 1 := by
  rcases h h0 with ⟨h1, h2⟩ | ⟨h1, h2⟩ | ⟨h1, h2⟩ <;> omega
theorem chain3 {r : Rule} (h : ChainOk r) (hn : r.nt = (3 : Nat)) (h0 : r.pat.op = 0) : r.pat.nt.toNat = 0 := by
  rcases h h0 with ⟨h1, h2⟩ | ⟨h1, h2⟩ | ⟨h1, h2⟩ <;> omega

section
variable {rs : List Rule} {op : Int} {sm : Bool} {kc : Nat → Nat → Int} {x y : Nat → Int} {c a c' a' : Int}
variable (hc : ∀ r ∈ rs, ChainOk r)
include hc
theorem min2 (h : IsMin rs op sm kc x 2 c a) (h' : IsMin rs op sm kc y 2 c' a') : c = c' ∧ a = a' :=
  h.one h' fun _i hi hn => ruleCost_cong fun h0 => absurd h0 (chain2 (hc _ (List.getElem_mem hi)) hn)
theorem min1 (h : IsMin rs op sm kc x 1 c a) (h' : IsMin rs op sm kc y 1 c' a') (e : x 2 = y 2) : c = c' ∧ a = a' :=
  h.one h' fun i hi hn => ruleCost_cong fun h0 => by rw [chain1 (hc _ (List.getElem_mem hi)) hn h0]; exact e
theorem min0 (h : IsMin rs op sm kc x 0 c a) (h' : IsMin rs op sm kc y 0 c' a') (e : x 1 = y 1) : c = c' ∧ a = a' :=
  h.one h' fun i hi hn => ruleCost_cong fun h0 => by rw [chain0 (hc _ (List.getElem_mem hi)) hn h0]; exact e
theorem min3 (h : IsMin rs op sm kc x 3 c a) (h' : IsMin rs op sm kc y 3 c' a') (e : x 0 = y 0) : c = c' ∧ a = a' :=
  h.one h' fun i hi hn => ruleCost_cong fun h0 => by rw [chain3 (hc _ (List.getElem_mem hi)) hn h0]; exact e

theorem Fix.one {b b' : Best} (h : Fix rs op sm kc b) (h' : Fix rs op sm kc b') : b = b' := by
  obtain ⟨a2, d2⟩ := min2 hc (h 2 (by omega)) (h' 2 (by omega))
  obtain ⟨a1, d1⟩ := min1 hc (h 1 (by omega)) (h' 1 (by omega)) a2
  obtain ⟨a0, d0⟩ := min0 hc (h 0 (by omega)) (h' 0 (by omega)) a1
  obtain ⟨a3, d3⟩ := min3 hc (h 3 (by omega)) (h' 3 (by omega)) a0
  apply Best.ext4
  · intro n hn; rcases nt4 hn with rfl | rfl | rfl | rfl <;> assumption
  · intro n hn; rcases nt4 hn with rfl | rfl | rfl | rfl <;> assumption
end

/-- one turn over all rules, from one on: what is better than what there is so far is taken -/
def turnFrom (op : Int) (sm : Bool) (kc : Nat → Nat → Int) (x : Nat → Int) : List Rule → Nat → Best → Best
  | [], _, y => y
  | r :: rs, i, y => turnFrom op sm kc x rs (i + 1) (match ruleCost r op sm kc x with
    | none => y
    | some c => if c ≥ 0 ∧ (y.cost r.nt.toNat < 0 ∨ c < y.cost r.nt.toNat) then y.set r.nt.toNat c i else y)
def turn (rs : List Rule) (op : Int) (sm : Bool) (kc : Nat → Nat → Int) (x : Nat → Int) : Best := turnFrom op sm kc x rs 0 .none
/-- as often as there are nonterminals, and once more -/
def turns (rs : List Rule) (op : Int) (sm : Bool) (kc : Nat → Nat → Int) : Nat → Best
  | 0 => .none
  | n + 1 => turn rs op sm kc (turns rs op sm kc n).cost

/-- what the first rules make of a nonterminal -/
def MinUpto (rs : List Rule) (op : Int) (sm : Bool) (kc : Nat → Nat → Int) (x : Nat → Int) (k : Nat) (y : Best) : Prop :=
  ∀ nt, nt < 4 →
  (y.cost nt = -1 ∧ y.rule nt = 0 ∧ ∀ i (h : i < rs.length), i < k → rs[i].nt = nt → ruleCost rs[i] op sm kc x = none) ∨
  (0 ≤ y.cost nt ∧ ∃ (i : Nat) (h : i < rs.length), i < k ∧ y.rule nt = i ∧ rs[i].nt = nt ∧ ruleCost rs[i] op sm kc x = some (y.cost nt) ∧
    ∀ j (hj : j < rs.length) (c' : Int), j < k → rs[j].nt = nt → ruleCost rs[j] op sm kc x = some c' → y.cost nt < c' ∨ y.cost nt = c' ∧ i ≤ j)

/-- no rule costs less than nothing -/
def CostsOk (rs : List Rule) (op : Int) (sm : Bool) (kc : Nat → Nat → Int) (x : Nat → Int) : Prop := ∀ i (h : i < rs.length) (c : Int), ruleCost rs[i] op sm kc x = some c → 0 ≤ c

theorem minUpto_step {rs : List Rule} {op : Int} {sm : Bool} {kc : Nat → Nat → Int} {x : Nat → Int} (hn : ∀ r ∈ rs, NtOk r) (hp : CostsOk rs op sm kc x) (k : Nat) (hk : k < rs.length) (y : Best) (h : MinUpto rs op sm kc x k y) :
    MinUpto rs op sm kc x (k + 1) (match ruleCost rs[k] op sm kc x with
      | none => y
      | some c => if c ≥ 0 ∧ (y.cost rs[k].nt.toNat < 0 ∨ c < y.cost rs[k].nt.toNat) then y.set rs[k].nt.toNat c k else y) := by
  have hnk := hn _ (List.getElem_mem hk)
  have hm : rs[k].nt.toNat < 4 := by have := hnk.1; have := hnk.2; omega
  intro nt hnt
  have hold := h nt hnt
  cases hr : ruleCost rs[k] op sm kc x with
  | none =>
    simp only
    rcases hold with ⟨h1, h2, h3⟩ | ⟨h0, i, hi, hik, h1, h2, h3, h4⟩
    · left
      refine ⟨h1, h2, fun i hi hik hin => ?_⟩
      by_cases e : i = k
      · subst e; exact hr
      · exact h3 i hi (by omega) hin
    · right
      refine ⟨h0, i, hi, by omega, h1, h2, h3, fun j hj c' hjk hjn hjc => ?_⟩
      by_cases e : j = k
      · subst e; rw [hr] at hjc; cases hjc
      · exact h4 j hj c' (by omega) hjn hjc
  | some c =>
    have hc0 := hp k hk c hr
    simp only
    by_cases hb : y.cost rs[k].nt.toNat < 0 ∨ c < y.cost rs[k].nt.toNat
    · rw [if_pos ⟨hc0, hb⟩]
      by_cases en : nt = rs[k].nt.toNat
      · right
        rw [Best.cost_set _ hm hnt, Best.rule_set _ hm hnt, if_pos en, if_pos en]
        refine ⟨hc0, k, hk, by omega, rfl, by rw [en]; exact (Int.toNat_of_nonneg hnk.1).symm, hr, fun j hj c' hjk hjn hjc => ?_⟩
        by_cases e : j = k
        · subst e; rw [hr] at hjc; injection hjc with hjc; right; exact ⟨hjc, Nat.le_refl _⟩
        · left
          rw [← en] at hb
          rcases hold with ⟨h1, h2, h3⟩ | ⟨h0, i, hi, hik, h1, h2, h3, h4⟩
          · have := h3 j hj (by omega) hjn
            rw [hjc] at this; cases this
          · have := h4 j hj c' (by omega) hjn hjc
            omega
      · rw [Best.cost_set _ hm hnt, Best.rule_set _ hm hnt, if_neg en, if_neg en]
        rcases hold with ⟨h1, h2, h3⟩ | ⟨h0, i, hi, hik, h1, h2, h3, h4⟩
        · left
          refine ⟨h1, h2, fun i hi hik hin => ?_⟩
          by_cases e : i = k
          · subst e; exact absurd (by omega) en
          · exact h3 i hi (by omega) hin
        · right
          refine ⟨h0, i, hi, by omega, h1, h2, h3, fun j hj c' hjk hjn hjc => ?_⟩
          by_cases e : j = k
          · subst e; exact absurd (by omega) en
          · exact h4 j hj c' (by omega) hjn hjc
    · rw [if_neg (fun h => hb h.2)]
      rcases hold with ⟨h1, h2, h3⟩ | ⟨h0, i, hi, hik, h1, h2, h3, h4⟩
      · left
        refine ⟨h1, h2, fun i hi hik hin => ?_⟩
        by_cases e : i = k
        · subst e
          have : rs[i].nt.toNat = nt := by omega
          rw [this, h1] at hb
          exact absurd (Or.inl (by omega)) hb
        · exact h3 i hi (by omega) hin
      · right
        refine ⟨h0, i, hi, by omega, h1, h2, h3, fun j hj c' hjk hjn hjc => ?_⟩
        by_cases e : j = k
        · subst e
          rw [hr] at hjc; injection hjc with hjc
          have : rs[j].nt.toNat = nt := by omega
          rw [this] at hb
          omega
        · exact h4 j hj c' (by omega) hjn hjc

theorem minUpto_zero (rs : List Rule) (op : Int) (sm : Bool) (kc : Nat → Nat → Int) (x : Nat → Int) : MinUpto rs op sm kc x 0 .none :=
  fun nt _ => Or.inl ⟨Best.cost_none nt, Best.rule_none nt, fun _ _ h => absurd h (by omega)⟩

theorem turnFrom_min {rs : List Rule} {op : Int} {sm : Bool} {kc : Nat → Nat → Int} {x : Nat → Int} (hn : ∀ r ∈ rs, NtOk r) (hp : CostsOk rs op sm kc x) :
    ∀ (n k : Nat) (y : Best), k + n = rs.length → MinUpto rs op sm kc x k y → MinUpto rs op sm kc x rs.length (turnFrom op sm kc x (rs.drop k) k y)
  | 0, k, y, hk, h => by
    rw [List.drop_of_length_le (by omega)]
    unfold turnFrom
    rw [show rs.length = k by omega]; exact h
  | n + 1, k, y, hk, h => by
    have hkl : k < rs.length := by omega
    rw [List.drop_eq_getElem_cons hkl]
    unfold turnFrom
    exact turnFrom_min hn hp n (k + 1) _ (by omega) (minUpto_step hn hp k hkl y h)

theorem MinUpto.all {rs : List Rule} {op : Int} {sm : Bool} {kc : Nat → Nat → Int} {x : Nat → Int} {y : Best} (h : MinUpto rs op sm kc x rs.length y) (nt : Nat) (hnt : nt < 4) : IsMin rs op sm kc x nt (y.cost nt) (y.rule nt) := by
  rcases h nt hnt with ⟨h1, h2, h3⟩ | ⟨_, i, hi, _, h1, h2, h3, h4⟩
  · exact Or.inl ⟨h1, h2, fun i hi hin => h3 i hi hi hin⟩
  · exact Or.inr ⟨i, hi, h1, h2, h3, fun j hj c' hjn hjc => h4 j hj c' hj hjn hjc⟩

theorem turn_min {rs : List Rule} {op : Int} {sm : Bool} {kc : Nat → Nat → Int} {x : Nat → Int} (hn : ∀ r ∈ rs, NtOk r) (hp : CostsOk rs op sm kc x) : MinUpto rs op sm kc x rs.length (turn rs op sm kc x) := by
  have := turnFrom_min hn hp rs.length 0 .none (by omega) (minUpto_zero rs op sm kc x)
  rwa [List.drop_zero] at this

end

/- The five turns find a node's best; so does any way that goes on until nothing changes. -/
section
theorem kidsSum_nonneg : ∀ (ps : List Pat) (i : Nat) (kc : Nat → Nat → Int), (∀ i n, -1 ≤ kc i n) → ∀ c, kidsSum ps i kc = some c → 0 ≤ c
  | [], _, _, _, c, h => by unfold kidsSum at h; injection h with h; omega
  | p :: ps, i, kc, hk, c, h => by
    unfold kidsSum at h
    split at h
    · cases h
    · rename_i hne
      cases hs : kidsSum ps (i + 1) kc with
      | none => rw [hs] at h; cases h
      | some d =>
        rw [hs] at h
        simp only [Option.map_some, Option.some.injEq] at h
        have := kidsSum_nonneg ps (i + 1) kc hk d hs
        have := hk i p.nt.toNat
        omega

theorem costsOk_of {rs : List Rule} {op : Int} {sm : Bool} {kc : Nat → Nat → Int} {x : Nat → Int} (hr : ∀ r ∈ rs, 0 ≤ r.cost) (hk : ∀ i n, -1 ≤ kc i n) (hx : ∀ n, -1 ≤ x n) : CostsOk rs op sm kc x := by
  intro i hi c h
  have h0 := hr _ (List.getElem_mem hi)
  unfold ruleCost at h
  split at h
  · split at h
    · cases h
    · injection h with h
      have := hx rs[i].pat.nt.toNat
      omega
  · split at h
    · cases h
    · cases hs : kidsSum rs[i].pat.kids 0 kc with
      | none => rw [hs] at h; cases h
      | some d =>
        rw [hs] at h
        simp only [Option.map_some, Option.some.injEq] at h
        have := kidsSum_nonneg _ _ kc hk d hs
        omega

theorem Best.cost4 (b : Best) (h : ∀ n, n < 4 → -1 ≤ b.cost n) : ∀ n, -1 ≤ b.cost n := by
  intro n
  by_cases hn : n < 4
  · exact h n hn
  · have := h 3 (by omega)
    have e : b.cost n = b.cost 3 := by
      match n, hn with
      | 0, h | 1, h | 2, h => omega
      | 3, _ => rfl
      | n + 4, _ => rfl
    rw [e]; exact this

theorem MinUpto.low {rs : List Rule} {op : Int} {sm : Bool} {kc : Nat → Nat → Int} {x : Nat → Int} {k : Nat} {y : Best} (h : MinUpto rs op sm kc x k y) : ∀ n, -1 ≤ y.cost n :=
  y.cost4 fun n hn => by rcases h n hn with ⟨h1, _⟩ | ⟨h1, _⟩ <;> omega

section
variable {rs : List Rule} {op : Int} {sm : Bool} {kc : Nat → Nat → Int}

theorem turns_low (hn : ∀ r ∈ rs, NtOk r) (hr : ∀ r ∈ rs, 0 ≤ r.cost) (hk : ∀ i n, -1 ≤ kc i n) : ∀ k n, -1 ≤ (turns rs op sm kc k).cost n
  | 0, n => by unfold turns; rw [Best.cost_none]; omega
  | k + 1, n => by
    unfold turns
    exact (turn_min hn (costsOk_of hr hk (turns_low hn hr hk k))).low n

theorem turns_min (hn : ∀ r ∈ rs, NtOk r) (hr : ∀ r ∈ rs, 0 ≤ r.cost) (hk : ∀ i n, -1 ≤ kc i n) (k nt : Nat) (hnt : nt < 4) :
    IsMin rs op sm kc (turns rs op sm kc k).cost nt ((turns rs op sm kc (k + 1)).cost nt) ((turns rs op sm kc (k + 1)).rule nt) := by
  show IsMin rs op sm kc (turns rs op sm kc k).cost nt ((turn rs op sm kc (turns rs op sm kc k).cost).cost nt) ((turn rs op sm kc (turns rs op sm kc k).cost).rule nt)
  exact (turn_min hn (costsOk_of hr hk (turns_low hn hr hk k))).all nt hnt

theorem IsMin.cong {x y : Nat → Int} {nt : Nat} {c a : Int} (h : IsMin rs op sm kc x nt c a) (hxy : ∀ r ∈ rs, ruleCost r op sm kc x = ruleCost r op sm kc y) : IsMin rs op sm kc y nt c a := by
  have e : ∀ i (hi : i < rs.length), ruleCost rs[i] op sm kc y = ruleCost rs[i] op sm kc x := fun i hi => (hxy _ (List.getElem_mem hi)).symm
  rcases h with ⟨h1, h2, h3⟩ | ⟨i, hi, h1, h2, h3, h4⟩
  · exact Or.inl ⟨h1, h2, fun i hi hn => by rw [e i hi]; exact h3 i hi hn⟩
  · exact Or.inr ⟨i, hi, h1, h2, by rw [e i hi]; exact h3, fun j hj c' hjn hjc => h4 j hj c' hjn (by rw [← e j hj]; exact hjc)⟩

theorem ruleCost_cong3 {r : Rule} {x y : Nat → Int} (hc : ChainOk r) (h0 : x 0 = y 0) (h1 : x 1 = y 1) (h2 : x 2 = y 2) : ruleCost r op sm kc x = ruleCost r op sm kc y := by
  refine ruleCost_cong fun h => ?_
  rcases hc h with ⟨_, e⟩ | ⟨_, e⟩ | ⟨_, e⟩
  · rw [e]; exact h2
  · rw [e]; exact h1
  · rw [e]; exact h0

theorem turns_fix (hc : ∀ r ∈ rs, ChainOk r) (hn : ∀ r ∈ rs, NtOk r) (hr : ∀ r ∈ rs, 0 ≤ r.cost) (hk : ∀ i n, -1 ≤ kc i n) : Fix rs op sm kc (turns rs op sm kc 5) := by
  have m := turns_min (op := op) (sm := sm) hn hr hk
  have e2 : ∀ k, (turns rs op sm kc (k + 1)).cost 2 = (turns rs op sm kc (k + 2)).cost 2 := fun k => (min2 hc (m k 2 (by omega)) (m (k + 1) 2 (by omega))).1
  have e1 : ∀ k, (turns rs op sm kc (k + 2)).cost 1 = (turns rs op sm kc (k + 3)).cost 1 := fun k => (min1 hc (m (k + 1) 1 (by omega)) (m (k + 2) 1 (by omega)) (e2 k)).1
  have e0 : ∀ k, (turns rs op sm kc (k + 3)).cost 0 = (turns rs op sm kc (k + 4)).cost 0 := fun k => (min0 hc (m (k + 2) 0 (by omega)) (m (k + 3) 0 (by omega)) (e1 k)).1
  intro nt hnt
  exact (m 4 nt hnt).cong fun r hrm => ruleCost_cong3 (hc r hrm) (e0 1) (e1 2) (e2 3)

/-- a rule that offers nothing better than what there is -/
def Sat (rs : List Rule) (op : Int) (sm : Bool) (kc : Nat → Nat → Int) (b : Best) (j : Nat) : Prop :=
  ∀ (h : j < rs.length) (c : Int), ruleCost rs[j] op sm kc b.cost = some c → b.cost rs[j].nt.toNat ≠ -1 ∧ (b.cost rs[j].nt.toNat < c ∨ b.cost rs[j].nt.toNat = c ∧ b.rule rs[j].nt.toNat ≤ j)

/-- what there is was had by the rule that is noted, and may be had for less since -/
def Got (rs : List Rule) (op : Int) (sm : Bool) (kc : Nat → Nat → Int) (b : Best) : Prop :=
  ∀ nt, nt < 4 → (b.cost nt = -1 ∧ b.rule nt = 0) ∨ (0 ≤ b.cost nt ∧ ∃ (i : Nat) (h : i < rs.length), b.rule nt = i ∧ rs[i].nt = nt ∧ ∃ c, ruleCost rs[i] op sm kc b.cost = some c ∧ c ≤ b.cost nt)

theorem got_none : Got rs op sm kc .none := fun nt _ => Or.inl ⟨Best.cost_none nt, Best.rule_none nt⟩

theorem Got.low {b : Best} (h : Got rs op sm kc b) : ∀ n, -1 ≤ b.cost n := b.cost4 fun n hn => by rcases h n hn with ⟨h1, _⟩ | ⟨h1, _⟩ <;> omega

theorem fix_of {b : Best} (_hn : ∀ r ∈ rs, NtOk r) (hg : Got rs op sm kc b) (hs : ∀ j, Sat rs op sm kc b j) : Fix rs op sm kc b := by
  intro nt hnt
  have key : ∀ j (hj : j < rs.length) (c' : Int), rs[j].nt = nt → ruleCost rs[j] op sm kc b.cost = some c' → b.cost nt ≠ -1 ∧ (b.cost nt < c' ∨ b.cost nt = c' ∧ b.rule nt ≤ j) := by
    intro j hj c' hjn hjc
    have := hs j hj c' hjc
    rw [hjn] at this
    exact this
  rcases hg nt hnt with ⟨h1, h2⟩ | ⟨h0, i, hi, h1, h2, c, h3, h4⟩
  · left
    refine ⟨h1, h2, fun j hj hjn => ?_⟩
    cases hc : ruleCost rs[j] op sm kc b.cost with
    | none => rfl
    | some c' => exact absurd h1 (key j hj c' hjn hc).1
  · right
    have hk := (key i hi c h2 h3).2
    have hcc : c = b.cost nt := by omega
    refine ⟨i, hi, h1, h2, by rw [h3, hcc], fun j hj c' hjn hjc => ?_⟩
    have := (key j hj c' hjn hjc).2
    omega

theorem ruleCost_less {r : Rule} {b : Best} {n : Nat} (hn : n < 4) {c d a : Int} (hc : 0 ≤ c) (hold : b.cost n = -1 ∨ c ≤ b.cost n) (hp : r.pat.op = 0 → r.pat.nt.toNat < 4) (h : ruleCost r op sm kc b.cost = some d) :
    ∃ d', ruleCost r op sm kc (b.set n c a).cost = some d' ∧ d' ≤ d := by
  unfold ruleCost at h ⊢
  by_cases h0 : r.pat.op = 0
  · rw [if_pos h0] at h ⊢
    rw [Best.cost_set _ hn (hp h0)]
    by_cases e : r.pat.nt.toNat = n
    · rw [if_pos e, if_neg (by omega)]
      rw [e] at h
      split at h
      · cases h
      · injection h with h
        exact ⟨_, rfl, by omega⟩
    · rw [if_neg e]
      exact ⟨d, h, Int.le_refl _⟩
  · rw [if_neg h0] at h ⊢
    exact ⟨d, h, Int.le_refl _⟩

theorem got_set {b : Best} (hn : ∀ r ∈ rs, NtOk r) (hc : ∀ r ∈ rs, ChainOk r) (hg : Got rs op sm kc b) (j : Nat) (hj : j < rs.length) (c : Int) (h0 : 0 ≤ c) (h : ruleCost rs[j] op sm kc b.cost = some c)
    (hold : b.cost rs[j].nt.toNat = -1 ∨ c ≤ b.cost rs[j].nt.toNat) : Got rs op sm kc (b.set rs[j].nt.toNat c j) := by
  have hnj := hn _ (List.getElem_mem hj)
  have hm : rs[j].nt.toNat < 4 := by have := hnj.1; have := hnj.2; omega
  have hp : ∀ r ∈ rs, r.pat.op = 0 → r.pat.nt.toNat < 4 := fun r hr h0 => by rcases hc r hr h0 with ⟨_, e⟩ | ⟨_, e⟩ | ⟨_, e⟩ <;> omega
  intro nt hnt
  rw [Best.cost_set _ hm hnt, Best.rule_set _ hm hnt]
  by_cases e : nt = rs[j].nt.toNat
  · rw [if_pos e, if_pos e]
    right
    obtain ⟨d, hd1, hd2⟩ := ruleCost_less (a := (j : Int)) hm h0 hold (hp _ (List.getElem_mem hj)) h
    exact ⟨h0, j, hj, rfl, by rw [e]; exact (Int.toNat_of_nonneg hnj.1).symm, d, hd1, hd2⟩
  · rw [if_neg e, if_neg e]
    rcases hg nt hnt with h1 | ⟨h1, i, hi, h2, h3, d, h4, h5⟩
    · exact Or.inl h1
    · right
      obtain ⟨d', hd1, hd2⟩ := ruleCost_less (a := (j : Int)) hm h0 hold (hp _ (List.getElem_mem hi)) h4
      exact ⟨h1, i, hi, h2, h3, d', hd1, by omega⟩

/-- how far a chain leads -/
def lvl : Nat → Int
  | 2 => 1
  | 1 => 2
  | 0 => 3
  | _ => 4
def Lim (X : Int) (b : Best) : Prop := ∀ nt, nt < 4 → b.cost nt ≤ X + lvl nt * 65535

theorem lim_none {X : Int} (hX : 0 ≤ X) : Lim X .none := fun nt hnt => by
  rw [Best.cost_none]; rcases nt4 hnt with rfl | rfl | rfl | rfl <;> simp only [lvl] <;> omega

theorem ruleCost_lim {r : Rule} {X : Int} {x : Nat → Int} (hn : NtOk r) (hc : ChainOk r) (hr : r.cost ≤ 65535) (hk : ∀ s, kidsSum r.pat.kids 0 kc = some s → s ≤ X) (hx : ∀ nt, nt < 4 → x nt ≤ X + lvl nt * 65535) {c : Int} (h : ruleCost r op sm kc x = some c) :
    c ≤ X + lvl r.nt.toNat * 65535 := by
  have hm : r.nt.toNat < 4 := by have := hn.1; have := hn.2; omega
  unfold ruleCost at h
  by_cases h0 : r.pat.op = 0
  · rw [if_pos h0] at h
    split at h
    · cases h
    · injection h with h
      have x0 := hx 0 (by omega)
      have x1 := hx 1 (by omega)
      have x2 := hx 2 (by omega)
      simp only [lvl] at x0 x1 x2
      rcases hc h0 with ⟨e1, e2⟩ | ⟨e1, e2⟩ | ⟨e1, e2⟩
      · rw [e2] at h; rw [e1]; simp only [lvl, Int.toNat]; simp only [Int.toNat] at h; omega
      · rw [e2] at h; rw [e1]; simp only [lvl, Int.toNat]; simp only [Int.toNat] at h; omega
      · rw [e2] at h; rw [e1]; simp only [lvl, Int.toNat]; simp only [Int.toNat] at h; omega
  · rw [if_neg h0] at h
    split at h
    · cases h
    · cases hs : kidsSum r.pat.kids 0 kc with
      | none => rw [hs] at h; cases h
      | some d =>
        rw [hs] at h
        simp only [Option.map_some, Option.some.injEq] at h
        have := hk d hs
        rcases nt4 hm with e | e | e | e <;> rw [e] <;> simp only [lvl] <;> omega

theorem lim_set {b : Best} {X : Int} {n : Nat} (hn : n < 4) {c a : Int} (hb : Lim X b) (hc : c ≤ X + lvl n * 65535) : Lim X (b.set n c a) := by
  intro nt hnt
  rw [Best.cost_set _ hn hnt]
  by_cases e : nt = n
  · rw [if_pos e, e]; exact hc
  · rw [if_neg e]; exact hb nt hnt

/-- what goes down whenever something changes -/
def mu1 (c r : Int) : Nat := if c = -1 then 1000000000000 else (c * 97 + r).toNat
def mu (b : Best) : Nat := mu1 b.c0 b.r0 + mu1 b.c1 b.r1 + mu1 b.c2 b.r2 + mu1 b.c3 b.r3

theorem mu1_less {c r c' r' : Int} (h : c = -1 ∨ c' < c ∨ c' = c ∧ r' < r) (h0 : 0 ≤ c') (h1 : c' ≤ 1000000000) (h2 : 0 ≤ r') (h3 : r' ≤ 96) (h4 : 0 ≤ r) : mu1 c' r' < mu1 c r := by
  unfold mu1
  rw [if_neg (by omega)]
  split
  · omega
  · omega

theorem mu_less {b : Best} {n : Nat} (hn : n < 4) {c a : Int} (h : b.cost n = -1 ∨ c < b.cost n ∨ c = b.cost n ∧ a < b.rule n) (h0 : 0 ≤ c) (h1 : c ≤ 1000000000) (h2 : 0 ≤ a) (h3 : a ≤ 96) (h4 : 0 ≤ b.rule n) : mu (b.set n c a) < mu b := by
  rcases nt4 hn with rfl | rfl | rfl | rfl
  · have := mu1_less (c := b.c0) (r := b.r0) h h0 h1 h2 h3 h4; simp only [mu, Best.set]; omega
  · have := mu1_less (c := b.c1) (r := b.r1) h h0 h1 h2 h3 h4; simp only [mu, Best.set]; omega
  · have := mu1_less (c := b.c2) (r := b.r2) h h0 h1 h2 h3 h4; simp only [mu, Best.set]; omega
  · have := mu1_less (c := b.c3) (r := b.r3) h h0 h1 h2 h3 h4; simp only [mu, Best.set]; omega

end

end

end Go.Proofs.YtaippkdlibampaaDoor

/- EqPat, EqPats, EqRule walked: at any patterns. -/
import Derived.Test.YthdicdkgfmiepaaGreatDoorRuJ
import Derived.Deep.RegionHeld3
namespace Go.Proofs.YthdicdkgfmiepaaGreatDoor
open Go.RowKit

theorem cell_alloc {w : World} {a : Addr} {v : Value} (h : w.cell? a = some v) (o : Obj) : (w.alloc o).cell? a = some v := by
  rw [World.cell?_alloc_lt _ _ _ (World.block_lt_of_cell? _ _ h)]; exact h
theorem cell_drew {w : World} {a : Addr} {v : Value} (h : w.cell? a = some v) : w.drew.cell? a = some v := h
theorem cell_set {w : World} {a b : Addr} {v : Value} (h : w.cell? a = some v) (hne : b.block ≠ a.block) (u : Value) : (w.setCell b u).cell? a = some v := by
  rw [World.cell?_setCell_other w b a u (fun e => hne (by rw [e]))]; exact h
theorem cell_drewN {w : World} {a : Addr} {v : Value} (h : w.cell? a = some v) (n : Nat) : (w.drewN n).cell? a = some v := h

theorem later3 {w w' : World} {p q r : Addr} {u v x : Value} (hb : Below w.heap.size w w') (h : w.cell? p = some u ∧ w.cell? q = some v ∧ w.cell? r = some x) : w'.cell? p = some u ∧ w'.cell? q = some v ∧ w'.cell? r = some x :=
  ⟨cell_later hb h.1, cell_later hb h.2.1, cell_later hb h.2.2⟩

noncomputable def same {α : Type} (a b : α) : Bool := @decide (a = b) (Classical.propDecidable _)
theorem same_iff {α : Type} (a b : α) : same a b = true ↔ a = b := by unfold same; simp
theorem same_false {α : Type} (a b : α) : same a b = false ↔ a ≠ b := by unfold same; simp

theorem Pat.ext_iff' (p q : Pat) : p = q ↔ p.op = q.op ∧ p.nt = q.nt ∧ p.kids = q.kids := by
  cases p; cases q; simp [Pat.op, Pat.nt, Pat.kids]

/-- kid k of a slice of patterns -/
theorem pats_at {w : World} {ok : Nat → Prop} {ps : List Pat} {A : Option Addr} {n c : Nat} (h : Rep w ok (.lst 3 (ps.map encP)) [.slice A n c]) (k : Nat) (hk : k < ps.length) :
    ∃ (g off : Nat) (B : Option Addr) (d : Nat), A = some ⟨g, off, none⟩ ∧ ok g ∧ g < w.heap.size ∧
      (w.cell? ⟨g, off + k * 3, none⟩ = some (.int .i64 ps[k].op) ∧ w.cell? ⟨g, off + k * 3 + 1, none⟩ = some (.int .i64 ps[k].nt) ∧ w.cell? ⟨g, off + k * 3 + 2, none⟩ = some (.slice B ps[k].kids.length d)) ∧
      Rep w ok (encP ps[k]) [.int .i64 ps[k].op, .int .i64 ps[k].nt, .slice B ps[k].kids.length d] := by
  obtain ⟨g, off, a, hA, hok, hlt, hl, hr, hc⟩ := h.at_ k (by simpa using hk)
  rw [List.getElem_map] at hr
  have hr0 := hr
  obtain ⟨B, d, rfl, hd, hp⟩ := rep_pat_inv hr
  have e : ∀ j, off + (k * 3 + j) = off + k * 3 + j := fun j => by omega
  refine ⟨g, off, B, d, hA, hok, hlt, ⟨?_, ?_, ?_⟩, hr0⟩
  · have := hc 0 (by omega); rw [e] at this; exact this
  · have := hc 1 (by omega); rw [e] at this; exact this
  · have := hc 2 (by omega); rw [e] at this; exact this

def PatArg (A : Option Addr) (c : Nat) (p : Pat) : Value := .agg #[.int .i64 p.op, .int .i64 p.nt, .slice A p.kids.length c]
def PatIn (w : World) (A : Option Addr) (c : Nat) (p : Pat) : Prop := ∃ ok, Rep w ok (encP p) [.int .i64 p.op, .int .i64 p.nt, .slice A p.kids.length c]

def EqPatOk (p : Pat) : Prop := ∀ (q : Pat) (A B : Option Addr) (c d : Nat) (w : World), PatIn w A c p → PatIn w B d q →
  Calls Tryz.prog 48 #[.agg #[.int .i64 p.op, .int .i64 p.nt, .slice A p.kids.length c], .agg #[.int .i64 q.op, .int .i64 q.nt, .slice B q.kids.length d]] w (SomeBoolBelow (same p q) w)

def PatsIn (w : World) (A : Option Addr) (c : Nat) (ps : List Pat) : Prop := ∃ ok, Rep w ok (.lst 3 (ps.map encP)) [.slice A ps.length c]

theorem PatsIn.below {w w' : World} {A : Option Addr} {c : Nat} {ps : List Pat} (h : PatsIn w A c ps) (hb : Below w.heap.size w w') : PatsIn w' A c ps := by
  obtain ⟨ok, h⟩ := h; exact ⟨ok, h.below hb⟩
theorem PatIn.below {w w' : World} {A : Option Addr} {c : Nat} {p : Pat} (h : PatIn w A c p) (hb : Below w.heap.size w w') : PatIn w' A c p := by
  obtain ⟨ok, h⟩ := h; exact ⟨ok, h.below hb⟩
theorem PatIn.drewN {w : World} {A : Option Addr} {c : Nat} {p : Pat} (h : PatIn w A c p) (n : Nat) : PatIn (w.drewN n) A c p := by
  obtain ⟨ok, h⟩ := h; exact ⟨ok, h.drewN n⟩
theorem PatIn.drew {w : World} {A : Option Addr} {c : Nat} {p : Pat} (h : PatIn w A c p) : PatIn w.drew A c p := by
  obtain ⟨ok, h⟩ := h; exact ⟨ok, h.drew⟩
theorem PatIn.kids {w : World} {A : Option Addr} {c : Nat} {p : Pat} (h : PatIn w A c p) : PatsIn w A c p.kids := by
  obtain ⟨ok, h⟩ := h
  obtain ⟨A', c', he, _, h2⟩ := rep_pat_inv h
  injection he with _ he; injection he with _ he; injection he with he _; injection he with e1 _ e3
  subst e1 e3
  exact ⟨ok, h2⟩
theorem PatsIn.le {w : World} {A : Option Addr} {c : Nat} {ps : List Pat} (h : PatsIn w A c ps) : ps.length ≤ maxLen := by
  obtain ⟨ok, h⟩ := h
  obtain ⟨A', c', he, h1, h2⟩ := h.len
  rw [List.length_map] at h1
  omega

set_option maxHeartbeats 2000000 in
theorem eqPats_of (ps qs : List Pat) (ih : ∀ i (h : i < ps.length), EqPatOk ps[i]) (A B : Option Addr) (c d : Nat) (w : World) (hp : PatsIn w A c ps) (hq : PatsIn w B d qs) :
    Calls Tryz.prog 64 #[.slice A ps.length c, .slice B qs.length d] w (SomeBoolBelow (same ps qs) w) := by
  have hm := hp.le
  unfold maxLen at hm
  by_cases hl : ps.length = qs.length
  · obtain ⟨n, hn⟩ : ∃ n, Hid (ps.length = n) := ⟨_, Lib.hid rfl⟩
    have hn2 : Hid (qs.length = n) := Lib.hid (by rw [← hl]; exact hn.out)
    rw [hn.out, hn2.out]
    rw [hn.out] at hm
    clear hl
    go_enter Tryz.func64, Tryz.ntmps64
    go_wp2_with fail
    go_loopw [5] (fun i wr => ∃ k : Nat, k ≤ n ∧ i = .int .i64 k ∧ Below w.heap.size w wr ∧ Hid (∀ j (h1 : j < ps.length) (h2 : j < qs.length), j < k → ps[j] = qs[j])) (fun i _ => n - (intOf i).toNat)
    case atStart => exact ⟨0, by omega, rfl, Below.refl _ _, Lib.hid (fun j _ _ h => absurd h (by omega))⟩
    case round =>
      obtain ⟨k, hk, rfl, hb, hsame⟩ := hrel
      obtain ⟨wo, rfl⟩ : ∃ wo : World, wo = wr := ⟨_, rfl⟩
      by_cases hlt : k < n
      · have hkp : k < ps.length := by rw [hn.out]; exact hlt
        have hkq : k < qs.length := by rw [hn2.out]; exact hlt
        have hp1 := hp.below hb
        have hq1 := hq.below hb
        obtain ⟨okp, hp1⟩ := hp1
        obtain ⟨okq, hq1⟩ := hq1
        obtain ⟨g, off, A', c', rfl, _, hg, ⟨a0, a1, a2⟩, hpi⟩ := pats_at hp1 k hkp
        obtain ⟨g', off', B', d', rfl, _, hg', ⟨b0, b1, b2⟩, hqi⟩ := pats_at hq1 k hkq
        have hc := ih k hkp qs[k] A' B' c' d'
        obtain ⟨p, hpe⟩ : ∃ p, Hid (ps[k] = p) := ⟨_, Lib.hid rfl⟩
        obtain ⟨q, hqe⟩ : ∃ q, Hid (qs[k] = q) := ⟨_, Lib.hid rfl⟩
        rw [hpe.out] at a0 a1 a2 hpi hc
        rw [hqe.out] at b0 b1 b2 hqi hc
        have HP : Hid (PatIn wo A' c' p) := Lib.hid ⟨_, hpi⟩
        have HQ : Hid (PatIn wo B' d' q) := Lib.hid ⟨_, hqi⟩
        clear hp1 hq1 hpi hqi hp hq ih
        have hg0 : g ≠ wo.heap.size := by omega
        have hg0' : g' ≠ wo.heap.size := by omega
        go_wp2_with fail
        obtain ⟨s, hs⟩ : ∃ s, Hid (same p q = s) := ⟨_, Lib.hid rfl⟩
        rw [hs.out] at hc
        cases s
        all_goals
          go_region_held3 (fun W => W.cell? ⟨g, off + k * 3, none⟩ = some (.int .i64 p.op) ∧ W.cell? ⟨g, off + k * 3 + 1, none⟩ = some (.int .i64 p.nt) ∧ W.cell? ⟨g, off + k * 3 + 2, none⟩ = some (.slice A' p.kids.length c') ∧ W.cell? ⟨g', off' + k * 3, none⟩ = some (.int .i64 q.op) ∧ W.cell? ⟨g', off' + k * 3 + 1, none⟩ = some (.int .i64 q.nt) ∧ W.cell? ⟨g', off' + k * 3 + 2, none⟩ = some (.slice B' q.kids.length d')) ((refine ⟨?_, ?_, ?_, ?_, ?_, ?_⟩ <;> (with_reducible (repeat (first | assumption | refine cell_drewN ?_ _ | refine cell_drew ?_)))))
            ((go_at_call 48; refine (hc _ (by with_reducible (repeat (first | exact HP.out | refine PatIn.drewN ?_ _ | refine PatIn.drew ?_))) (by with_reducible (repeat (first | exact HQ.out | refine PatIn.drewN ?_ _ | refine PatIn.drew ?_)))).mono ?_; rintro e w3 ⟨rfl, hb3⟩; obtain ⟨d0, d1, d2⟩ := later3 hb3 ⟨a0, a1, a2⟩; obtain ⟨d3, d4, d5⟩ := later3 hb3 ⟨b0, b1, b2⟩))
          go_wp2_with fail
        · go_ret
          refine ⟨ret_bool ?_, hb.trans (((Below.refl _ _).drew).trans (hb3.mono hb.size))⟩
          symm
          rw [same_false]
          intro he
          have h1 := (same_false p q).1 hs.out
          apply h1
          rw [← hpe.out, ← hqe.out]
          simp only [he]
        · go_roundw
          case rel =>
            refine ⟨k + 1, by omega, by go_num, ?_, Lib.hid (fun j h1 h2 hjk => ?_)⟩
            · exact hb.trans (((Below.refl _ _).drew).trans (hb3.mono hb.size))
            · by_cases e : j = k
              · subst e; rw [hpe.out, hqe.out]; exact (same_iff p q).1 hs.out
              · exact hsame.out j h1 h2 (by omega)
          case measure => simp [intOf]; omega
      · obtain rfl : k = n := by omega
        go_wp2_with fail
        go_ret
        refine ⟨ret_bool ?_, hb⟩
        have : ps = qs := List.ext_getElem (by rw [hn.out, hn2.out]) (fun j h1 h2 => hsame.out j h1 h2 (by rw [← hn.out]; exact h1))
        rw [(same_iff _ _).2 this]
  · go_enter Tryz.func64, Tryz.ntmps64
    go_wp2_with fail
    · go_ret
      refine ⟨ret_bool ?_, Below.refl _ _⟩
      symm
      rw [same_false]
      intro he
      exact hl (by rw [he])

theorem below_box2 (w : World) (o o' : Obj) : Below w.heap.size w ((w.alloc o).alloc o') := (below_alloc w o).alloc (by simp) _

set_option maxHeartbeats 2000000 in
theorem eqPat_of (p : Pat) (ih : ∀ i (h : i < p.kids.length), EqPatOk p.kids[i]) : EqPatOk p := by
  intro q A B c d w hp hq
  have hk := fun W => eqPats_of p.kids q.kids ih A B c d W
  obtain ⟨po, hpo⟩ : ∃ x, Hid (p.op = x) := ⟨_, Lib.hid rfl⟩
  obtain ⟨qo, hqo⟩ : ∃ x, Hid (q.op = x) := ⟨_, Lib.hid rfl⟩
  obtain ⟨pn, hpn⟩ : ∃ x, Hid (p.nt = x) := ⟨_, Lib.hid rfl⟩
  obtain ⟨qn, hqn⟩ : ∃ x, Hid (q.nt = x) := ⟨_, Lib.hid rfl⟩
  have HPK : Hid (PatsIn w A c p.kids) := Lib.hid hp.kids
  have HQK : Hid (PatsIn w B d q.kids) := Lib.hid hq.kids
  have hsm : Hid (same p q = true ↔ po = qo ∧ pn = qn ∧ same p.kids q.kids = true) := by
    refine Lib.hid ?_
    rw [same_iff, same_iff, Pat.ext_iff', hpo.out, hqo.out, hpn.out, hqn.out]
  rw [hpo.out, hqo.out, hpn.out, hqn.out]
  clear hp hq ih
  by_cases h1 : po = qo
  · subst h1
    by_cases h2 : pn = qn
    · subst h2
      have hs : Hid (same p q = same p.kids q.kids) := by
        refine Lib.hid ?_
        rw [Bool.eq_iff_iff, hsm.out]; simp
      rw [hs.out]
      go_enter Tryz.func48, Tryz.ntmps48
      go_wp2_with fail
      refine (hk _ (HPK.out.below (below_box2 _ _ _)) (HQK.out.below (below_box2 _ _ _))).mono ?_
      rintro e w3 ⟨rfl, hb3⟩
      go_wp2_with fail
      go_ret
      exact ⟨ret_bool rfl, (below_box2 _ _ _).trans (hb3.mono (by simp; omega))⟩
    · have hs : Hid (same p q = false) := by
        refine Lib.hid ?_
        rw [← Bool.not_eq_true, hsm.out]; exact fun h => h2 h.2.1
      rw [hs.out]
      have hne : (pn == qn) = false := by simpa using h2
      go_enter Tryz.func48, Tryz.ntmps48
      go_wp2_with fail
      go_ret
      exact ⟨ret_bool rfl, below_box2 _ _ _⟩
  · have hs : Hid (same p q = false) := by
      refine Lib.hid ?_
      rw [← Bool.not_eq_true, hsm.out]; exact fun h => h1 h.1
    rw [hs.out]
    have hne : (po == qo) = false := by simpa using h1
    go_enter Tryz.func48, Tryz.ntmps48
    go_wp2_with fail
    go_ret
    exact ⟨ret_bool rfl, below_box2 _ _ _⟩

theorem eqPat_any : ∀ p : Pat, EqPatOk p
  | .mk op nt kids => eqPat_of _ fun i h => eqPat_any kids[i]
termination_by p => SizeOf.sizeOf p
decreasing_by
  have := List.sizeOf_lt_of_mem (List.getElem_mem h)
  simp only [Pat.kids] at this
  simp only [Pat.mk.sizeOf_spec]
  omega

theorem Rule.ext_iff' (p q : Rule) : p = q ↔ p.nt = q.nt ∧ p.pat = q.pat ∧ p.cost = q.cost ∧ p.form = q.form := by
  cases p; cases q; simp

def RuleIn (w : World) (A : Option Addr) (c : Nat) (r : Rule) : Prop := PatIn w A c r.pat

set_option maxHeartbeats 2000000 in
theorem eqRule_any (r q : Rule) (A B : Option Addr) (c d : Nat) (w : World) (hp : RuleIn w A c r) (hq : RuleIn w B d q) :
    Calls Tryz.prog 30 #[.agg #[.int .i64 r.nt, .int .i64 r.pat.op, .int .i64 r.pat.nt, .slice A r.pat.kids.length c, .int .i64 r.cost, .string ⟨r.form.toArray⟩], .agg #[.int .i64 q.nt, .int .i64 q.pat.op, .int .i64 q.pat.nt, .slice B q.pat.kids.length d, .int .i64 q.cost, .string ⟨q.form.toArray⟩]] w (SomeBoolBelow (same r q) w) := by
  have hk := fun W => eqPat_any r.pat q.pat A B c d W
  have HP : Hid (PatIn w A c r.pat) := Lib.hid hp
  have HQ : Hid (PatIn w B d q.pat) := Lib.hid hq
  clear hp hq
  obtain ⟨rn, hrn⟩ : ∃ x, Hid (r.nt = x) := ⟨_, Lib.hid rfl⟩
  obtain ⟨qn, hqn⟩ : ∃ x, Hid (q.nt = x) := ⟨_, Lib.hid rfl⟩
  obtain ⟨rc, hrc⟩ : ∃ x, Hid (r.cost = x) := ⟨_, Lib.hid rfl⟩
  obtain ⟨qc, hqc⟩ : ∃ x, Hid (q.cost = x) := ⟨_, Lib.hid rfl⟩
  obtain ⟨rf, hrf⟩ : ∃ x, Hid (r.form = x) := ⟨_, Lib.hid rfl⟩
  obtain ⟨qf, hqf⟩ : ∃ x, Hid (q.form = x) := ⟨_, Lib.hid rfl⟩
  have hsm : Hid (same r q = true ↔ rn = qn ∧ same r.pat q.pat = true ∧ rc = qc ∧ rf = qf) := by
    refine Lib.hid ?_
    rw [same_iff, same_iff, Rule.ext_iff', hrn.out, hqn.out, hrc.out, hqc.out, hrf.out, hqf.out]
  rw [hrn.out, hqn.out, hrc.out, hqc.out, hrf.out, hqf.out]
  obtain ⟨s, hs⟩ : ∃ s, Hid (same r.pat q.pat = s) := ⟨_, Lib.hid rfl⟩
  rw [hs.out] at hk
  by_cases h1 : rn = qn
  · subst h1
    cases s with
    | false =>
      have hs2 : Hid (same r q = false) := by
        refine Lib.hid ?_
        rw [← Bool.not_eq_true, hsm.out, hs.out]; simp
      rw [hs2.out]
      go_enter Tryz.func30, Tryz.ntmps30
      go_wp2_with fail
      refine (hk _ (HP.out.below (below_box2 _ _ _)) (HQ.out.below (below_box2 _ _ _))).mono ?_
      rintro e w3 ⟨rfl, hb3⟩
      go_wp2_with fail
      go_ret
      exact ⟨ret_bool rfl, (below_box2 _ _ _).trans (hb3.mono (by simp; omega))⟩
    | true =>
      by_cases h2 : rc = qc
      · subst h2
        have hs2 : Hid (same r q = (rf == qf)) := by
          refine Lib.hid ?_
          rw [Bool.eq_iff_iff, hsm.out, hs.out]; simp
        rw [hs2.out]
        go_enter Tryz.func30, Tryz.ntmps30
        go_wp2_with fail
        refine (hk _ (HP.out.below (below_box2 _ _ _)) (HQ.out.below (below_box2 _ _ _))).mono ?_
        rintro e w3 ⟨rfl, hb3⟩
        obtain ⟨hc, hf⟩ := bcell hb3
        have hz3 : w.heap.size + 1 < w3.heap.size := by have := hb3.size; simp at this; omega
        go_wp2_with fail
        go_ret
        exact ⟨ret_bool rfl, (below_box2 _ _ _).trans (hb3.mono (by simp; omega))⟩
      · have hne : (rc == qc) = false := by simpa using h2
        have hs2 : Hid (same r q = false) := by
          refine Lib.hid ?_
          rw [← Bool.not_eq_true, hsm.out]; exact fun h => h2 h.2.2.1
        rw [hs2.out]
        go_enter Tryz.func30, Tryz.ntmps30
        go_wp2_with fail
        refine (hk _ (HP.out.below (below_box2 _ _ _)) (HQ.out.below (below_box2 _ _ _))).mono ?_
        rintro e w3 ⟨rfl, hb3⟩
        obtain ⟨hc, hf⟩ := bcell hb3
        have hz3 : w.heap.size + 1 < w3.heap.size := by have := hb3.size; simp at this; omega
        go_wp2_with fail
        go_ret
        exact ⟨ret_bool rfl, (below_box2 _ _ _).trans (hb3.mono (by simp; omega))⟩
  · have hs2 : Hid (same r q = false) := by
      refine Lib.hid ?_
      rw [← Bool.not_eq_true, hsm.out]; exact fun h => h1 h.1
    rw [hs2.out]
    have hne : (rn == qn) = false := by simpa using h1
    go_enter Tryz.func30, Tryz.ntmps30
    go_wp2_with fail
    go_ret
    exact ⟨ret_bool rfl, below_box2 _ _ _⟩

end Go.Proofs.YthdicdkgfmiepaaGreatDoor

/- CopyPat, CopyPats, CopyRule, CopyRules walked. -/
import Derived.Test.YthdicdkgfmiepaaGreatDoorRuP
namespace Go.Proofs.YthdicdkgfmiepaaGreatDoor
open Go.RowKit

theorem pat_info : (Tryz.prog.info? 45).map (fun i => (i.zero, i.size, i.bytes)) = some (some (.agg #[.int .i64 0, .int .i64 0, .slice none 0 0]), 3, 40) := by kernel_rfl

def PatRet (p : Pat) (w : World) (e : Ending) (w' : World) : Prop :=
  ∃ (A : Option Addr) (c : Nat), e = .returned (.agg #[.int .i64 p.op, .int .i64 p.nt, .slice A p.kids.length c]) ∧ Rep w' (fun g => w.heap.size ≤ g) (encP p) [.int .i64 p.op, .int .i64 p.nt, .slice A p.kids.length c] ∧ Below w.heap.size w w'

def CopyOk (p : Pat) : Prop := ∀ (A : Option Addr) (c : Nat) (w : World), PatIn w A c p → Calls Tryz.prog 38 #[.agg #[.int .i64 p.op, .int .i64 p.nt, .slice A p.kids.length c]] w (PatRet p w)

def OwnRet (T : TypeId) (z : Nat) (ds : List D) (w : World) (e : Ending) (w' : World) : Prop := ∃ v, e = .returned v ∧ Own w' w.heap.size (fun g => w.heap.size ≤ g) T z v ds ∧ Below w.heap.size w w'

theorem take_map {α β : Type} (f : α → β) (l : List α) (k : Nat) (h : k < l.length) : (l.take (k + 1)).map f = (l.take k).map f ++ [f l[k]] := by
  rw [List.take_succ_eq_append_getElem h, List.map_append]; rfl

set_option maxHeartbeats 2000000 in
theorem copyPats_of (ps : List Pat) (hs : ps.length ≤ 1048576) (ih : ∀ i (h : i < ps.length), CopyOk ps[i]) (A : Option Addr) (c : Nat) (w : World) (hp : PatsIn w A c ps) :
    Calls Tryz.prog 56 #[.slice A ps.length c] w (OwnRet 45 3 (ps.map encP) w) := by
  obtain ⟨n, hn⟩ : ∃ n, Hid (ps.length = n) := ⟨_, Lib.hid rfl⟩
  rw [hn.out] at hs ⊢
  have HP := Lib.hid hp
  clear hp
  go_enter Tryz.func56, Tryz.ntmps56
  go_wp2_with fail
  go_loopw [3, 4] (fun v i wr => ∃ k : Nat, k ≤ n ∧ i = .int .i64 k ∧ Own wr w.heap.size (fun g => w.heap.size ≤ g) 45 3 v ((ps.take k).map encP) ∧ Below w.heap.size w wr) (fun _ i _ => n - (intOf i).toNat)
  case atStart => exact ⟨0, by omega, rfl, Own.nil _ _ _ _ _, Below.refl _ _⟩
  case round =>
    obtain ⟨k, hk, rfl, hown, hb⟩ := hrel
    obtain ⟨wo, rfl⟩ : ∃ wo : World, wo = wr := ⟨_, rfl⟩
    by_cases hlt : k < n
    · have hkl : k < ps.length := by rw [hn.out]; exact hlt
      obtain ⟨ok, hps⟩ := HP.out.below hb
      obtain ⟨g, off, B, c', rfl, _, hg, ⟨a0, a1, a2⟩, hpi⟩ := pats_at hps k hkl
      have hcall := fun W => ih k hkl B c' W
      have hts := Lib.hid (take_map encP ps k hkl)
      obtain ⟨q, hq⟩ : ∃ q, Hid (ps[k] = q) := ⟨_, Lib.hid rfl⟩
      rw [hq.out] at a0 a1 a2 hpi hcall hts
      have hlen : ((ps.take k).map encP).length ≤ 1000000000 := by simp; omega
      have HQ : Hid (PatIn wo B c' q) := Lib.hid ⟨_, hpi⟩
      have hbz := hb.size
      clear hps hpi
      go_wp2_with fail
      refine (hcall _ HQ.out).mono ?_
      rintro e w3 ⟨A3, c3, rfl, hp3, hb3⟩
      have HP3 := Lib.hid hp3
      have hb3z := hb3.size
      clear hp3 hcall
      go_wp2_with (at_builtin; go_must (refine append_one rfl (.tmp 11) (.tmp 17) 43 45 3 40 _ rfl Tryz.underlying43 pat_info rfl (by decide) (by decide) w.heap.size (fun g => w.heap.size ≤ g) _ _ rfl w3.heap.size rfl ((hown.below hb3).alloc _) [.int .i64 q.op, .int .i64 q.nt, .slice A3 q.kids.length c3] (encP q) (BlkIs.fresh _ _ _) rfl (by simp [Value.oneCell']) ((HP3.out.imp (fun g hg _ => ⟨by omega, hown.ne_far hg⟩)).alloc _) hlen (by simp; omega) ?_); intro v2 w2 hown2 hb2 hk2)
      go_roundw
      case rel => exact ⟨k + 1, by omega, by go_num, by rw [hts.out]; exact hown2, (((hb.trans (hb3.mono hbz))).alloc (by omega) _).trans hb2⟩
      case measure => simp [intOf]; omega
    · obtain rfl : k = n := by omega
      go_wp2_with fail
      go_ret
      have h1 : ps.take k = ps := List.take_of_length_le (by rw [hn.out]; omega)
      rw [h1] at hown
      exact ⟨_, rfl, hown, hb⟩

theorem rep_pat_mk {w : World} {ok : Nat → Prop} {p : Pat} {A : Option Addr} {c : Nat} (h : Rep w ok (.lst 3 (p.kids.map encP)) [.slice A p.kids.length c]) : Rep w ok (encP p) [.int .i64 p.op, .int .i64 p.nt, .slice A p.kids.length c] := by
  cases p with
  | mk op nt ks => exact rep_pat (by rw [encPs_map]; exact h)

theorem below_box3 (w : World) (o o' o'' : Obj) : Below w.heap.size w (((w.alloc o).alloc o').alloc o'') := ((below_alloc w o).alloc (by simp) _).alloc (by simp; omega) _

set_option maxHeartbeats 2000000 in
theorem copyPat_of (p : Pat) (hs : p.kids.length ≤ 1048576) (ih : ∀ i (h : i < p.kids.length), CopyOk p.kids[i]) : CopyOk p := by
  intro A c w hp
  have hcall := fun W => copyPats_of p.kids hs ih A c W
  have HP := Lib.hid hp.kids
  clear hp hs ih
  go_enter Tryz.func38, Tryz.ntmps38
  go_wp2_with fail
  refine (hcall _ ?_).mono ?_
  · refine PatsIn.below ?_ (below_alloc _ _)
    refine PatsIn.below ?_ (below_alloc _ _)
    exact PatsIn.below HP.out (below_alloc _ _)
  rintro e w3 ⟨v, rfl, hown, hb3⟩
  have hrep := hown.rep
  obtain ⟨A3, c3, rfl, _⟩ := hrep.len
  rw [List.length_map] at hrep ⊢
  have HR := Lib.hid hrep
  obtain ⟨hc, hf⟩ := bcell hb3
  have hz3 : w.heap.size + 2 < w3.heap.size := by have := hb3.size; simp at this; omega
  have hz31 : w.heap.size + 1 < w3.heap.size := by omega
  clear hown hrep hcall
  go_wp2_with fail
  refine bodyPost_ret (v := .agg #[.int .i64 p.op, .int .i64 p.nt, .slice A3 p.kids.length c3]) (by simp [results, Tryz.results38, go_sem, hc]) rfl ?_
  refine ⟨A3, c3, rfl, rep_pat_mk ?_, ?_⟩
  · refine Rep.imp (ok := fun g => w.heap.size + 3 ≤ g) ?_ (fun g hg _ => by omega)
    iterate 4 refine Rep.setCell ?_ (fun g hg => by simp; omega)
    exact Rep.imp HR.out (fun g hg _ => by simp at hg; omega)
  · iterate 4 refine Below.setCell ?_ (by simp; try omega) _
    exact (below_box3 _ _ _ _).trans (hb3.mono (by simp; omega))

theorem copyPat_any : ∀ p : Pat, PatSmall p → CopyOk p
  | .mk op nt kids, h => copyPat_of _ h.len fun i hi => copyPat_any kids[i] (h.kid i hi)
termination_by p => SizeOf.sizeOf p
decreasing_by
  have := List.sizeOf_lt_of_mem (List.getElem_mem hi)
  simp only [Pat.kids] at this
  simp only [Pat.mk.sizeOf_spec]
  omega

def RuleRet1 (r : Rule) (w : World) (e : Ending) (w' : World) : Prop :=
  ∃ (A : Option Addr) (c : Nat), e = .returned (.agg #[.int .i64 r.nt, .int .i64 r.pat.op, .int .i64 r.pat.nt, .slice A r.pat.kids.length c, .int .i64 r.cost, .string ⟨r.form.toArray⟩]) ∧
    Rep w' (fun g => w.heap.size ≤ g) (encR r) [.int .i64 r.nt, .int .i64 r.pat.op, .int .i64 r.pat.nt, .slice A r.pat.kids.length c, .int .i64 r.cost, .string ⟨r.form.toArray⟩] ∧ Below w.heap.size w w'

set_option maxHeartbeats 2000000 in
theorem copyRule_any (r : Rule) (hs : PatSmall r.pat) (A : Option Addr) (c : Nat) (w : World) (hp : PatIn w A c r.pat) :
    Calls Tryz.prog 16 #[.agg #[.int .i64 r.nt, .int .i64 r.pat.op, .int .i64 r.pat.nt, .slice A r.pat.kids.length c, .int .i64 r.cost, .string ⟨r.form.toArray⟩]] w (RuleRet1 r w) := by
  have hcall := fun W => copyPat_any r.pat hs A c W
  have HP := Lib.hid hp
  clear hp hs
  go_enter Tryz.func16, Tryz.ntmps16
  go_wp2_with fail
  refine (hcall _ ?_).mono ?_
  · refine PatIn.below ?_ (below_alloc _ _)
    refine PatIn.below ?_ (below_alloc _ _)
    exact PatIn.below HP.out (below_alloc _ _)
  rintro e w3 ⟨A3, c3, rfl, hp3, hb3⟩
  have HR := Lib.hid hp3
  obtain ⟨hc, hf⟩ := bcell hb3
  have hz3 : w.heap.size + 2 < w3.heap.size := by have := hb3.size; simp at this; omega
  have hz31 : w.heap.size + 1 < w3.heap.size := by omega
  clear hp3 hcall
  go_wp2_with fail
  refine bodyPost_ret (v := .agg #[.int .i64 r.nt, .int .i64 r.pat.op, .int .i64 r.pat.nt, .slice A3 r.pat.kids.length c3, .int .i64 r.cost, .string ⟨r.form.toArray⟩]) (by simp [results, Tryz.results16, go_sem, hc]) rfl ?_
  refine ⟨A3, c3, rfl, rep_rule_of ?_, ?_⟩
  · refine Rep.imp (ok := fun g => w.heap.size + 3 ≤ g) ?_ (fun g hg _ => by omega)
    iterate 9 refine Rep.setCell ?_ (fun g hg => by simp; omega)
    exact Rep.imp HR.out (fun g hg _ => by simp at hg; omega)
  · iterate 9 refine Below.setCell ?_ (by simp; try omega) _
    exact (below_box3 _ _ _ _).trans (hb3.mono (by simp; omega))

set_option maxHeartbeats 2000000 in
theorem copyRules_any (rs : List Rule) (hs : RulesSmall rs) (A : Option Addr) (c : Nat) (w : World) (hp : RulesIn w A c rs) :
    Calls Tryz.prog 6 #[.slice A rs.length c] w (OwnRet 47 6 (rs.map encR) w) := by
  obtain ⟨hs1, hs2⟩ := hs
  obtain ⟨n, hn⟩ : ∃ n, Hid (rs.length = n) := ⟨_, Lib.hid rfl⟩
  rw [hn.out] at hs1 ⊢
  have HP := Lib.hid hp
  have HS := Lib.hid hs2
  clear hp hs2
  go_enter Tryz.func6, Tryz.ntmps6
  go_wp2_with fail
  go_loopw [3, 4] (fun v i wr => ∃ k : Nat, k ≤ n ∧ i = .int .i64 k ∧ Own wr w.heap.size (fun g => w.heap.size ≤ g) 47 6 v ((rs.take k).map encR) ∧ Below w.heap.size w wr) (fun _ i _ => n - (intOf i).toNat)
  case atStart => exact ⟨0, by omega, rfl, Own.nil _ _ _ _ _, Below.refl _ _⟩
  case round =>
    obtain ⟨k, hk, rfl, hown, hb⟩ := hrel
    obtain ⟨wo, rfl⟩ : ∃ wo : World, wo = wr := ⟨_, rfl⟩
    by_cases hlt : k < n
    · have hkl : k < rs.length := by rw [hn.out]; exact hlt
      obtain ⟨ok, hrs⟩ := HP.out.below hb
      obtain ⟨g, off, B, c', rfl, _, hg, ⟨a0, a1, a2, a3, a4, a5⟩, _, hpi⟩ := rules_at hrs k hkl
      have hcall := fun W => copyRule_any rs[k] (HS.out k hkl) B c' W
      have hts := Lib.hid (take_map encR rs k hkl)
      obtain ⟨q, hq⟩ : ∃ q, Hid (rs[k] = q) := ⟨_, Lib.hid rfl⟩
      rw [hq.out] at a0 a1 a2 a3 a4 a5 hpi hcall hts
      have hlen : ((rs.take k).map encR).length ≤ 1000000000 := by simp; omega
      have HQ : Hid (PatIn wo B c' q.pat) := Lib.hid ⟨_, hpi⟩
      have hbz := hb.size
      clear hrs hpi
      go_wp2_with fail
      refine (hcall _ HQ.out).mono ?_
      rintro e w3 ⟨A3, c3, rfl, hp3, hb3⟩
      have HP3 := Lib.hid hp3
      have hb3z := hb3.size
      clear hp3 hcall
      go_wp2_with (at_builtin; go_must (refine append_one rfl (.tmp 11) (.tmp 17) 28 47 6 72 _ rfl Tryz.underlying28 rule_info rfl (by decide) (by decide) w.heap.size (fun g => w.heap.size ≤ g) _ _ rfl w3.heap.size rfl ((hown.below hb3).alloc _) [.int .i64 q.nt, .int .i64 q.pat.op, .int .i64 q.pat.nt, .slice A3 q.pat.kids.length c3, .int .i64 q.cost, .string ⟨q.form.toArray⟩] (encR q) (BlkIs.fresh _ _ _) rfl (by simp [Value.oneCell']) ((HP3.out.imp (fun g hg _ => ⟨by omega, hown.ne_far hg⟩)).alloc _) hlen (by simp; omega) ?_); intro v2 w2 hown2 hb2 hk2)
      go_roundw
      case rel => exact ⟨k + 1, by omega, by go_num, by rw [hts.out]; exact hown2, (((hb.trans (hb3.mono hbz))).alloc (by omega) _).trans hb2⟩
      case measure => simp [intOf]; omega
    · obtain rfl : k = n := by omega
      go_wp2_with fail
      go_ret
      have h1 : rs.take k = rs := List.take_of_length_le (by rw [hn.out]; omega)
      rw [h1] at hown
      exact ⟨_, rfl, hown, hb⟩

end Go.Proofs.YthdicdkgfmiepaaGreatDoor

/- (*Chooser).Of walked: a rule that goes on at the same tree. (*Chooser).Of walked: a rule of an op; any cover. Right rules fit: what the walks of covers ask of rules. cover.New, (*Chooser).Cost, cover.may walked. -/
import Derived.Test.YtaippkdlibampaaDoorK9
import Derived.Test.YtaippkdlibampaaDoorK8
namespace Go.Proofs.YtaippkdlibampaaDoor

/- (*Chooser).Of walked: a rule that goes on at the same tree. -/
section
open Go.RowKit

/-- all below B is as it was, but for block gm -/
structure KeepB (gm B : Nat) (w w' : World) : Prop where
  os : w'.os = w.os
  tape : w'.tape = w.tape
  output : w'.output = w.output
  size : w.heap.size ≤ w'.heap.size
  block : ∀ g, g ≠ gm → g < B → w'.heap[g]? = w.heap[g]?

section
variable {gm B : Nat} {w w' w2 : World}
theorem KeepB.refl (gm B : Nat) (w : World) : KeepB gm B w w := ⟨rfl, rfl, rfl, Nat.le_refl _, fun _ _ _ => rfl⟩
theorem KeepB.trans (h : KeepB gm B w w') (k : KeepB gm B w' w2) : KeepB gm B w w2 :=
  ⟨k.os.trans h.os, k.tape.trans h.tape, k.output.trans h.output, Nat.le_trans h.size k.size, fun g hg hl => (k.block g hg hl).trans (h.block g hg hl)⟩
theorem KeepM.keepB (h : KeepM gm w w') (hB : B ≤ w.heap.size) : KeepB gm B w w' := ⟨h.os, h.tape, h.output, h.size, fun g hg hl => h.block g hg (by omega)⟩
theorem below_keepB {B' : Nat} (h : Below B' w w') (hB : B ≤ B') : KeepB gm B w w' := ⟨h.os, h.tape, h.output, h.size, fun g _ hl => h.block g (by omega)⟩
theorem KeepB.drew (h : KeepB gm B w w') : KeepB gm B w w'.drew := ⟨h.os, h.tape, h.output, h.size, h.block⟩
theorem KeepB.keepM {w0 : World} (h : KeepB gm B w w') (h0 : KeepM gm w0 w) (hB : w0.heap.size ≤ B) : KeepM gm w0 w' :=
  ⟨h.os.trans h0.os, h.tape.trans h0.tape, h.output.trans h0.output, Nat.le_trans h0.size h.size, fun g hg hl => (h.block g hg (by omega)).trans (h0.block g hg hl)⟩
theorem KeepB.cell {p : Addr} {v : Value} (h : KeepB gm B w w') (hc : w.cell? p = some v) (hg : p.block ≠ gm) (hl : p.block < B) : w'.cell? p = some v := by
  rw [← hc]; exact World.cell?_of_block (w := w) (h.block _ hg hl)
theorem BlkIs.keepB {g : Nat} {t : TypeId} {cs : Array Value} (h : BlkIs w g t cs) (hk : KeepB gm B w w') (hg : g ≠ gm) (hl : g < B) : BlkIs w' g t cs := (hk.block g hg hl).trans h
end

def ruleCells (b : Best) : Array Value := #[.int .i64 b.r0, .int .i64 b.r1, .int .i64 b.r2, .int .i64 b.r3]
def costCells (b : Best) : Array Value := #[.int .i64 b.c0, .int .i64 b.c1, .int .i64 b.c2, .int .i64 b.c3]
theorem rule_field (b : Best) (w : World) : Sem.run Tryd.prog (Instr.field 114 (.agg (bestCells b)) 1) w = .ok (.agg (ruleCells b)) w := by kernel_rfl
theorem cost_field (b : Best) (w : World) : Sem.run Tryd.prog (Instr.field 114 (.agg (bestCells b)) 0) w = .ok (.agg (costCells b)) w := by kernel_rfl
theorem rule_index (b : Best) (n : Nat) (h : n < 4) (w : World) : Sem.run Tryd.prog (Instr.index 70 (.agg (ruleCells b)) (.int .i64 n)) w = .ok (.int .i64 (b.rule n)) w := by
  rcases nt4 h with rfl | rfl | rfl | rfl <;> kernel_rfl
theorem cost_index (b : Best) (n : Nat) (h : n < 4) (w : World) : Sem.run Tryd.prog (Instr.index 70 (.agg (costCells b)) (.int .i64 n)) w = .ok (.int .i64 (b.cost n)) w := by
  rcases nt4 h with rfl | rfl | rfl | rfl <;> kernel_rfl

def OfRet (rs : List Rule) (gm : Nat) (w : World) (c : Cov) (e : Ending) (w' : World) : Prop :=
  ∃ A d, e = .returned (.agg #[.int .i64 c.rule, .slice A c.kids.length d]) ∧ Rep w' (fun g => w.heap.size ≤ g) (encC c) [.int .i64 c.rule, .slice A c.kids.length d] ∧ Memo rs w' gm ∧ KeepM gm w w'

def OfOk (rs : List Rule) (t : Pat) (nt : Nat) (c : Cov) : Prop := ∀ (gm gc : Nat) (A A2 : Option Addr) (d c2 : Nat) (w : World), RulesOff gm w A2 c2 rs → PatOff gm w A d t → BlkIs w gc 147 #[.slice A2 rs.length c2, .map (some gm)] → Memo rs w gm →
  Calls Tryd.prog 64 #[.pointer (some ⟨gc, 0, none⟩), .agg #[.int .i64 t.op, .int .i64 t.nt, .slice A t.kids.length d], .int .i64 nt] w (OfRet rs gm w c)

set_option maxRecDepth 100000 in
set_option maxHeartbeats 16000000 in
theorem of_chain (rs : List Rule) (hrs : RulesFit rs) (t : Pat) (ht : treeOk t = true) (hN : patN t ≤ 200) (nt a : Nat) (hnt : nt < 4) (h : a < rs.length) (m : Nat) (c : Cov) (hr1 : (labB rs t).rule nt = a) (h0 : rs[a].pat.op = 0) (hm : rs[a].pat.nt = m) (hnk : rs[a].pat.kids = [])
    (ih : OfOk rs t m c) : OfOk rs t nt (.mk a [c]) := by
  intro gm gc A A2 d c2 w hr hp hgc hmemo
  have HP := Lib.hid hp
  have HR := Lib.hid hr
  have hgm := hmemo.lt
  have hgcl := hgc.lt
  have hgne := hmemo.blk hgc
  have hlabel := fun W => label_any rs hrs t ht hN gm gc A A2 d c2 W
  have hidx := rule_index (labB rs t) nt hnt
  have hfield := rule_field (labB rs t)
  rw [hr1] at hidx
  obtain ⟨RC, hRC⟩ : ∃ x, Hid (ruleCells (labB rs t) = x) := ⟨_, Lib.hid rfl⟩
  obtain ⟨BC, hBC⟩ : ∃ x, Hid (bestCells (labB rs t) = x) := ⟨_, Lib.hid rfl⟩
  rw [hRC.out] at hidx hfield
  rw [hBC.out] at hfield hlabel
  have hcall := fun W => ih gm gc A A2 d c2 W
  obtain ⟨rn, hrn⟩ : ∃ n, Hid (rs.length = n) := ⟨_, Lib.hid rfl⟩
  obtain ⟨tn, htn⟩ : ∃ n, Hid (t.kids.length = n) := ⟨_, Lib.hid rfl⟩
  obtain ⟨op, hop⟩ : ∃ x, Hid (t.op = x) := ⟨_, Lib.hid rfl⟩
  obtain ⟨tnt, htnt⟩ : ∃ x, Hid (t.nt = x) := ⟨_, Lib.hid rfl⟩
  have har : a < rn := by rw [← hrn.out]; exact h
  rw [hrn.out] at hgc hlabel hcall
  rw [htn.out, hop.out, htnt.out] at hlabel hcall ⊢
  have HALL := Lib.hid (And.intro h (And.intro h0 (And.intro hm hnk)))
  have HC := Lib.hid hcall
  clear hr hp hr1 h0 hm hnk ih hcall
  go_enter Tryd.func64, Tryd.ntmps64
  go_wp2_with fail
  obtain ⟨w0, hw0⟩ : ∃ w0, w0 = (w.alloc (.cells #[.int .i64 op, .int .i64 tnt, .slice A tn d] 64)).alloc (.cells #[.int .i64 0, .slice none 0 0] 60) := ⟨_, rfl⟩
  have hb0 : Below w.heap.size w w0 := by rw [hw0]; exact below_box2 _ _ _
  have k0 : BlkIs w0 w.heap.size 64 #[.int .i64 op, .int .i64 tnt, .slice A tn d] := by rw [hw0]; exact (BlkIs.fresh _ _ _).alloc _
  have z0 : BlkIs w0 (w.heap.size + 1) 60 #[.int .i64 0, .slice none 0 0] := by rw [hw0]; exact BlkIs.fresh1 _ _ _ _
  rw [← hw0]
  clear hw0
  refine (hlabel _ (HR.out.keepM (KeepM.of hb0)) (HP.out.keepM (KeepM.of hb0)) (hgc.below hb0 hgcl) (hmemo.keepB hb0 hgm)).mono ?_
  rintro e w3 ⟨rfl, hm3, hb3⟩
  have hk3 : KeepM gm w w3 := (KeepM.of hb0).trans hb3
  have k3 := k0.keepM hb3 (by omega)
  have z3 := z0.keepM hb3 (by omega)
  have hgc3 := hgc.keepM hk3 hgne
  have hz03 : w.heap.size + 1 < w3.heap.size := z3.lt
  clear k0 z0 hlabel hb3 hb0 hgc
  go_upto_region 3 with (first
    | (refine wpList_val (v := .agg RC) rfl (by unfold execOp; exact congrArg (fun r => Result.andThen r fun v w' => Result.ok (Next.value v) w') (hfield _)) ?_)
    | (refine wpList_val (v := .int .i64 a) rfl (by unfold execOp; exact congrArg (fun r => Result.andThen r fun v w' => Result.ok (Next.value v) w') (hidx _)) ?_))
  obtain ⟨w4, hw4⟩ : ∃ w4, w4 = w3.alloc (.cells #[.int .i64 a, .slice none 0 0] 60) := ⟨_, rfl⟩
  have hb4 : Below w3.heap.size w3 w4 := by rw [hw4]; exact below_alloc _ _
  have v4 : BlkIs w4 w3.heap.size 60 #[.int .i64 a, .slice none 0 0] := by rw [hw4]; exact BlkIs.fresh _ _ _
  have hz4 : w4.heap.size ≤ w3.heap.size + 1 := by rw [hw4]; simp
  rw [← hw4]
  clear hw4
  have hk4 : KeepM gm w w4 := hk3.trans (KeepM.of hb4)
  have k4 := k3.below hb4 k3.lt
  have z4 := z3.below hb4 z3.lt
  have hgc4 := hgc3.below hb4 hgc3.lt
  have hm4 := hm3.keepB hb4 hm3.lt
  obtain ⟨hal, h0, hm, hnk⟩ := HALL.out
  have hr4 := HR.out.keepM hk4
  obtain ⟨ok, hne, hrs4⟩ := hr4
  obtain ⟨g, off, B, d2, rfl, hg0, hg, ⟨a0, a1, a2, a3, a4, a5⟩, hle5, hpat⟩ := rules_at hrs4 a hal
  rw [h0] at a1
  rw [hm] at a2
  rw [hnk] at a3
  have c0 : w4.cell? ⟨gc, 0, none⟩ = some (.slice (some ⟨g, off, none⟩) rn c2) := hgc4.cell 0
  have hgcl4 := hgc4.lt
  clear h0 hm hnk hrs4 a0 a4 a5 hle5 hpat k3 z3 hgc3 hm3 hk3 hidx hfield 
  simp only [List.length_nil] at a3
  go_upto_region 5 with fail
  obtain ⟨wx, hwx⟩ : ∃ wx, wx = w4.alloc (.cells #[.int .i64 0, .int .i64 m, .slice B 0 d2] 31) := ⟨_, rfl⟩
  have hbx : Below w4.heap.size w4 wx := by rw [hwx]; exact below_alloc _ _
  have px : BlkIs wx w4.heap.size 31 #[.int .i64 0, .int .i64 m, .slice B 0 d2] := by rw [hwx]; exact BlkIs.fresh _ _ _
  rw [← hwx]
  clear hwx a1 a2 a3 c0
  have vx := v4.below hbx v4.lt
  have kx := k4.below hbx k4.lt
  have zx := z4.below hbx z4.lt
  have hgcx := hgc4.below hbx hgc4.lt
  have hmx := hm4.keepB hbx hm4.lt
  have hkx : KeepM gm w wx := hk4.trans (KeepM.of hbx)
  have hsz0 := hk4.size
  have hsz3 : w.heap.size + 1 < w3.heap.size := hz03
  have hsz4 : w3.heap.size < w4.heap.size := v4.lt
  have hszx := px.lt
  have HRX := Lib.hid (HR.out.keepM hkx)
  have HPX := Lib.hid (HP.out.keepM hkx)
  have q0 : wx.cell? ⟨w.heap.size, 0, none⟩ = some (.int .i64 op) := kx.cell 0
  have q1 : wx.cell? ⟨w.heap.size, 1, none⟩ = some (.int .i64 tnt) := kx.cell 1
  have q2 : wx.cell? ⟨w.heap.size, 2, none⟩ = some (.slice A tn d) := kx.cell 2
  have p1 : wx.cell? ⟨w4.heap.size, 1, none⟩ = some (.int .i64 m) := px.cell 1
  have v1 : wx.cell? ⟨w3.heap.size, 1, none⟩ = some (.slice none 0 0) := vx.cell 1
  have hcall := HC.out
  clear hk4 hm4 hgc4 k4 z4 v4 hbx hgcl4 hz4 hgcl hgm har hg hg0 hsz0 hz03
  have hgmx := hmx.lt
  have ne0 : w.heap.size ≠ gm := by have := hmemo.lt; omega
  have ne1 : w4.heap.size ≠ gm := by have := hmemo.lt; omega
  have ne2 : w3.heap.size ≠ gm := by have := hmemo.lt; omega
  have ne3 : w.heap.size + 1 ≠ gm := by have := hmemo.lt; omega
  have hwg := hmemo.lt
  go_cut [] (fun wc => ∃ (A5 : Option Addr) (e5 : Nat), KeepM gm w wc ∧ Memo rs wc gm ∧ BlkIs wc w3.heap.size 60 #[.int .i64 a, .slice A5 1 e5] ∧ BlkIs wc (w.heap.size + 1) 60 #[.int .i64 0, .slice none 0 0] ∧ BlkIs wc w4.heap.size 31 #[.int .i64 0, .int .i64 m, .slice B 0 d2] ∧ Rep wc (fun g => w.heap.size + 2 ≤ g) (.lst 2 [encC c]) [.slice A5 1 e5])
  case first =>
    have hd0 : KeepM gm wx wx.drew := (KeepM.refl _ _).drew
    refine anyJ_begin 10 (fun W => KeepB gm wx.heap.size wx W) (by kernel_rfl) ((KeepB.refl _ _ _).drew) (fun hHeld => ?_)
    refine take (i := 0) (d := some 31) (v := .pointer (some ⟨w3.heap.size, 1, none⟩)) (by kernel_rfl) rfl rfl rfl (fun _ _ _ h => h) hHeld (fun W hSw => by go_simp) ?_
    simp only [Act.put, List.setIfInBounds_toArray, List.set_cons_zero, List.set_cons_succ]
    refine take (i := 1) (d := some 32) (v := .slice none 0 0) (by kernel_rfl) rfl rfl rfl (fun _ _ _ h => h) hHeld (fun W hSw => by have x := hSw.cell v1 ne2 (by show w3.heap.size < _; omega); go_simp) ?_
    simp only [Act.put, List.setIfInBounds_toArray, List.set_cons_zero, List.set_cons_succ]
    refine take (i := 2) (d := some 33) (v := .pointer (some ⟨gc, 0, none⟩)) (by kernel_rfl) rfl rfl rfl (fun _ _ _ h => h) hHeld (fun W hSw => by go_simp) ?_
    simp only [Act.put, List.setIfInBounds_toArray, List.set_cons_zero, List.set_cons_succ]
    refine take (i := 3) (d := some 34) (v := .agg #[.int .i64 op, .int .i64 tnt, .slice A tn d]) (by kernel_rfl) rfl rfl rfl (fun _ _ _ h => h) hHeld (fun W hSw => by have x0 := hSw.cell q0 ne0 (by show w.heap.size < _; omega); have x1 := hSw.cell q1 ne0 (by show w.heap.size < _; omega); have x2 := hSw.cell q2 ne0 (by show w.heap.size < _; omega); go_simp) ?_
    simp only [Act.put, List.setIfInBounds_toArray, List.set_cons_zero, List.set_cons_succ]
    refine take (i := 4) (d := some 35) (v := .pointer (some ⟨w4.heap.size, 1, none⟩)) (by kernel_rfl) rfl rfl rfl (fun _ _ _ h => h) hHeld (fun W hSw => by go_simp) ?_
    simp only [Act.put, List.setIfInBounds_toArray, List.set_cons_zero, List.set_cons_succ]
    refine take (i := 5) (d := some 36) (v := .int .i64 m) (by kernel_rfl) rfl rfl rfl (fun _ _ _ h => h) hHeld (fun W hSw => by have x := hSw.cell p1 ne1 (by show w4.heap.size < _; omega); go_simp) ?_
    simp only [Act.put, List.setIfInBounds_toArray, List.set_cons_zero, List.set_cons_succ]
    refine anyJ_only (i := 6) (d := some 37) (by kernel_rfl) rfl rfl rfl (fun K' hK => ?_)
    refine wp_go_call 64 _ _ rfl #[.pointer (some ⟨gc, 0, none⟩), .agg #[.int .i64 op, .int .i64 tnt, .slice A tn d], .int .i64 m] rfl (fun W => by go_simp) (hcall _ (HRX.out.keepM hd0) (HPX.out.keepM hd0) (hgcx.drew) (hmx.keep rfl)) (fun e w5 he => ?_)
    obtain ⟨A3, d4, rfl, hrep3, hm5, hb5⟩ := he
    refine ⟨_, rfl, hK.out _ _ (fun _ => hHeld.trans (hb5.keepB (Nat.le_refl _))) (fun hHeld => ?_)⟩
    have hHeld := hHeld (by decide)
    simp only [Act.put, List.setIfInBounds_toArray, List.set_cons_zero, List.set_cons_succ]
    have hsz5 : wx.heap.size ≤ w5.heap.size := hb5.size
    refine anyJ_only (i := 7) (d := some 38) (by kernel_rfl) rfl rfl rfl (fun K' hK => ?_)
    refine wp_val (w' := w5.alloc (.cells #[.int .i64 c.rule, .slice A3 c.kids.length d4] 60)) (v := .slice (some ⟨w5.heap.size, 0, none⟩) 1 1) (by go_simp) (hK.out _ _ (fun _ => hHeld.trans (below_keepB (below_alloc _ _) hsz5)) (fun hHeld => ?_))
    have hHeld := hHeld (by decide)
    simp only [Act.put, List.setIfInBounds_toArray, List.set_cons_zero, List.set_cons_succ]
    have hm6 := hm5.keepB (below_alloc _ (.cells #[.int .i64 c.rule, .slice A3 c.kids.length d4] 60)) hm5.lt
    refine anyJ_only (i := 8) (d := some 39) (by kernel_rfl) rfl rfl rfl (fun K' hK => ?_)
    refine wp_append_one (.tmp 32) (.tmp 38) 53 60 2 32 _ rfl Tryd.underlying53 cov_info rfl (by decide) (by decide) wx.heap.size (fun g => wx.heap.size ≤ g) (.slice none 0 0) [] rfl w5.heap.size rfl (Own.nil _ _ _ _ _) [.int .i64 c.rule, .slice A3 c.kids.length d4] (encC c) (BlkIs.fresh _ _ _) rfl (by simp [Value.oneCell']) ((hrep3.imp (fun g hg _ => ⟨hg, by simp [Value.ownBlock]⟩)).alloc _) (by simp) (by simp; omega) (fun v7 w7 own7 hb7 _ => ?_)
    obtain ⟨A5, e5, rfl, _⟩ := own7.rep.len
    simp only [List.nil_append, List.length_singleton] at own7 ⊢
    refine hK.out _ _ (fun _ => hHeld.trans (below_keepB hb7 (Nat.le_refl _))) (fun hHeld => ?_)
    have hHeld := hHeld (by decide)
    have hm7 := hm6.keepB hb7 hgmx
    simp only [Act.put, List.setIfInBounds_toArray, List.set_cons_zero, List.set_cons_succ]
    refine take (i := 9) (d := some 40) (v := .pointer (some ⟨w3.heap.size, 1, none⟩)) (by kernel_rfl) rfl rfl rfl (fun _ _ _ h => h) hHeld (fun W hSw => by go_simp) ?_
    simp only [Act.put, List.setIfInBounds_toArray, List.set_cons_zero, List.set_cons_succ]
    have vx7 := vx.keepB hHeld ne2 (by omega)
    have c7 : w7.cell? ⟨w3.heap.size, 1, none⟩ = some (.slice none 0 0) := vx7.cell 1
    have f7 : w7.frozen? ⟨w3.heap.size, 1, none⟩ = false := vx7.frozen 1
    have l7 : w3.heap.size < w7.heap.size := vx7.lt
    refine anyJ_only (i := 10) (d := none) (by kernel_rfl) rfl rfl rfl (fun K' hK => ?_)
    refine wp_skip (w' := w7.setCell ⟨w3.heap.size, 1, none⟩ (.slice A5 1 e5)) (by go_simp) (hK.out _ _ (fun h => absurd rfl h) (fun _ => ?_))
    refine anyJ_done (by kernel_rfl) ?_ _
    simp only [Act.put]
    go_wp2_with fail
    go_meet
    refine ⟨A5, e5, (hHeld.keepM hkx (by omega)).setCell (by simp; omega) _, hm7.keep (heap_setCell_other _ _ _ _ (by simp; omega)), vx7.put 1 _, (zx.keepB hHeld ne3 (by omega)).far (by simp; omega) _, (px.keepB hHeld ne1 (by omega)).far (by simp; omega) _, ?_⟩
    refine Rep.imp (ok := fun g => wx.heap.size ≤ g) ?_ (fun g hg _ => by omega)
    refine Rep.setCell ?_ (fun g hg => by simp; omega)
    exact Rep.imp own7.rep (fun g hg _ => by omega)
  case rest =>
    obtain ⟨A5, e5, hkc, hmc, vc, zc, pc, hrepc⟩ := hcut
    have y2 : wc.cell? ⟨w4.heap.size, 2, none⟩ = some (.slice B 0 d2) := pc.cell 2
    have y0 : wc.cell? ⟨w3.heap.size, 0, none⟩ = some (.int .i64 a) := vc.cell 0
    have y1 : wc.cell? ⟨w3.heap.size, 1, none⟩ = some (.slice A5 1 e5) := vc.cell 1
    have g0 : wc.cell? ⟨w.heap.size + 1, 0, none⟩ = some (.int .i64 0) := zc.cell 0
    have g1 : wc.cell? ⟨w.heap.size + 1, 1, none⟩ = some (.slice none 0 0) := zc.cell 1
    have g3 : ∀ i, wc.frozen? ⟨w.heap.size + 1, i, none⟩ = false := fun i => zc.frozen i
    have lz : w.heap.size + 1 < wc.heap.size := zc.lt
    have HREP := Lib.hid hrepc
    have HIS : Hid (∃ x, x = wc) := Lib.hid ⟨_, rfl⟩
    clear hrepc HRX HPX q0 q1 q2 p1 v1 hcall
    go_wp2_with fail
    go_loopw [44] (fun i wr => i = .int .i64 0 ∧ wr = wc) (fun _ _ => 0)
    case atStart => exact ⟨rfl, rfl⟩
    case round =>
      obtain ⟨rfl, rfl⟩ := hrel
      go_wp2_with fail
      have zz := (zc.put 0 (.int .i64 a)).put 1 (.slice A5 1 e5)
      refine bodyPost_ret (v := .agg #[.int .i64 a, .slice A5 1 e5]) (results_cell_row Tryd.results64 _ _ (w.heap.size + 1) 60 #[.int .i64 a, .slice A5 1 e5] (0, 0) _ rfl zz Tryd.underlying60 rfl (by kernel_rfl)) rfl ?_
      refine ⟨A5, e5, rfl, ?_, ?_, ?_⟩
      · refine rep_cov_mk (c := .mk a [c]) ?_
        refine Rep.imp (ok := fun g => w.heap.size + 2 ≤ g) ?_ (fun g hg _ => by omega)
        iterate 2 refine Rep.setCell ?_ (fun g hg => by simp; omega)
        exact HREP.out
      · exact (hmc.keep (heap_setCell_other _ _ _ _ (by simp; omega))).keep (heap_setCell_other _ _ _ _ (by simp; omega))
      · exact (hkc.setCell (by simp) _).setCell (by simp) _

end

/- (*Chooser).Of walked: a rule of an op; any cover. -/
section
open Go.RowKit

set_option maxRecDepth 100000 in
set_option maxHeartbeats 16000000 in
theorem of_op (rs : List Rule) (hrs : RulesFit rs) (t : Pat) (ht : treeOk t = true) (hN : patN t ≤ 200) (nt a : Nat) (hnt : nt < 4) (h : a < rs.length) (cs : List Cov) (hr1 : (labB rs t).rule nt = a) (h0 : rs[a].pat.op ≠ 0) (hl : cs.length = rs[a].pat.kids.length) (htl : cs.length = t.kids.length) (h2 : cs.length ≤ 2)
    (m : Nat → Nat) (hm : ∀ (i : Nat) (h2 : i < rs[a].pat.kids.length), rs[a].pat.kids[i].nt = m i ∧ m i < 4) (ih : ∀ (i : Nat) (h1 : i < cs.length) (h3 : i < t.kids.length), OfOk rs t.kids[i] (m i) cs[i]) : OfOk rs t nt (.mk a cs) := by
  intro gm gc A A2 d c2 w hr hp hgc hmemo
  have HP := Lib.hid hp
  have HR := Lib.hid hr
  have hgm := hmemo.lt
  have hgcl := hgc.lt
  have hgne := hmemo.blk hgc
  have hlabel := fun W => label_any rs hrs t ht hN gm gc A A2 d c2 W
  have hidx := rule_index (labB rs t) nt hnt
  have hfield := rule_field (labB rs t)
  rw [hr1] at hidx
  obtain ⟨RC, hRC⟩ : ∃ x, Hid (ruleCells (labB rs t) = x) := ⟨_, Lib.hid rfl⟩
  obtain ⟨BC, hBC⟩ : ∃ x, Hid (bestCells (labB rs t) = x) := ⟨_, Lib.hid rfl⟩
  rw [hRC.out] at hidx hfield
  rw [hBC.out] at hfield hlabel
  obtain ⟨rn, hrn⟩ : ∃ n, Hid (rs.length = n) := ⟨_, Lib.hid rfl⟩
  obtain ⟨tn, htn⟩ : ∃ n, Hid (t.kids.length = n) := ⟨_, Lib.hid rfl⟩
  obtain ⟨op, hop⟩ : ∃ x, Hid (t.op = x) := ⟨_, Lib.hid rfl⟩
  obtain ⟨tnt, htnt⟩ : ∃ x, Hid (t.nt = x) := ⟨_, Lib.hid rfl⟩
  have har : a < rn := by rw [← hrn.out]; exact h
  obtain ⟨n, hn⟩ : ∃ n, Hid (cs.length = n) := ⟨_, Lib.hid rfl⟩
  have HTN : Hid (t.kids.length = n) := Lib.hid (by rw [← htl, hn.out])
  have HPN : Hid (rs[a].pat.kids.length = n) := Lib.hid (by rw [← hl, hn.out])
  have hkt2 : t.kids.length ≤ 2 := kids_two ht
  rw [hn.out] at h2
  rw [hrn.out] at hgc hlabel
  rw [htn.out, hop.out, htnt.out] at hlabel ⊢
  have htnn : Hid (tn = n) := Lib.hid (by rw [← htn.out]; exact HTN.out)
  have HOP := Lib.hid h0
  have HM := Lib.hid hm
  have IH := Lib.hid ih
  have HTS : Hid (∀ k (hk : k < cs.length), (cs.take (k + 1)).map encC = (cs.take k).map encC ++ [encC cs[k]]) := Lib.hid (fun k hk => take_map encC cs k hk)
  clear hr hp hr1 h0 hl htl hm ih hkt2
  have HGC := Lib.hid hgc
  go_enter Tryd.func64, Tryd.ntmps64
  go_wp2_with fail
  obtain ⟨w0, hw0⟩ : ∃ w0, w0 = (w.alloc (.cells #[.int .i64 op, .int .i64 tnt, .slice A tn d] 64)).alloc (.cells #[.int .i64 0, .slice none 0 0] 60) := ⟨_, rfl⟩
  have hb0 : Below w.heap.size w w0 := by rw [hw0]; exact below_box2 _ _ _
  have k0 : BlkIs w0 w.heap.size 64 #[.int .i64 op, .int .i64 tnt, .slice A tn d] := by rw [hw0]; exact (BlkIs.fresh _ _ _).alloc _
  have z0 : BlkIs w0 (w.heap.size + 1) 60 #[.int .i64 0, .slice none 0 0] := by rw [hw0]; exact BlkIs.fresh1 _ _ _ _
  rw [← hw0]
  clear hw0
  refine (hlabel _ (HR.out.keepM (KeepM.of hb0)) (HP.out.keepM (KeepM.of hb0)) (hgc.below hb0 hgcl) (hmemo.keepB hb0 hgm)).mono ?_
  rintro e w3 ⟨rfl, hm3, hb3⟩
  have hk3 : KeepM gm w w3 := (KeepM.of hb0).trans hb3
  have k3 := k0.keepM hb3 (by omega)
  have z3 := z0.keepM hb3 (by omega)
  have hgc3 := hgc.keepM hk3 hgne
  have hz03 : w.heap.size + 1 < w3.heap.size := z3.lt
  clear k0 z0 hlabel hb3 hb0 hgc
  go_upto_region 3 with (first
    | (refine wpList_val (v := .agg RC) rfl (by unfold execOp; exact congrArg (fun r => Result.andThen r fun v w' => Result.ok (Next.value v) w') (hfield _)) ?_)
    | (refine wpList_val (v := .int .i64 a) rfl (by unfold execOp; exact congrArg (fun r => Result.andThen r fun v w' => Result.ok (Next.value v) w') (hidx _)) ?_))
  obtain ⟨w4, hw4⟩ : ∃ w4, w4 = w3.alloc (.cells #[.int .i64 a, .slice none 0 0] 60) := ⟨_, rfl⟩
  have hb4 : Below w3.heap.size w3 w4 := by rw [hw4]; exact below_alloc _ _
  have v4 : BlkIs w4 w3.heap.size 60 #[.int .i64 a, .slice none 0 0] := by rw [hw4]; exact BlkIs.fresh _ _ _
  rw [← hw4]
  clear hw4
  have hk4 : KeepM gm w w4 := hk3.trans (KeepM.of hb4)
  have k4 := k3.below hb4 k3.lt
  have z4 := z3.below hb4 z3.lt
  have hgc4 := hgc3.below hb4 hgc3.lt
  have hm4 := hm3.keepB hb4 hm3.lt
  obtain ⟨ok, hne, hrsw⟩ := HR.out
  obtain ⟨g, off, B, d2, rfl, hokg, hg, ⟨a0, a1, a2, a3, a4, a5⟩, hle5, hpat⟩ := rules_at hrsw a h
  have hg0 : g ≠ gm := hne g hokg
  have a1 := cell_keepM a1 hk4 hg0
  have a2 := cell_keepM a2 hk4 hg0
  have a3 := cell_keepM a3 hk4 hg0
  obtain ⟨pop, hpop⟩ : ∃ x, Hid (rs[a].pat.op = x) := ⟨_, Lib.hid rfl⟩
  obtain ⟨pnt, hpnt⟩ : ∃ x, Hid (rs[a].pat.nt = x) := ⟨_, Lib.hid rfl⟩
  have HPK : Hid (PatOff gm w B d2 rs[a].pat) := Lib.hid ⟨ok, hne, hpat⟩
  rw [HPN.out] at a3
  rw [hpnt.out] at a2
  have hpo := HOP.out
  rw [hpop.out] at hpo a1
  have hpoe : (pop == 0) = false := by simpa using hpo
  have c0 : w4.cell? ⟨gc, 0, none⟩ = some (.slice (some ⟨g, off, none⟩) rn c2) := hgc4.cell 0
  have hgcl4 := hgc4.lt
  clear hrsw a0 a4 a5 hle5 hpat k3 z3 hgc3 hm3 hk3 hidx hfield hokg hne
  go_wp2_with fail
  obtain ⟨P3, hP3⟩ : ∃ x : Array Value, Hid (#[.int .i64 pop, .int .i64 pnt, .slice B n d2] = x) := ⟨_, Lib.hid rfl⟩
  obtain ⟨wx, hwx⟩ : ∃ wx, wx = w4.alloc (.cells #[.int .i64 pop, .int .i64 pnt, .slice B n d2] 31) := ⟨_, rfl⟩
  have hbx : Below w4.heap.size w4 wx := by rw [hwx]; exact below_alloc _ _
  have px : BlkIs wx w4.heap.size 31 P3 := by rw [hwx, ← hP3.out]; exact BlkIs.fresh _ _ _
  rw [← hwx]
  clear hwx a1 a2 a3 c0
  have vx := v4.below hbx v4.lt
  have kx := k4.below hbx k4.lt
  have zx := z4.below hbx z4.lt
  have hmx := hm4.keepB hbx hm4.lt
  have hkx : KeepM gm w wx := hk4.trans (KeepM.of hbx)
  have hsz3 : w.heap.size + 1 < w3.heap.size := hz03
  have hsz4 : w3.heap.size < w4.heap.size := v4.lt
  have hszx := px.lt
  have hwg := hmemo.lt
  have ne0 : w.heap.size ≠ gm := by omega
  have ne1 : w4.heap.size ≠ gm := by omega
  have ne2 : w3.heap.size ≠ gm := by omega
  have ne3 : w.heap.size + 1 ≠ gm := by omega
  obtain ⟨T3, hT3⟩ : ∃ x : Array Value, Hid (#[.int .i64 op, .int .i64 tnt, .slice A tn d] = x) := ⟨_, Lib.hid rfl⟩
  rw [hT3.out] at kx
  clear hk4 hm4 hgc4 k4 z4 v4 hbx hgcl4 hz03 har
  have hgcw : Hid (BlkIs w gc 147 #[.slice (some ⟨g, off, none⟩) rn c2, .map (some gm)]) := HGC
  go_loopw [44] (fun i wr => ∃ (k : Nat) (v : Value), k ≤ n ∧ i = .int .i64 k ∧ Memo rs wr gm ∧ KeepM gm w wr ∧ wx.heap.size ≤ wr.heap.size ∧ BlkIs wr w.heap.size 64 T3 ∧ BlkIs wr (w.heap.size + 1) 60 #[.int .i64 0, .slice none 0 0] ∧ BlkIs wr w3.heap.size 60 #[.int .i64 a, v] ∧ BlkIs wr w4.heap.size 31 P3 ∧ Own wr wx.heap.size (fun g => wx.heap.size ≤ g) 60 2 v ((cs.take k).map encC)) (fun i _ => n - (intOf i).toNat)
  case atStart => exact ⟨0, .slice none 0 0, by omega, rfl, hmx, hkx, Nat.le_refl _, kx, zx, vx, px, Own.nil _ _ _ _ _⟩
  case round =>
    obtain ⟨k, v, hk, rfl, hm, hkr, hszr, kr, zr, vr, pr, hown⟩ := hrel
    obtain ⟨wo, rfl⟩ : ∃ wo : World, wo = wr := ⟨_, rfl⟩
    clear hmx hkx kx zx vx px
    by_cases hlt : k < n
    · have hkc : k < cs.length := by rw [hn.out]; exact hlt
      have hkt : k < t.kids.length := by rw [HTN.out]; exact hlt
      have hkp : k < rs[a].pat.kids.length := by rw [HPN.out]; exact hlt
      obtain ⟨g1, off1, B1, d1, rfl, hg10, hg1, ⟨b0, b1, b2⟩, hpi⟩ := HP.out.kid k hkt
      obtain ⟨g2, off2, B2, d3, rfl, hg20, hg2, ⟨p0, p1, p2⟩, _⟩ := HPK.out.kid k hkp
      rw [(HM.out k hkp).1] at p1
      have hcall := fun W => IH.out k hkc hkt gm gc B1 (some ⟨g, off, none⟩) d1 c2 W
      rw [hrn.out] at hcall
      obtain ⟨q, hq⟩ : ∃ q, Hid (t.kids[k] = q) := ⟨_, Lib.hid rfl⟩
      rw [hq.out] at b0 b1 b2 hpi hcall
      obtain ⟨pq, hpq⟩ : ∃ q, Hid (rs[a].pat.kids[k] = q) := ⟨_, Lib.hid rfl⟩
      rw [hpq.out] at p0 p2
      have p0 := cell_keepM p0 hkr hg20
      have p1 := cell_keepM p1 hkr hg20
      have p2 := cell_keepM p2 hkr hg20
      have hts := Lib.hid (HTS.out k hkc)
      have HPI := Lib.hid hpi
      have hown0 := hown.alloc (.cells #[.int .i64 pq.op, .int .i64 (m k), .slice B2 pq.kids.length d3] 31)
      clear hpi
      go_upto_region 9 with fail
      obtain ⟨wy, hwy⟩ : ∃ wy, wy = wo.alloc (.cells #[.int .i64 pq.op, .int .i64 (m k), .slice B2 pq.kids.length d3] 31) := ⟨_, rfl⟩
      have hby : Below wo.heap.size wo wy := by rw [hwy]; exact below_alloc _ _
      have hy1 : wy.cell? ⟨wo.heap.size, 1, none⟩ = some (.int .i64 (m k)) := by rw [hwy]; exact (BlkIs.fresh _ _ _).cell 1
      rw [← hwy] at hown0
      rw [← hwy]
      clear hwy p0 p1 p2
      have hky : KeepM gm w wy := hkr.trans (KeepM.of hby)
      have hmy := hm.keepB hby hm.lt
      have ky := kr.below hby kr.lt
      have zy := zr.below hby zr.lt
      have vy := vr.below hby vr.lt
      have py := pr.below hby pr.lt
      have hgcy := hgcw.out.keepM hky (by have := hgne; exact this)
      have b0 := cell_keepM b0 hky hg10
      have b1 := cell_keepM b1 hky hg10
      have b2 := cell_keepM b2 hky hg10
      have hT2 : T3[2]? = some (.slice (some ⟨g1, off1, none⟩) n d) := by rw [← hT3.out, htnn.out]; rfl
      have t2 : wy.cell? ⟨w.heap.size, 2, none⟩ = some (.slice (some ⟨g1, off1, none⟩) n d) := (ky.cell 2).trans hT2
      have v1 : wy.cell? ⟨w3.heap.size, 1, none⟩ = some v := vy.cell 1
      have hroy := HR.out.keepM hky
      have hpoy := HPI.out.keepM hky
      have hyo : some wo.heap.size ≠ v.ownBlock := hown.ne_far (Nat.le_refl _)
      have hszy : wx.heap.size ≤ wy.heap.size := Nat.le_trans hszr hby.size
      have hylt : wo.heap.size < wy.heap.size := World.block_lt_of_cell? _ _ hy1
      have ney : wo.heap.size ≠ gm := by have := hm.lt; omega
      have hd0 : KeepM gm wy wy.drew := (KeepM.refl _ _).drew
      have own0 := hown0.drew
      clear hown0 hby hm hkr kr zr vr pr
      refine anyJ_begin 14 (fun W => KeepB gm wx.heap.size wy W ∧ W.cell? ⟨wo.heap.size, 1, none⟩ = some (.int .i64 (m k))) (by kernel_rfl) ⟨(KeepB.refl _ _ _).drew, hy1⟩ (fun hHeld => ?_)
      refine take (i := 0) (d := some 49) (v := .pointer (some ⟨w3.heap.size, 1, none⟩)) (by kernel_rfl) rfl rfl rfl (fun _ _ _ h => h) hHeld (fun W hSw => by go_simp) ?_
      simp only [Act.put, List.setIfInBounds_toArray, List.set_cons_zero, List.set_cons_succ]
      refine take (i := 1) (d := some 50) (v := v) (by kernel_rfl) rfl rfl rfl (fun _ _ _ h => h) hHeld (fun W hSw => by have x := hSw.1.cell v1 ne2 (by show w3.heap.size < _; omega); clear hSw; go_simp) ?_
      simp only [Act.put, List.setIfInBounds_toArray, List.set_cons_zero, List.set_cons_succ]
      refine take (i := 2) (d := some 51) (v := .pointer (some ⟨gc, 0, none⟩)) (by kernel_rfl) rfl rfl rfl (fun _ _ _ h => h) hHeld (fun W hSw => by go_simp) ?_
      simp only [Act.put, List.setIfInBounds_toArray, List.set_cons_zero, List.set_cons_succ]
      refine take (i := 3) (d := some 52) (v := .pointer (some ⟨w.heap.size, 2, none⟩)) (by kernel_rfl) rfl rfl rfl (fun _ _ _ h => h) hHeld (fun W hSw => by go_simp) ?_
      simp only [Act.put, List.setIfInBounds_toArray, List.set_cons_zero, List.set_cons_succ]
      refine take (i := 4) (d := some 53) (v := .slice (some ⟨g1, off1, none⟩) n d) (by kernel_rfl) rfl rfl rfl (fun _ _ _ h => h) hHeld (fun W hSw => by have x := hSw.1.cell t2 ne0 (by show w.heap.size < _; omega); clear hSw; go_simp) ?_
      simp only [Act.put, List.setIfInBounds_toArray, List.set_cons_zero, List.set_cons_succ]
      refine take (i := 5) (d := some 54) (v := .int .i64 k) (by kernel_rfl) rfl rfl rfl (fun _ _ _ h => h) hHeld (fun W hSw => by go_simp) ?_
      simp only [Act.put, List.setIfInBounds_toArray, List.set_cons_zero, List.set_cons_succ]
      refine take (i := 6) (d := some 55) (v := .pointer (some ⟨g1, off1 + k * 3, none⟩)) (by kernel_rfl) rfl rfl rfl (fun _ _ _ h => h) hHeld (fun W hSw => by go_simp) ?_
      simp only [Act.put, List.setIfInBounds_toArray, List.set_cons_zero, List.set_cons_succ]
      refine take (i := 7) (d := some 56) (v := .agg #[.int .i64 q.op, .int .i64 q.nt, .slice B1 q.kids.length d1]) (by kernel_rfl) rfl rfl rfl (fun _ _ _ h => h) hHeld (fun W hSw => by have x0 := hSw.1.cell b0 hg10 (by show g1 < _; omega); have x1 := hSw.1.cell b1 hg10 (by show g1 < _; omega); have x2 := hSw.1.cell b2 hg10 (by show g1 < _; omega); clear hSw; go_simp) ?_
      simp only [Act.put, List.setIfInBounds_toArray, List.set_cons_zero, List.set_cons_succ]
      refine take (i := 8) (d := some 57) (v := .pointer (some ⟨wo.heap.size, 1, none⟩)) (by kernel_rfl) rfl rfl rfl (fun _ _ _ h => h) hHeld (fun W hSw => by go_simp) ?_
      simp only [Act.put, List.setIfInBounds_toArray, List.set_cons_zero, List.set_cons_succ]
      refine take (i := 9) (d := some 58) (v := .int .i64 (m k)) (by kernel_rfl) rfl rfl rfl (fun _ _ _ h => h) hHeld (fun W hSw => by have x := hSw.2; clear hSw; go_simp) ?_
      simp only [Act.put, List.setIfInBounds_toArray, List.set_cons_zero, List.set_cons_succ]
      refine anyJ_only (i := 10) (d := some 59) (by kernel_rfl) rfl rfl rfl (fun K' hK => ?_)
      refine wp_go_call 64 _ _ rfl #[.pointer (some ⟨gc, 0, none⟩), .agg #[.int .i64 q.op, .int .i64 q.nt, .slice B1 q.kids.length d1], .int .i64 (m k)] rfl (fun W => by go_simp) (hcall _ (hroy.keepM hd0) (hpoy.keepM hd0) (hgcy.drew) (hmy.keep rfl)) (fun e w5 he => ?_)
      obtain ⟨A3, d4, rfl, hrep3, hm5, hb5⟩ := he
      have hsz5 : wy.heap.size ≤ w5.heap.size := hb5.size
      have own5 := own0.keepM hb5 (by omega) (fun g h => h)
      have hy5 := cell_keepM (show wy.drew.cell? ⟨wo.heap.size, 1, none⟩ = _ from hy1) hb5 ney
      refine ⟨_, rfl, hK.out _ _ (fun _ => ⟨hHeld.1.trans (hb5.keepB hszy), hy5⟩) (fun hHeld => ?_)⟩
      have hHeld := hHeld (by decide)
      refine anyJ_only (i := 11) (d := some 60) (by kernel_rfl) rfl rfl rfl (fun K' hK => ?_)
      refine wp_val (w' := w5.alloc (.cells #[.int .i64 cs[k].rule, .slice A3 cs[k].kids.length d4] 60)) (v := .slice (some ⟨w5.heap.size, 0, none⟩) 1 1) (by clear hHeld; go_simp) (hK.out _ _ (fun _ => ⟨hHeld.1.trans (below_keepB (below_alloc _ _) (by omega)), cell_alloc hHeld.2 _⟩) (fun hHeld => ?_))
      have hHeld := hHeld (by decide)
      simp only [Act.put, List.setIfInBounds_toArray, List.set_cons_zero, List.set_cons_succ]
      have hm6 := hm5.keepB (below_alloc _ (.cells #[.int .i64 cs[k].rule, .slice A3 cs[k].kids.length d4] 60)) hm5.lt
      have own6 := own5.alloc (.cells #[.int .i64 cs[k].rule, .slice A3 cs[k].kids.length d4] 60)
      have hv5 : ∀ g, wy.heap.size ≤ g → some g ≠ v.ownBlock := fun g hg => own0.ne_far hg
      have hl1 : ((cs.take k).map encC).length ≤ 1000000000 := by simp; omega
      refine anyJ_only (i := 12) (d := some 61) (by kernel_rfl) rfl rfl rfl (fun K' hK => ?_)
      refine wp_append_one (.tmp 50) (.tmp 60) 53 60 2 32 _ rfl Tryd.underlying53 cov_info rfl (by decide) (by decide) wx.heap.size (fun g => wx.heap.size ≤ g) v _ rfl w5.heap.size rfl own6 [.int .i64 cs[k].rule, .slice A3 cs[k].kids.length d4] (encC cs[k]) (BlkIs.fresh _ _ _) rfl (by simp [Value.oneCell']) ((hrep3.imp (fun g hg _ => ⟨by have : wy.heap.size ≤ g := hg; omega, hv5 g hg⟩)).alloc _) hl1 (by simp; omega) (fun v7 w7 own7 hb7 hk7 => ?_)
      obtain ⟨A5, e5, rfl, _⟩ := own7.rep.len
      obtain ⟨L5, hL5⟩ : ∃ L, Hid (((cs.take k).map encC ++ [encC cs[k]]).length = L) := ⟨_, Lib.hid rfl⟩
      rw [hL5.out] at own7 ⊢
      refine hK.out _ _ (fun _ => ⟨hHeld.1.trans (below_keepB hb7 (Nat.le_refl _)), ?_⟩) (fun hHeld => ?_)
      · rw [← hHeld.2]
        exact World.cell?_of_block (hk7 _ hyo (by simp; omega))
      have hHeld := (hHeld (by decide)).1
      have hm7 := hm6.keepB hb7 (by omega)
      simp only [Act.put, List.setIfInBounds_toArray, List.set_cons_zero, List.set_cons_succ]
      have hsz7 := hHeld.size
      have vx7 := vy.keepB hHeld ne2 (by omega)
      have c7 : w7.cell? ⟨w3.heap.size, 1, none⟩ = some v := vx7.cell 1
      have f7 : w7.frozen? ⟨w3.heap.size, 1, none⟩ = false := vx7.frozen 1
      have l7 : w3.heap.size < w7.heap.size := vx7.lt
      have hHJ : KeepB gm wx.heap.size wy w7 ∧ w7.cell? ⟨wo.heap.size, 1, none⟩ = some (.int .i64 (m k)) := ⟨hHeld, by rw [World.cell?_of_block (hk7 wo.heap.size hyo (by simp; omega))]; exact cell_alloc hy5 _⟩
      refine take (i := 13) (d := some 62) (v := .pointer (some ⟨w3.heap.size, 1, none⟩)) (by kernel_rfl) rfl rfl rfl (fun _ _ _ h => h) hHJ (fun W hSw => by clear hSw; go_simp) ?_
      simp only [Act.put, List.setIfInBounds_toArray, List.set_cons_zero, List.set_cons_succ]
      refine anyJ_only (i := 14) (d := none) (by kernel_rfl) rfl rfl rfl (fun K' hK => ?_)
      refine wp_skip (w' := w7.setCell ⟨w3.heap.size, 1, none⟩ (.slice A5 L5 e5)) (by clear hHJ; go_simp) (hK.out _ _ (fun h => absurd rfl h) (fun _ => ?_))
      refine anyJ_done (by kernel_rfl) ?_ _
      simp only [Act.put]
      go_wp2_with fail
      go_roundw
      case rel =>
        refine ⟨k + 1, .slice A5 L5 e5, by omega, by go_num, hm7.keep (heap_setCell_other _ _ _ _ (by simp; omega)), (hHeld.keepM hky (by omega)).setCell (by simp; omega) _, by simp [World.setCell]; omega, (ky.keepB hHeld ne0 (by omega)).far (by simp; omega) _, (zy.keepB hHeld ne3 (by omega)).far (by simp; omega) _, vx7.put 1 _, (py.keepB hHeld ne1 (by omega)).far (by simp; omega) _, ?_⟩
        rw [hts.out]
        exact Own.far own7 (fun g h => h) (fun g hg _ => heap_setCell_other _ _ _ _ (by simp; omega))
      case measure => simp [intOf]; omega
    · obtain rfl : k = n := by omega
      have h1 : cs.take k = cs := List.take_of_length_le (by rw [hn.out]; omega)
      rw [h1] at hown
      obtain ⟨A5, e5, rfl, _⟩ := hown.rep.len
      have HO := Lib.hid hown
      clear hown
      simp only [List.length_map, hn.out] at HO vr ⊢
      have y0 : wo.cell? ⟨w3.heap.size, 0, none⟩ = some (.int .i64 a) := vr.cell 0
      have y1 : wo.cell? ⟨w3.heap.size, 1, none⟩ = some (.slice A5 k e5) := vr.cell 1
      have g0 : wo.cell? ⟨w.heap.size + 1, 0, none⟩ = some (.int .i64 0) := zr.cell 0
      have g1 : wo.cell? ⟨w.heap.size + 1, 1, none⟩ = some (.slice none 0 0) := zr.cell 1
      have g3 : ∀ i, wo.frozen? ⟨w.heap.size + 1, i, none⟩ = false := fun i => zr.frozen i
      have lz : w.heap.size + 1 < wo.heap.size := zr.lt
      go_wp2_with fail
      have zz := (zr.put 0 (.int .i64 a)).put 1 (.slice A5 k e5)
      refine bodyPost_ret (v := .agg #[.int .i64 a, .slice A5 k e5]) (results_cell_row Tryd.results64 _ _ (w.heap.size + 1) 60 #[.int .i64 a, .slice A5 k e5] (0, 0) _ rfl zz Tryd.underlying60 rfl (by kernel_rfl)) rfl ?_
      refine ⟨A5, e5, by rw [show (Cov.mk a cs).kids = cs from rfl, hn.out]; rfl, ?_, ?_, ?_⟩
      · have e : (Cov.mk a cs).kids.length = k := hn.out
        rw [e]
        refine rep_cov_mk (c := .mk a cs) ?_
        refine Rep.imp (ok := fun g => w.heap.size + 2 ≤ g) ?_ (fun g hg _ => by omega)
        iterate 2 refine Rep.setCell ?_ (fun g hg => by simp; omega)
        exact Rep.imp HO.out.rep (fun g hg _ => by omega)
      · exact (hm.keep (heap_setCell_other _ _ _ _ (by simp; omega))).keep (heap_setCell_other _ _ _ _ (by simp; omega))
      · exact (hkr.setCell (by simp) _).setCell (by simp) _

/-- rules whose pattern is a nonterminal alone have no kids -/
def BareOk (rs : List Rule) : Prop := ∀ r ∈ rs, r.pat.op = 0 → r.pat.kids = []

theorem of_cov (rs : List Rule) (hrs : RulesFit rs) (hbare : BareOk rs) (t : Pat) (nt : Nat) (c : Cov) (h : IsCov rs t nt c) : treeOk t = true → patN t ≤ 200 → nt < 4 → OfOk rs t nt c := by
  induction h with
  | chain t nt a h m c hr h0 hm hm4 _ ih => exact fun ht hN hnt => of_chain rs hrs t ht hN nt a hnt h m c hr h0 hm (hbare _ (List.getElem_mem h) h0) (ih ht hN hm4)
  | op t nt a h cs hr h0 hl ht m hm _ ih =>
    intro hto hN hnt
    refine of_op rs hrs t hto hN nt a hnt h cs hr h0 hl ht (by rw [hl]; exact (hrs.1.2 _ (List.getElem_mem h)).1.2.1.1) m hm (fun i h1 h3 => ih i h1 h3 (kid_ok hto i h3) ?_ ?_)
    · rw [patN_eq] at hN
      have := patsN_take t.kids i h3
      have := patsN_take_le t.kids (i + 1)
      omega
    · exact (hm i (by omega)).2

end

/- Right rules fit: what the walks of covers ask of rules. -/
section
def chkR (x : Rule) : Bool :=
  decide (0 ≤ x.nt) && (decide (x.nt ≤ 3) && (decide (x.pat.kids.length ≤ 2) && (x.pat.kids.all (fun p => decide (0 ≤ p.nt) && decide (p.nt ≤ 3)) &&
  ((if x.pat.op = 0 then decide (0 ≤ x.pat.nt) && (decide (x.pat.nt ≤ 3) && (x.pat.kids.isEmpty && ((decide (x.nt = 1) && decide (x.pat.nt = 2)) || ((decide (x.nt = 0) && decide (x.pat.nt = 1)) || (decide (x.nt = 3) && decide (x.pat.nt = 0)))))) else decide ((x.pat.kids.length : Int) = arityOf x.pat.op)) &&
  (((x.form == [102, 105, 116]) == decide (x.nt = 2)) && (!decide (x.nt = 2) || decide (x.pat.op = 1)))))))

theorem forms_chk : formsR.all chkR = true := by kernel_rfl

theorem formOf_mem {s : List UInt8} {x : Rule} (h : formOf s = some x) : x ∈ formsR ∧ x.form = s := by
  unfold formOf at h
  have h1 := List.mem_of_find?_eq_some h
  have h2 := List.find?_some h
  exact ⟨h1, by simpa using h2⟩

theorem fit_of_check {rs : List Rule} (h : checkE rs = 0) : RulesFit rs ∧ BareOk rs := by
  unfold checkE at h
  split at h
  · omega
  · rename_i hm
    split at h
    · rename_i ha
      have hm : mayRs rs = true := by simpa using hm
      unfold mayRs at hm
      rw [Bool.and_eq_true] at hm
      have key : ∀ r ∈ rs, ∃ x ∈ formsR, x.form = r.form ∧ x.nt = r.nt ∧ x.pat = r.pat := by
        intro r hr
        have h1 := List.all_eq_true.1 ha r hr
        unfold rightR at h1
        split at h1
        · cases h1
        · rename_i x hx
          rw [Bool.and_eq_true, same_iff] at h1
          obtain ⟨h2, h3⟩ := formOf_mem hx
          exact ⟨x, h2, h3, by simpa using h1.1, h1.2⟩
      have chk : ∀ r ∈ rs, chkR r = true := by
        intro r hr
        obtain ⟨x, hx, h1, h2, h3⟩ := key r hr
        have := List.all_eq_true.1 forms_chk x hx
        unfold chkR at this ⊢
        rw [h1, h2, h3] at this
        exact this
      have hlen : rs.length ≤ 96 := by simpa using hm.2
      have ok : ∀ r ∈ rs, 0 ≤ r.cost ∧ r.cost ≤ 65535 := by
        intro r hr
        have h1 := List.all_eq_true.1 hm.1 r hr
        unfold okRule at h1
        simp only [Bool.and_eq_true, decide_eq_true_eq] at h1
        exact ⟨h1.2.2.1, h1.2.2.2.1⟩
      have all : ∀ r ∈ rs, ((RuleFlat r ∧ ChainOk r ∧ NtOk r) ∧ (FitR r ∧ (r.pat.op ≠ 0 → (r.pat.kids.length : Int) = arityOf r.pat.op))) ∧ (r.pat.op = 0 → r.pat.kids = []) := by
        intro r hr
        have h1 := chk r hr
        have h2 := ok r hr
        unfold chkR at h1
        simp only [Bool.and_eq_true, decide_eq_true_eq, List.all_eq_true] at h1
        obtain ⟨n0, n3, k2, kn, hif, hfit, hcon⟩ := h1
        have hfit2 : r.form = [102, 105, 116] ↔ r.nt = 2 := by
          have : (r.form == [102, 105, 116]) = decide (r.nt = 2) := by simpa using hfit
          by_cases hn : r.nt = 2
          · rw [show decide (r.nt = 2) = true by simpa using hn] at this
            exact ⟨fun _ => hn, fun _ => by simpa using this⟩
          · rw [show decide (r.nt = 2) = false by simpa using hn] at this
            exact ⟨fun e => by rw [e] at this; simp at this, fun e => absurd e hn⟩
        have hcon2 : r.nt = 2 → r.pat.op = 1 := by
          intro e
          rw [show decide (r.nt = 2) = true by simpa using e] at hcon
          simpa using hcon
        by_cases hop : r.pat.op = 0
        · rw [if_pos hop] at hif
          simp only [Bool.and_eq_true, decide_eq_true_eq, List.isEmpty_iff, Bool.or_eq_true] at hif
          obtain ⟨p0, p3, pe, pc⟩ := hif
          exact ⟨⟨⟨⟨fun _ => ⟨p0, p3⟩, ⟨k2, kn⟩, h2.1, h2.2⟩, fun _ => pc, n0, n3⟩, ⟨hfit2, hcon2⟩, fun h => absurd hop h⟩, fun _ => pe⟩
        · rw [if_neg hop] at hif
          have hif : (r.pat.kids.length : Int) = arityOf r.pat.op := by simpa using hif
          exact ⟨⟨⟨⟨fun h => absurd h hop, ⟨k2, kn⟩, h2.1, h2.2⟩, fun h => absurd h hop, n0, n3⟩, ⟨hfit2, hcon2⟩, fun _ => hif⟩, fun h => absurd h hop⟩
      exact ⟨⟨⟨hlen, fun r hr => (all r hr).1.1⟩, fun r hr => (all r hr).1.2⟩, fun r hr => (all r hr).2⟩
    · omega

theorem mayT_fit {t : Pat} (h : mayT t = true) : treeOk t = true ∧ patN t ≤ 200 := by
  unfold mayT fitT at h
  simp only [Bool.and_eq_true, decide_eq_true_eq] at h
  exact ⟨h.1, by omega⟩

end

/- cover.New, (*Chooser).Cost, cover.may walked. -/
section
open Go.RowKit

set_option maxHeartbeats 2000000 in
theorem new_any (A : Option Addr) (n c : Nat) (w : World) :
    Calls Tryd.prog 62 #[.slice A n c] w fun e w' => e = .returned (.pointer (some ⟨w.heap.size + 1, 0, none⟩)) ∧ Below w.heap.size w w' ∧ BlkIs w' (w.heap.size + 1) 147 #[.slice A n c, .map (some w.heap.size)] ∧ w'.heap[w.heap.size]? = some (.map #[] 0) := by
  have hmk : ∀ W : World, Sem.run Tryd.prog (Instr.makeMap 145 none) W = .ok (.map (some W.heap.size)) (W.alloc (.map #[] 0)) := fun _ => rfl
  go_enter Tryd.func62, Tryd.ntmps62
  go_wp2_with fail
  go_ret
  refine ⟨rfl, below_box2 _ _ _, BlkIs.fresh1 _ _ _ _, ?_⟩
  rw [Below.heap_alloc _ _ _ (by simp)]
  exact heap_alloc_new w _

set_option maxRecDepth 100000 in
set_option maxHeartbeats 4000000 in
theorem cost_any (rs : List Rule) (hrs : RulesFit rs) (t : Pat) (ht : treeOk t = true) (hN : patN t ≤ 200) (nt : Nat) (hnt : nt < 4) (gm gc : Nat) (A A2 : Option Addr) (d c2 : Nat) (w : World) (hr : RulesOff gm w A2 c2 rs) (hp : PatOff gm w A d t) (hgc : BlkIs w gc 147 #[.slice A2 rs.length c2, .map (some gm)]) (hm : Memo rs w gm) :
    Calls Tryd.prog 63 #[.pointer (some ⟨gc, 0, none⟩), .agg #[.int .i64 t.op, .int .i64 t.nt, .slice A t.kids.length d], .int .i64 nt] w fun e w' => e = .returned (.tuple #[.int .i64 ((labB rs t).cost nt), .bool (decide ((labB rs t).cost nt ≠ -1))]) ∧ Memo rs w' gm ∧ KeepM gm w w' := by
  have hlabel := fun W => label_any rs hrs t ht hN gm gc A A2 d c2 W
  have hidx := cost_index (labB rs t) nt hnt
  have hfield := cost_field (labB rs t)
  obtain ⟨x, hx⟩ : ∃ x, Hid ((labB rs t).cost nt = x) := ⟨_, Lib.hid rfl⟩
  obtain ⟨RC, hRC⟩ : ∃ x, Hid (costCells (labB rs t) = x) := ⟨_, Lib.hid rfl⟩
  obtain ⟨BC, hBC⟩ : ∃ x, Hid (bestCells (labB rs t) = x) := ⟨_, Lib.hid rfl⟩
  rw [hRC.out] at hidx hfield
  rw [hx.out] at hidx
  rw [hBC.out] at hfield hlabel
  obtain ⟨rn, hrn⟩ : ∃ n, Hid (rs.length = n) := ⟨_, Lib.hid rfl⟩
  obtain ⟨tn, htn⟩ : ∃ n, Hid (t.kids.length = n) := ⟨_, Lib.hid rfl⟩
  obtain ⟨op, hop⟩ : ∃ x, Hid (t.op = x) := ⟨_, Lib.hid rfl⟩
  obtain ⟨tnt, htnt⟩ : ∃ x, Hid (t.nt = x) := ⟨_, Lib.hid rfl⟩
  rw [hrn.out] at hgc hlabel
  rw [htn.out, hop.out, htnt.out] at hlabel ⊢
  have HR := Lib.hid hr
  have HP := Lib.hid hp
  have hgm := hm.lt
  rw [hx.out]
  clear hr hp
  go_enter Tryd.func63, Tryd.ntmps63
  go_wp2_with fail
  have hb0 := below_alloc w (.cells #[.int .i64 op, .int .i64 tnt, .slice A tn d] 64)
  refine (hlabel _ (HR.out.keepM (KeepM.of hb0)) (HP.out.keepM (KeepM.of hb0)) (hgc.below hb0 hgc.lt) (hm.keepB hb0 hgm)).mono ?_
  rintro e w3 ⟨rfl, hm3, hb3⟩
  clear hlabel
  go_wp2_with (first
    | (refine wpList_val (v := .agg RC) rfl (by unfold execOp; exact congrArg (fun r => Result.andThen r fun v w' => Result.ok (Next.value v) w') (hfield _)) ?_)
    | (refine wpList_val (v := .int .i64 x) rfl (by unfold execOp; exact congrArg (fun r => Result.andThen r fun v w' => Result.ok (Next.value v) w') (hidx _)) ?_))
  go_ret2
  refine ⟨?_, hm3, (KeepM.of hb0).trans hb3⟩
  by_cases hx1 : x = -1
  · subst hx1; rfl
  · rw [show (x != -1) = true by simpa using hx1, show decide (x ≠ -1) = true by simpa using hx1]
    rfl

/-- may there be covers? -/
noncomputable def coverMay (rs : List Rule) (t : Pat) (nt : Int) : Bool := decide (checkE rs = 0) && (mayT t && (decide (0 ≤ nt) && decide (nt ≤ 3)))

set_option maxHeartbeats 4000000 in
theorem may13_any (rs : List Rule) (hwf : RulesWf rs) (t : Pat) (nt : Int) (A A2 : Option Addr) (d c2 : Nat) (w : World) (ht : Tab w) (hr : RulesIn w A2 c2 rs) (hp : PatIn w A d t) :
    Calls Tryd.prog 61 #[.slice A2 rs.length c2, .agg #[.int .i64 t.op, .int .i64 t.nt, .slice A t.kids.length d], .int .i64 nt] w (SomeBoolBelow (coverMay rs t nt) w) := by
  have h1 := fun W => check_any rs hwf A2 c2 W
  have h2 := fun W => mayT_any t A d W
  obtain ⟨x, hx⟩ : ∃ x, Hid (checkE rs = x) := ⟨_, Lib.hid rfl⟩
  obtain ⟨b, hb⟩ : ∃ x, Hid (mayT t = x) := ⟨_, Lib.hid rfl⟩
  obtain ⟨rn, hrn⟩ : ∃ n, Hid (rs.length = n) := ⟨_, Lib.hid rfl⟩
  obtain ⟨tn, htn⟩ : ∃ n, Hid (t.kids.length = n) := ⟨_, Lib.hid rfl⟩
  obtain ⟨op, hop⟩ : ∃ x, Hid (t.op = x) := ⟨_, Lib.hid rfl⟩
  obtain ⟨tnt, htnt⟩ : ∃ x, Hid (t.nt = x) := ⟨_, Lib.hid rfl⟩
  have hres : Hid (coverMay rs t nt = (decide (x = 0) && (b && (decide (0 ≤ nt) && decide (nt ≤ 3))))) := Lib.hid (by unfold coverMay; rw [hx.out, hb.out])
  rw [hx.out] at h1
  rw [hb.out] at h2
  rw [hrn.out] at h1
  rw [htn.out, hop.out, htnt.out] at h2 ⊢
  have HR := Lib.hid hr
  have HP := Lib.hid hp
  rw [hrn.out, hres.out]
  clear hr hp
  go_enter Tryd.func61, Tryd.ntmps61
  go_wp2_with fail
  have hb0 := below_alloc w (.cells #[.int .i64 op, .int .i64 tnt, .slice A tn d] 64)
  refine (h1 _ (tab_alloc ht _ hb0) (HR.out.below hb0)).mono ?_
  rintro e w1 ⟨rfl, hb1⟩
  have hz1 : w.heap.size < w1.heap.size := by have := hb1.size; simp at this; omega
  have x0 : w1.cell? ⟨w.heap.size, 0, none⟩ = some (.int .i64 op) := cell_later hb1 (by simp)
  have x1 : w1.cell? ⟨w.heap.size, 1, none⟩ = some (.int .i64 tnt) := cell_later hb1 (by simp)
  have x2 : w1.cell? ⟨w.heap.size, 2, none⟩ = some (.slice A tn d) := cell_later hb1 (by simp)
  have hb01 : Below w.heap.size w w1 := hb0.trans (hb1.mono (by simp))
  by_cases hx0 : x = 0
  · subst hx0
    go_wp2_with fail
    refine (h2 _ (HP.out.below hb01)).mono ?_
    rintro e w3 ⟨rfl, hb3⟩
    have hb4 : Below w.heap.size w w3 := hb01.trans (hb3.mono hb01.size)
    cases b
    · go_wp2_with fail
      go_ret
      exact ⟨ret_bool (by simp), hb4⟩
    · by_cases hn0 : 0 ≤ nt
      · have e0 : decide (nt ≥ 0) = true := by simpa using hn0
        go_wp2_with fail
        go_ret
        refine ⟨ret_bool ?_, hb4⟩
        simp [hn0]
      · have e0 : decide (nt ≥ 0) = false := by simpa using hn0
        go_wp2_with fail
        go_ret
        refine ⟨ret_bool ?_, hb4⟩
        simp
        omega
  · have e0 : (x == 0) = false := by simpa using hx0
    go_wp2_with fail
    go_ret
    exact ⟨ret_bool (by simp [hx0]), hb01⟩

end

end Go.Proofs.YtaippkdlibampaaDoor

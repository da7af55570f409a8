/- A tree's text: tree.Text walked; gantletlaw6.wakes. -/
import Derived.Test.YthdicdkgfmiepaaDoorTtB
namespace Go.Proofs.YthdicdkgfmiepaaDoor
open Go.RowKit

/-- the library's tables that this law's code reads -/
abbrev PowIs (w : World) : Prop := Lib.TabIs Tryd.prog w "internal/strconv.uint64pow10" .u64 Lib.pow10Tab
def Tabs (w : World) : Prop := Tab w ∧ PowIs w
theorem Tabs.below {w w' : World} (h : Tabs w) (hb : Below w.heap.size w w') : Tabs w' :=
  ⟨Lib.tabBelow_of_tabIs h.1 w' hb, Lib.tabBelow_of_tabIs h.2 w' hb⟩

def textA (p : Pat) : List UInt8 := if mayT p = true then textT p else []
def TextRet (p : Pat) (w : World) (e : Ending) (w' : World) : Prop := e = .returned (.tuple #[.string ⟨(textA p).toArray⟩, .int .i64 (errT (mayT p))]) ∧ Below w.heap.size w w'

theorem conv_buf {B : Nat} {W0 w : World} {v : Value} {s : List UInt8} (h : Buf B W0 v s w) (hs : 0 < s.length) : (convert 91 9 v).run Tryd.prog w = .ok (.string ⟨s.toArray⟩) w := by
  have hc := fun g hg => h.1.cells (g := g) hg
  rcases h.1.2 with ⟨_, h0⟩ | ⟨g, cap, cur, rfl, _⟩
  · omega
  · refine run_convert_bytes_back w 91 9 5 ⟨g, 0, none⟩ cap s Tryd.underlying91 Tryd.underlying5 Tryd.underlying9 (fun j hj => ?_)
    refine hc g rfl j _ ?_
    unfold Lib.byteCells
    rw [List.getElem?_map, List.getElem?_eq_getElem hj]
    rfl

theorem exec_convert {o : Oper} {a : Act} {w w' : World} {t1 t2 : TypeId} {x : Operand} (ho : o.op = .convert t1 t2 x) {v u : Value} (hx : a.eval x = v) (hr : (convert t1 t2 v).run Tryd.prog w = .ok u w') : (execOp a.eval o).run Tryd.prog w = .ok (.value u) w' := by
  unfold execOp
  simp only [ho, hx, Sem.run_bind, hr]
  rfl

theorem textT_pos (p : Pat) : 0 < (textT p).length := by rw [textT_eq]; simp; omega

set_option maxRecDepth 100000 in
set_option maxHeartbeats 2000000 in
theorem ttext_any (p : Pat) (A : Option Addr) (c : Nat) (w : World) (hp : PatIn w A c p) (hwf : PatWf p) (ht : Tabs w) :
    Calls Tryd.prog 34 #[.agg #[.int .i64 p.op, .int .i64 p.nt, .slice A p.kids.length c]] w (TextRet p w) := by
  have hc := fun W => mayT_any p A c W
  have HP := Lib.hid hp
  have HT := Lib.hid ht
  clear hp ht
  have hb0 := below_alloc w (.cells #[.int .i64 p.op, .int .i64 p.nt, .slice A p.kids.length c] 55)
  have hbx : BlkIs (w.alloc (.cells #[.int .i64 p.op, .int .i64 p.nt, .slice A p.kids.length c] 55)) w.heap.size 55 #[.int .i64 p.op, .int .i64 p.nt, .slice A p.kids.length c] := BlkIs.fresh _ _ _
  unfold TextRet textA
  cases hb : mayT p
  · rw [hb] at hc
    clear hb
    go_enter Tryd.func34, Tryd.ntmps34
    go_wp2_with fail
    refine (hc _ (HP.out.below hb0)).mono ?_
    rintro e w1 ⟨rfl, hb1⟩
    go_wp2_with fail
    go_ret2
    exact ⟨rfl, hb0.trans (hb1.mono (by simp))⟩
  · have hok := Lib.hid (mayT_ok hb).1
    have hn := (mayT_ok hb).2
    rw [hb] at hc
    clear hb
    rw [if_pos rfl]
    go_enter Tryd.func34, Tryd.ntmps34
    go_upto_region 3 with (go_at_call 54; refine (hc _ (HP.out.below hb0)).mono ?_; rintro e w1 ⟨rfl, hb1⟩)
    have hb2 := hb0.trans (hb1.mono (by simp))
    have hk := hbx.below hb1 hbx.lt
    have hlt := hk.lt
    refine beginH (fun W' => Below w1.heap.size w1 W') (by kernel_rfl) ((Below.refl _ _).drew) (fun hHeld => ?_)
    refine takeH (i := 0) (d := some 7) (v := .agg #[.int .i64 p.op, .int .i64 p.nt, .slice A p.kids.length c]) (by kernel_rfl) rfl rfl rfl (fun _ _ _ h => h) hHeld (fun W' hSw => by exact exec_load_row rfl rfl (hk.below hSw hlt) Tryd.underlying55 rfl (by kernel_rfl)) ?_
    simp only [Act.put, List.setIfInBounds_toArray, List.set_cons_zero, List.set_cons_succ]
    refine onlyH (i := 1) (d := some 8) (by kernel_rfl) rfl rfl rfl (fun K' hK => ?_)
    refine wp_go_call 64 _ _ rfl #[] rfl (fun W' => by go_simp) (opWords_any _ (HT.out.below (hb2.trans (hHeld.mono hb2.size))).1) (fun e wg he => ?_)
    obtain ⟨rfl, hwg⟩ := he
    have hgw : BlkIs wg w1.drew.heap.size 9 (strCells opWords).toArray := by rw [← hwg]; exact BlkIs.fresh _ _ _
    have hbg : Below w1.heap.size w1 wg := by rw [← hwg]; exact hHeld.trans ((below_alloc _ _).mono hHeld.size)
    clear hwg
    refine ⟨_, rfl, hK.out _ _ hbg (fun hHeld => ?_)⟩
    simp only [Act.put, List.setIfInBounds_toArray, List.set_cons_zero, List.set_cons_succ]
    have hbw := hb2.trans (hbg.mono hb2.size)
    obtain ⟨ok, hrep⟩ := HP.out
    have hrep2 : Rep wg (fun g => g < wg.heap.size) (encP p) [.int .i64 p.op, .int .i64 p.nt, .slice A p.kids.length c] := (hrep.below hbw).lt.imp (fun g h _ => h.2)
    refine onlyH (i := 2) (d := some 9) (by kernel_rfl) rfl rfl rfl (fun K' hK => ?_)
    refine wp_go_call 63 _ _ rfl #[.slice none 0 0, .agg #[.int .i64 p.op, .int .i64 p.nt, .slice A p.kids.length c], .slice (some ⟨w1.drew.heap.size, 0, none⟩) 36 36] rfl (fun W' => by go_simp) (write_any p wg.heap.size (.slice none 0 0) [] A c _ wg hrep2 hwf hok.out ⟨by simp [Lib.byteCells], .inl ⟨rfl, rfl⟩⟩ (Nat.le_refl _) hgw hgw.lt (Lib.tabBelow_of_tabIs (HT.out.below hbw).2) (by simp; omega)) (fun e wf he => ?_)
    obtain ⟨v, rfl, hB⟩ := he
    rw [List.nil_append] at hB
    have hbf := hbg.trans (hB.2.1.mono hbg.size)
    refine ⟨_, rfl, hK.out _ _ hbf (fun hHeld => ?_)⟩
    simp only [Act.put, List.setIfInBounds_toArray, List.set_cons_zero, List.set_cons_succ]
    refine onlyH (i := 3) (d := some 10) (by kernel_rfl) rfl rfl rfl (fun K' hK => ?_)
    refine wp_val (w' := wf) (v := .string ⟨(textT p).toArray⟩) (exec_convert rfl rfl (conv_buf hB (textT_pos p))) (hK.out _ _ hHeld (fun hHeld => ?_))
    simp only [Act.put, List.setIfInBounds_toArray, List.set_cons_zero, List.set_cons_succ]
    refine takeH (i := 4) (d := some 2) (v := .string ⟨(textT p).toArray⟩) (by kernel_rfl) rfl rfl rfl (fun _ _ _ h => h) hHeld (fun W' hSw => by go_simp) ?_
    simp only [Act.put, List.setIfInBounds_toArray, List.set_cons_zero, List.set_cons_succ]
    refine takeH (i := 5) (d := some 3) (v := .int .i64 0) (by kernel_rfl) rfl rfl rfl (fun _ _ _ h => h) hHeld (fun W' hSw => by go_simp) ?_
    simp only [Act.put, List.setIfInBounds_toArray, List.set_cons_zero, List.set_cons_succ]
    refine wpAnyH_done (by kernel_rfl) ?_ _
    go_wp2_with fail
    go_ret2
    exact ⟨rfl, hb2.trans (hbf.mono hb2.size)⟩

end Go.Proofs.YthdicdkgfmiepaaDoor

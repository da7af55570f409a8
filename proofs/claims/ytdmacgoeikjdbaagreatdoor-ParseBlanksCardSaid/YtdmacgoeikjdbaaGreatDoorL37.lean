/- CopyUnit and all that it calls: the same data, apart. (Printed by wip/ -/
import Derived.Test.YtdmacgoeikjdbaaGreatDoorL36
set_option linter.unusedSimpArgs false
set_option linter.unusedVariables false
set_option maxHeartbeats 8000000
namespace Go.Proofs.YtdmacgoeikjdbaaGreatDoor
open Go.RowKit
theorem copyLongs_any (l:List Int) (hl:l.length≤1000000000) (A:Option Addr) (c:Nat) (w:World) (hp:RepT w (.lst 1 (l.map (.int .i64))) [.slice A l.length c]):Calls Tryz.prog 94 #[.slice A l.length c] w (CopyRets w 1 (l.map (.int .i64))):=
 copyInts_any (T:=54) (E:=2) (I:=3) (bytes:=8) (zero:=.int .i64 0) (p:=fun i=>["help.go:39", "help.go:40", "help.go:41", "help.go:42", "help.go:44"].getD i "") Tryz.func94 (by kernel_rfl) rfl rfl Tryz.underlying3 Tryz.underlying54 Tryz.underlying2 (by kernel_rfl) rfl (by decide) l hl A c w hp
def CopyExOk (x:Ex):Prop:=∀ cs W,RepT W (encEx x) cs→Calls Tryz.prog 127 #[.agg cs.toArray] W (CopyRet W (encEx x))
theorem copyEx_of (x:Ex) (ih0:∀ A c w,RepT w (.lst 8 (x.kids.map encEx)) [.slice A x.kids.length c]→Calls Tryz.prog 117 #[.slice A x.kids.length c] w (CopyRets w 8 (x.kids.map encEx))):CopyExOk x:=by
 intro cs w hp
 obtain ⟨A0,c0,rfl,h0⟩:=rep_ex.1 hp
 clear hp
 have h0:=Lib.hid h0
 obtain ⟨op,⟨tk,tp,tl⟩,nm,n,kids,pos⟩:=x
 simp only [exC,Ex.op,Ex.ty,Ex.name,Ex.n,Ex.kids,Ex.pos,strV8] at *
 go_enter Tryz.func127,Tryz.ntmps127
 go_wp2_with fail
 obtain ⟨b1,hb1⟩:∃ b,Hid (w.heap.size + 1=b):=⟨_,Lib.hid rfl⟩
 obtain ⟨bx,hbx⟩:∃ b,Hid (w.heap.size + 1 + 1=b):=⟨_,Lib.hid rfl⟩
 obtain ⟨y1,y2,y3,hB,hz⟩:BlkIs (((w.alloc (.cells #[.int .i64 op,.int .i64 tk,.int .i64 tp,.int .i64 tl,.string ⟨nm.toArray⟩,.int .i64 n,.slice A0 kids.length c0,.int .i64 pos] 100)).alloc (.cells #[.int .i64 0,.int .i64 0,.int .i64 0,.int .i64 0,.string ⟨#[]⟩,.int .i64 0,.slice none 0 0,.int .i64 0] 100)).alloc (.cells #[.int .i64 op,.int .i64 tk,.int .i64 tp,.int .i64 tl,.string ⟨nm.toArray⟩,.int .i64 n,.slice A0 kids.length c0,.int .i64 pos] 100)) w.heap.size 100 #[.int .i64 op,.int .i64 tk,.int .i64 tp,.int .i64 tl,.string ⟨nm.toArray⟩,.int .i64 n,.slice A0 kids.length c0,.int .i64 pos]∧BlkIs (((w.alloc (.cells #[.int .i64 op,.int .i64 tk,.int .i64 tp,.int .i64 tl,.string ⟨nm.toArray⟩,.int .i64 n,.slice A0 kids.length c0,.int .i64 pos] 100)).alloc (.cells #[.int .i64 0,.int .i64 0,.int .i64 0,.int .i64 0,.string ⟨#[]⟩,.int .i64 0,.slice none 0 0,.int .i64 0] 100)).alloc (.cells #[.int .i64 op,.int .i64 tk,.int .i64 tp,.int .i64 tl,.string ⟨nm.toArray⟩,.int .i64 n,.slice A0 kids.length c0,.int .i64 pos] 100)) b1 100 #[.int .i64 0,.int .i64 0,.int .i64 0,.int .i64 0,.string ⟨#[]⟩,.int .i64 0,.slice none 0 0,.int .i64 0]∧BlkIs (((w.alloc (.cells #[.int .i64 op,.int .i64 tk,.int .i64 tp,.int .i64 tl,.string ⟨nm.toArray⟩,.int .i64 n,.slice A0 kids.length c0,.int .i64 pos] 100)).alloc (.cells #[.int .i64 0,.int .i64 0,.int .i64 0,.int .i64 0,.string ⟨#[]⟩,.int .i64 0,.slice none 0 0,.int .i64 0] 100)).alloc (.cells #[.int .i64 op,.int .i64 tk,.int .i64 tp,.int .i64 tl,.string ⟨nm.toArray⟩,.int .i64 n,.slice A0 kids.length c0,.int .i64 pos] 100)) bx 100 #[.int .i64 op,.int .i64 tk,.int .i64 tp,.int .i64 tl,.string ⟨nm.toArray⟩,.int .i64 n,.slice A0 kids.length c0,.int .i64 pos]∧Below w.heap.size w (((w.alloc (.cells #[.int .i64 op,.int .i64 tk,.int .i64 tp,.int .i64 tl,.string ⟨nm.toArray⟩,.int .i64 n,.slice A0 kids.length c0,.int .i64 pos] 100)).alloc (.cells #[.int .i64 0,.int .i64 0,.int .i64 0,.int .i64 0,.string ⟨#[]⟩,.int .i64 0,.slice none 0 0,.int .i64 0] 100)).alloc (.cells #[.int .i64 op,.int .i64 tk,.int .i64 tp,.int .i64 tl,.string ⟨nm.toArray⟩,.int .i64 n,.slice A0 kids.length c0,.int .i64 pos] 100))∧bx<(((w.alloc (.cells #[.int .i64 op,.int .i64 tk,.int .i64 tp,.int .i64 tl,.string ⟨nm.toArray⟩,.int .i64 n,.slice A0 kids.length c0,.int .i64 pos] 100)).alloc (.cells #[.int .i64 0,.int .i64 0,.int .i64 0,.int .i64 0,.string ⟨#[]⟩,.int .i64 0,.slice none 0 0,.int .i64 0] 100)).alloc (.cells #[.int .i64 op,.int .i64 tk,.int .i64 tp,.int .i64 tl,.string ⟨nm.toArray⟩,.int .i64 n,.slice A0 kids.length c0,.int .i64 pos] 100)).heap.size:=⟨((BlkIs.fresh _ _ _).alloc _).alloc _,BlkIs.alloc (BlkIs.fresh_at (by have:=hb1.out;simp;omega)) _,BlkIs.fresh_at (by have:=hbx.out;simp;omega),Below.alloc (Below.alloc (below_alloc _ _) (by simp) _) (by simp;omega) _,by have:=hbx.out;simp;omega⟩
 have hl1:w.heap.size<b1:=by have:=hb1.out;omega
 have hl2:b1<bx:=by have:=hb1.out;have:=hbx.out;omega
 rw [hbx.out,hb1.out]
 generalize ((w.alloc (.cells #[.int .i64 op,.int .i64 tk,.int .i64 tp,.int .i64 tl,.string ⟨nm.toArray⟩,.int .i64 n,.slice A0 kids.length c0,.int .i64 pos] 100)).alloc (.cells #[.int .i64 0,.int .i64 0,.int .i64 0,.int .i64 0,.string ⟨#[]⟩,.int .i64 0,.slice none 0 0,.int .i64 0] 100)).alloc (.cells #[.int .i64 op,.int .i64 tk,.int .i64 tp,.int .i64 tl,.string ⟨nm.toArray⟩,.int .i64 n,.slice A0 kids.length c0,.int .i64 pos] 100)=w0 at *
 refine (ih0 _ _ _ (Rep.below h0.out hB)).mono ?_
 rintro e v0 ⟨X0,d0,rfl,s0,hb0⟩
 simp only [List.length_map] at s0 ⊢
 have hB0:=hB.trans (hb0.mono hB.size)
 have z0:=hb0.size
 have y1:=y1.below hb0 (by omega)
 have y2:=y2.below hb0 (by omega)
 have y3:=y3.below hb0 (by omega)
 have s0:=Lib.hid s0
 have q0:=y3.cell 0
 have g0:=y3.frozen 0
 have q1:=y3.cell 1
 have g1:=y3.frozen 1
 have q2:=y3.cell 2
 have g2:=y3.frozen 2
 have q3:=y3.cell 3
 have g3:=y3.frozen 3
 have q4:=y3.cell 4
 have g4:=y3.frozen 4
 have q5:=y3.cell 5
 have g5:=y3.frozen 5
 have q6:=y3.cell 6
 have g6:=y3.frozen 6
 have q7:=y3.cell 7
 have g7:=y3.frozen 7
 have r0:=y2.cell 0
 have t0:=y2.frozen 0
 have r1:=y2.cell 1
 have t1:=y2.frozen 1
 have r2:=y2.cell 2
 have t2:=y2.frozen 2
 have r3:=y2.cell 3
 have t3:=y2.frozen 3
 have r4:=y2.cell 4
 have t4:=y2.frozen 4
 have r5:=y2.cell 5
 have t5:=y2.frozen 5
 have r6:=y2.cell 6
 have t6:=y2.frozen 6
 have r7:=y2.cell 7
 have t7:=y2.frozen 7
 simp at q0 q1 q2 q3 q4 q5 q6 q7 r0 r1 r2 r3 r4 r5 r6 r7
 have l3:=y3.lt
 have l2:=y2.lt
 clear hB hb0
 go_wp2_with fail
 have yy:=(((((((((y2.far (p:=⟨bx,6,none⟩) (by simp;omega) (.slice X0 kids.length d0)).put 0 (.int .i64 op)).put 1 (.int .i64 tk)).put 2 (.int .i64 tp)).put 3 (.int .i64 tl)).put 4 (.string ⟨nm.toArray⟩)).put 5 (.int .i64 n)).put 6 (.slice X0 kids.length d0)).put 7 (.int .i64 pos))
 have z0z:=yy.cell 0
 have z1z:=yy.cell 1
 have z2z:=yy.cell 2
 have z3z:=yy.cell 3
 have z4z:=yy.cell 4
 have z5z:=yy.cell 5
 have z6z:=yy.cell 6
 have z7z:=yy.cell 7
 simp at z0z z1z z2z z3z z4z z5z z6z z7z
 have hk:∀ q,bx<q→q<v0.heap.size→(((((((((v0.setCell ⟨bx,6,none⟩ (.slice X0 kids.length d0)).setCell ⟨b1,0,none⟩ (.int .i64 op)).setCell ⟨b1,1,none⟩ (.int .i64 tk)).setCell ⟨b1,2,none⟩ (.int .i64 tp)).setCell ⟨b1,3,none⟩ (.int .i64 tl)).setCell ⟨b1,4,none⟩ (.string ⟨nm.toArray⟩)).setCell ⟨b1,5,none⟩ (.int .i64 n)).setCell ⟨b1,6,none⟩ (.slice X0 kids.length d0)).setCell ⟨b1,7,none⟩ (.int .i64 pos)).heap[q]?=v0.heap[q]?:=fun q h1 h2=>(heap_setCell_other _ _ _ _ (by simp;omega)).trans ((heap_setCell_other _ _ _ _ (by simp;omega)).trans ((heap_setCell_other _ _ _ _ (by simp;omega)).trans ((heap_setCell_other _ _ _ _ (by simp;omega)).trans ((heap_setCell_other _ _ _ _ (by simp;omega)).trans ((heap_setCell_other _ _ _ _ (by simp;omega)).trans ((heap_setCell_other _ _ _ _ (by simp;omega)).trans ((heap_setCell_other _ _ _ _ (by simp;omega)).trans (heap_setCell_other _ _ _ _ (by simp;omega)))))))))
 have hBf:Below w.heap.size w (((((((((v0.setCell ⟨bx,6,none⟩ (.slice X0 kids.length d0)).setCell ⟨b1,0,none⟩ (.int .i64 op)).setCell ⟨b1,1,none⟩ (.int .i64 tk)).setCell ⟨b1,2,none⟩ (.int .i64 tp)).setCell ⟨b1,3,none⟩ (.int .i64 tl)).setCell ⟨b1,4,none⟩ (.string ⟨nm.toArray⟩)).setCell ⟨b1,5,none⟩ (.int .i64 n)).setCell ⟨b1,6,none⟩ (.slice X0 kids.length d0)).setCell ⟨b1,7,none⟩ (.int .i64 pos)):=Below.setCell (Below.setCell (Below.setCell (Below.setCell (Below.setCell (Below.setCell (Below.setCell (Below.setCell (Below.setCell hB0 (by simp;omega) _) (by simp;omega) _) (by simp;omega) _) (by simp;omega) _) (by simp;omega) _) (by simp;omega) _) (by simp;omega) _) (by simp;omega) _) (by simp;omega) _
 have hsz:(((((((((v0.setCell ⟨bx,6,none⟩ (.slice X0 kids.length d0)).setCell ⟨b1,0,none⟩ (.int .i64 op)).setCell ⟨b1,1,none⟩ (.int .i64 tk)).setCell ⟨b1,2,none⟩ (.int .i64 tp)).setCell ⟨b1,3,none⟩ (.int .i64 tl)).setCell ⟨b1,4,none⟩ (.string ⟨nm.toArray⟩)).setCell ⟨b1,5,none⟩ (.int .i64 n)).setCell ⟨b1,6,none⟩ (.slice X0 kids.length d0)).setCell ⟨b1,7,none⟩ (.int .i64 pos)).heap.size=v0.heap.size:=by simp [World.setCell]
 generalize ((((((((v0.setCell ⟨bx,6,none⟩ (.slice X0 kids.length d0)).setCell ⟨b1,0,none⟩ (.int .i64 op)).setCell ⟨b1,1,none⟩ (.int .i64 tk)).setCell ⟨b1,2,none⟩ (.int .i64 tp)).setCell ⟨b1,3,none⟩ (.int .i64 tl)).setCell ⟨b1,4,none⟩ (.string ⟨nm.toArray⟩)).setCell ⟨b1,5,none⟩ (.int .i64 n)).setCell ⟨b1,6,none⟩ (.slice X0 kids.length d0)).setCell ⟨b1,7,none⟩ (.int .i64 pos)=wf at *
 refine bodyPost_ret (v:=.agg #[.int .i64 op,.int .i64 tk,.int .i64 tp,.int .i64 tl,.string ⟨nm.toArray⟩,.int .i64 n,.slice X0 kids.length d0,.int .i64 pos]) (by simp [results,Tryz.results127,go_sem,z0z,z1z,z2z,z3z,z4z,z5z,z6z,z7z]) rfl ?_
 refine ⟨[.int .i64 op,.int .i64 tk,.int .i64 tp,.int .i64 tl,.string ⟨nm.toArray⟩,.int .i64 n,.slice X0 kids.length d0,.int .i64 pos],rfl,?_,hBf⟩
 rw [hsz]
 have S0:=Sep.keep (w':=wf) _ _ _ _ (fun q h1 h2=>hk q (by omega) h2) s0.out
 exact sep_ex' (x:=.mk op ⟨tk,tp,tl⟩ nm n kids pos) (by omega) (Sep.mono _ _ _ _ _ _ (by omega) (Nat.le_refl _) S0)
theorem copyExprs_of (l:List Ex) (hl:l.length≤1000000000) (ih:∀ x ∈ l,CopyExOk x) (A:Option Addr) (c:Nat) (w:World) (hp:RepT w (.lst 8 (l.map encEx)) [.slice A l.length c]) :
  Calls Tryz.prog 117 #[.slice A l.length c] w (CopyRets w 8 (l.map encEx)):=by
 have h:=copys_any (T:=87) (E:=100) (I:=3) (cal:=127) (z:=8) (bytes:=88) (zero:=.agg #[.int .i64 0,.int .i64 0,.int .i64 0,.int .i64 0,.string ⟨#[]⟩,.int .i64 0,.slice none 0 0,.int .i64 0]) (p:=fun i=>["help.go:136", "help.go:137", "help.go:138", "help.go:139", "help.go:141"].getD i "") Tryz.func117 (by kernel_rfl) rfl rfl Tryz.underlying3 Tryz.underlying87 Tryz.underlying100 (by kernel_rfl) rfl (by decide) (by decide) (by decide) (fun _ _=>by kernel_rfl) (l.map encEx) (by simpa using hl) (fun i hi cs W h1=>by
  rw [List.getElem_map] at h1 ⊢
  exact ih _ (List.getElem_mem _) cs W h1) (fun i hi W a b cs h=>by
  rw [List.getElem_map] at h
  obtain ⟨_,_,rfl,_⟩:=sep_ex h;rfl) A c w (by rw [List.length_map];exact hp)
 rw [List.length_map] at h
 exact h
def CopyStOk (x:St):Prop:=∀ cs W,RepT W (encSt x) cs→Calls Tryz.prog 107 #[.agg cs.toArray] W (CopyRet W (encSt x))
theorem copySt_of (x:St) (ih0:∀ A c w,RepT w (.lst 8 (x.ex.map encEx)) [.slice A x.ex.length c]→Calls Tryz.prog 117 #[.slice A x.ex.length c] w (CopyRets w 8 (x.ex.map encEx))) (ih1:∀ A c w,RepT w (.lst 9 (x.body.map encSt)) [.slice A x.body.length c]→Calls Tryz.prog 95 #[.slice A x.body.length c] w (CopyRets w 9 (x.body.map encSt))):CopyStOk x:=by
 intro cs w hp
 obtain ⟨A0,c0,A1,c1,rfl,h0,h1⟩:=rep_st.1 hp
 clear hp
 have h0:=Lib.hid h0
 have h1:=Lib.hid h1
 obtain ⟨op,ex,body,⟨tk,tp,tl⟩,nm,n,pos⟩:=x
 simp only [stC,St.op,St.ex,St.body,St.ty,St.name,St.n,St.pos,strV8] at *
 go_enter Tryz.func107,Tryz.ntmps107
 go_wp2_with fail
 obtain ⟨b1,hb1⟩:∃ b,Hid (w.heap.size + 1=b):=⟨_,Lib.hid rfl⟩
 obtain ⟨bx,hbx⟩:∃ b,Hid (w.heap.size + 1 + 1=b):=⟨_,Lib.hid rfl⟩
 obtain ⟨y1,y2,y3,hB,hz⟩:BlkIs (((w.alloc (.cells #[.int .i64 op,.slice A0 ex.length c0,.slice A1 body.length c1,.int .i64 tk,.int .i64 tp,.int .i64 tl,.string ⟨nm.toArray⟩,.int .i64 n,.int .i64 pos] 89)).alloc (.cells #[.int .i64 0,.slice none 0 0,.slice none 0 0,.int .i64 0,.int .i64 0,.int .i64 0,.string ⟨#[]⟩,.int .i64 0,.int .i64 0] 89)).alloc (.cells #[.int .i64 op,.slice A0 ex.length c0,.slice A1 body.length c1,.int .i64 tk,.int .i64 tp,.int .i64 tl,.string ⟨nm.toArray⟩,.int .i64 n,.int .i64 pos] 89)) w.heap.size 89 #[.int .i64 op,.slice A0 ex.length c0,.slice A1 body.length c1,.int .i64 tk,.int .i64 tp,.int .i64 tl,.string ⟨nm.toArray⟩,.int .i64 n,.int .i64 pos]∧BlkIs (((w.alloc (.cells #[.int .i64 op,.slice A0 ex.length c0,.slice A1 body.length c1,.int .i64 tk,.int .i64 tp,.int .i64 tl,.string ⟨nm.toArray⟩,.int .i64 n,.int .i64 pos] 89)).alloc (.cells #[.int .i64 0,.slice none 0 0,.slice none 0 0,.int .i64 0,.int .i64 0,.int .i64 0,.string ⟨#[]⟩,.int .i64 0,.int .i64 0] 89)).alloc (.cells #[.int .i64 op,.slice A0 ex.length c0,.slice A1 body.length c1,.int .i64 tk,.int .i64 tp,.int .i64 tl,.string ⟨nm.toArray⟩,.int .i64 n,.int .i64 pos] 89)) b1 89 #[.int .i64 0,.slice none 0 0,.slice none 0 0,.int .i64 0,.int .i64 0,.int .i64 0,.string ⟨#[]⟩,.int .i64 0,.int .i64 0]∧BlkIs (((w.alloc (.cells #[.int .i64 op,.slice A0 ex.length c0,.slice A1 body.length c1,.int .i64 tk,.int .i64 tp,.int .i64 tl,.string ⟨nm.toArray⟩,.int .i64 n,.int .i64 pos] 89)).alloc (.cells #[.int .i64 0,.slice none 0 0,.slice none 0 0,.int .i64 0,.int .i64 0,.int .i64 0,.string ⟨#[]⟩,.int .i64 0,.int .i64 0] 89)).alloc (.cells #[.int .i64 op,.slice A0 ex.length c0,.slice A1 body.length c1,.int .i64 tk,.int .i64 tp,.int .i64 tl,.string ⟨nm.toArray⟩,.int .i64 n,.int .i64 pos] 89)) bx 89 #[.int .i64 op,.slice A0 ex.length c0,.slice A1 body.length c1,.int .i64 tk,.int .i64 tp,.int .i64 tl,.string ⟨nm.toArray⟩,.int .i64 n,.int .i64 pos]∧Below w.heap.size w (((w.alloc (.cells #[.int .i64 op,.slice A0 ex.length c0,.slice A1 body.length c1,.int .i64 tk,.int .i64 tp,.int .i64 tl,.string ⟨nm.toArray⟩,.int .i64 n,.int .i64 pos] 89)).alloc (.cells #[.int .i64 0,.slice none 0 0,.slice none 0 0,.int .i64 0,.int .i64 0,.int .i64 0,.string ⟨#[]⟩,.int .i64 0,.int .i64 0] 89)).alloc (.cells #[.int .i64 op,.slice A0 ex.length c0,.slice A1 body.length c1,.int .i64 tk,.int .i64 tp,.int .i64 tl,.string ⟨nm.toArray⟩,.int .i64 n,.int .i64 pos] 89))∧bx<(((w.alloc (.cells #[.int .i64 op,.slice A0 ex.length c0,.slice A1 body.length c1,.int .i64 tk,.int .i64 tp,.int .i64 tl,.string ⟨nm.toArray⟩,.int .i64 n,.int .i64 pos] 89)).alloc (.cells #[.int .i64 0,.slice none 0 0,.slice none 0 0,.int .i64 0,.int .i64 0,.int .i64 0,.string ⟨#[]⟩,.int .i64 0,.int .i64 0] 89)).alloc (.cells #[.int .i64 op,.slice A0 ex.length c0,.slice A1 body.length c1,.int .i64 tk,.int .i64 tp,.int .i64 tl,.string ⟨nm.toArray⟩,.int .i64 n,.int .i64 pos] 89)).heap.size:=⟨((BlkIs.fresh _ _ _).alloc _).alloc _,BlkIs.alloc (BlkIs.fresh_at (by have:=hb1.out;simp;omega)) _,BlkIs.fresh_at (by have:=hbx.out;simp;omega),Below.alloc (Below.alloc (below_alloc _ _) (by simp) _) (by simp;omega) _,by have:=hbx.out;simp;omega⟩
 have hl1:w.heap.size<b1:=by have:=hb1.out;omega
 have hl2:b1<bx:=by have:=hb1.out;have:=hbx.out;omega
 rw [hbx.out,hb1.out]
 generalize ((w.alloc (.cells #[.int .i64 op,.slice A0 ex.length c0,.slice A1 body.length c1,.int .i64 tk,.int .i64 tp,.int .i64 tl,.string ⟨nm.toArray⟩,.int .i64 n,.int .i64 pos] 89)).alloc (.cells #[.int .i64 0,.slice none 0 0,.slice none 0 0,.int .i64 0,.int .i64 0,.int .i64 0,.string ⟨#[]⟩,.int .i64 0,.int .i64 0] 89)).alloc (.cells #[.int .i64 op,.slice A0 ex.length c0,.slice A1 body.length c1,.int .i64 tk,.int .i64 tp,.int .i64 tl,.string ⟨nm.toArray⟩,.int .i64 n,.int .i64 pos] 89)=w0 at *
 refine (ih0 _ _ _ (Rep.below h0.out hB)).mono ?_
 rintro e v0 ⟨X0,d0,rfl,s0,hb0⟩
 simp only [List.length_map] at s0 ⊢
 have hB0:=hB.trans (hb0.mono hB.size)
 have z0:=hb0.size
 have y1:=y1.below hb0 (by omega)
 have y2:=y2.below hb0 (by omega)
 have y3:=y3.below hb0 (by omega)
 have s0:=Lib.hid s0
 have p2:=y1.cell 2
 have q1:=y3.cell 1
 have g1:=y3.frozen 1
 simp at p2 q1
 have l3:=y3.lt
 have l2:=y2.lt
 clear hB hb0
 go_wp2_with fail
 clear p2 q1 g1 l3 l2
 have y1:=y1.far (p:=⟨bx,1,none⟩) (by simp;omega) (.slice X0 ex.length d0)
 have y2:=y2.far (p:=⟨bx,1,none⟩) (by simp;omega) (.slice X0 ex.length d0)
 have y3:=y3.put 1 (.slice X0 ex.length d0)
 have hB:=Below.setCell hB0 (p:=⟨bx,1,none⟩) (by simp;omega) (.slice X0 ex.length d0)
 have s0:=Lib.hid (Sep.keep (w':=v0.setCell ⟨bx,1,none⟩ (.slice X0 ex.length d0)) _ _ _ _ (fun q h1 h2=>heap_setCell_other _ _ _ _ (by simp;omega)) s0.out)
 have hz:bx<(v0.setCell ⟨bx,1,none⟩ (.slice X0 ex.length d0)).heap.size:=by simp [World.setCell];omega
 obtain ⟨w1,hw1⟩:∃ W,Hid (v0.setCell ⟨bx,1,none⟩ (.slice X0 ex.length d0)=W):=⟨_,Lib.hid rfl⟩
 have hs1:v0.heap.size=w1.heap.size:=by rw [← hw1.out];simp [World.setCell]
 rw [hw1.out] at y1 y2 y3 hB hz s0 ⊢
 simp at y3
 refine (ih1 _ _ _ (Rep.below h1.out hB)).mono ?_
 rintro e v1 ⟨X1,d1,rfl,s1,hb1⟩
 simp only [List.length_map] at s1 ⊢
 have hB1:=hB.trans (hb1.mono hB.size)
 have z1:=hb1.size
 have y1:=y1.below hb1 (by omega)
 have y2:=y2.below hb1 (by omega)
 have y3:=y3.below hb1 (by omega)
 have s0:=Lib.hid (Sep.keep _ _ _ _ (fun q h1 h2=>hb1.block q (by omega)) s0.out)
 have s1:=Lib.hid s1
 have q0:=y3.cell 0
 have g0:=y3.frozen 0
 have q1:=y3.cell 1
 have g1:=y3.frozen 1
 have q2:=y3.cell 2
 have g2:=y3.frozen 2
 have q3:=y3.cell 3
 have g3:=y3.frozen 3
 have q4:=y3.cell 4
 have g4:=y3.frozen 4
 have q5:=y3.cell 5
 have g5:=y3.frozen 5
 have q6:=y3.cell 6
 have g6:=y3.frozen 6
 have q7:=y3.cell 7
 have g7:=y3.frozen 7
 have q8:=y3.cell 8
 have g8:=y3.frozen 8
 have r0:=y2.cell 0
 have t0:=y2.frozen 0
 have r1:=y2.cell 1
 have t1:=y2.frozen 1
 have r2:=y2.cell 2
 have t2:=y2.frozen 2
 have r3:=y2.cell 3
 have t3:=y2.frozen 3
 have r4:=y2.cell 4
 have t4:=y2.frozen 4
 have r5:=y2.cell 5
 have t5:=y2.frozen 5
 have r6:=y2.cell 6
 have t6:=y2.frozen 6
 have r7:=y2.cell 7
 have t7:=y2.frozen 7
 have r8:=y2.cell 8
 have t8:=y2.frozen 8
 simp at q0 q1 q2 q3 q4 q5 q6 q7 q8 r0 r1 r2 r3 r4 r5 r6 r7 r8
 have l3:=y3.lt
 have l2:=y2.lt
 clear hB hb1
 go_wp2_with fail
 have yy:=((((((((((y2.far (p:=⟨bx,2,none⟩) (by simp;omega) (.slice X1 body.length d1)).put 0 (.int .i64 op)).put 1 (.slice X0 ex.length d0)).put 2 (.slice X1 body.length d1)).put 3 (.int .i64 tk)).put 4 (.int .i64 tp)).put 5 (.int .i64 tl)).put 6 (.string ⟨nm.toArray⟩)).put 7 (.int .i64 n)).put 8 (.int .i64 pos))
 have z0z:=yy.cell 0
 have z1z:=yy.cell 1
 have z2z:=yy.cell 2
 have z3z:=yy.cell 3
 have z4z:=yy.cell 4
 have z5z:=yy.cell 5
 have z6z:=yy.cell 6
 have z7z:=yy.cell 7
 have z8z:=yy.cell 8
 simp at z0z z1z z2z z3z z4z z5z z6z z7z z8z
 have hk:∀ q,bx<q→q<v1.heap.size→((((((((((v1.setCell ⟨bx,2,none⟩ (.slice X1 body.length d1)).setCell ⟨b1,0,none⟩ (.int .i64 op)).setCell ⟨b1,1,none⟩ (.slice X0 ex.length d0)).setCell ⟨b1,2,none⟩ (.slice X1 body.length d1)).setCell ⟨b1,3,none⟩ (.int .i64 tk)).setCell ⟨b1,4,none⟩ (.int .i64 tp)).setCell ⟨b1,5,none⟩ (.int .i64 tl)).setCell ⟨b1,6,none⟩ (.string ⟨nm.toArray⟩)).setCell ⟨b1,7,none⟩ (.int .i64 n)).setCell ⟨b1,8,none⟩ (.int .i64 pos)).heap[q]?=v1.heap[q]?:=fun q h1 h2=>(heap_setCell_other _ _ _ _ (by simp;omega)).trans ((heap_setCell_other _ _ _ _ (by simp;omega)).trans ((heap_setCell_other _ _ _ _ (by simp;omega)).trans ((heap_setCell_other _ _ _ _ (by simp;omega)).trans ((heap_setCell_other _ _ _ _ (by simp;omega)).trans ((heap_setCell_other _ _ _ _ (by simp;omega)).trans ((heap_setCell_other _ _ _ _ (by simp;omega)).trans ((heap_setCell_other _ _ _ _ (by simp;omega)).trans ((heap_setCell_other _ _ _ _ (by simp;omega)).trans (heap_setCell_other _ _ _ _ (by simp;omega))))))))))
 have hBf:Below w.heap.size w ((((((((((v1.setCell ⟨bx,2,none⟩ (.slice X1 body.length d1)).setCell ⟨b1,0,none⟩ (.int .i64 op)).setCell ⟨b1,1,none⟩ (.slice X0 ex.length d0)).setCell ⟨b1,2,none⟩ (.slice X1 body.length d1)).setCell ⟨b1,3,none⟩ (.int .i64 tk)).setCell ⟨b1,4,none⟩ (.int .i64 tp)).setCell ⟨b1,5,none⟩ (.int .i64 tl)).setCell ⟨b1,6,none⟩ (.string ⟨nm.toArray⟩)).setCell ⟨b1,7,none⟩ (.int .i64 n)).setCell ⟨b1,8,none⟩ (.int .i64 pos)):=Below.setCell (Below.setCell (Below.setCell (Below.setCell (Below.setCell (Below.setCell (Below.setCell (Below.setCell (Below.setCell (Below.setCell hB1 (by simp;omega) _) (by simp;omega) _) (by simp;omega) _) (by simp;omega) _) (by simp;omega) _) (by simp;omega) _) (by simp;omega) _) (by simp;omega) _) (by simp;omega) _) (by simp;omega) _
 have hsz:((((((((((v1.setCell ⟨bx,2,none⟩ (.slice X1 body.length d1)).setCell ⟨b1,0,none⟩ (.int .i64 op)).setCell ⟨b1,1,none⟩ (.slice X0 ex.length d0)).setCell ⟨b1,2,none⟩ (.slice X1 body.length d1)).setCell ⟨b1,3,none⟩ (.int .i64 tk)).setCell ⟨b1,4,none⟩ (.int .i64 tp)).setCell ⟨b1,5,none⟩ (.int .i64 tl)).setCell ⟨b1,6,none⟩ (.string ⟨nm.toArray⟩)).setCell ⟨b1,7,none⟩ (.int .i64 n)).setCell ⟨b1,8,none⟩ (.int .i64 pos)).heap.size=v1.heap.size:=by simp [World.setCell]
 generalize (((((((((v1.setCell ⟨bx,2,none⟩ (.slice X1 body.length d1)).setCell ⟨b1,0,none⟩ (.int .i64 op)).setCell ⟨b1,1,none⟩ (.slice X0 ex.length d0)).setCell ⟨b1,2,none⟩ (.slice X1 body.length d1)).setCell ⟨b1,3,none⟩ (.int .i64 tk)).setCell ⟨b1,4,none⟩ (.int .i64 tp)).setCell ⟨b1,5,none⟩ (.int .i64 tl)).setCell ⟨b1,6,none⟩ (.string ⟨nm.toArray⟩)).setCell ⟨b1,7,none⟩ (.int .i64 n)).setCell ⟨b1,8,none⟩ (.int .i64 pos)=wf at *
 refine bodyPost_ret (v:=.agg #[.int .i64 op,.slice X0 ex.length d0,.slice X1 body.length d1,.int .i64 tk,.int .i64 tp,.int .i64 tl,.string ⟨nm.toArray⟩,.int .i64 n,.int .i64 pos]) (by simp [results,Tryz.results107,go_sem,z0z,z1z,z2z,z3z,z4z,z5z,z6z,z7z,z8z]) rfl ?_
 refine ⟨[.int .i64 op,.slice X0 ex.length d0,.slice X1 body.length d1,.int .i64 tk,.int .i64 tp,.int .i64 tl,.string ⟨nm.toArray⟩,.int .i64 n,.int .i64 pos],rfl,?_,hBf⟩
 rw [hsz]
 have S0:=Sep.keep (w':=wf) _ _ _ _ (fun q h1 h2=>hk q (by omega) (by omega)) s0.out
 have S1:=Sep.keep (w':=wf) _ _ _ _ (fun q h1 h2=>hk q (by omega) (by omega)) s1.out
 exact sep_st' (x:=.mk op ex body ⟨tk,tp,tl⟩ nm n pos) (m:=w1.heap.size) (by omega) (by omega) (Sep.mono _ _ _ _ _ _ (by omega) (by omega) S0) S1
theorem copyStmts_of (l:List St) (hl:l.length≤1000000000) (ih:∀ x ∈ l,CopyStOk x) (A:Option Addr) (c:Nat) (w:World) (hp:RepT w (.lst 9 (l.map encSt)) [.slice A l.length c]) :
  Calls Tryz.prog 95 #[.slice A l.length c] w (CopyRets w 9 (l.map encSt)):=by
 have h:=copys_any (T:=58) (E:=89) (I:=3) (cal:=107) (z:=9) (bytes:=112) (zero:=.agg #[.int .i64 0,.slice none 0 0,.slice none 0 0,.int .i64 0,.int .i64 0,.int .i64 0,.string ⟨#[]⟩,.int .i64 0,.int .i64 0]) (p:=fun i=>["help.go:171", "help.go:172", "help.go:173", "help.go:174", "help.go:176"].getD i "") Tryz.func95 (by kernel_rfl) rfl rfl Tryz.underlying3 Tryz.underlying58 Tryz.underlying89 (by kernel_rfl) rfl (by decide) (by decide) (by decide) (fun _ _=>by kernel_rfl) (l.map encSt) (by simpa using hl) (fun i hi cs W h1=>by
  rw [List.getElem_map] at h1 ⊢
  exact ih _ (List.getElem_mem _) cs W h1) (fun i hi W a b cs h=>by
  rw [List.getElem_map] at h
  obtain ⟨_,_,_,_,_,_,_,rfl,_⟩:=sep_st h;rfl) A c w (by rw [List.length_map];exact hp)
 rw [List.length_map] at h
 exact h
def CopyDeOk (x:De):Prop:=∀ cs W,RepT W (encDe x) cs→Calls Tryz.prog 78 #[.agg cs.toArray] W (CopyRet W (encDe x))
theorem copyDe_of (x:De) (ih0:∀ A c w,RepT w (.lst 1 (x.init.map (.int .i64))) [.slice A x.init.length c]→Calls Tryz.prog 94 #[.slice A x.init.length c] w (CopyRets w 1 (x.init.map (.int .i64)))):CopyDeOk x:=by
 intro cs w hp
 obtain ⟨A0,c0,rfl,h0⟩:=rep_de.1 hp
 clear hp
 have h0:=Lib.hid h0
 obtain ⟨nm,⟨tk,tp,tl⟩,init,pos⟩:=x
 simp only [deC,strV8] at *
 go_enter Tryz.func78,Tryz.ntmps78
 go_wp2_with fail
 obtain ⟨b1,hb1⟩:∃ b,Hid (w.heap.size + 1=b):=⟨_,Lib.hid rfl⟩
 obtain ⟨bx,hbx⟩:∃ b,Hid (w.heap.size + 1 + 1=b):=⟨_,Lib.hid rfl⟩
 obtain ⟨y1,y2,y3,hB,hz⟩:BlkIs (((w.alloc (.cells #[.string ⟨nm.toArray⟩,.int .i64 tk,.int .i64 tp,.int .i64 tl,.slice A0 init.length c0,.int .i64 pos] 56)).alloc (.cells #[.string ⟨#[]⟩,.int .i64 0,.int .i64 0,.int .i64 0,.slice none 0 0,.int .i64 0] 56)).alloc (.cells #[.string ⟨nm.toArray⟩,.int .i64 tk,.int .i64 tp,.int .i64 tl,.slice A0 init.length c0,.int .i64 pos] 56)) w.heap.size 56 #[.string ⟨nm.toArray⟩,.int .i64 tk,.int .i64 tp,.int .i64 tl,.slice A0 init.length c0,.int .i64 pos]∧BlkIs (((w.alloc (.cells #[.string ⟨nm.toArray⟩,.int .i64 tk,.int .i64 tp,.int .i64 tl,.slice A0 init.length c0,.int .i64 pos] 56)).alloc (.cells #[.string ⟨#[]⟩,.int .i64 0,.int .i64 0,.int .i64 0,.slice none 0 0,.int .i64 0] 56)).alloc (.cells #[.string ⟨nm.toArray⟩,.int .i64 tk,.int .i64 tp,.int .i64 tl,.slice A0 init.length c0,.int .i64 pos] 56)) b1 56 #[.string ⟨#[]⟩,.int .i64 0,.int .i64 0,.int .i64 0,.slice none 0 0,.int .i64 0]∧BlkIs (((w.alloc (.cells #[.string ⟨nm.toArray⟩,.int .i64 tk,.int .i64 tp,.int .i64 tl,.slice A0 init.length c0,.int .i64 pos] 56)).alloc (.cells #[.string ⟨#[]⟩,.int .i64 0,.int .i64 0,.int .i64 0,.slice none 0 0,.int .i64 0] 56)).alloc (.cells #[.string ⟨nm.toArray⟩,.int .i64 tk,.int .i64 tp,.int .i64 tl,.slice A0 init.length c0,.int .i64 pos] 56)) bx 56 #[.string ⟨nm.toArray⟩,.int .i64 tk,.int .i64 tp,.int .i64 tl,.slice A0 init.length c0,.int .i64 pos]∧Below w.heap.size w (((w.alloc (.cells #[.string ⟨nm.toArray⟩,.int .i64 tk,.int .i64 tp,.int .i64 tl,.slice A0 init.length c0,.int .i64 pos] 56)).alloc (.cells #[.string ⟨#[]⟩,.int .i64 0,.int .i64 0,.int .i64 0,.slice none 0 0,.int .i64 0] 56)).alloc (.cells #[.string ⟨nm.toArray⟩,.int .i64 tk,.int .i64 tp,.int .i64 tl,.slice A0 init.length c0,.int .i64 pos] 56))∧bx<(((w.alloc (.cells #[.string ⟨nm.toArray⟩,.int .i64 tk,.int .i64 tp,.int .i64 tl,.slice A0 init.length c0,.int .i64 pos] 56)).alloc (.cells #[.string ⟨#[]⟩,.int .i64 0,.int .i64 0,.int .i64 0,.slice none 0 0,.int .i64 0] 56)).alloc (.cells #[.string ⟨nm.toArray⟩,.int .i64 tk,.int .i64 tp,.int .i64 tl,.slice A0 init.length c0,.int .i64 pos] 56)).heap.size:=⟨((BlkIs.fresh _ _ _).alloc _).alloc _,BlkIs.alloc (BlkIs.fresh_at (by have:=hb1.out;simp;omega)) _,BlkIs.fresh_at (by have:=hbx.out;simp;omega),Below.alloc (Below.alloc (below_alloc _ _) (by simp) _) (by simp;omega) _,by have:=hbx.out;simp;omega⟩
 have hl1:w.heap.size<b1:=by have:=hb1.out;omega
 have hl2:b1<bx:=by have:=hb1.out;have:=hbx.out;omega
 rw [hbx.out,hb1.out]
 generalize ((w.alloc (.cells #[.string ⟨nm.toArray⟩,.int .i64 tk,.int .i64 tp,.int .i64 tl,.slice A0 init.length c0,.int .i64 pos] 56)).alloc (.cells #[.string ⟨#[]⟩,.int .i64 0,.int .i64 0,.int .i64 0,.slice none 0 0,.int .i64 0] 56)).alloc (.cells #[.string ⟨nm.toArray⟩,.int .i64 tk,.int .i64 tp,.int .i64 tl,.slice A0 init.length c0,.int .i64 pos] 56)=w0 at *
 refine (ih0 _ _ _ (Rep.below h0.out hB)).mono ?_
 rintro e v0 ⟨X0,d0,rfl,s0,hb0⟩
 simp only [List.length_map] at s0 ⊢
 have hB0:=hB.trans (hb0.mono hB.size)
 have z0:=hb0.size
 have y1:=y1.below hb0 (by omega)
 have y2:=y2.below hb0 (by omega)
 have y3:=y3.below hb0 (by omega)
 have s0:=Lib.hid s0
 have q0:=y3.cell 0
 have g0:=y3.frozen 0
 have q1:=y3.cell 1
 have g1:=y3.frozen 1
 have q2:=y3.cell 2
 have g2:=y3.frozen 2
 have q3:=y3.cell 3
 have g3:=y3.frozen 3
 have q4:=y3.cell 4
 have g4:=y3.frozen 4
 have q5:=y3.cell 5
 have g5:=y3.frozen 5
 have r0:=y2.cell 0
 have t0:=y2.frozen 0
 have r1:=y2.cell 1
 have t1:=y2.frozen 1
 have r2:=y2.cell 2
 have t2:=y2.frozen 2
 have r3:=y2.cell 3
 have t3:=y2.frozen 3
 have r4:=y2.cell 4
 have t4:=y2.frozen 4
 have r5:=y2.cell 5
 have t5:=y2.frozen 5
 simp at q0 q1 q2 q3 q4 q5 r0 r1 r2 r3 r4 r5
 have l3:=y3.lt
 have l2:=y2.lt
 clear hB hb0
 go_wp2_with fail
 have yy:=(((((((y2.far (p:=⟨bx,4,none⟩) (by simp;omega) (.slice X0 init.length d0)).put 0 (.string ⟨nm.toArray⟩)).put 1 (.int .i64 tk)).put 2 (.int .i64 tp)).put 3 (.int .i64 tl)).put 4 (.slice X0 init.length d0)).put 5 (.int .i64 pos))
 have z0z:=yy.cell 0
 have z1z:=yy.cell 1
 have z2z:=yy.cell 2
 have z3z:=yy.cell 3
 have z4z:=yy.cell 4
 have z5z:=yy.cell 5
 simp at z0z z1z z2z z3z z4z z5z
 have hk:∀ q,bx<q→q<v0.heap.size→(((((((v0.setCell ⟨bx,4,none⟩ (.slice X0 init.length d0)).setCell ⟨b1,0,none⟩ (.string ⟨nm.toArray⟩)).setCell ⟨b1,1,none⟩ (.int .i64 tk)).setCell ⟨b1,2,none⟩ (.int .i64 tp)).setCell ⟨b1,3,none⟩ (.int .i64 tl)).setCell ⟨b1,4,none⟩ (.slice X0 init.length d0)).setCell ⟨b1,5,none⟩ (.int .i64 pos)).heap[q]?=v0.heap[q]?:=fun q h1 h2=>(heap_setCell_other _ _ _ _ (by simp;omega)).trans ((heap_setCell_other _ _ _ _ (by simp;omega)).trans ((heap_setCell_other _ _ _ _ (by simp;omega)).trans ((heap_setCell_other _ _ _ _ (by simp;omega)).trans ((heap_setCell_other _ _ _ _ (by simp;omega)).trans ((heap_setCell_other _ _ _ _ (by simp;omega)).trans (heap_setCell_other _ _ _ _ (by simp;omega)))))))
 have hBf:Below w.heap.size w (((((((v0.setCell ⟨bx,4,none⟩ (.slice X0 init.length d0)).setCell ⟨b1,0,none⟩ (.string ⟨nm.toArray⟩)).setCell ⟨b1,1,none⟩ (.int .i64 tk)).setCell ⟨b1,2,none⟩ (.int .i64 tp)).setCell ⟨b1,3,none⟩ (.int .i64 tl)).setCell ⟨b1,4,none⟩ (.slice X0 init.length d0)).setCell ⟨b1,5,none⟩ (.int .i64 pos)):=Below.setCell (Below.setCell (Below.setCell (Below.setCell (Below.setCell (Below.setCell (Below.setCell hB0 (by simp;omega) _) (by simp;omega) _) (by simp;omega) _) (by simp;omega) _) (by simp;omega) _) (by simp;omega) _) (by simp;omega) _
 have hsz:(((((((v0.setCell ⟨bx,4,none⟩ (.slice X0 init.length d0)).setCell ⟨b1,0,none⟩ (.string ⟨nm.toArray⟩)).setCell ⟨b1,1,none⟩ (.int .i64 tk)).setCell ⟨b1,2,none⟩ (.int .i64 tp)).setCell ⟨b1,3,none⟩ (.int .i64 tl)).setCell ⟨b1,4,none⟩ (.slice X0 init.length d0)).setCell ⟨b1,5,none⟩ (.int .i64 pos)).heap.size=v0.heap.size:=by simp [World.setCell]
 generalize ((((((v0.setCell ⟨bx,4,none⟩ (.slice X0 init.length d0)).setCell ⟨b1,0,none⟩ (.string ⟨nm.toArray⟩)).setCell ⟨b1,1,none⟩ (.int .i64 tk)).setCell ⟨b1,2,none⟩ (.int .i64 tp)).setCell ⟨b1,3,none⟩ (.int .i64 tl)).setCell ⟨b1,4,none⟩ (.slice X0 init.length d0)).setCell ⟨b1,5,none⟩ (.int .i64 pos)=wf at *
 refine bodyPost_ret (v:=.agg #[.string ⟨nm.toArray⟩,.int .i64 tk,.int .i64 tp,.int .i64 tl,.slice X0 init.length d0,.int .i64 pos]) (by simp [results,Tryz.results78,go_sem,z0z,z1z,z2z,z3z,z4z,z5z]) rfl ?_
 refine ⟨[.string ⟨nm.toArray⟩,.int .i64 tk,.int .i64 tp,.int .i64 tl,.slice X0 init.length d0,.int .i64 pos],rfl,?_,hBf⟩
 rw [hsz]
 have S0:=Sep.keep (w':=wf) _ _ _ _ (fun q h1 h2=>hk q (by omega) (by omega)) s0.out
 exact sep_de' (x:=⟨nm,⟨tk,tp,tl⟩,init,pos⟩) (by omega) (Sep.mono _ _ _ _ _ _ (by omega) (Nat.le_refl _) S0)
theorem copyDecls_of (l:List De) (hl:l.length≤1000000000) (ih:∀ x ∈ l,CopyDeOk x) (A:Option Addr) (c:Nat) (w:World) (hp:RepT w (.lst 6 (l.map encDe)) [.slice A l.length c]) :
  Calls Tryz.prog 54 #[.slice A l.length c] w (CopyRets w 6 (l.map encDe)):=by
 have h:=copys_any (T:=24) (E:=56) (I:=3) (cal:=78) (z:=6) (bytes:=72) (zero:=.agg #[.string ⟨#[]⟩,.int .i64 0,.int .i64 0,.int .i64 0,.slice none 0 0,.int .i64 0]) (p:=fun i=>["help.go:205", "help.go:206", "help.go:207", "help.go:208", "help.go:210"].getD i "") Tryz.func54 (by kernel_rfl) rfl rfl Tryz.underlying3 Tryz.underlying24 Tryz.underlying56 (by kernel_rfl) rfl (by decide) (by decide) (by decide) (fun _ _=>by kernel_rfl) (l.map encDe) (by simpa using hl) (fun i hi cs W h1=>by
  rw [List.getElem_map] at h1 ⊢
  exact ih _ (List.getElem_mem _) cs W h1) (fun i hi W a b cs h=>by
  rw [List.getElem_map] at h
  obtain ⟨_,_,rfl,_⟩:=sep_de h;rfl) A c w (by rw [List.length_map];exact hp)
 rw [List.length_map] at h
 exact h
def CopyFnOk (x:Fn):Prop:=∀ cs W,RepT W (encFn x) cs→Calls Tryz.prog 79 #[.agg cs.toArray] W (CopyRet W (encFn x))
theorem copyFn_of (x:Fn) (ih0:∀ A c w,RepT w (.lst 6 (x.params.map encDe)) [.slice A x.params.length c]→Calls Tryz.prog 54 #[.slice A x.params.length c] w (CopyRets w 6 (x.params.map encDe))) (ih1:∀ A c w,RepT w (.lst 9 (x.body.map encSt)) [.slice A x.body.length c]→Calls Tryz.prog 95 #[.slice A x.body.length c] w (CopyRets w 9 (x.body.map encSt))) (ih2:∀ A c w,RepT w (.lst 6 (x.locals.map encDe)) [.slice A x.locals.length c]→Calls Tryz.prog 54 #[.slice A x.locals.length c] w (CopyRets w 6 (x.locals.map encDe))):CopyFnOk x:=by
 intro cs w hp
 obtain ⟨A0,c0,A1,c1,A2,c2,rfl,h0,h1,h2⟩:=rep_fn.1 hp
 clear hp
 have h0:=Lib.hid h0
 have h1:=Lib.hid h1
 have h2:=Lib.hid h2
 obtain ⟨nm,⟨tk,tp,tl⟩,params,body,locals,pos⟩:=x
 simp only [fnC,strV8] at *
 go_enter Tryz.func79,Tryz.ntmps79
 go_wp2_with fail
 obtain ⟨b1,hb1⟩:∃ b,Hid (w.heap.size + 1=b):=⟨_,Lib.hid rfl⟩
 obtain ⟨bx,hbx⟩:∃ b,Hid (w.heap.size + 1 + 1=b):=⟨_,Lib.hid rfl⟩
 obtain ⟨y1,y2,y3,hB,hz⟩:BlkIs (((w.alloc (.cells #[.string ⟨nm.toArray⟩,.int .i64 tk,.int .i64 tp,.int .i64 tl,.slice A0 params.length c0,.slice A1 body.length c1,.slice A2 locals.length c2,.int .i64 pos] 60)).alloc (.cells #[.string ⟨#[]⟩,.int .i64 0,.int .i64 0,.int .i64 0,.slice none 0 0,.slice none 0 0,.slice none 0 0,.int .i64 0] 60)).alloc (.cells #[.string ⟨nm.toArray⟩,.int .i64 tk,.int .i64 tp,.int .i64 tl,.slice A0 params.length c0,.slice A1 body.length c1,.slice A2 locals.length c2,.int .i64 pos] 60)) w.heap.size 60 #[.string ⟨nm.toArray⟩,.int .i64 tk,.int .i64 tp,.int .i64 tl,.slice A0 params.length c0,.slice A1 body.length c1,.slice A2 locals.length c2,.int .i64 pos]∧BlkIs (((w.alloc (.cells #[.string ⟨nm.toArray⟩,.int .i64 tk,.int .i64 tp,.int .i64 tl,.slice A0 params.length c0,.slice A1 body.length c1,.slice A2 locals.length c2,.int .i64 pos] 60)).alloc (.cells #[.string ⟨#[]⟩,.int .i64 0,.int .i64 0,.int .i64 0,.slice none 0 0,.slice none 0 0,.slice none 0 0,.int .i64 0] 60)).alloc (.cells #[.string ⟨nm.toArray⟩,.int .i64 tk,.int .i64 tp,.int .i64 tl,.slice A0 params.length c0,.slice A1 body.length c1,.slice A2 locals.length c2,.int .i64 pos] 60)) b1 60 #[.string ⟨#[]⟩,.int .i64 0,.int .i64 0,.int .i64 0,.slice none 0 0,.slice none 0 0,.slice none 0 0,.int .i64 0]∧BlkIs (((w.alloc (.cells #[.string ⟨nm.toArray⟩,.int .i64 tk,.int .i64 tp,.int .i64 tl,.slice A0 params.length c0,.slice A1 body.length c1,.slice A2 locals.length c2,.int .i64 pos] 60)).alloc (.cells #[.string ⟨#[]⟩,.int .i64 0,.int .i64 0,.int .i64 0,.slice none 0 0,.slice none 0 0,.slice none 0 0,.int .i64 0] 60)).alloc (.cells #[.string ⟨nm.toArray⟩,.int .i64 tk,.int .i64 tp,.int .i64 tl,.slice A0 params.length c0,.slice A1 body.length c1,.slice A2 locals.length c2,.int .i64 pos] 60)) bx 60 #[.string ⟨nm.toArray⟩,.int .i64 tk,.int .i64 tp,.int .i64 tl,.slice A0 params.length c0,.slice A1 body.length c1,.slice A2 locals.length c2,.int .i64 pos]∧Below w.heap.size w (((w.alloc (.cells #[.string ⟨nm.toArray⟩,.int .i64 tk,.int .i64 tp,.int .i64 tl,.slice A0 params.length c0,.slice A1 body.length c1,.slice A2 locals.length c2,.int .i64 pos] 60)).alloc (.cells #[.string ⟨#[]⟩,.int .i64 0,.int .i64 0,.int .i64 0,.slice none 0 0,.slice none 0 0,.slice none 0 0,.int .i64 0] 60)).alloc (.cells #[.string ⟨nm.toArray⟩,.int .i64 tk,.int .i64 tp,.int .i64 tl,.slice A0 params.length c0,.slice A1 body.length c1,.slice A2 locals.length c2,.int .i64 pos] 60))∧bx<(((w.alloc (.cells #[.string ⟨nm.toArray⟩,.int .i64 tk,.int .i64 tp,.int .i64 tl,.slice A0 params.length c0,.slice A1 body.length c1,.slice A2 locals.length c2,.int .i64 pos] 60)).alloc (.cells #[.string ⟨#[]⟩,.int .i64 0,.int .i64 0,.int .i64 0,.slice none 0 0,.slice none 0 0,.slice none 0 0,.int .i64 0] 60)).alloc (.cells #[.string ⟨nm.toArray⟩,.int .i64 tk,.int .i64 tp,.int .i64 tl,.slice A0 params.length c0,.slice A1 body.length c1,.slice A2 locals.length c2,.int .i64 pos] 60)).heap.size:=⟨((BlkIs.fresh _ _ _).alloc _).alloc _,BlkIs.alloc (BlkIs.fresh_at (by have:=hb1.out;simp;omega)) _,BlkIs.fresh_at (by have:=hbx.out;simp;omega),Below.alloc (Below.alloc (below_alloc _ _) (by simp) _) (by simp;omega) _,by have:=hbx.out;simp;omega⟩
 have hl1:w.heap.size<b1:=by have:=hb1.out;omega
 have hl2:b1<bx:=by have:=hb1.out;have:=hbx.out;omega
 rw [hbx.out,hb1.out]
 generalize ((w.alloc (.cells #[.string ⟨nm.toArray⟩,.int .i64 tk,.int .i64 tp,.int .i64 tl,.slice A0 params.length c0,.slice A1 body.length c1,.slice A2 locals.length c2,.int .i64 pos] 60)).alloc (.cells #[.string ⟨#[]⟩,.int .i64 0,.int .i64 0,.int .i64 0,.slice none 0 0,.slice none 0 0,.slice none 0 0,.int .i64 0] 60)).alloc (.cells #[.string ⟨nm.toArray⟩,.int .i64 tk,.int .i64 tp,.int .i64 tl,.slice A0 params.length c0,.slice A1 body.length c1,.slice A2 locals.length c2,.int .i64 pos] 60)=w0 at *
 refine (ih0 _ _ _ (Rep.below h0.out hB)).mono ?_
 rintro e v0 ⟨X0,d0,rfl,s0,hb0⟩
 simp only [List.length_map] at s0 ⊢
 have hB0:=hB.trans (hb0.mono hB.size)
 have z0:=hb0.size
 have y1:=y1.below hb0 (by omega)
 have y2:=y2.below hb0 (by omega)
 have y3:=y3.below hb0 (by omega)
 have s0:=Lib.hid s0
 have p5:=y1.cell 5
 have q4:=y3.cell 4
 have g4:=y3.frozen 4
 simp at p5 q4
 have l3:=y3.lt
 have l2:=y2.lt
 clear hB hb0
 go_wp2_with fail
 clear p5 q4 g4 l3 l2
 have y1:=y1.far (p:=⟨bx,4,none⟩) (by simp;omega) (.slice X0 params.length d0)
 have y2:=y2.far (p:=⟨bx,4,none⟩) (by simp;omega) (.slice X0 params.length d0)
 have y3:=y3.put 4 (.slice X0 params.length d0)
 have hB:=Below.setCell hB0 (p:=⟨bx,4,none⟩) (by simp;omega) (.slice X0 params.length d0)
 have s0:=Lib.hid (Sep.keep (w':=v0.setCell ⟨bx,4,none⟩ (.slice X0 params.length d0)) _ _ _ _ (fun q h1 h2=>heap_setCell_other _ _ _ _ (by simp;omega)) s0.out)
 have hz:bx<(v0.setCell ⟨bx,4,none⟩ (.slice X0 params.length d0)).heap.size:=by simp [World.setCell];omega
 obtain ⟨w1,hw1⟩:∃ W,Hid (v0.setCell ⟨bx,4,none⟩ (.slice X0 params.length d0)=W):=⟨_,Lib.hid rfl⟩
 have hs1:v0.heap.size=w1.heap.size:=by rw [← hw1.out];simp [World.setCell]
 rw [hw1.out] at y1 y2 y3 hB hz s0 ⊢
 simp at y3
 refine (ih1 _ _ _ (Rep.below h1.out hB)).mono ?_
 rintro e v1 ⟨X1,d1,rfl,s1,hb1⟩
 simp only [List.length_map] at s1 ⊢
 have hB1:=hB.trans (hb1.mono hB.size)
 have z1:=hb1.size
 have y1:=y1.below hb1 (by omega)
 have y2:=y2.below hb1 (by omega)
 have y3:=y3.below hb1 (by omega)
 have s0:=Lib.hid (Sep.keep _ _ _ _ (fun q h1 h2=>hb1.block q (by omega)) s0.out)
 have s1:=Lib.hid s1
 have p6:=y1.cell 6
 have q5:=y3.cell 5
 have g5:=y3.frozen 5
 simp at p6 q5
 have l3:=y3.lt
 have l2:=y2.lt
 clear hB hb1
 go_wp2_with fail
 clear p6 q5 g5 l3 l2
 have y1:=y1.far (p:=⟨bx,5,none⟩) (by simp;omega) (.slice X1 body.length d1)
 have y2:=y2.far (p:=⟨bx,5,none⟩) (by simp;omega) (.slice X1 body.length d1)
 have y3:=y3.put 5 (.slice X1 body.length d1)
 have hB:=Below.setCell hB1 (p:=⟨bx,5,none⟩) (by simp;omega) (.slice X1 body.length d1)
 have s0:=Lib.hid (Sep.keep (w':=v1.setCell ⟨bx,5,none⟩ (.slice X1 body.length d1)) _ _ _ _ (fun q h1 h2=>heap_setCell_other _ _ _ _ (by simp;omega)) s0.out)
 have s1:=Lib.hid (Sep.keep (w':=v1.setCell ⟨bx,5,none⟩ (.slice X1 body.length d1)) _ _ _ _ (fun q h1 h2=>heap_setCell_other _ _ _ _ (by simp;omega)) s1.out)
 have hz:bx<(v1.setCell ⟨bx,5,none⟩ (.slice X1 body.length d1)).heap.size:=by simp [World.setCell];omega
 obtain ⟨w2,hw2⟩:∃ W,Hid (v1.setCell ⟨bx,5,none⟩ (.slice X1 body.length d1)=W):=⟨_,Lib.hid rfl⟩
 have hs2:v1.heap.size=w2.heap.size:=by rw [← hw2.out];simp [World.setCell]
 rw [hw2.out] at y1 y2 y3 hB hz s0 s1 ⊢
 simp at y3
 refine (ih2 _ _ _ (Rep.below h2.out hB)).mono ?_
 rintro e v2 ⟨X2,d2,rfl,s2,hb2⟩
 simp only [List.length_map] at s2 ⊢
 have hB2:=hB.trans (hb2.mono hB.size)
 have z2:=hb2.size
 have y1:=y1.below hb2 (by omega)
 have y2:=y2.below hb2 (by omega)
 have y3:=y3.below hb2 (by omega)
 have s0:=Lib.hid (Sep.keep _ _ _ _ (fun q h1 h2=>hb2.block q (by omega)) s0.out)
 have s1:=Lib.hid (Sep.keep _ _ _ _ (fun q h1 h2=>hb2.block q (by omega)) s1.out)
 have s2:=Lib.hid s2
 have q0:=y3.cell 0
 have g0:=y3.frozen 0
 have q1:=y3.cell 1
 have g1:=y3.frozen 1
 have q2:=y3.cell 2
 have g2:=y3.frozen 2
 have q3:=y3.cell 3
 have g3:=y3.frozen 3
 have q4:=y3.cell 4
 have g4:=y3.frozen 4
 have q5:=y3.cell 5
 have g5:=y3.frozen 5
 have q6:=y3.cell 6
 have g6:=y3.frozen 6
 have q7:=y3.cell 7
 have g7:=y3.frozen 7
 have r0:=y2.cell 0
 have t0:=y2.frozen 0
 have r1:=y2.cell 1
 have t1:=y2.frozen 1
 have r2:=y2.cell 2
 have t2:=y2.frozen 2
 have r3:=y2.cell 3
 have t3:=y2.frozen 3
 have r4:=y2.cell 4
 have t4:=y2.frozen 4
 have r5:=y2.cell 5
 have t5:=y2.frozen 5
 have r6:=y2.cell 6
 have t6:=y2.frozen 6
 have r7:=y2.cell 7
 have t7:=y2.frozen 7
 simp at q0 q1 q2 q3 q4 q5 q6 q7 r0 r1 r2 r3 r4 r5 r6 r7
 have l3:=y3.lt
 have l2:=y2.lt
 clear hB hb2
 go_wp2_with fail
 have yy:=(((((((((y2.far (p:=⟨bx,6,none⟩) (by simp;omega) (.slice X2 locals.length d2)).put 0 (.string ⟨nm.toArray⟩)).put 1 (.int .i64 tk)).put 2 (.int .i64 tp)).put 3 (.int .i64 tl)).put 4 (.slice X0 params.length d0)).put 5 (.slice X1 body.length d1)).put 6 (.slice X2 locals.length d2)).put 7 (.int .i64 pos))
 have z0z:=yy.cell 0
 have z1z:=yy.cell 1
 have z2z:=yy.cell 2
 have z3z:=yy.cell 3
 have z4z:=yy.cell 4
 have z5z:=yy.cell 5
 have z6z:=yy.cell 6
 have z7z:=yy.cell 7
 simp at z0z z1z z2z z3z z4z z5z z6z z7z
 have hk:∀ q,bx<q→q<v2.heap.size→(((((((((v2.setCell ⟨bx,6,none⟩ (.slice X2 locals.length d2)).setCell ⟨b1,0,none⟩ (.string ⟨nm.toArray⟩)).setCell ⟨b1,1,none⟩ (.int .i64 tk)).setCell ⟨b1,2,none⟩ (.int .i64 tp)).setCell ⟨b1,3,none⟩ (.int .i64 tl)).setCell ⟨b1,4,none⟩ (.slice X0 params.length d0)).setCell ⟨b1,5,none⟩ (.slice X1 body.length d1)).setCell ⟨b1,6,none⟩ (.slice X2 locals.length d2)).setCell ⟨b1,7,none⟩ (.int .i64 pos)).heap[q]?=v2.heap[q]?:=fun q h1 h2=>(heap_setCell_other _ _ _ _ (by simp;omega)).trans ((heap_setCell_other _ _ _ _ (by simp;omega)).trans ((heap_setCell_other _ _ _ _ (by simp;omega)).trans ((heap_setCell_other _ _ _ _ (by simp;omega)).trans ((heap_setCell_other _ _ _ _ (by simp;omega)).trans ((heap_setCell_other _ _ _ _ (by simp;omega)).trans ((heap_setCell_other _ _ _ _ (by simp;omega)).trans ((heap_setCell_other _ _ _ _ (by simp;omega)).trans (heap_setCell_other _ _ _ _ (by simp;omega)))))))))
 have hBf:Below w.heap.size w (((((((((v2.setCell ⟨bx,6,none⟩ (.slice X2 locals.length d2)).setCell ⟨b1,0,none⟩ (.string ⟨nm.toArray⟩)).setCell ⟨b1,1,none⟩ (.int .i64 tk)).setCell ⟨b1,2,none⟩ (.int .i64 tp)).setCell ⟨b1,3,none⟩ (.int .i64 tl)).setCell ⟨b1,4,none⟩ (.slice X0 params.length d0)).setCell ⟨b1,5,none⟩ (.slice X1 body.length d1)).setCell ⟨b1,6,none⟩ (.slice X2 locals.length d2)).setCell ⟨b1,7,none⟩ (.int .i64 pos)):=Below.setCell (Below.setCell (Below.setCell (Below.setCell (Below.setCell (Below.setCell (Below.setCell (Below.setCell (Below.setCell hB2 (by simp;omega) _) (by simp;omega) _) (by simp;omega) _) (by simp;omega) _) (by simp;omega) _) (by simp;omega) _) (by simp;omega) _) (by simp;omega) _) (by simp;omega) _
 have hsz:(((((((((v2.setCell ⟨bx,6,none⟩ (.slice X2 locals.length d2)).setCell ⟨b1,0,none⟩ (.string ⟨nm.toArray⟩)).setCell ⟨b1,1,none⟩ (.int .i64 tk)).setCell ⟨b1,2,none⟩ (.int .i64 tp)).setCell ⟨b1,3,none⟩ (.int .i64 tl)).setCell ⟨b1,4,none⟩ (.slice X0 params.length d0)).setCell ⟨b1,5,none⟩ (.slice X1 body.length d1)).setCell ⟨b1,6,none⟩ (.slice X2 locals.length d2)).setCell ⟨b1,7,none⟩ (.int .i64 pos)).heap.size=v2.heap.size:=by simp [World.setCell]
 generalize ((((((((v2.setCell ⟨bx,6,none⟩ (.slice X2 locals.length d2)).setCell ⟨b1,0,none⟩ (.string ⟨nm.toArray⟩)).setCell ⟨b1,1,none⟩ (.int .i64 tk)).setCell ⟨b1,2,none⟩ (.int .i64 tp)).setCell ⟨b1,3,none⟩ (.int .i64 tl)).setCell ⟨b1,4,none⟩ (.slice X0 params.length d0)).setCell ⟨b1,5,none⟩ (.slice X1 body.length d1)).setCell ⟨b1,6,none⟩ (.slice X2 locals.length d2)).setCell ⟨b1,7,none⟩ (.int .i64 pos)=wf at *
 refine bodyPost_ret (v:=.agg #[.string ⟨nm.toArray⟩,.int .i64 tk,.int .i64 tp,.int .i64 tl,.slice X0 params.length d0,.slice X1 body.length d1,.slice X2 locals.length d2,.int .i64 pos]) (by simp [results,Tryz.results79,go_sem,z0z,z1z,z2z,z3z,z4z,z5z,z6z,z7z]) rfl ?_
 refine ⟨[.string ⟨nm.toArray⟩,.int .i64 tk,.int .i64 tp,.int .i64 tl,.slice X0 params.length d0,.slice X1 body.length d1,.slice X2 locals.length d2,.int .i64 pos],rfl,?_,hBf⟩
 rw [hsz]
 have S0:=Sep.keep (w':=wf) _ _ _ _ (fun q h1 h2=>hk q (by omega) (by omega)) s0.out
 have S1:=Sep.keep (w':=wf) _ _ _ _ (fun q h1 h2=>hk q (by omega) (by omega)) s1.out
 have S2:=Sep.keep (w':=wf) _ _ _ _ (fun q h1 h2=>hk q (by omega) (by omega)) s2.out
 exact sep_fn' (x:=⟨nm,⟨tk,tp,tl⟩,params,body,locals,pos⟩) (m1:=w1.heap.size) (m2:=w2.heap.size) (by omega) (by omega) (by omega) (Sep.mono _ _ _ _ _ _ (by omega) (by omega) S0) (Sep.mono _ _ _ _ _ _ (Nat.le_refl _) (by omega) S1) S2
theorem copyFuncs_of (l:List Fn) (hl:l.length≤1000000000) (ih:∀ x ∈ l,CopyFnOk x) (A:Option Addr) (c:Nat) (w:World) (hp:RepT w (.lst 8 (l.map encFn)) [.slice A l.length c]) :
  Calls Tryz.prog 55 #[.slice A l.length c] w (CopyRets w 8 (l.map encFn)):=by
 have h:=copys_any (T:=25) (E:=60) (I:=3) (cal:=79) (z:=8) (bytes:=120) (zero:=.agg #[.string ⟨#[]⟩,.int .i64 0,.int .i64 0,.int .i64 0,.slice none 0 0,.slice none 0 0,.slice none 0 0,.int .i64 0]) (p:=fun i=>["help.go:241", "help.go:242", "help.go:243", "help.go:244", "help.go:246"].getD i "") Tryz.func55 (by kernel_rfl) rfl rfl Tryz.underlying3 Tryz.underlying25 Tryz.underlying60 (by kernel_rfl) rfl (by decide) (by decide) (by decide) (fun _ _=>by kernel_rfl) (l.map encFn) (by simpa using hl) (fun i hi cs W h1=>by
  rw [List.getElem_map] at h1 ⊢
  exact ih _ (List.getElem_mem _) cs W h1) (fun i hi W a b cs h=>by
  rw [List.getElem_map] at h
  obtain ⟨_,_,_,_,_,_,_,_,_,_,_,rfl,_⟩:=sep_fn h;rfl) A c w (by rw [List.length_map];exact hp)
 rw [List.length_map] at h
 exact h
end Go.Proofs.YtdmacgoeikjdbaaGreatDoor

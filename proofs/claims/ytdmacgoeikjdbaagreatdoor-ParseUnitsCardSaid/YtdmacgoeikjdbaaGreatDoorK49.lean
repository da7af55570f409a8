/- EqUnit and all that it calls, at the same data: true. (Printed by wip/ -/
import Derived.Test.YtdmacgoeikjdbaaGreatDoorK48
import Derived.Test.YtdmacgoeikjdbaaGreatDoorK06
import Derived.Test.YtdmacgoeikjdbaaGreatDoorK03
set_option maxHeartbeats 2000000
namespace Go.Proofs.YtdmacgoeikjdbaaGreatDoor
open Go.RowKit
theorem follows_mixed:Tryz.prog.follows .mixedOrders=true:=by kernel_rfl
def deC (x:De) (A:Option Addr) (c:Nat):List Value:=[strV8 x.name,.int .i64 x.ty.kind,.int .i64 x.ty.ptr,.int .i64 x.ty.len,.slice A x.init.length c,.int .i64 x.pos]
def fnC (x:Fn) (A:Option Addr) (c:Nat) (B:Option Addr) (d:Nat) (E:Option Addr) (f:Nat):List Value:=[strV8 x.name,.int .i64 x.ret.kind,.int .i64 x.ret.ptr,.int .i64 x.ret.len,.slice A x.params.length c,.slice B x.body.length d,.slice E x.locals.length f,.int .i64 x.pos]
theorem rep_de {w:World} {ok:Nat→Prop} {x:De} {cs:List Value}:Rep w ok (encDe x) cs ↔ ∃ A c,cs=deC x A c∧Rep w ok (.lst 1 (x.init.map (.int .i64))) [.slice A x.init.length c]:=by
 unfold encDe
 constructor
 ·intro h
  unfold Rep at h
  obtain ⟨_,rfl,q1⟩:=repAll_str.1 h
  obtain ⟨_,rfl,q2⟩:=repAll_int.1 q1
  obtain ⟨_,rfl,q3⟩:=repAll_int.1 q2
  obtain ⟨_,rfl,q4⟩:=repAll_int.1 q3
  obtain ⟨A,c,_,rfl,h1,q5⟩:=repAll_lst.1 q4
  obtain ⟨_,rfl,q6⟩:=repAll_int.1 q5
  obtain rfl:=repAll_nil q6
  rw [List.length_map] at h1
  exact ⟨A,c,by simp [deC],h1⟩
 ·rintro ⟨A,c,rfl,h⟩
  unfold Rep
  have e:(x.init.map (D.int .i64)).length=x.init.length:=List.length_map _
  exact repAll_str.2 ⟨_,rfl,repAll_int.2 ⟨_,rfl,repAll_int.2 ⟨_,rfl,repAll_int.2 ⟨_,rfl,repAll_lst.2 ⟨A,c,_,by rw [e],by rw [e];exact h,repAll_int.2 ⟨_,rfl,by unfold RepAll;rfl⟩⟩⟩⟩⟩⟩
theorem rep_fn {w:World} {ok:Nat→Prop} {x:Fn} {cs:List Value}:Rep w ok (encFn x) cs ↔ ∃ A c B d E f,cs=fnC x A c B d E f∧Rep w ok (.lst 6 (x.params.map encDe)) [.slice A x.params.length c]∧Rep w ok (.lst 9 (x.body.map encSt)) [.slice B x.body.length d]∧Rep w ok (.lst 6 (x.locals.map encDe)) [.slice E x.locals.length f]:=by
 unfold encFn
 constructor
 ·intro h
  unfold Rep at h
  obtain ⟨_,rfl,q1⟩:=repAll_str.1 h
  obtain ⟨_,rfl,q2⟩:=repAll_int.1 q1
  obtain ⟨_,rfl,q3⟩:=repAll_int.1 q2
  obtain ⟨_,rfl,q4⟩:=repAll_int.1 q3
  obtain ⟨A,c,_,rfl,h1,q5⟩:=repAll_lst.1 q4
  obtain ⟨B,d,_,rfl,h2,q6⟩:=repAll_lst.1 q5
  obtain ⟨E,f,_,rfl,h3,q7⟩:=repAll_lst.1 q6
  obtain ⟨_,rfl,q8⟩:=repAll_int.1 q7
  obtain rfl:=repAll_nil q8
  rw [List.length_map] at h1 h2 h3
  exact ⟨A,c,B,d,E,f,by simp [fnC],h1,h2,h3⟩
 ·rintro ⟨A,c,B,d,E,f,rfl,h1,h2,h3⟩
  unfold Rep
  have e1:(x.params.map encDe).length=x.params.length:=List.length_map _
  have e2:(x.body.map encSt).length=x.body.length:=List.length_map _
  have e3:(x.locals.map encDe).length=x.locals.length:=List.length_map _
  exact repAll_str.2 ⟨_,rfl,repAll_int.2 ⟨_,rfl,repAll_int.2 ⟨_,rfl,repAll_int.2 ⟨_,rfl,repAll_lst.2 ⟨A,c,_,by rw [e1],by rw [e1];exact h1,repAll_lst.2 ⟨B,d,_,by rw [e2],by rw [e2];exact h2,repAll_lst.2 ⟨E,f,_,by rw [e3],by rw [e3];exact h3,repAll_int.2 ⟨_,rfl,by unfold RepAll;rfl⟩⟩⟩⟩⟩⟩⟩⟩
theorem boxes2 (w:World) (t:TypeId) (cs cs':Array Value):Below w.heap.size w ((w.alloc (.cells cs t)).alloc (.cells cs' t))∧BlkIs ((w.alloc (.cells cs t)).alloc (.cells cs' t)) w.heap.size t cs∧BlkIs ((w.alloc (.cells cs t)).alloc (.cells cs' t)) (w.heap.size + 1) t cs'∧w.heap.size + 2=((w.alloc (.cells cs t)).alloc (.cells cs' t)).heap.size:=
 ⟨Below.alloc (below_alloc _ _) (by simp) _,(BlkIs.fresh _ _ _).alloc _,BlkIs.fresh_at (by simp),by simp⟩
theorem boxes2_on {w w1 w2:World} {t:TypeId} {cs cs':Array Value} (h:Below w.heap.size w w1∧BlkIs w1 w.heap.size t cs∧BlkIs w1 (w.heap.size + 1) t cs'∧w.heap.size + 2≤w1.heap.size) (hb:Below w1.heap.size w1 w2):Below w.heap.size w w2∧BlkIs w2 w.heap.size t cs∧BlkIs w2 (w.heap.size + 1) t cs'∧w.heap.size + 2≤w2.heap.size:=
 ⟨h.1.trans (hb.mono h.1.size),h.2.1.below hb (by omega),h.2.2.1.below hb (by omega),by have:=hb.size;omega⟩
theorem eqLongs_any (l:List Int) (A A':Option Addr) (c c':Nat) (w:World) (hp:RepT w (.lst 1 (l.map (.int .i64))) [.slice A l.length c]) (hq:RepT w (.lst 1 (l.map (.int .i64))) [.slice A' l.length c']):Calls Tryz.prog 76 #[.slice A l.length c,.slice A' l.length c'] w (TrueBelow w):=
 eqInts_any (T:=54) (E:=2) (I:=3) (B:=4) (p:=fun i=>["help.go:27", "help.go:28", "help.go:29", "help.go:31", "help.go:32", "help.go:33", "help.go:36"].getD i "") follows_mixed Tryz.func76 (by kernel_rfl) rfl rfl Tryz.underlying3 Tryz.underlying54 Tryz.underlying2 (by kernel_rfl) l A A' c c' w hp hq
theorem below2 (w:World) (o o':Obj):Below w.heap.size w ((w.alloc o).alloc o'):=Below.alloc (below_alloc _ _) (by simp) _
def EqExOk (x:Ex):Prop:=∀ cs cs' W,RepT W (encEx x) cs→RepT W (encEx x) cs'→Calls Tryz.prog 116 #[.agg cs.toArray,.agg cs'.toArray] W (TrueBelow W)
theorem eqEx_of (x:Ex) (ih0:∀ A A' c c' w,RepT w (.lst 8 (x.kids.map encEx)) [.slice A x.kids.length c]→RepT w (.lst 8 (x.kids.map encEx)) [.slice A' x.kids.length c']→Calls Tryz.prog 106 #[.slice A x.kids.length c,.slice A' x.kids.length c'] w (TrueBelow w)):EqExOk x:=by
 intro cs cs' w hp hq
 obtain ⟨A0,c0,rfl,h0⟩:=rep_ex.1 hp
 obtain ⟨B0,d0,rfl,g0⟩:=rep_ex.1 hq
 clear hp hq
 have h0:=Lib.hid h0
 have g0:=Lib.hid g0
 unfold exC
 obtain ⟨op,⟨tk,tp,tl⟩,nm,n,kids,pos⟩:=x
 simp only [Ex.op,Ex.ty,Ex.name,Ex.n,Ex.kids,Ex.pos,strV8] at *
 go_enter Tryz.func116,Tryz.ntmps116
 go_wp2_with fail
 refine (ih0 _ _ _ _ _ (Rep.below h0.out (below2 _ _ _)) (Rep.below g0.out (below2 _ _ _))).mono ?_
 rintro e w1 ⟨rfl,hb1⟩
 have b1:=boxes2_on (let h:=boxes2 _ _ _ _;⟨h.1,h.2.1,h.2.2.1,Nat.le_of_eq h.2.2.2⟩) hb1
 have x1_7:=b1.2.1.cell 7
 have y1_7:=b1.2.2.1.cell 7
 simp at x1_7 y1_7
 go_wp2_with fail
 refine bodyPost_ret (results_tmp rfl _ _ _) rfl ?_
 exact ⟨rfl,b1.1⟩
theorem eqExprs_of (l:List Ex) (ih:∀ x ∈ l,EqExOk x) (A A':Option Addr) (c c':Nat) (w:World) (hp:RepT w (.lst 8 (l.map encEx)) [.slice A l.length c]) (hq:RepT w (.lst 8 (l.map encEx)) [.slice A' l.length c']) :
  Calls Tryz.prog 106 #[.slice A l.length c,.slice A' l.length c'] w (TrueBelow w):=by
 have h:=eqs_any (T:=87) (E:=100) (I:=3) (B:=4) (cal:=116) (z:=8) (p:=fun i=>["help.go:123", "help.go:124", "help.go:125", "help.go:127", "help.go:128", "help.go:129", "help.go:132"].getD i "") follows_mixed Tryz.func106 (by kernel_rfl) rfl rfl Tryz.underlying3 Tryz.underlying4 Tryz.underlying87 Tryz.underlying100 (by kernel_rfl) (fun _ _=>by kernel_rfl) (l.map encEx) (fun i hi cs cs' W h1 h2=>by
  rw [List.getElem_map] at h1 h2
  exact ih _ (List.getElem_mem _) cs cs' W h1 h2) A A' c c' w (by rw [List.length_map];exact hp) (by rw [List.length_map];exact hq)
 rwa [List.length_map] at h
def EqStOk (x:St):Prop:=∀ cs cs' W,RepT W (encSt x) cs→RepT W (encSt x) cs'→Calls Tryz.prog 93 #[.agg cs.toArray,.agg cs'.toArray] W (TrueBelow W)
theorem eqSt_of (x:St) (ih0:∀ A A' c c' w,RepT w (.lst 8 (x.ex.map encEx)) [.slice A x.ex.length c]→RepT w (.lst 8 (x.ex.map encEx)) [.slice A' x.ex.length c']→Calls Tryz.prog 106 #[.slice A x.ex.length c,.slice A' x.ex.length c'] w (TrueBelow w)) (ih1:∀ A A' c c' w,RepT w (.lst 9 (x.body.map encSt)) [.slice A x.body.length c]→RepT w (.lst 9 (x.body.map encSt)) [.slice A' x.body.length c']→Calls Tryz.prog 77 #[.slice A x.body.length c,.slice A' x.body.length c'] w (TrueBelow w)):EqStOk x:=by
 intro cs cs' w hp hq
 obtain ⟨A0,c0,A1,c1,rfl,h0,h1⟩:=rep_st.1 hp
 obtain ⟨B0,d0,B1,d1,rfl,g0,g1⟩:=rep_st.1 hq
 clear hp hq
 have h0:=Lib.hid h0
 have g0:=Lib.hid g0
 have h1:=Lib.hid h1
 have g1:=Lib.hid g1
 unfold stC
 obtain ⟨op,ex,body,⟨tk,tp,tl⟩,nm,n,pos⟩:=x
 simp only [St.op,St.ex,St.body,St.ty,St.name,St.n,St.pos,strV8] at *
 go_enter Tryz.func93,Tryz.ntmps93
 go_wp2_with fail
 refine (ih0 _ _ _ _ _ (Rep.below h0.out (below2 _ _ _)) (Rep.below g0.out (below2 _ _ _))).mono ?_
 rintro e w1 ⟨rfl,hb1⟩
 have b1:=boxes2_on (let h:=boxes2 _ _ _ _;⟨h.1,h.2.1,h.2.2.1,Nat.le_of_eq h.2.2.2⟩) hb1
 have x1_2:=b1.2.1.cell 2
 have y1_2:=b1.2.2.1.cell 2
 have x1_3:=b1.2.1.cell 3
 have y1_3:=b1.2.2.1.cell 3
 have x1_4:=b1.2.1.cell 4
 have y1_4:=b1.2.2.1.cell 4
 have x1_5:=b1.2.1.cell 5
 have y1_5:=b1.2.2.1.cell 5
 have x1_6:=b1.2.1.cell 6
 have y1_6:=b1.2.2.1.cell 6
 have x1_7:=b1.2.1.cell 7
 have y1_7:=b1.2.2.1.cell 7
 have x1_8:=b1.2.1.cell 8
 have y1_8:=b1.2.2.1.cell 8
 simp at x1_2 y1_2 x1_3 y1_3 x1_4 y1_4 x1_5 y1_5 x1_6 y1_6 x1_7 y1_7 x1_8 y1_8
 go_wp2_with fail
 refine (ih1 _ _ _ _ _ (Rep.below h1.out b1.1) (Rep.below g1.out b1.1)).mono ?_
 rintro e w2 ⟨rfl,hb2⟩
 have b2:=boxes2_on b1 hb2
 clear x1_2 y1_2 x1_3 y1_3 x1_4 y1_4 x1_5 y1_5 x1_6 y1_6 x1_7 y1_7 x1_8 y1_8
 have x2_3:=b2.2.1.cell 3
 have y2_3:=b2.2.2.1.cell 3
 have x2_4:=b2.2.1.cell 4
 have y2_4:=b2.2.2.1.cell 4
 have x2_5:=b2.2.1.cell 5
 have y2_5:=b2.2.2.1.cell 5
 have x2_6:=b2.2.1.cell 6
 have y2_6:=b2.2.2.1.cell 6
 have x2_7:=b2.2.1.cell 7
 have y2_7:=b2.2.2.1.cell 7
 have x2_8:=b2.2.1.cell 8
 have y2_8:=b2.2.2.1.cell 8
 simp at x2_3 y2_3 x2_4 y2_4 x2_5 y2_5 x2_6 y2_6 x2_7 y2_7 x2_8 y2_8
 go_wp2_with fail
 refine bodyPost_ret (results_tmp rfl _ _ _) rfl ?_
 exact ⟨rfl,b2.1⟩
theorem eqStmts_of (l:List St) (ih:∀ x ∈ l,EqStOk x) (A A':Option Addr) (c c':Nat) (w:World) (hp:RepT w (.lst 9 (l.map encSt)) [.slice A l.length c]) (hq:RepT w (.lst 9 (l.map encSt)) [.slice A' l.length c']) :
  Calls Tryz.prog 77 #[.slice A l.length c,.slice A' l.length c'] w (TrueBelow w):=by
 have h:=eqs_any (T:=58) (E:=89) (I:=3) (B:=4) (cal:=93) (z:=9) (p:=fun i=>["help.go:158", "help.go:159", "help.go:160", "help.go:162", "help.go:163", "help.go:164", "help.go:167"].getD i "") follows_mixed Tryz.func77 (by kernel_rfl) rfl rfl Tryz.underlying3 Tryz.underlying4 Tryz.underlying58 Tryz.underlying89 (by kernel_rfl) (fun _ _=>by kernel_rfl) (l.map encSt) (fun i hi cs cs' W h1 h2=>by
  rw [List.getElem_map] at h1 h2
  exact ih _ (List.getElem_mem _) cs cs' W h1 h2) A A' c c' w (by rw [List.length_map];exact hp) (by rw [List.length_map];exact hq)
 rwa [List.length_map] at h
def EqDeOk (x:De):Prop:=∀ cs cs' W,RepT W (encDe x) cs→RepT W (encDe x) cs'→Calls Tryz.prog 51 #[.agg cs.toArray,.agg cs'.toArray] W (TrueBelow W)
theorem eqDe_of (x:De) (ih0:∀ A A' c c' w,RepT w (.lst 1 (x.init.map (.int .i64))) [.slice A x.init.length c]→RepT w (.lst 1 (x.init.map (.int .i64))) [.slice A' x.init.length c']→Calls Tryz.prog 76 #[.slice A x.init.length c,.slice A' x.init.length c'] w (TrueBelow w)):EqDeOk x:=by
 intro cs cs' w hp hq
 obtain ⟨A0,c0,rfl,h0⟩:=rep_de.1 hp
 obtain ⟨B0,d0,rfl,g0⟩:=rep_de.1 hq
 clear hp hq
 have h0:=Lib.hid h0
 have g0:=Lib.hid g0
 unfold deC
 obtain ⟨nm,⟨tk,tp,tl⟩,init,pos⟩:=x
 simp only [strV8] at *
 go_enter Tryz.func51,Tryz.ntmps51
 go_wp2_with fail
 refine (ih0 _ _ _ _ _ (Rep.below h0.out (below2 _ _ _)) (Rep.below g0.out (below2 _ _ _))).mono ?_
 rintro e w1 ⟨rfl,hb1⟩
 have b1:=boxes2_on (let h:=boxes2 _ _ _ _;⟨h.1,h.2.1,h.2.2.1,Nat.le_of_eq h.2.2.2⟩) hb1
 have x1_5:=b1.2.1.cell 5
 have y1_5:=b1.2.2.1.cell 5
 simp at x1_5 y1_5
 go_wp2_with fail
 refine bodyPost_ret (results_tmp rfl _ _ _) rfl ?_
 exact ⟨rfl,b1.1⟩
theorem eqDecls_of (l:List De) (ih:∀ x ∈ l,EqDeOk x) (A A':Option Addr) (c c':Nat) (w:World) (hp:RepT w (.lst 6 (l.map encDe)) [.slice A l.length c]) (hq:RepT w (.lst 6 (l.map encDe)) [.slice A' l.length c']) :
  Calls Tryz.prog 18 #[.slice A l.length c,.slice A' l.length c'] w (TrueBelow w):=by
 have h:=eqs_any (T:=24) (E:=56) (I:=3) (B:=4) (cal:=51) (z:=6) (p:=fun i=>["help.go:192", "help.go:193", "help.go:194", "help.go:196", "help.go:197", "help.go:198", "help.go:201"].getD i "") follows_mixed Tryz.func18 (by kernel_rfl) rfl rfl Tryz.underlying3 Tryz.underlying4 Tryz.underlying24 Tryz.underlying56 (by kernel_rfl) (fun _ _=>by kernel_rfl) (l.map encDe) (fun i hi cs cs' W h1 h2=>by
  rw [List.getElem_map] at h1 h2
  exact ih _ (List.getElem_mem _) cs cs' W h1 h2) A A' c c' w (by rw [List.length_map];exact hp) (by rw [List.length_map];exact hq)
 rwa [List.length_map] at h
def EqFnOk (x:Fn):Prop:=∀ cs cs' W,RepT W (encFn x) cs→RepT W (encFn x) cs'→Calls Tryz.prog 52 #[.agg cs.toArray,.agg cs'.toArray] W (TrueBelow W)
theorem eqFn_of (x:Fn) (ih0:∀ A A' c c' w,RepT w (.lst 6 (x.params.map encDe)) [.slice A x.params.length c]→RepT w (.lst 6 (x.params.map encDe)) [.slice A' x.params.length c']→Calls Tryz.prog 18 #[.slice A x.params.length c,.slice A' x.params.length c'] w (TrueBelow w)) (ih1:∀ A A' c c' w,RepT w (.lst 9 (x.body.map encSt)) [.slice A x.body.length c]→RepT w (.lst 9 (x.body.map encSt)) [.slice A' x.body.length c']→Calls Tryz.prog 77 #[.slice A x.body.length c,.slice A' x.body.length c'] w (TrueBelow w)) (ih2:∀ A A' c c' w,RepT w (.lst 6 (x.locals.map encDe)) [.slice A x.locals.length c]→RepT w (.lst 6 (x.locals.map encDe)) [.slice A' x.locals.length c']→Calls Tryz.prog 18 #[.slice A x.locals.length c,.slice A' x.locals.length c'] w (TrueBelow w)):EqFnOk x:=by
 intro cs cs' w hp hq
 obtain ⟨A0,c0,A1,c1,A2,c2,rfl,h0,h1,h2⟩:=rep_fn.1 hp
 obtain ⟨B0,d0,B1,d1,B2,d2,rfl,g0,g1,g2⟩:=rep_fn.1 hq
 clear hp hq
 have h0:=Lib.hid h0
 have g0:=Lib.hid g0
 have h1:=Lib.hid h1
 have g1:=Lib.hid g1
 have h2:=Lib.hid h2
 have g2:=Lib.hid g2
 unfold fnC
 obtain ⟨nm,⟨tk,tp,tl⟩,params,body,locals,pos⟩:=x
 simp only [strV8] at *
 go_enter Tryz.func52,Tryz.ntmps52
 go_wp2_with fail
 refine (ih0 _ _ _ _ _ (Rep.below h0.out (below2 _ _ _)) (Rep.below g0.out (below2 _ _ _))).mono ?_
 rintro e w1 ⟨rfl,hb1⟩
 have b1:=boxes2_on (let h:=boxes2 _ _ _ _;⟨h.1,h.2.1,h.2.2.1,Nat.le_of_eq h.2.2.2⟩) hb1
 have x1_5:=b1.2.1.cell 5
 have y1_5:=b1.2.2.1.cell 5
 have x1_6:=b1.2.1.cell 6
 have y1_6:=b1.2.2.1.cell 6
 have x1_7:=b1.2.1.cell 7
 have y1_7:=b1.2.2.1.cell 7
 simp at x1_5 y1_5 x1_6 y1_6 x1_7 y1_7
 go_wp2_with fail
 refine (ih1 _ _ _ _ _ (Rep.below h1.out b1.1) (Rep.below g1.out b1.1)).mono ?_
 rintro e w2 ⟨rfl,hb2⟩
 have b2:=boxes2_on b1 hb2
 clear x1_5 y1_5 x1_6 y1_6 x1_7 y1_7
 have x2_6:=b2.2.1.cell 6
 have y2_6:=b2.2.2.1.cell 6
 have x2_7:=b2.2.1.cell 7
 have y2_7:=b2.2.2.1.cell 7
 simp at x2_6 y2_6 x2_7 y2_7
 go_wp2_with fail
 refine (ih2 _ _ _ _ _ (Rep.below h2.out b2.1) (Rep.below g2.out b2.1)).mono ?_
 rintro e w3 ⟨rfl,hb3⟩
 have b3:=boxes2_on b2 hb3
 clear x2_6 y2_6 x2_7 y2_7
 have x3_7:=b3.2.1.cell 7
 have y3_7:=b3.2.2.1.cell 7
 simp at x3_7 y3_7
 go_wp2_with fail
 refine bodyPost_ret (results_tmp rfl _ _ _) rfl ?_
 exact ⟨rfl,b3.1⟩
theorem eqFuncs_of (l:List Fn) (ih:∀ x ∈ l,EqFnOk x) (A A':Option Addr) (c c':Nat) (w:World) (hp:RepT w (.lst 8 (l.map encFn)) [.slice A l.length c]) (hq:RepT w (.lst 8 (l.map encFn)) [.slice A' l.length c']) :
  Calls Tryz.prog 19 #[.slice A l.length c,.slice A' l.length c'] w (TrueBelow w):=by
 have h:=eqs_any (T:=25) (E:=60) (I:=3) (B:=4) (cal:=52) (z:=8) (p:=fun i=>["help.go:228", "help.go:229", "help.go:230", "help.go:232", "help.go:233", "help.go:234", "help.go:237"].getD i "") follows_mixed Tryz.func19 (by kernel_rfl) rfl rfl Tryz.underlying3 Tryz.underlying4 Tryz.underlying25 Tryz.underlying60 (by kernel_rfl) (fun _ _=>by kernel_rfl) (l.map encFn) (fun i hi cs cs' W h1 h2=>by
  rw [List.getElem_map] at h1 h2
  exact ih _ (List.getElem_mem _) cs cs' W h1 h2) A A' c c' w (by rw [List.length_map];exact hp) (by rw [List.length_map];exact hq)
 rwa [List.length_map] at h
theorem eqEx_any (x:Ex):EqExOk x:=eqEx_of x fun A A' c c' w=>eqExprs_of x.kids (fun y _h=>eqEx_any y) A A' c c' w
termination_by SizeOf.sizeOf x
decreasing_by
 have h1:=List.sizeOf_lt_of_mem _h
 obtain ⟨o,t,s,n,ks,p⟩:=x
 simp only [Ex.kids,Ex.mk.sizeOf_spec] at *
 omega
theorem eqSt_any (x:St):EqStOk x:=eqSt_of x (fun A A' c c' w=>eqExprs_of x.ex (fun y _=>eqEx_any y) A A' c c' w) fun A A' c c' w=>eqStmts_of x.body (fun y _h=>eqSt_any y) A A' c c' w
termination_by SizeOf.sizeOf x
decreasing_by
 have h1:=List.sizeOf_lt_of_mem _h
 obtain ⟨o,e,b,t,s,n,p⟩:=x
 simp only [St.body,St.mk.sizeOf_spec] at *
 omega
theorem eqDe_any (x:De):EqDeOk x:=eqDe_of x (eqLongs_any x.init)
theorem eqFn_any (x:Fn):EqFnOk x:=eqFn_of x (eqDecls_of x.params fun y _=>eqDe_any y) (eqStmts_of x.body fun y _=>eqSt_any y) (eqDecls_of x.locals fun y _=>eqDe_any y)
theorem eqUnit_any (u:Un) (A A' B B':Option Addr) (c c' d d':Nat) (w:World) (h0:RepT w (.lst 6 (u.globals.map encDe)) [.slice A u.globals.length c]) (h1:RepT w (.lst 8 (u.funcs.map encFn)) [.slice B u.funcs.length d]) (g0:RepT w (.lst 6 (u.globals.map encDe)) [.slice A' u.globals.length c']) (g1:RepT w (.lst 8 (u.funcs.map encFn)) [.slice B' u.funcs.length d']) :
  Calls Tryz.prog 8 #[.agg #[.slice A u.globals.length c,.slice B u.funcs.length d],.agg #[.slice A' u.globals.length c',.slice B' u.funcs.length d']] w (TrueBelow w):=by
 have ih0:=eqDecls_of u.globals fun y _=>eqDe_any y
 have ih1:=eqFuncs_of u.funcs fun y _=>eqFn_any y
 have h0:=Lib.hid h0
 have h1:=Lib.hid h1
 have g0:=Lib.hid g0
 have g1:=Lib.hid g1
 go_enter Tryz.func8,Tryz.ntmps8
 go_wp2_with fail
 refine (ih0 _ _ _ _ _ (Rep.below h0.out (below2 _ _ _)) (Rep.below g0.out (below2 _ _ _))).mono ?_
 rintro e w1 ⟨rfl,hb1⟩
 have b1:=boxes2_on (let h:=boxes2 _ _ _ _;⟨h.1,h.2.1,h.2.2.1,Nat.le_of_eq h.2.2.2⟩) hb1
 have x1:=b1.2.1.cell 1
 have y1:=b1.2.2.1.cell 1
 simp at x1 y1
 go_wp2_with fail
 refine (ih1 _ _ _ _ _ (Rep.below h1.out b1.1) (Rep.below g1.out b1.1)).mono ?_
 rintro e w2 ⟨rfl,hb2⟩
 have b2:=boxes2_on b1 hb2
 clear x1 y1
 go_wp2_with fail
 refine bodyPost_ret (results_tmp rfl _ _ _) rfl ?_
 exact ⟨rfl,b2.1⟩
end Go.Proofs.YtdmacgoeikjdbaaGreatDoor
namespace Go.Proofs.YtdmacgoeikjdbaaGreatDoor
open Go.RowKit
inductive SoftV:Value→Value→Prop where
 | refl (v:Value):SoftV v v
 | int (k:IntKind) (a b:Int):SoftV (.int k a) (.int k b)
 | str (a b:ByteArray):SoftV (.string a) (.string b)
 | bool (a b:Bool):SoftV (.bool a) (.bool b)
 | nil (A:Option Addr) (n c:Nat):SoftV (.slice A n c) (.slice none 0 0)
theorem SoftV.trans {a b c:Value} (h:SoftV a b) (k:SoftV b c):SoftV a c:=by
 cases h <;> cases k <;> constructor
structure Soft (X:Nat→Prop) (w w':World):Prop where
 os:w'.os=w.os
 tape:w'.tape=w.tape
 output:w'.output=w.output
 size:w.heap.size≤w'.heap.size
 low:∀ g,¬ X g→g<w.heap.size→w'.heap[g]?=w.heap[g]?
 high:∀ g cur t fr,X g→w.heap[g]?=some (.cells cur t fr)→∃ cur',w'.heap[g]?=some (.cells cur' t fr)∧cur'.size=cur.size∧∀ i (h:i<cur.size) (h':i<cur'.size),SoftV cur[i] cur'[i]
section
variable {X:Nat→Prop} {w w' w2:World}
theorem Soft.refl (X:Nat→Prop) (w:World):Soft X w w:=⟨rfl,rfl,rfl,Nat.le_refl _,fun _ _ _=>rfl,fun _ cur _ _ _ h=>⟨cur,h,rfl,fun _ _ _=>.refl _⟩⟩
theorem Soft.trans (h:Soft X w w') (k:Soft X w' w2):Soft X w w2:=
 ⟨k.os.trans h.os,k.tape.trans h.tape,k.output.trans h.output,Nat.le_trans h.size k.size,fun g hg hl=>(k.low g hg (Nat.lt_of_lt_of_le hl h.size)).trans (h.low g hg hl),fun g cur t fr hg he=>by
  obtain ⟨c1,h1,h2,h3⟩:=h.high g cur t fr hg he
  obtain ⟨c2,k1,k2,k3⟩:=k.high g c1 t fr hg h1
  exact ⟨c2,k1,k2.trans h2,fun i hi hi'=>(h3 i hi (by omega)).trans (k3 i (by omega) hi')⟩⟩
theorem Soft.of (h:Below w.heap.size w w'):Soft X w w':=⟨h.os,h.tape,h.output,h.size,fun g _ hl=>h.block g hl,fun g cur _ _ _ he=>⟨cur,(h.block g (lt_of_block he)).trans he,rfl,fun _ _ _=>.refl _⟩⟩
theorem Soft.below {B:Nat} (h:Soft X w w') (hX:∀ g,X g→B≤g) (hB:B≤w.heap.size):Below B w w':=⟨h.os,h.tape,h.output,h.size,fun g hg=>h.low g (fun hx=>by have:=hX g hx;omega) (by omega)⟩
theorem Soft.setCell {g i:Nat} {u v:Value} (hB:X g) (hc:w.cell? ⟨g,i,none⟩=some u) (hv:SoftV u v):Soft X w (w.setCell ⟨g,i,none⟩ v):=by
 refine ⟨rfl,rfl,rfl,by simp [World.setCell],fun k hk _=>heap_setCell_other _ _ _ _ (fun e=>hk (by have e:k=g:=e;rw [e];exact hB)),fun k cur t fr _ he=>?_⟩
 by_cases hkg:k=g
 ·subst hkg
  have hcu:cur[i]?=some u:=by rw [← cell_of_row w k i cur t fr he];exact hc
  obtain ⟨hi,hu⟩:=Array.getElem?_eq_some_iff.1 hcu
  refine ⟨cur.setIfInBounds i v,by simp [World.setCell,Array.getElem?_modify,he],by simp,fun j hj hj'=>?_⟩
  rw [Array.getElem_setIfInBounds]
  split
  ·rename_i e
   subst e
   rw [hu]
   exact hv
  ·exact .refl _
 ·exact ⟨cur,(heap_setCell_other _ _ _ _ (by simpa using hkg)).trans he,rfl,fun _ _ _=>.refl _⟩
theorem Soft.setCells {g:Nat} (hB:X g):∀ (vs us:List Value) (o:Nat) (w:World),us.length=vs.length→w.rangeAt g o us→(∀ j (h:j<us.length) (h':j<vs.length),SoftV us[j] vs[j])→Soft X w (w.setCells g o vs)
 | [],_,_,w,_,_,_=>Soft.refl X w
 | v :: vs,[],_,_,h,_,_=>by simp at h
 | v :: vs,u :: us,o,w,h,hr,hs=>by
  have h0:=hr 0 u rfl
  have h1:=Soft.setCell (v:=v) hB h0 (hs 0 (by simp) (by simp))
  refine h1.trans (Soft.setCells hB vs us (o + 1) _ (by simpa using h) (fun j x hj=>?_) (fun j h h'=>by
   have:=hs (j + 1) (by simpa using h) (by simpa using h')
   simpa using this))
  have:=hr (j + 1) x (by simpa using hj)
  rw [← this]
  rw [World.cell?_setCell_other]
  ·rw [Nat.add_assoc,Nat.add_comm 1 j]
  ·simp
end
mutual
def Sp (w:World) (ok:Nat→Prop):D→List Value→Prop
 | .int k _,cs=>∃ n,cs=[.int k n]
 | .bool _,cs=>∃ b,cs=[.bool b]
 | .str _,cs=>∃ s,cs=[.string s]
 | .st fs,cs=>SpAll w ok fs cs
 | .lst z xs,cs=>cs=[.slice none 0 0] ∨ ∃ (A:Option Addr) (c:Nat),cs=[.slice A xs.length c]∧xs.length≤c∧c≤maxLen ∧
   (0<xs.length→∃ (g off:Nat) (cur:Array Value) (t:TypeId) (fr:Thawed),A=some ⟨g,off,none⟩∧ok g∧w.heap[g]?=some (.cells cur t fr.1)∧SpRow w ok z xs (cur.toList.drop off))
def SpAll (w:World) (ok:Nat→Prop):List D→List Value→Prop
 | [],cs=>cs=[]
 | d :: ds,cs=>∃ a b:List Value,cs=a ++ b∧Sp w ok d a∧SpAll w ok ds b
def SpRow (w:World) (ok:Nat→Prop) (z:Nat):List D→List Value→Prop
 | [],_=>True
 | d :: ds,cs=>∃ a b:List Value,cs=a ++ b∧a.length=z∧Sp w ok d a∧SpRow w ok z ds b
end
mutual
theorem Sp.of {w:World} {ok:Nat→Prop}:∀ (d:D) (cs:List Value),Rep w ok d cs→Sp w ok d cs
 | .int _ n,_,hr=>by unfold Rep at hr;unfold Sp;exact ⟨n,hr⟩
 | .bool b,_,hr=>by unfold Rep at hr;unfold Sp;exact ⟨b,hr⟩
 | .str s,_,hr=>by unfold Rep at hr;unfold Sp;exact ⟨_,hr⟩
 | .st fs,cs,hr=>by unfold Rep at hr;unfold Sp;exact SpAll.of fs cs hr
 | .lst z xs,cs,hr=>by
  unfold Rep at hr
  unfold Sp
  obtain ⟨A,c,hcs,hc,hm,hr⟩:=hr
  refine .inr ⟨A,c,hcs,hc,hm,fun hn=>?_⟩
  obtain ⟨g,off,cur,t,fr,hA,hok,hg,hrow⟩:=hr hn
  exact ⟨g,off,cur,t,fr,hA,hok,hg,SpRow.of z xs _ hrow⟩
theorem SpAll.of {w:World} {ok:Nat→Prop}:∀ (ds:List D) (cs:List Value),RepAll w ok ds cs→SpAll w ok ds cs
 | [],_,hr=>by unfold RepAll at hr;unfold SpAll;exact hr
 | d :: ds,cs,hr=>by
  unfold RepAll at hr
  unfold SpAll
  obtain ⟨a,b,hcs,h1,h2⟩:=hr
  exact ⟨a,b,hcs,Sp.of d a h1,SpAll.of ds b h2⟩
theorem SpRow.of {w:World} {ok:Nat→Prop} (z:Nat):∀ (ds:List D) (cs:List Value),RepRow w ok z ds cs→SpRow w ok z ds cs
 | [],_,_=>by unfold SpRow;exact trivial
 | d :: ds,cs,hr=>by
  unfold RepRow at hr
  unfold SpRow
  obtain ⟨a,b,hcs,hl,h1,h2⟩:=hr
  exact ⟨a,b,hcs,hl,Sp.of d a h1,SpRow.of z ds b h2⟩
end
def SoftL (cs cs':List Value):Prop:=cs'.length=cs.length∧∀ i (h:i<cs.length) (h':i<cs'.length),SoftV cs[i] cs'[i]
theorem SoftL.one {u:Value} {cs:List Value} (h:SoftL [u] cs):∃ v,cs=[v]∧SoftV u v:=by
 obtain ⟨h1,h2⟩:=h
 rcases cs with _ | ⟨v,_ | ⟨x,l⟩⟩
 ·simp at h1
 ·exact ⟨v,rfl,h2 0 (by simp) (by simp)⟩
 ·simp at h1
theorem SoftL.app {a b cs:List Value} (h:SoftL (a ++ b) cs):∃ a' b',cs=a' ++ b'∧SoftL a a'∧SoftL b b':=by
 obtain ⟨h1,h2⟩:=h
 simp only [List.length_append] at h1
 refine ⟨cs.take a.length,cs.drop a.length,(List.take_append_drop _ _).symm,⟨by simp;omega,fun i h h'=>?_⟩,⟨by simp;omega,fun i h h'=>?_⟩⟩
 ·have:=h2 i (by simp;omega) (by omega)
  rw [List.getElem_append_left h] at this
  simpa using this
 ·have:=h2 (a.length + i) (by simp;omega) (by omega)
  rw [List.getElem_append_right (by omega)] at this
  simpa using this
mutual
theorem Sp.soft {w w':World} {X ok:Nat→Prop} (hok:∀ g,ok g→X g) (h:Soft X w w'):∀ (d:D) (cs cs':List Value),SoftL cs cs'→Sp w ok d cs→Sp w' ok d cs'
 | .int k _,_,cs',hs,hr=>by
  unfold Sp at hr ⊢
  obtain ⟨n,rfl⟩:=hr
  obtain ⟨v,rfl,hv⟩:=hs.one
  cases hv <;> exact ⟨_,rfl⟩
 | .bool _,_,cs',hs,hr=>by
  unfold Sp at hr ⊢
  obtain ⟨n,rfl⟩:=hr
  obtain ⟨v,rfl,hv⟩:=hs.one
  cases hv <;> exact ⟨_,rfl⟩
 | .str _,_,cs',hs,hr=>by
  unfold Sp at hr ⊢
  obtain ⟨n,rfl⟩:=hr
  obtain ⟨v,rfl,hv⟩:=hs.one
  cases hv <;> exact ⟨_,rfl⟩
 | .st fs,cs,cs',hs,hr=>by unfold Sp at hr ⊢;exact SpAll.soft hok h fs cs cs' hs hr
 | .lst z xs,cs,cs',hs,hr=>by
  unfold Sp at hr ⊢
  rcases hr with rfl | ⟨A,c,rfl,hc,hm,hr⟩
  ·obtain ⟨v,rfl,hv⟩:=hs.one
   cases hv <;> exact .inl rfl
  ·obtain ⟨v,rfl,hv⟩:=hs.one
   cases hv with
   | nil=>exact .inl rfl
   | refl=>
    refine .inr ⟨A,c,rfl,hc,hm,fun hn=>?_⟩
    obtain ⟨g,off,cur,t,fr,hA,hokg,hg,hrow⟩:=hr hn
    obtain ⟨c1,h1,h2,h3⟩:=h.high g cur t fr.1 (hok g hokg) hg
    refine ⟨g,off,c1,t,fr,hA,hokg,h1,SpRow.soft hok h z xs _ _ ⟨by simp [h2],fun i hi hi'=>?_⟩ hrow⟩
    simp only [List.length_drop,Array.length_toList] at hi hi'
    have:=h3 (off + i) (by omega) (by omega)
    simpa using this
theorem SpAll.soft {w w':World} {X ok:Nat→Prop} (hok:∀ g,ok g→X g) (h:Soft X w w'):∀ (ds:List D) (cs cs':List Value),SoftL cs cs'→SpAll w ok ds cs→SpAll w' ok ds cs'
 | [],_,cs',hs,hr=>by
  unfold SpAll at hr ⊢
  subst hr
  exact List.eq_nil_of_length_eq_zero (by simpa using hs.1)
 | d :: ds,cs,cs',hs,hr=>by
  unfold SpAll at hr ⊢
  obtain ⟨a,b,rfl,h1,h2⟩:=hr
  obtain ⟨a',b',rfl,h3,h4⟩:=hs.app
  exact ⟨a',b',rfl,Sp.soft hok h d a a' h3 h1,SpAll.soft hok h ds b b' h4 h2⟩
theorem SpRow.soft {w w':World} {X ok:Nat→Prop} (hok:∀ g,ok g→X g) (h:Soft X w w') (z:Nat):∀ (ds:List D) (cs cs':List Value),SoftL cs cs'→SpRow w ok z ds cs→SpRow w' ok z ds cs'
 | [],_,_,_,_=>by unfold SpRow;exact trivial
 | d :: ds,cs,cs',hs,hr=>by
  unfold SpRow at hr ⊢
  obtain ⟨a,b,rfl,hl,h1,h2⟩:=hr
  obtain ⟨a',b',rfl,h3,h4⟩:=hs.app
  exact ⟨a',b',rfl,by rw [h3.1,hl],Sp.soft hok h d a a' h3 h1,SpRow.soft hok h z ds b b' h4 h2⟩
end
theorem SoftL.refl (cs:List Value):SoftL cs cs:=⟨rfl,fun _ _ _=>.refl _⟩
theorem Sp.on {w w':World} {X:Nat→Prop} {d:D} {cs:List Value} (h:Soft X w w') (hr:Sp w X d cs):Sp w' X d cs:=Sp.soft (fun _ h=>h) h d cs cs (SoftL.refl _) hr
theorem SpRow.at_ {w:World} {ok:Nat→Prop} {z:Nat}:∀ (ds:List D) (cs:List Value) (k:Nat) (hk:k<ds.length),SpRow w ok z ds cs→∃ a:List Value,a.length=z∧Sp w ok ds[k] a∧∀ j,j<z→cs[k * z + j]?=a[j]?
 | d :: ds,cs,0,_,hr=>by
  unfold SpRow at hr
  obtain ⟨a,b,rfl,hl,h1,_⟩:=hr
  refine ⟨a,hl,h1,fun j hj=>?_⟩
  rw [Nat.zero_mul,Nat.zero_add,List.getElem?_append_left (by omega)]
 | d :: ds,cs,k + 1,hk,hr=>by
  unfold SpRow at hr
  obtain ⟨a,b,rfl,hl,_,h2⟩:=hr
  obtain ⟨a',h3,h4,h5⟩:=SpRow.at_ ds b k (by simpa using hk) h2
  refine ⟨a',h3,h4,fun j hj=>?_⟩
  rw [List.getElem?_append_right (by rw [hl,Nat.add_mul];omega),← h5 j hj]
  congr 1
  rw [hl,Nat.add_mul];omega
theorem Sp.range {w:World} {ok:Nat→Prop} {z:Nat} {xs:List D} {A:Option Addr} {n c:Nat} (h:Sp w ok (.lst z xs) [.slice A n c]) (k:Nat) (hk:k<n) :
  ∃ (g off:Nat) (a:List Value) (hk:k<xs.length),A=some ⟨g,off,none⟩∧ok g∧g<w.heap.size∧a.length=z∧Sp w ok xs[k] a∧w.rangeAt g (off + k * z) a∧w.there g (off + k * z) z:=by
 unfold Sp at h
 rcases h with h | ⟨A',c',he,_,_,h⟩
 ·injection h with h _
  injection h with _ h _
  omega
 ·injection he with he _
  injection he with hA hn _
  subst hA hn
  obtain ⟨g,off,cur,t,fr,hA,hok,hg,hrow⟩:=h (by omega)
  obtain ⟨a,h1,h2,h3⟩:=SpRow.at_ xs _ k hk hrow
  have hcell:∀ j,j<z→w.cell? ⟨g,off + k * z + j,none⟩=a[j]?:=fun j hj=>by
   rw [cell_of_row w g _ cur t fr hg,← h3 j hj,List.getElem?_drop]
   simp [Nat.add_assoc]
  refine ⟨g,off,a,hk,hA,hok,lt_of_block hg,h1,h2,fun j u hj=>?_,fun j hj=>⟨?_,?_⟩⟩
  ·have hl:=(List.getElem?_eq_some_iff.1 hj).1
   rw [hcell j (by omega),hj]
  ·rw [hcell j hj,List.getElem?_eq_getElem (by omega)]
   rfl
  ·have:=fr.2
   rw [this] at hg
   simp [World.frozen?,hg]
theorem Sp.len {w:World} {ok:Nat→Prop} {z:Nat} {xs:List D} {cs:List Value} (h:Sp w ok (.lst z xs) cs):∃ (A:Option Addr) (n c:Nat),cs=[.slice A n c]∧n≤c∧c≤maxLen∧n≤xs.length:=by
 unfold Sp at h
 rcases h with rfl | ⟨A,c,rfl,h1,h2,_⟩
 ·exact ⟨none,0,0,rfl,by omega,by simp,by omega⟩
 ·exact ⟨A,_,c,rfl,h1,h2,Nat.le_refl _⟩
theorem Sp.intI {w:World} {ok:Nat→Prop} {k:IntKind} {n:Int} {cs:List Value} (h:Sp w ok (.int k n) cs):∃ m,cs=[.int k m]:=by unfold Sp at h;exact h
theorem spAll_nil {w:World} {ok:Nat→Prop} {cs:List Value} (h:SpAll w ok [] cs):cs=[]:=by unfold SpAll at h;exact h
theorem spAll_int {w:World} {ok:Nat→Prop} {k:IntKind} {n:Int} {ds:List D} {cs:List Value} (h:SpAll w ok (.int k n :: ds) cs):∃ m b,cs=.int k m :: b∧SpAll w ok ds b:=by
 unfold SpAll at h
 obtain ⟨a,b,rfl,h1,h2⟩:=h
 obtain ⟨m,rfl⟩:=h1.intI
 exact ⟨m,b,rfl,h2⟩
theorem spAll_str {w:World} {ok:Nat→Prop} {s:List UInt8} {ds:List D} {cs:List Value} (h:SpAll w ok (.str s :: ds) cs):∃ m b,cs=.string m :: b∧SpAll w ok ds b:=by
 unfold SpAll at h
 obtain ⟨a,b,rfl,h1,h2⟩:=h
 unfold Sp at h1
 obtain ⟨m,rfl⟩:=h1
 exact ⟨m,b,rfl,h2⟩
theorem spAll_lst {w:World} {ok:Nat→Prop} {z:Nat} {xs ds:List D} {cs:List Value} (h:SpAll w ok (.lst z xs :: ds) cs):∃ A n c b,cs=.slice A n c :: b∧Sp w ok (.lst z xs) [.slice A n c]∧n≤maxLen∧SpAll w ok ds b:=by
 unfold SpAll at h
 obtain ⟨a,b,rfl,h1,h2⟩:=h
 obtain ⟨A,n,c,rfl,h3,h4,_⟩:=h1.len
 exact ⟨A,n,c,b,rfl,h1,by omega,h2⟩
end Go.Proofs.YtdmacgoeikjdbaaGreatDoor

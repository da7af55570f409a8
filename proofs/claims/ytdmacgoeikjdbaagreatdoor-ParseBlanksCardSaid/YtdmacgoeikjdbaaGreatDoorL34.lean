/- EqUnit and all that it calls, at the same data: true. (Printed by wip/ -/
import Derived.Test.YtdmacgoeikjdbaaGreatDoorL33
import Derived.Test.YtdmacgoeikjdbaaGreatDoorL04
import Derived.Test.YtdmacgoeikjdbaaGreatDoorL03
import Derived.Deep.RegionHeld3
import Derived.Test.YtdmacgoeikjdbaaGreatDoorL32
import Derived.Test.YtdmacgoeikjdbaaGreatDoorRows
import Derived.ProofKit
import Derived.HandedShaped
import Derived.Clock
import Derived.OpenShut
import Derived.LaidMore
import Derived.Lay
import Derived.SevenTiedAt
import Derived.Stop.Joined
import Derived.Stop.LaidErr
import Derived.Lib.LaidTab
set_option linter.unusedSimpArgs false
set_option linter.unusedVariables false
set_option maxHeartbeats 4000000
namespace Go.Proofs.YtdmacgoeikjdbaaGreatDoor
open Go.RowKit
theorem follows_mixed:Tryz.prog.follows .mixedOrders=true:=by kernel_rfl
def deC (x:De) (A:Option Addr) (c:Nat):List Value:=[strV8 x.name,.int .i64 x.ty.kind,.int .i64 x.ty.ptr,.int .i64 x.ty.len,.slice A x.init.length c,.int .i64 x.pos]
def fnC (x:Fn) (A:Option Addr) (c:Nat) (B:Option Addr) (d:Nat) (E:Option Addr) (f:Nat):List Value:=[strV8 x.name,.int .i64 x.ret.kind,.int .i64 x.ret.ptr,.int .i64 x.ret.len,.slice A x.params.length c,.slice B x.body.length d,.slice E x.locals.length f,.int .i64 x.pos]
theorem rep_de {w:World} {ok:Nat→Prop} {x:De} {cs:List Value}:Rep w ok (encDe x) cs ↔ ∃ A c,cs=deC x A c∧Rep w ok (.lst 1 (x.init.map (.int .i64))) [.slice A x.init.length c]:=by
 unfold encDe
 constructor
 ·intro h
  unfold Rep at h
  obtain ⟨_,rfl,q1⟩:=repAll_str.1 h
  obtain ⟨_,rfl,q2⟩:=repAll_int.1 q1
  obtain ⟨_,rfl,q3⟩:=repAll_int.1 q2
  obtain ⟨_,rfl,q4⟩:=repAll_int.1 q3
  obtain ⟨A,c,_,rfl,h1,q5⟩:=repAll_lst.1 q4
  obtain ⟨_,rfl,q6⟩:=repAll_int.1 q5
  obtain rfl:=repAll_nil q6
  rw [List.length_map] at h1
  exact ⟨A,c,by simp [deC],h1⟩
 ·rintro ⟨A,c,rfl,h⟩
  unfold Rep
  have e:(x.init.map (D.int .i64)).length=x.init.length:=List.length_map _
  exact repAll_str.2 ⟨_,rfl,repAll_int.2 ⟨_,rfl,repAll_int.2 ⟨_,rfl,repAll_int.2 ⟨_,rfl,repAll_lst.2 ⟨A,c,_,by rw [e],by rw [e];exact h,repAll_int.2 ⟨_,rfl,by unfold RepAll;rfl⟩⟩⟩⟩⟩⟩
theorem rep_fn {w:World} {ok:Nat→Prop} {x:Fn} {cs:List Value}:Rep w ok (encFn x) cs ↔ ∃ A c B d E f,cs=fnC x A c B d E f∧Rep w ok (.lst 6 (x.params.map encDe)) [.slice A x.params.length c]∧Rep w ok (.lst 9 (x.body.map encSt)) [.slice B x.body.length d]∧Rep w ok (.lst 6 (x.locals.map encDe)) [.slice E x.locals.length f]:=by
 unfold encFn
 constructor
 ·intro h
  unfold Rep at h
  obtain ⟨_,rfl,q1⟩:=repAll_str.1 h
  obtain ⟨_,rfl,q2⟩:=repAll_int.1 q1
  obtain ⟨_,rfl,q3⟩:=repAll_int.1 q2
  obtain ⟨_,rfl,q4⟩:=repAll_int.1 q3
  obtain ⟨A,c,_,rfl,h1,q5⟩:=repAll_lst.1 q4
  obtain ⟨B,d,_,rfl,h2,q6⟩:=repAll_lst.1 q5
  obtain ⟨E,f,_,rfl,h3,q7⟩:=repAll_lst.1 q6
  obtain ⟨_,rfl,q8⟩:=repAll_int.1 q7
  obtain rfl:=repAll_nil q8
  rw [List.length_map] at h1 h2 h3
  exact ⟨A,c,B,d,E,f,by simp [fnC],h1,h2,h3⟩
 ·rintro ⟨A,c,B,d,E,f,rfl,h1,h2,h3⟩
  unfold Rep
  have e1:(x.params.map encDe).length=x.params.length:=List.length_map _
  have e2:(x.body.map encSt).length=x.body.length:=List.length_map _
  have e3:(x.locals.map encDe).length=x.locals.length:=List.length_map _
  exact repAll_str.2 ⟨_,rfl,repAll_int.2 ⟨_,rfl,repAll_int.2 ⟨_,rfl,repAll_int.2 ⟨_,rfl,repAll_lst.2 ⟨A,c,_,by rw [e1],by rw [e1];exact h1,repAll_lst.2 ⟨B,d,_,by rw [e2],by rw [e2];exact h2,repAll_lst.2 ⟨E,f,_,by rw [e3],by rw [e3];exact h3,repAll_int.2 ⟨_,rfl,by unfold RepAll;rfl⟩⟩⟩⟩⟩⟩⟩⟩
theorem boxes2 (w:World) (t:TypeId) (cs cs':Array Value):Below w.heap.size w ((w.alloc (.cells cs t)).alloc (.cells cs' t))∧BlkIs ((w.alloc (.cells cs t)).alloc (.cells cs' t)) w.heap.size t cs∧BlkIs ((w.alloc (.cells cs t)).alloc (.cells cs' t)) (w.heap.size + 1) t cs'∧w.heap.size + 2=((w.alloc (.cells cs t)).alloc (.cells cs' t)).heap.size:=
 ⟨Below.alloc (below_alloc _ _) (by simp) _,(BlkIs.fresh _ _ _).alloc _,BlkIs.fresh_at (by simp),by simp⟩
theorem boxes2_on {w w1 w2:World} {t:TypeId} {cs cs':Array Value} (h:Below w.heap.size w w1∧BlkIs w1 w.heap.size t cs∧BlkIs w1 (w.heap.size + 1) t cs'∧w.heap.size + 2≤w1.heap.size) (hb:Below w1.heap.size w1 w2):Below w.heap.size w w2∧BlkIs w2 w.heap.size t cs∧BlkIs w2 (w.heap.size + 1) t cs'∧w.heap.size + 2≤w2.heap.size:=
 ⟨h.1.trans (hb.mono h.1.size),h.2.1.below hb (by omega),h.2.2.1.below hb (by omega),by have:=hb.size;omega⟩
theorem eqLongs_any (l:List Int) (A A':Option Addr) (c c':Nat) (w:World) (hp:RepT w (.lst 1 (l.map (.int .i64))) [.slice A l.length c]) (hq:RepT w (.lst 1 (l.map (.int .i64))) [.slice A' l.length c']):Calls Tryz.prog 76 #[.slice A l.length c,.slice A' l.length c'] w (TrueBelow w):=
 eqInts_any (T:=54) (E:=2) (I:=3) (B:=4) (p:=fun i=>["help.go:27", "help.go:28", "help.go:29", "help.go:31", "help.go:32", "help.go:33", "help.go:36"].getD i "") follows_mixed Tryz.func76 (by kernel_rfl) rfl rfl Tryz.underlying3 Tryz.underlying54 Tryz.underlying2 (by kernel_rfl) l A A' c c' w hp hq
theorem below2 (w:World) (o o':Obj):Below w.heap.size w ((w.alloc o).alloc o'):=Below.alloc (below_alloc _ _) (by simp) _
def EqExOk (x:Ex):Prop:=∀ cs cs' W,RepT W (encEx x) cs→RepT W (encEx x) cs'→Calls Tryz.prog 116 #[.agg cs.toArray,.agg cs'.toArray] W (TrueBelow W)
theorem eqEx_of (x:Ex) (ih0:∀ A A' c c' w,RepT w (.lst 8 (x.kids.map encEx)) [.slice A x.kids.length c]→RepT w (.lst 8 (x.kids.map encEx)) [.slice A' x.kids.length c']→Calls Tryz.prog 106 #[.slice A x.kids.length c,.slice A' x.kids.length c'] w (TrueBelow w)):EqExOk x:=by
 intro cs cs' w hp hq
 obtain ⟨A0,c0,rfl,h0⟩:=rep_ex.1 hp
 obtain ⟨B0,d0,rfl,g0⟩:=rep_ex.1 hq
 clear hp hq
 have h0:=Lib.hid h0
 have g0:=Lib.hid g0
 unfold exC
 obtain ⟨op,⟨tk,tp,tl⟩,nm,n,kids,pos⟩:=x
 simp only [Ex.op,Ex.ty,Ex.name,Ex.n,Ex.kids,Ex.pos,strV8] at *
 go_enter Tryz.func116,Tryz.ntmps116
 go_wp2_with fail
 refine (ih0 _ _ _ _ _ (Rep.below h0.out (below2 _ _ _)) (Rep.below g0.out (below2 _ _ _))).mono ?_
 rintro e w1 ⟨rfl,hb1⟩
 have b1:=boxes2_on (let h:=boxes2 _ _ _ _;⟨h.1,h.2.1,h.2.2.1,Nat.le_of_eq h.2.2.2⟩) hb1
 have x1_7:=b1.2.1.cell 7
 have y1_7:=b1.2.2.1.cell 7
 simp at x1_7 y1_7
 go_wp2_with fail
 refine bodyPost_ret (results_tmp rfl _ _ _) rfl ?_
 exact ⟨rfl,b1.1⟩
theorem eqExprs_of (l:List Ex) (ih:∀ x ∈ l,EqExOk x) (A A':Option Addr) (c c':Nat) (w:World) (hp:RepT w (.lst 8 (l.map encEx)) [.slice A l.length c]) (hq:RepT w (.lst 8 (l.map encEx)) [.slice A' l.length c']) :
  Calls Tryz.prog 106 #[.slice A l.length c,.slice A' l.length c'] w (TrueBelow w):=by
 have h:=eqs_any (T:=87) (E:=100) (I:=3) (B:=4) (cal:=116) (z:=8) (p:=fun i=>["help.go:123", "help.go:124", "help.go:125", "help.go:127", "help.go:128", "help.go:129", "help.go:132"].getD i "") follows_mixed Tryz.func106 (by kernel_rfl) rfl rfl Tryz.underlying3 Tryz.underlying4 Tryz.underlying87 Tryz.underlying100 (by kernel_rfl) (fun _ _=>by kernel_rfl) (l.map encEx) (fun i hi cs cs' W h1 h2=>by
  rw [List.getElem_map] at h1 h2
  exact ih _ (List.getElem_mem _) cs cs' W h1 h2) A A' c c' w (by rw [List.length_map];exact hp) (by rw [List.length_map];exact hq)
 rwa [List.length_map] at h
def EqStOk (x:St):Prop:=∀ cs cs' W,RepT W (encSt x) cs→RepT W (encSt x) cs'→Calls Tryz.prog 93 #[.agg cs.toArray,.agg cs'.toArray] W (TrueBelow W)
theorem eqSt_of (x:St) (ih0:∀ A A' c c' w,RepT w (.lst 8 (x.ex.map encEx)) [.slice A x.ex.length c]→RepT w (.lst 8 (x.ex.map encEx)) [.slice A' x.ex.length c']→Calls Tryz.prog 106 #[.slice A x.ex.length c,.slice A' x.ex.length c'] w (TrueBelow w)) (ih1:∀ A A' c c' w,RepT w (.lst 9 (x.body.map encSt)) [.slice A x.body.length c]→RepT w (.lst 9 (x.body.map encSt)) [.slice A' x.body.length c']→Calls Tryz.prog 77 #[.slice A x.body.length c,.slice A' x.body.length c'] w (TrueBelow w)):EqStOk x:=by
 intro cs cs' w hp hq
 obtain ⟨A0,c0,A1,c1,rfl,h0,h1⟩:=rep_st.1 hp
 obtain ⟨B0,d0,B1,d1,rfl,g0,g1⟩:=rep_st.1 hq
 clear hp hq
 have h0:=Lib.hid h0
 have g0:=Lib.hid g0
 have h1:=Lib.hid h1
 have g1:=Lib.hid g1
 unfold stC
 obtain ⟨op,ex,body,⟨tk,tp,tl⟩,nm,n,pos⟩:=x
 simp only [St.op,St.ex,St.body,St.ty,St.name,St.n,St.pos,strV8] at *
 go_enter Tryz.func93,Tryz.ntmps93
 go_wp2_with fail
 refine (ih0 _ _ _ _ _ (Rep.below h0.out (below2 _ _ _)) (Rep.below g0.out (below2 _ _ _))).mono ?_
 rintro e w1 ⟨rfl,hb1⟩
 have b1:=boxes2_on (let h:=boxes2 _ _ _ _;⟨h.1,h.2.1,h.2.2.1,Nat.le_of_eq h.2.2.2⟩) hb1
 have x1_2:=b1.2.1.cell 2
 have y1_2:=b1.2.2.1.cell 2
 have x1_3:=b1.2.1.cell 3
 have y1_3:=b1.2.2.1.cell 3
 have x1_4:=b1.2.1.cell 4
 have y1_4:=b1.2.2.1.cell 4
 have x1_5:=b1.2.1.cell 5
 have y1_5:=b1.2.2.1.cell 5
 have x1_6:=b1.2.1.cell 6
 have y1_6:=b1.2.2.1.cell 6
 have x1_7:=b1.2.1.cell 7
 have y1_7:=b1.2.2.1.cell 7
 have x1_8:=b1.2.1.cell 8
 have y1_8:=b1.2.2.1.cell 8
 simp at x1_2 y1_2 x1_3 y1_3 x1_4 y1_4 x1_5 y1_5 x1_6 y1_6 x1_7 y1_7 x1_8 y1_8
 go_wp2_with fail
 refine (ih1 _ _ _ _ _ (Rep.below h1.out b1.1) (Rep.below g1.out b1.1)).mono ?_
 rintro e w2 ⟨rfl,hb2⟩
 have b2:=boxes2_on b1 hb2
 clear x1_2 y1_2 x1_3 y1_3 x1_4 y1_4 x1_5 y1_5 x1_6 y1_6 x1_7 y1_7 x1_8 y1_8
 have x2_3:=b2.2.1.cell 3
 have y2_3:=b2.2.2.1.cell 3
 have x2_4:=b2.2.1.cell 4
 have y2_4:=b2.2.2.1.cell 4
 have x2_5:=b2.2.1.cell 5
 have y2_5:=b2.2.2.1.cell 5
 have x2_6:=b2.2.1.cell 6
 have y2_6:=b2.2.2.1.cell 6
 have x2_7:=b2.2.1.cell 7
 have y2_7:=b2.2.2.1.cell 7
 have x2_8:=b2.2.1.cell 8
 have y2_8:=b2.2.2.1.cell 8
 simp at x2_3 y2_3 x2_4 y2_4 x2_5 y2_5 x2_6 y2_6 x2_7 y2_7 x2_8 y2_8
 go_wp2_with fail
 refine bodyPost_ret (results_tmp rfl _ _ _) rfl ?_
 exact ⟨rfl,b2.1⟩
theorem eqStmts_of (l:List St) (ih:∀ x ∈ l,EqStOk x) (A A':Option Addr) (c c':Nat) (w:World) (hp:RepT w (.lst 9 (l.map encSt)) [.slice A l.length c]) (hq:RepT w (.lst 9 (l.map encSt)) [.slice A' l.length c']) :
  Calls Tryz.prog 77 #[.slice A l.length c,.slice A' l.length c'] w (TrueBelow w):=by
 have h:=eqs_any (T:=58) (E:=89) (I:=3) (B:=4) (cal:=93) (z:=9) (p:=fun i=>["help.go:158", "help.go:159", "help.go:160", "help.go:162", "help.go:163", "help.go:164", "help.go:167"].getD i "") follows_mixed Tryz.func77 (by kernel_rfl) rfl rfl Tryz.underlying3 Tryz.underlying4 Tryz.underlying58 Tryz.underlying89 (by kernel_rfl) (fun _ _=>by kernel_rfl) (l.map encSt) (fun i hi cs cs' W h1 h2=>by
  rw [List.getElem_map] at h1 h2
  exact ih _ (List.getElem_mem _) cs cs' W h1 h2) A A' c c' w (by rw [List.length_map];exact hp) (by rw [List.length_map];exact hq)
 rwa [List.length_map] at h
def EqDeOk (x:De):Prop:=∀ cs cs' W,RepT W (encDe x) cs→RepT W (encDe x) cs'→Calls Tryz.prog 51 #[.agg cs.toArray,.agg cs'.toArray] W (TrueBelow W)
theorem eqDe_of (x:De) (ih0:∀ A A' c c' w,RepT w (.lst 1 (x.init.map (.int .i64))) [.slice A x.init.length c]→RepT w (.lst 1 (x.init.map (.int .i64))) [.slice A' x.init.length c']→Calls Tryz.prog 76 #[.slice A x.init.length c,.slice A' x.init.length c'] w (TrueBelow w)):EqDeOk x:=by
 intro cs cs' w hp hq
 obtain ⟨A0,c0,rfl,h0⟩:=rep_de.1 hp
 obtain ⟨B0,d0,rfl,g0⟩:=rep_de.1 hq
 clear hp hq
 have h0:=Lib.hid h0
 have g0:=Lib.hid g0
 unfold deC
 obtain ⟨nm,⟨tk,tp,tl⟩,init,pos⟩:=x
 simp only [strV8] at *
 go_enter Tryz.func51,Tryz.ntmps51
 go_wp2_with fail
 refine (ih0 _ _ _ _ _ (Rep.below h0.out (below2 _ _ _)) (Rep.below g0.out (below2 _ _ _))).mono ?_
 rintro e w1 ⟨rfl,hb1⟩
 have b1:=boxes2_on (let h:=boxes2 _ _ _ _;⟨h.1,h.2.1,h.2.2.1,Nat.le_of_eq h.2.2.2⟩) hb1
 have x1_5:=b1.2.1.cell 5
 have y1_5:=b1.2.2.1.cell 5
 simp at x1_5 y1_5
 go_wp2_with fail
 refine bodyPost_ret (results_tmp rfl _ _ _) rfl ?_
 exact ⟨rfl,b1.1⟩
theorem eqDecls_of (l:List De) (ih:∀ x ∈ l,EqDeOk x) (A A':Option Addr) (c c':Nat) (w:World) (hp:RepT w (.lst 6 (l.map encDe)) [.slice A l.length c]) (hq:RepT w (.lst 6 (l.map encDe)) [.slice A' l.length c']) :
  Calls Tryz.prog 18 #[.slice A l.length c,.slice A' l.length c'] w (TrueBelow w):=by
 have h:=eqs_any (T:=24) (E:=56) (I:=3) (B:=4) (cal:=51) (z:=6) (p:=fun i=>["help.go:192", "help.go:193", "help.go:194", "help.go:196", "help.go:197", "help.go:198", "help.go:201"].getD i "") follows_mixed Tryz.func18 (by kernel_rfl) rfl rfl Tryz.underlying3 Tryz.underlying4 Tryz.underlying24 Tryz.underlying56 (by kernel_rfl) (fun _ _=>by kernel_rfl) (l.map encDe) (fun i hi cs cs' W h1 h2=>by
  rw [List.getElem_map] at h1 h2
  exact ih _ (List.getElem_mem _) cs cs' W h1 h2) A A' c c' w (by rw [List.length_map];exact hp) (by rw [List.length_map];exact hq)
 rwa [List.length_map] at h
def EqFnOk (x:Fn):Prop:=∀ cs cs' W,RepT W (encFn x) cs→RepT W (encFn x) cs'→Calls Tryz.prog 52 #[.agg cs.toArray,.agg cs'.toArray] W (TrueBelow W)
theorem eqFn_of (x:Fn) (ih0:∀ A A' c c' w,RepT w (.lst 6 (x.params.map encDe)) [.slice A x.params.length c]→RepT w (.lst 6 (x.params.map encDe)) [.slice A' x.params.length c']→Calls Tryz.prog 18 #[.slice A x.params.length c,.slice A' x.params.length c'] w (TrueBelow w)) (ih1:∀ A A' c c' w,RepT w (.lst 9 (x.body.map encSt)) [.slice A x.body.length c]→RepT w (.lst 9 (x.body.map encSt)) [.slice A' x.body.length c']→Calls Tryz.prog 77 #[.slice A x.body.length c,.slice A' x.body.length c'] w (TrueBelow w)) (ih2:∀ A A' c c' w,RepT w (.lst 6 (x.locals.map encDe)) [.slice A x.locals.length c]→RepT w (.lst 6 (x.locals.map encDe)) [.slice A' x.locals.length c']→Calls Tryz.prog 18 #[.slice A x.locals.length c,.slice A' x.locals.length c'] w (TrueBelow w)):EqFnOk x:=by
 intro cs cs' w hp hq
 obtain ⟨A0,c0,A1,c1,A2,c2,rfl,h0,h1,h2⟩:=rep_fn.1 hp
 obtain ⟨B0,d0,B1,d1,B2,d2,rfl,g0,g1,g2⟩:=rep_fn.1 hq
 clear hp hq
 have h0:=Lib.hid h0
 have g0:=Lib.hid g0
 have h1:=Lib.hid h1
 have g1:=Lib.hid g1
 have h2:=Lib.hid h2
 have g2:=Lib.hid g2
 unfold fnC
 obtain ⟨nm,⟨tk,tp,tl⟩,params,body,locals,pos⟩:=x
 simp only [strV8] at *
 go_enter Tryz.func52,Tryz.ntmps52
 go_wp2_with fail
 refine (ih0 _ _ _ _ _ (Rep.below h0.out (below2 _ _ _)) (Rep.below g0.out (below2 _ _ _))).mono ?_
 rintro e w1 ⟨rfl,hb1⟩
 have b1:=boxes2_on (let h:=boxes2 _ _ _ _;⟨h.1,h.2.1,h.2.2.1,Nat.le_of_eq h.2.2.2⟩) hb1
 have x1_5:=b1.2.1.cell 5
 have y1_5:=b1.2.2.1.cell 5
 have x1_6:=b1.2.1.cell 6
 have y1_6:=b1.2.2.1.cell 6
 have x1_7:=b1.2.1.cell 7
 have y1_7:=b1.2.2.1.cell 7
 simp at x1_5 y1_5 x1_6 y1_6 x1_7 y1_7
 go_wp2_with fail
 refine (ih1 _ _ _ _ _ (Rep.below h1.out b1.1) (Rep.below g1.out b1.1)).mono ?_
 rintro e w2 ⟨rfl,hb2⟩
 have b2:=boxes2_on b1 hb2
 clear x1_5 y1_5 x1_6 y1_6 x1_7 y1_7
 have x2_6:=b2.2.1.cell 6
 have y2_6:=b2.2.2.1.cell 6
 have x2_7:=b2.2.1.cell 7
 have y2_7:=b2.2.2.1.cell 7
 simp at x2_6 y2_6 x2_7 y2_7
 go_wp2_with fail
 refine (ih2 _ _ _ _ _ (Rep.below h2.out b2.1) (Rep.below g2.out b2.1)).mono ?_
 rintro e w3 ⟨rfl,hb3⟩
 have b3:=boxes2_on b2 hb3
 clear x2_6 y2_6 x2_7 y2_7
 have x3_7:=b3.2.1.cell 7
 have y3_7:=b3.2.2.1.cell 7
 simp at x3_7 y3_7
 go_wp2_with fail
 refine bodyPost_ret (results_tmp rfl _ _ _) rfl ?_
 exact ⟨rfl,b3.1⟩
theorem eqFuncs_of (l:List Fn) (ih:∀ x ∈ l,EqFnOk x) (A A':Option Addr) (c c':Nat) (w:World) (hp:RepT w (.lst 8 (l.map encFn)) [.slice A l.length c]) (hq:RepT w (.lst 8 (l.map encFn)) [.slice A' l.length c']) :
  Calls Tryz.prog 19 #[.slice A l.length c,.slice A' l.length c'] w (TrueBelow w):=by
 have h:=eqs_any (T:=25) (E:=60) (I:=3) (B:=4) (cal:=52) (z:=8) (p:=fun i=>["help.go:228", "help.go:229", "help.go:230", "help.go:232", "help.go:233", "help.go:234", "help.go:237"].getD i "") follows_mixed Tryz.func19 (by kernel_rfl) rfl rfl Tryz.underlying3 Tryz.underlying4 Tryz.underlying25 Tryz.underlying60 (by kernel_rfl) (fun _ _=>by kernel_rfl) (l.map encFn) (fun i hi cs cs' W h1 h2=>by
  rw [List.getElem_map] at h1 h2
  exact ih _ (List.getElem_mem _) cs cs' W h1 h2) A A' c c' w (by rw [List.length_map];exact hp) (by rw [List.length_map];exact hq)
 rwa [List.length_map] at h
theorem eqEx_any (x:Ex):EqExOk x:=eqEx_of x fun A A' c c' w=>eqExprs_of x.kids (fun y h=>eqEx_any y) A A' c c' w
termination_by SizeOf.sizeOf x
decreasing_by
 have h1:=List.sizeOf_lt_of_mem h
 obtain ⟨o,t,s,n,ks,p⟩:=x
 simp only [Ex.kids,Ex.mk.sizeOf_spec] at *
 omega
theorem eqSt_any (x:St):EqStOk x:=eqSt_of x (fun A A' c c' w=>eqExprs_of x.ex (fun y _=>eqEx_any y) A A' c c' w) fun A A' c c' w=>eqStmts_of x.body (fun y h=>eqSt_any y) A A' c c' w
termination_by SizeOf.sizeOf x
decreasing_by
 have h1:=List.sizeOf_lt_of_mem h
 obtain ⟨o,e,b,t,s,n,p⟩:=x
 simp only [St.body,St.mk.sizeOf_spec] at *
 omega
theorem eqDe_any (x:De):EqDeOk x:=eqDe_of x (eqLongs_any x.init)
theorem eqFn_any (x:Fn):EqFnOk x:=eqFn_of x (eqDecls_of x.params fun y _=>eqDe_any y) (eqStmts_of x.body fun y _=>eqSt_any y) (eqDecls_of x.locals fun y _=>eqDe_any y)
theorem eqUnit_any (u:Un) (A A' B B':Option Addr) (c c' d d':Nat) (w:World) (h0:RepT w (.lst 6 (u.globals.map encDe)) [.slice A u.globals.length c]) (h1:RepT w (.lst 8 (u.funcs.map encFn)) [.slice B u.funcs.length d]) (g0:RepT w (.lst 6 (u.globals.map encDe)) [.slice A' u.globals.length c']) (g1:RepT w (.lst 8 (u.funcs.map encFn)) [.slice B' u.funcs.length d']) :
  Calls Tryz.prog 8 #[.agg #[.slice A u.globals.length c,.slice B u.funcs.length d],.agg #[.slice A' u.globals.length c',.slice B' u.funcs.length d']] w (TrueBelow w):=by
 have ih0:=eqDecls_of u.globals fun y _=>eqDe_any y
 have ih1:=eqFuncs_of u.funcs fun y _=>eqFn_any y
 have h0:=Lib.hid h0
 have h1:=Lib.hid h1
 have g0:=Lib.hid g0
 have g1:=Lib.hid g1
 go_enter Tryz.func8,Tryz.ntmps8
 go_wp2_with fail
 refine (ih0 _ _ _ _ _ (Rep.below h0.out (below2 _ _ _)) (Rep.below g0.out (below2 _ _ _))).mono ?_
 rintro e w1 ⟨rfl,hb1⟩
 have b1:=boxes2_on (let h:=boxes2 _ _ _ _;⟨h.1,h.2.1,h.2.2.1,Nat.le_of_eq h.2.2.2⟩) hb1
 have x1:=b1.2.1.cell 1
 have y1:=b1.2.2.1.cell 1
 simp at x1 y1
 go_wp2_with fail
 refine (ih1 _ _ _ _ _ (Rep.below h1.out b1.1) (Rep.below g1.out b1.1)).mono ?_
 rintro e w2 ⟨rfl,hb2⟩
 have b2:=boxes2_on b1 hb2
 clear x1 y1
 go_wp2_with fail
 refine bodyPost_ret (results_tmp rfl _ _ _) rfl ?_
 exact ⟨rfl,b2.1⟩
end Go.Proofs.YtdmacgoeikjdbaaGreatDoor
namespace Go.Proofs.YtdmacgoeikjdbaaGreatDoor
open Go.RowKit
section
variable {X:Nat→Prop} {w w' w2:World}
end
end Go.Proofs.YtdmacgoeikjdbaaGreatDoor
namespace Go.Proofs.YtdmacgoeikjdbaaGreatDoor
open Go.RowKit
end Go.Proofs.YtdmacgoeikjdbaaGreatDoor
namespace Go.Proofs.YtdmacgoeikjdbaaGreatDoor
open Go.RowKit
end Go.Proofs.YtdmacgoeikjdbaaGreatDoor
namespace Go.Proofs.YtdmacgoeikjdbaaGreatDoor
open Go.RowKit Sx
theorem wakes_unit:parseT (tokensT [105,110,116,32,109,97,105,110,40,41,123,114,101,116,117,114,110,32,49,59,125])=(⟨[],[⟨[109,97,105,110],⟨5,0,0⟩,[],[.mk 13 [.mk 1 noTy [] 1 [] 18] [] noTy [] 0 11],[],4⟩]⟩,0,0):=by kernel_rfl
end Go.Proofs.YtdmacgoeikjdbaaGreatDoor
namespace Go.Proofs.YtdmacgoeikjdbaaGreatDoor
open Go.RowKit Sx
def TrueB (w:World) (e:Ending) (w':World):Prop:=e=.returned (.bool true)∧Below w.heap.size w w'
theorem wakes3_any (w:World) (hL:LibW w.heap.size w):Calls Tryz.prog 10 #[] w (TrueB w):=by
 have hp:=pparse_any ⟨#[105,110,116,32,109,97,105,110,40,41,123,114,101,116,117,114,110,32,49,59,125]⟩ (by decide) w hL
 have e0:parseT (tokensT (⟨#[105,110,116,32,109,97,105,110,40,41,123,114,101,116,117,114,110,32,49,59,125]⟩:ByteArray).data.toList)=_:=wakes_unit
 rw [e0] at hp
 clear e0
 go_enter Tryz.func10,Tryz.ntmps10
 go_wp2_with fail
 refine hp.mono ?_
 rintro e w1 ⟨A,c,B,d,rfl,r1,r2,hb1⟩
 simp only [unV] at *
 obtain ⟨g,off,a,hB,hg,_,hra,hrg⟩:=Rep.range r2 0 (by simp)
 subst hB
 obtain ⟨A1,c1,A2,c2,A3,c3,rfl,_⟩:=rep_fn.1 hra
 have hc:=hrg 5 _ rfl
 simp only [Nat.zero_mul,Nat.add_zero,List.length_cons,List.length_nil] at hc
 clear r1 r2 hra hrg hp
 have hz:=hb1.size
 go_wp2_with fail
 go_ret
 exact ⟨rfl,(hb1.alloc hz _).alloc (by simp;omega) _⟩
end Go.Proofs.YtdmacgoeikjdbaaGreatDoor
namespace Go.Proofs.YtdmacgoeikjdbaaGreatDoor
open Go.ChangeShapes Go.WideShapes Go.ChangeAt Go.RowKit
theorem own:ownKnob Tryz.prog.godebug=none:=by kernel_rfl
theorem laidOut:laidOutB Tryz.prog=true:=by kernel_rfl
theorem cellsStr:Tryz.prog.cellsOf 9=1:=by kernel_rfl
theorem laid_tab:(Rows.laid_strings_asciiSpace:DataW Unit)=Lib.tabData .u8 Lib.asciiSpaceTab:=by kernel_rfl
set_option maxRecDepth 100000 in
theorem tab_of {W:World} (h:laidMetH Tryz.prog [("unicode.White_Space",Rows.laid_unicode_White_Space),("strings.asciiSpace",Rows.laid_strings_asciiSpace)] W):Lib.TabIs Tryz.prog W "strings.asciiSpace" .u8 Lib.asciiSpaceTab:=by
 rw [MakeChecks.laidMetH_plain _ _ _ (by kernel_rfl)] at h
 have ht:(Tryz.prog.globals[(Tryz.prog.globalNamed "strings.asciiSpace").getD 0]?).map (·.type)=some 142:=by kernel_rfl
 have hg:Tryz.prog.globalNamed "strings.asciiSpace"=some ((Tryz.prog.globalNamed "strings.asciiSpace").getD 0):=by kernel_rfl
 have h2:laidMet Tryz.prog [("strings.asciiSpace",Rows.laid_strings_asciiSpace)] W:=h.tail
 rw [laid_tab] at h2
 exact Lib.tabIs_of_head (rest:=[]) hg ht Tryz.underlying142 Tryz.underlying5 (by kernel_rfl) (by kernel_rfl) h2
set_option maxRecDepth 100000 in
theorem max_of {W:World} (h:W.ShapedOpen Tryz.prog):∃ m,W.cell? ⟨0,0,none⟩=some (.int .i64 m):=by
 obtain ⟨cs,hh,hs,hr⟩:=h.1 0 #[.int .i64 0] 3 (of_decide_eq_true (by kernel_rfl)) (by kernel_rfl)
 obtain ⟨ts,hts,_,hall⟩:=hr (by kernel_rfl)
 have hc:Tryz.prog.cellTypes Tryz.prog.depth 3=some [3]:=by kernel_rfl
 rw [hc] at hts
 cases hts
 have hs1:cs.size=1:=by simpa using hs
 have h1:0<cs.size:=by omega
 obtain ⟨u,hu',hok⟩:=hall 0 cs[0] (by simp [h1])
 have:u=3:=by simpa using hu'.symm
 subst this
 have hcell:W.cell? ⟨0,0,none⟩=some cs[0]:=by simp [World.cell?,hh,h1]
 rw [hcell]
 unfold Cell.ok at hok
 rw [Tryz.underlying3] at hok
 cases hv:cs[0] <;> rw [hv] at hok <;> first | (simp at hok;obtain ⟨rfl,_⟩:=hok;exact ⟨_,rfl⟩) | (simp at hok;subst hok;exact ⟨_,rfl⟩) | simp at hok
theorem lib_of {W:World} (hL:laidMetH Tryz.prog [("unicode.White_Space",Rows.laid_unicode_White_Space),("strings.asciiSpace",Rows.laid_strings_asciiSpace)] W) (h:W.ShapedOpen Tryz.prog):LibW W.heap.size W:=by
 obtain ⟨m,hm⟩:=max_of h
 have ht:=tab_of hL
 have hg:Tryz.prog.globalNamed "strings.asciiSpace"=some ((Tryz.prog.globalNamed "strings.asciiSpace").getD 0):=by kernel_rfl
 refine ⟨World.block_lt_of_cell? _ _ hm,⟨m,hm⟩,_,hg,?_,ht⟩
 apply Nat.lt_of_not_le
 intro hle
 unfold Lib.TabIs World.var? at ht
 rw [hg] at ht
 simp only [Option.bind_some] at ht
 rw [Array.getElem?_eq_none hle] at ht
 simp at ht
theorem texts_in {H:Type} {enc:TypeId × Value→H} {W:World} {base fuel:Nat} {a0:Option Addr} {len cap:Nat} {x:DataW H × List MemPlace} (hf:DataW.trod enc Tryz.prog W base (fun _=>true) true fuel 22 (Value.slice a0 len cap).cells.toList=some x):∃ ss:List ByteArray,len≤9223372036854775807∧Texts W a0 len ss:=by
 rcases open_strings Tryz.underlying22 Tryz.underlying9 cellsStr hf with ⟨hcs,hx⟩ | ⟨a,len',cap',ss,hcs,_,hl,hmx,hzs,hx,hcell,hws⟩
 ·simp [Value.cells] at hcs
  obtain ⟨rfl,rfl,rfl⟩:=hcs
  exact ⟨[],by omega,fun h=>absurd h (by omega)⟩
 ·simp [Value.cells] at hcs
  obtain ⟨rfl,rfl,rfl⟩:=hcs
  simp only [if_true] at hzs
  refine ⟨ss,by unfold maxLen at hmx;omega,fun h=>?_⟩
  obtain ⟨b,off,spot⟩:=a
  have hspot:spot=none:=by simpa [Addr.add] using World.cell?_spot (hcell 0 (by omega))
  subst hspot
  refine ⟨b,off,rfl,?_,fun j hj=>⟨?_,?_⟩⟩
  ·have:=World.block_lt_of_cell? _ _ (hcell 0 (by omega))
   simpa [Addr.add] using this
  ·have:=hcell j (by omega)
   rwa [add_plain] at this
  ·have h1:ss.getD j ByteArray.empty ∈ ss:=by
    rw [List.getD_eq_getElem?_getD,List.getElem?_eq_getElem (by omega:j<ss.length)]
    exact List.getElem_mem _
   have:=hws _ h1
   unfold maxLen at this
   exact this
theorem returnsInHanded_and_shapedW {H:Type} {enc:TypeId × Value→H} {a:Assume} {C:Checked} {os:Os} {f:FuncId} {fn:Func} {s:ChangeSpec} {conds:List PathCond} {apart fresh handsOn again:Bool} {X:World→Array Value→Prop}
  (hX:∀ (w w':World) (args:Array Value),w.heap=w'.heap→X w args→X w' args)
  (own:ownKnob C.prog.godebug=none) (started:os.Started) (noInit:C.prog.inits.idxOf? f=none) (hfn:C.prog.funcs[f]?=some fn)
  (witness:∃ (w:World) (tape:Tape) (i:Input),w.os=os∧(w.forCall tape i).Shaped C.prog∧i.vars=[]∧Input.okWide C.prog (w.forCall tape i) .any w.heap.size f i ∧
   ((s.pre enc C.prog fn conds apart (w.forCall tape i).memory i.args∧X (w.forCall tape i).memory i.args)∧sizedMet enc C.prog fn (OpenSpec.ofChange s) apart (w.forCall tape i).memory i.args)∧a.holds C.prog (lone (Frame.enter C.prog f i.args .normal) [] (w.forCall tape i)))
  (contract:∀ (W:World) (base:Nat) (args:Array Value) (ds gs:List (DataW H)) (before:List MemPlace),
   (∀ (j:Nat) t v,fn.params[j]?=some t→args[j]?=some v→Value.okWide C.prog W .any base t v) →
   DataW.Whole enc C.prog fn.params.toList s.vars apart W args.toList ds gs before →
   (DataW.weightsEach C.prog (fn.params.toList ++ s.plain.varTypes C.prog) (ds ++ gs)).all (·≤reachBytes)=true →
   X W args→W.ShapedOpen C.prog →
   Calls C.prog f args W fun e W'=>∃ v,e=.returned v∧s.post enc C.prog fn apart fresh handsOn again W args v W') :
  ReturnsInHanded a C os f .any (fun w args=>(s.pre enc C.prog fn conds apart w args∧X w args)∧sizedMet enc C.prog fn (OpenSpec.ofChange s) apart w args) (s.post enc C.prog fn apart fresh handsOn again):=by
 refine returnsInHanded_of_calls own started noInit witness ?_
 intro w tape i _ hsh _ hok hpre _
 obtain ⟨_,_,_,fn',hfn',_,_,_,_,hval⟩:=hok
 have e:fn'=fn:=Option.some.inj (hfn'.symm.trans hfn)
 subst e
 obtain ⟨⟨⟨ds,gs,before,hw,_⟩,hx⟩,hz⟩:=hpre
 have hw':=DataW.Whole.of_heap (w':=w.forCall tape i) (by rfl) hw
 refine (contract (w.forCall tape i) w.heap.size i.args ds gs before hval hw' (hz.weights hw) (hX _ _ _ (by rfl) hx) hsh).mono fun e W' ⟨v,he,hp⟩=>?_
 subst he
 exact ChangeSpec.post_blind hp
end Go.Proofs.YtdmacgoeikjdbaaGreatDoor

/- The program's parser: counting loops, blocks (symbolic execution). Pri -/
import Derived.Test.YtdmacgoeikjdbaaGreatDoorL27
set_option linter.unusedSimpArgs false
set_option linter.unusedVariables false
set_option maxHeartbeats 16000000
namespace Go.Proofs.YtdmacgoeikjdbaaGreatDoor
open Go.RowKit Sx
def cfP_loop:Cfg:=⟨[(70,sUnit),(111,sEx),(72,sSt)],[(100 * 100 + 6,8),(100 * 89 + 1,8),(100 * 89 + 2,9),(100 * 56 + 4,1),(100 * 60 + 4,6),(100 * 60 + 5,9),(100 * 60 + 6,6)],[],sStP,[],[]⟩
def TP_loop:Tree:=tS 0 [40] <| tA 10 1 <| .nd (.call 1 [.one (.v 0),.one (.v 11),.one (.c (.string ⟨#[59]⟩))] []) <| tW <| tS 0 [59] <| tA 10 1 <| .nd (.call 1 [.one (.v 0),.one (.v 20),.one (.c (.string ⟨#[59]⟩))] []) <| tW <| tS 0 [59] <| tA 10 1 <| .nd (.call 1 [.one (.v 0),.one (.v 29),.one (.c (.string ⟨#[41]⟩))] []) <| tW <| tS 0 [41] <| tB 8 3 [rX 12 2,rX 21 3,rX 30 4] <| tA 10 1 <| tV 2 39 <| tB 9 1 [rS 40 6 7] <| .ret [jI 7,.v 38,.v 49,.v 4,.v 5,.v 6,.v 7,.v 8,.v 9] [jD 38 5,jD 49 8]
theorem TP_loop_eq:fnS Tryz.prog cfP_loop [.one,.ptr 89 9,.one] 100=some TP_loop:=by kernel_rfl
theorem mfor_step (F:Nat) (ihs:∀ f,f≤F→MStOk f):MStP 100 (mfor (F + 1)) (F + 1):=by
 intro g args largs bl ds σ w okk X K hG hR hok hX hbl hio hda h1 hW
 obtain ⟨s,h0⟩:=σ
 refine fn_okX (cf:=cfP_loop) [(qWant g).x,(qPerhaps g).x,(qStmt g ihs).x] rfl mixed QR.stable TP_loop_eq (W:=fun a' d' σ' K'=>a'=largs∧d'=ds∧σ'=⟨s,h0⟩∧K'=K)
  (fun a' d' σ' K' h=>by obtain ⟨rfl,_⟩:=h;obtain ⟨d,p,x,s',rfl,_⟩:=hW;exact ⟨rfl,⟨_,rfl,rfl⟩,rfl,trivial⟩) ?_ args largs bl ds ⟨s,h0⟩ w okk X K hG hR hok hX hbl hio hda h1 ⟨rfl,rfl,rfl,rfl⟩
 rintro a' d' σ' K' bl' ⟨rfl,rfl,rfl,rfl⟩ _ hbl'
 obtain ⟨d,p,x,s',rfl,rfl,hx,hd,hK'⟩:=hW
 obtain ⟨b,rfl⟩:∃ b,bl'=[b]:=by
  rcases bl' with _ | ⟨b,_ | ⟨c,l⟩⟩
  ·cases hbl'
  ·exact ⟨b,rfl⟩
  ·cases hbl'
 have hK:∀ vs ds σ',((∃ A c B e,vs=stC x A c B e)∧ds=[exsOf x,bodyOf x]∧σ'.s=s'∧OkS σ')→K' vs ds σ':=fun vs ds σ' h=>by
  obtain ⟨⟨A,c,B,e,rfl⟩,rfl,rfl,h3⟩:=h
  exact hK' A c B e _ h3
 have hp0:=hR.1
 have hd1:=hd.1
 have hd2:=hd.2
 have hdd:=deeper hd
 clear hda hio h1 hok hX hR hbl
 simp only [mfor] at hx
 show Tree.holds _ _ _ _ (⟨Sx.flat [ptrV g,.agg (stZ p).toArray,.int .i64 d],[b],[.lst 8 [],.lst 9 []],⟨s,h0⟩⟩:Env QS)
 simp only [Sx.flat,Value.cells,List.flatMap_cons,List.flatMap_nil,List.append_nil,List.cons_append,List.nil_append,Array.toList]
 refine kc (h:=w_pwant fun h1 p1=>?_)
 refine h_pv rfl rfl ?_
 try simp only [aS,hdd.2]
 try simp only [bS,↓reduceIte] at hx
 obtain ⟨⟨x3,s3⟩,e3,hx⟩:=Option.bind_eq_some_iff.1 hx
 simp only at hx
 refine kc (h:=w_pperhaps (f:=F)  e3 ⟨by omega,by omega⟩ fun A3 c3 h3 p3=>?_)
 try simp only [aS,hdd.2]
 refine h_new fun g4=>?_
 refine kc (h:=w_pwant fun h5 p5=>?_)
 refine h_pv rfl rfl ?_
 try simp only [aS,hdd.2]
 try simp only [bS,↓reduceIte] at hx
 obtain ⟨⟨x7,s7⟩,e7,hx⟩:=Option.bind_eq_some_iff.1 hx
 simp only at hx
 refine kc (h:=w_pperhaps (f:=F)  e7 ⟨by omega,by omega⟩ fun A7 c7 h7 p7=>?_)
 try simp only [aS,hdd.2]
 refine h_new fun g8=>?_
 refine kc (h:=w_pwant fun h9 p9=>?_)
 refine h_pv rfl rfl ?_
 try simp only [aS,hdd.2]
 try simp only [bS,↓reduceIte] at hx
 obtain ⟨⟨x11,s11⟩,e11,hx⟩:=Option.bind_eq_some_iff.1 hx
 simp only at hx
 refine kc (h:=w_pperhaps (f:=F)  e11 ⟨by omega,by omega⟩ fun A11 c11 h11 p11=>?_)
 try simp only [aS,hdd.2]
 refine h_new fun g12=>?_
 refine kc (h:=w_pwant fun h13 p13=>?_)
 refine kb (h:=fun g14=>?_)
 try simp only [aS,hdd.2]
 refine h_pv rfl rfl ?_
 try simp only [aS,hdd.2]
 try simp only [bS,↓reduceIte] at hx
 obtain ⟨⟨x16,s16⟩,e16,hx⟩:=Option.bind_eq_some_iff.1 hx
 simp only at hx
 refine kc (h:=w_pstmt (f:=F) (by omega) e16 ⟨by omega,by omega⟩ fun A16 c16 B16 d16 h16 p16=>?_)
 try simp only [aS,hdd.2]
 refine kb (h:=fun g17=>?_)
 try simp only [aS,hdd.2]
 try simp only [bS,↓reduceIte] at hx
 obtain ⟨rfl,rfl⟩:=sP hx
 refine kr (h:=?_)
 refine hK _ _ _ ⟨⟨_,_,_,_,rfl⟩,?_,rfl,p16⟩
 exact lF
def cfP_block:Cfg:=⟨[(70,sUnit),(13,sOne),(28,sOne),(14,sTok),(64,sUnit),(72,sSt)],[(100 * 100 + 6,8),(100 * 89 + 1,8),(100 * 89 + 2,9),(100 * 56 + 4,1),(100 * 60 + 4,6),(100 * 60 + 5,9),(100 * 60 + 6,6)],[(0,⟨[(0,.el (.one (.v 0))),(1,.el (.one (.v 1))),(4,.el (.one (.v 2)))],[],[⟨2,0,some (89,9)⟩],3,0,1,31,[],[]⟩)],sSts,[],[]⟩
def Z20:Tree:=tO 1 <| tT 3 <| .ite 4 (tS 2 [125] <| tT 5 <| .ite 6 (tO 3 <| tQ 7 0 <| .ite 11 (tI 4 4 <| tS 0 [125] <| .ret [.v 2] [jD 2 0]) (tA 1 1 <| tV 5 12 <| tB 9 1 [rS 13 1 2] <| tU 9 0 3 <| .again 0 [.v 0,.v 1,.v 23] [jD 23 4])) (tS 0 [125] <| .ret [.v 2] [jD 2 0])) (tS 0 [125] <| .ret [.v 2] [jD 2 0])
def TP_block:Tree:=tS 0 [123] <| .loop 0 0 [.v 0,.v 1,jN] [jP 9] Z20
theorem TP_block_eq:fnS Tryz.prog cfP_block [.one,.one] 32=some TP_block:=by kernel_rfl
theorem mblock_step (F:Nat) (ihs:∀ f,f≤F→MStOk f):MBlkOk (F + 1):=by
 intro g d s s' x h0 w okk K hx hd hr hok hK'
 have hK:∀ vs ds σ',((∃ A c,vs=[.slice A x.length c])∧ds=[stsD x]∧σ'.s=s'∧OkS σ')→K vs ds σ':=fun vs ds σ' h=>by
  obtain ⟨⟨A,c,rfl⟩,rfl,rfl,h3⟩:=h
  exact hK' A c _ h3
 refine fn_ok (cf:=cfP_block) [(qWant g).x,(qBad g).x,(qIs g).x,(qTok g).x,(qFail g).x,(qStmt g ihs).x] rfl mixed QR.stable TP_block_eq (W:=fun args ds σ K'=>args=[ptrV g,.int .i64 d]∧ds=[]∧σ=⟨s,h0⟩∧K'=K)
  (fun args ds σ K hW=>by obtain ⟨rfl,_⟩:=hW;exact ⟨rfl,rfl,trivial⟩) ?_ [ptrV g,.int .i64 d] [] ⟨s,h0⟩ w okk K hr.lt hr hok (daOk_nil _ _ _) (by simp [Sx.flat,Value.cells,Value.oneCell',exC,strV8]) ⟨rfl,rfl,rfl,rfl⟩
 rintro args ds σ K' ⟨rfl,rfl,rfl,rfl⟩ _
 have hp0:=hr.1
 have hd1:=hd.1
 have hd2:=hd.2
 have hdd:=deeper hd
 rw [mblock] at hx
 show Tree.holds _ _ _ _ (⟨Sx.flat [ptrV g,.int .i64 d],[],[],⟨s,h0⟩⟩:Env QS)
 simp only [Sx.flat,Value.cells,List.flatMap_cons,List.flatMap_nil,List.append_nil,List.cons_append,List.nil_append,Array.toList]
 refine kc (h:=w_pwant fun h1 p1=>?_)
 try simp only [bS,↓reduceIte] at hx
 refine h_loop (fun k vs ds σ=>∃ (acc:List St) (A:Option Addr) (c:Nat),vs=[ptrV g,.int .i64 d,.slice A acc.length c]∧ds=[stsD acc]∧OkS σ∧acc.length + k≤F∧k≤F∧mblkloop k d acc σ.s=some (x,s')) F (by simp only [rowsD,ldens,dens,dens2,T2.den,L.den,CD.den,leafD,rowD,List.getElem?_cons_zero,List.getElem?_cons_succ] <;> rfl) (by simp only [rowsD,ldens,dens,dens2,T2.den,L.den,CD.den,leafD,rowD,List.getElem?_cons_zero,List.getElem?_cons_succ] <;> rfl) (fun vs ds σ ⟨a,A,c,_,_,_,_,_,h⟩=>by cases h) ⟨[],none,0,rfl,rfl,p1,by simp,Nat.le_refl _,hx⟩ ?_
 clear hx
 rintro k vs ds bl ⟨s,h0⟩ hbl ⟨acc,A,c,rfl,rfl,hp0,hacc,hk,hx⟩
 rw [mblkloop] at hx
 try simp only [aS,hdd.2,List.length_nil]
 refine kc (h:=w_pbad ?_)
 try simp only [aS,hdd.2,List.length_nil]
 refine h_pv rfl rfl ?_
 try simp only [aS,hdd.2,List.length_nil]
 refine h_ite rfl (fun q4=>?_) (fun q4=>?_)
 ·skip
  simp only [nS] at q4
  try simp only [Bool.not_eq_true',Bool.not_eq_false'] at q4
  try simp only [q4,bS,↓reduceIte] at hx
  refine kc (h:=w_pis ?_)
  try simp only [aS,hdd.2,List.length_nil]
  refine h_pv rfl rfl ?_
  try simp only [aS,hdd.2,List.length_nil]
  refine h_ite rfl (fun q7=>?_) (fun q7=>?_)
  ·skip
   simp only [nS] at q7
   try simp only [q4,q7,bS,↓reduceIte] at hx
   refine kc (h:=w_ptok ?_)
   try simp only [aS,hdd.2,List.length_nil]
   refine h_pv rfl rfl ?_
   try simp only [aS,hdd.2,List.length_nil]
   refine h_ite rfl (fun q10=>?_) (fun q10=>?_)
   ·skip
    try dsimp only at q10
    try simp only [q4,q7,q10,bS,↓reduceIte] at hx
    refine kc (h:=w_pfail fun h11 p11=>?_)
    refine kc (h:=w_pwant fun h12 p12=>?_)
    try simp only [q4,q7,q10,bS,↓reduceIte] at hx
    obtain ⟨rfl,rfl⟩:=sP hx
    refine kr (h:=?_)
    refine hK _ _ _ ⟨⟨A,c,?_⟩,?_,rfl,p12⟩
    ·first | rfl | (simp only [List.length_append,List.length_map];rfl)
    ·first | rfl | (simp [stsD,encEx_eq,encSt_eq,encDe];done)
   ·skip
    try dsimp only at q10
    try simp only [q4,q7,q10,bS,↓reduceIte] at hx
    refine h_pv rfl rfl ?_
    try simp only [aS,hdd.2,List.length_nil]
    try simp only [q4,q7,q10,bS,↓reduceIte] at hx
    obtain ⟨⟨x14,s14⟩,e14,hx⟩:=Option.bind_eq_some_iff.1 hx
    simp only at hx
    refine kc (h:=w_pstmt (f:=k) (by omega) e14 ⟨by omega,by omega⟩ fun A14 c14 B14 d14 h14 p14=>?_)
    try simp only [aS,hdd.2,List.length_nil]
    refine kb (h:=fun g15=>?_)
    try simp only [aS,hdd.2,List.length_nil]
    refine h_app rfl rfl (by simp only [List.length_map,List.length_cons,List.length_nil];omega) fun A16 c16=>?_
    try simp only [aS,hdd.2,List.length_nil]
    try simp only [q4,q7,q10,bS,↓reduceIte] at hx
    refine ka (h:=?_)
    show (ite ((0:Nat)=0) _ _:List Value→List D→QS→Prop) _ _ _
    rw [if_pos rfl]
    refine ⟨_,A16,c16,?_,?_,p14,?_,by omega,hx⟩
    ·simp only [List.length_append,List.length_map];rfl
    ·simp [stsD,encEx_eq,encSt_eq]
    ·simp only [List.length_append,List.length_cons,List.length_nil];omega
  ·skip
   simp only [nS] at q7
   try simp only [q4,q7,bS,↓reduceIte] at hx
   refine kc (h:=w_pwant fun h17 p17=>?_)
   try simp only [q4,q7,bS,↓reduceIte] at hx
   obtain ⟨rfl,rfl⟩:=sP hx
   refine kr (h:=?_)
   refine hK _ _ _ ⟨⟨A,c,?_⟩,?_,rfl,p17⟩
   ·first | rfl | (simp only [List.length_append,List.length_map];rfl)
   ·first | rfl | (simp [stsD,encEx_eq,encSt_eq,encDe];done)
 ·skip
  simp only [nS] at q4
  try simp only [Bool.not_eq_true',Bool.not_eq_false'] at q4
  try simp only [q4,bS,↓reduceIte] at hx
  refine kc (h:=w_pwant fun h18 p18=>?_)
  try simp only [q4,bS,↓reduceIte] at hx
  obtain ⟨rfl,rfl⟩:=sP hx
  refine kr (h:=?_)
  refine hK _ _ _ ⟨⟨A,c,?_⟩,?_,rfl,p18⟩
  ·first | rfl | (simp only [List.length_append,List.length_map];rfl)
  ·first | rfl | (simp [stsD,encEx_eq,encSt_eq,encDe];done)
end Go.Proofs.YtdmacgoeikjdbaaGreatDoor
namespace Go.Proofs.YtdmacgoeikjdbaaGreatDoor
open Go.RowKit Sx
def V5 (F:Nat) (g:Nat) (d p:Int) (x:St) (s':RS) (va:List Value) (dd:List D) (σ:QS):Prop:=∃ (e:Ex) (b1 c1:St) (ga gb:Nat),
 va=[ptrV g,.int .i64 d,.slice (some ⟨ga,0,none⟩) 1 1,.slice (some ⟨gb,0,none⟩) 1 1,.int .i64 0,.int .i64 0,.int .i64 0,.string ⟨#[]⟩,.int .i64 0,.int .i64 p]∧dd=[exsD [e],stsD [b1]]∧OkS σ∧mstmt F (d + 1) σ.s=some (c1,s')∧x=.mk 4 [e] [b1,c1] noTy [] 0 p
def VW (F:Nat) (g:Nat) (d p:Int) (x:St) (s':RS) (i:Nat):List Value→List D→QS→Prop:=if i=1000005 then V5 F g d p x s' else fun _ _ _=>False
theorem vw5 {F g:Nat} {d p:Int} {x:St} {s':RS} {va:List Value} {dd:List D} {σ:QS} (h:V5 F g d p x s' va dd σ):VW F g d p x s' 1000005 va dd σ:=by
 unfold VW
 rw [if_pos rfl]
 exact h
def cfP_word:Cfg:=⟨[(67,sOne),(99,sEx),(72,sSt),(70,sUnit),(100,sStP),(101,sStP)],[(100 * 100 + 6,8),(100 * 89 + 1,8),(100 * 89 + 2,9),(100 * 56 + 4,1),(100 * 60 + 4,6),(100 * 60 + 5,9),(100 * 60 + 6,6)],[],sStP,[],[(5,⟨[(0,.el (.one (.v 0))),(1,.el (.one (.p 0 0))),(2,.el (.one (.v 1)))],[⟨0,89,[.c (.int .i64 4),.v 2,.v 3,.v 4,.v 5,.v 6,.v 7,.v 8,.v 9]⟩],[⟨2,0,none⟩,⟨3,1,some (89,9)⟩],10,1,2,125,[],[0]⟩)]⟩
def Z22:Tree:=tS 0 [115,119,105,116,99,104] <| .ite 13 (tA 10 1 <| tV 1 14 <| tB 8 1 [rX 15 2] <| tA 10 1 <| tV 2 24 <| tB 9 1 [rS 25 4 5] <| .ret [jI 8,.v 23,.v 34,.v 4,.v 5,.v 6,.v 7,.v 8,.v 9] [jD 23 3,jD 34 6]) (tS 0 [100,111] <| .ite 14 (tA 10 1 <| tV 2 15 <| tB 9 1 [rS 16 2 3] <| tS 3 [119,104,105,108,101] <| tA 10 1 <| tV 1 26 <| tB 8 1 [rX 27 5] <| tS 3 [59] <| .ret [jI 6,.v 35,.v 25,.v 4,.v 5,.v 6,.v 7,.v 8,.v 9] [jD 35 6,jD 25 4]) (tS 0 [102,111,114] <| .ite 15 (.nd (.call 4 [.one (.v 0),.agg [.v 1,.v 2,.v 3,.v 4,.v 5,.v 6,.v 7,.v 8,.v 9],.one (.v 10)] [jD 2 0,jD 3 1]) <| .ret [.v 16,.v 17,.v 18,.v 19,.v 20,.v 21,.v 22,.v 23,.v 24] [jD 17 2,jD 18 3]) (.nd (.call 5 [.one (.v 0),.agg [.v 1,.v 2,.v 3,.v 4,.v 5,.v 6,.v 7,.v 8,.v 9],.one (.v 10)] [jD 2 0,jD 3 1]) <| .ret [.v 16,.v 17,.v 18,.v 19,.v 20,.v 21,.v 22,.v 23,.v 24] [jD 17 2,jD 18 3])))
def Z21:Tree:=tS 0 [119,104,105,108,101] <| .ite 12 (tA 10 1 <| tV 1 13 <| tB 8 1 [rX 14 2] <| tA 10 1 <| tV 2 23 <| tB 9 1 [rS 24 4 5] <| .ret [jI 5,.v 22,.v 33,.v 4,.v 5,.v 6,.v 7,.v 8,.v 9] [jD 22 3,jD 33 6]) Z22
def TP_word:Tree:=tS 0 [105,102] <| .ite 11 (tA 10 1 <| tV 1 12 <| tB 8 1 [rX 13 2] <| tA 10 1 <| tV 2 22 <| tB 9 1 [rS 23 4 5] <| tS 0 [101,108,115,101] <| .ite 33 (.again 1000005 [.v 0,.v 10,.v 21,.v 32,.v 4,.v 5,.v 6,.v 7,.v 8,.v 9] [jD 21 3,jD 32 6]) (.ret [jI 4,.v 21,.v 32,.v 4,.v 5,.v 6,.v 7,.v 8,.v 9] [jD 21 3,jD 32 6])) Z21
theorem TP_word_eq:fnS Tryz.prog cfP_word [.one,.ptr 89 9,.one] 87=some TP_word:=by kernel_rfl
theorem mword_tree (F:Nat) (ihs:∀ f,f≤F→MStOk f) (ihl:∀ f,f≤F→MStP 100 (mfor f) f) (ihh:∀ f,f≤F→MStP 101 (mshort f) f) (g:Nat) (d p:Int) (s s':RS) (x:St) (h0:QH) (b:Nat) (K:List Value→List D→QS→Prop) (hx:mword (F + 1) d p s=some (x,s')) (hd:DepthOk d (F + 1 + 1)) (hp0:OkS ⟨s,h0⟩)
  (hK':∀ A c B e h,OkS ⟨s',h⟩→K (stC x A c B e) [exsOf x,bodyOf x] ⟨s',h⟩) :
  TP_word.holds (R:=QR g) (P:=Tryz.prog) [(qEat g).x,(qParen g).x,(qStmt g ihs).x,(qWant g).x,(qStp 100 mfor g ihl),(qStp 101 mshort g ihh)] K (VW F g d p x s') (⟨Sx.flat [ptrV g,.agg (stZ p).toArray,.int .i64 d],[b],[.lst 8 [],.lst 9 []],⟨s,h0⟩⟩:Env QS):=by
 have hK:∀ vs ds σ',((∃ A c B e,vs=stC x A c B e)∧ds=[exsOf x,bodyOf x]∧σ'.s=s'∧OkS σ')→K vs ds σ':=fun vs ds σ' h=>by
  obtain ⟨⟨A,c,B,e,rfl⟩,rfl,rfl,h3⟩:=h
  exact hK' A c B e _ h3
 have hd1:=hd.1
 have hd2:=hd.2
 have hdd:=deeper hd
 simp only [mword,bIf,bElse,bWhile,bSwitch,bDo,bFor,bCase,bDefault,bBreak,bContinue,bReturn,bGoto] at hx
 simp only [Sx.flat,Value.cells,List.flatMap_cons,List.flatMap_nil,List.append_nil,List.cons_append,List.nil_append,Array.toList]
 refine kc (h:=w_peat fun h1 p1=>?_)
 try simp only [aS,hdd.2]
 refine h_ite rfl (fun q2=>?_) (fun q2=>?_)
 ·skip
  try simp only [q2,bB,bS,↓reduceIte] at hx
  refine h_pv rfl rfl ?_
  try simp only [aS,hdd.2]
  try simp only [q2,bB,bS,↓reduceIte] at hx
  obtain ⟨⟨x4,s4⟩,e4,hx⟩:=Option.bind_eq_some_iff.1 hx
  simp only at hx
  refine kc (h:=w_pparen (f:=F)  e4 ⟨by omega,by omega⟩ fun A4 c4 h4 p4=>?_)
  try simp only [aS,hdd.2]
  refine kb (h:=fun g5=>?_)
  try simp only [aS,hdd.2]
  refine h_pv rfl rfl ?_
  try simp only [aS,hdd.2]
  try simp only [q2,bB,bS,↓reduceIte] at hx
  obtain ⟨⟨x7,s7⟩,e7,hx⟩:=Option.bind_eq_some_iff.1 hx
  simp only at hx
  refine kc (h:=w_pstmt (f:=F) (by omega) e7 ⟨by omega,by omega⟩ fun A7 c7 B7 d7 h7 p7=>?_)
  try simp only [aS,hdd.2]
  refine kb (h:=fun g8=>?_)
  try simp only [aS,hdd.2]
  refine kc (h:=w_peat fun h9 p9=>?_)
  try simp only [aS,hdd.2]
  refine h_ite rfl (fun q10=>?_) (fun q10=>?_)
  ·skip
   try simp only [q2,q10,bB,bS,↓reduceIte] at hx
   try simp only [q2,q10,bB,bS,↓reduceIte] at hx
   obtain ⟨⟨c1,s9⟩,e9,hx⟩:=Option.bind_eq_some_iff.1 hx
   obtain ⟨rfl,rfl⟩:=sP hx
   refine ka (h:=?_)
   exact vw5 ⟨_,_,_,_,_,rfl,by first | rfl | (simp [exsD,encEx_eq,encSt_eq];done),p9,e9,rfl⟩
  ·skip
   have z10:=meat_noS q10
   rw [z10] at p9
   rw [z10]
   try simp only [z10] at hx
   try simp only [q2,q10,bB,bS,↓reduceIte] at hx
   try simp only [q2,q10,bB,bS,↓reduceIte] at hx
   obtain ⟨rfl,rfl⟩:=sP hx
   refine kr (h:=?_)
   refine hK _ _ _ ⟨⟨_,_,_,_,rfl⟩,?_,rfl,p9⟩
   exact lF
 ·skip
  have z2:=meat_noS q2
  rw [z2] at p1
  rw [z2]
  try simp only [z2] at hx
  try simp only [q2,bB,bS,↓reduceIte] at hx
  refine kc (h:=w_peat fun h11 p11=>?_)
  try simp only [aS,hdd.2]
  refine h_ite rfl (fun q12=>?_) (fun q12=>?_)
  ·skip
   try simp only [q2,q12,bB,bS,↓reduceIte] at hx
   refine h_pv rfl rfl ?_
   try simp only [aS,hdd.2]
   try simp only [q2,q12,bB,bS,↓reduceIte] at hx
   obtain ⟨⟨x14,s14⟩,e14,hx⟩:=Option.bind_eq_some_iff.1 hx
   simp only at hx
   refine kc (h:=w_pparen (f:=F)  e14 ⟨by omega,by omega⟩ fun A14 c14 h14 p14=>?_)
   try simp only [aS,hdd.2]
   refine kb (h:=fun g15=>?_)
   try simp only [aS,hdd.2]
   refine h_pv rfl rfl ?_
   try simp only [aS,hdd.2]
   try simp only [q2,q12,bB,bS,↓reduceIte] at hx
   obtain ⟨⟨x17,s17⟩,e17,hx⟩:=Option.bind_eq_some_iff.1 hx
   simp only at hx
   refine kc (h:=w_pstmt (f:=F) (by omega) e17 ⟨by omega,by omega⟩ fun A17 c17 B17 d17 h17 p17=>?_)
   try simp only [aS,hdd.2]
   refine kb (h:=fun g18=>?_)
   try simp only [aS,hdd.2]
   try simp only [q2,q12,bB,bS,↓reduceIte] at hx
   obtain ⟨rfl,rfl⟩:=sP hx
   refine kr (h:=?_)
   refine hK _ _ _ ⟨⟨_,_,_,_,rfl⟩,?_,rfl,p17⟩
   exact lF
  ·skip
   have z12:=meat_noS q12
   rw [z12] at p11
   rw [z12]
   try simp only [z12] at hx
   try simp only [q2,q12,bB,bS,↓reduceIte] at hx
   refine kc (h:=w_peat fun h19 p19=>?_)
   try simp only [aS,hdd.2]
   refine h_ite rfl (fun q20=>?_) (fun q20=>?_)
   ·skip
    try simp only [q2,q12,q20,bB,bS,↓reduceIte] at hx
    refine h_pv rfl rfl ?_
    try simp only [aS,hdd.2]
    try simp only [q2,q12,q20,bB,bS,↓reduceIte] at hx
    obtain ⟨⟨x22,s22⟩,e22,hx⟩:=Option.bind_eq_some_iff.1 hx
    simp only at hx
    refine kc (h:=w_pparen (f:=F)  e22 ⟨by omega,by omega⟩ fun A22 c22 h22 p22=>?_)
    try simp only [aS,hdd.2]
    refine kb (h:=fun g23=>?_)
    try simp only [aS,hdd.2]
    refine h_pv rfl rfl ?_
    try simp only [aS,hdd.2]
    try simp only [q2,q12,q20,bB,bS,↓reduceIte] at hx
    obtain ⟨⟨x25,s25⟩,e25,hx⟩:=Option.bind_eq_some_iff.1 hx
    simp only at hx
    refine kc (h:=w_pstmt (f:=F) (by omega) e25 ⟨by omega,by omega⟩ fun A25 c25 B25 d25 h25 p25=>?_)
    try simp only [aS,hdd.2]
    refine kb (h:=fun g26=>?_)
    try simp only [aS,hdd.2]
    try simp only [q2,q12,q20,bB,bS,↓reduceIte] at hx
    obtain ⟨rfl,rfl⟩:=sP hx
    refine kr (h:=?_)
    refine hK _ _ _ ⟨⟨_,_,_,_,rfl⟩,?_,rfl,p25⟩
    exact lF
   ·skip
    have z20:=meat_noS q20
    rw [z20] at p19
    rw [z20]
    try simp only [z20] at hx
    try simp only [q2,q12,q20,bB,bS,↓reduceIte] at hx
    refine kc (h:=w_peat fun h27 p27=>?_)
    try simp only [aS,hdd.2]
    refine h_ite rfl (fun q28=>?_) (fun q28=>?_)
    ·skip
     try simp only [q2,q12,q20,q28,bB,bS,↓reduceIte] at hx
     refine h_pv rfl rfl ?_
     try simp only [aS,hdd.2]
     try simp only [q2,q12,q20,q28,bB,bS,↓reduceIte] at hx
     obtain ⟨⟨x30,s30⟩,e30,hx⟩:=Option.bind_eq_some_iff.1 hx
     simp only at hx
     refine kc (h:=w_pstmt (f:=F) (by omega) e30 ⟨by omega,by omega⟩ fun A30 c30 B30 d30 h30 p30=>?_)
     try simp only [aS,hdd.2]
     refine kb (h:=fun g31=>?_)
     try simp only [aS,hdd.2]
     refine kc (h:=w_pwant fun h32 p32=>?_)
     refine h_pv rfl rfl ?_
     try simp only [aS,hdd.2]
     try simp only [q2,q12,q20,q28,bB,bS,↓reduceIte] at hx
     obtain ⟨⟨x34,s34⟩,e34,hx⟩:=Option.bind_eq_some_iff.1 hx
     simp only at hx
     refine kc (h:=w_pparen (f:=F)  e34 ⟨by omega,by omega⟩ fun A34 c34 h34 p34=>?_)
     try simp only [aS,hdd.2]
     refine kb (h:=fun g35=>?_)
     try simp only [aS,hdd.2]
     refine kc (h:=w_pwant fun h36 p36=>?_)
     try simp only [q2,q12,q20,q28,bB,bS,↓reduceIte] at hx
     obtain ⟨rfl,rfl⟩:=sP hx
     refine kr (h:=?_)
     refine hK _ _ _ ⟨⟨_,_,_,_,rfl⟩,?_,rfl,p36⟩
     exact lF
    ·skip
     have z28:=meat_noS q28
     rw [z28] at p27
     rw [z28]
     try simp only [z28] at hx
     try simp only [q2,q12,q20,q28,bB,bS,↓reduceIte] at hx
     refine kc (h:=w_peat fun h37 p37=>?_)
     try simp only [aS,hdd.2]
     refine h_ite rfl (fun q38=>?_) (fun q38=>?_)
     ·skip
      try simp only [q2,q12,q20,q28,q38,bB,bS,↓reduceIte] at hx
      try simp only [q2,q12,q20,q28,q38,bB,bS,↓reduceIte] at hx
      refine kC (h:=w_pstp (f:=F) (F:=F) (by omega) hx ⟨by omega,by omega⟩ fun A39 c39 B39 d39 h39 p39=>?_)
      try simp only [aS,hdd.2]
      refine kr (h:=?_)
      exact hK _ _ _ ⟨⟨_,_,_,_,rfl⟩,rfl,rfl,p39⟩
     ·skip
      have z38:=meat_noS q38
      rw [z38] at p37
      rw [z38]
      try simp only [z38] at hx
      try simp only [q2,q12,q20,q28,q38,bB,bS,↓reduceIte] at hx
      try simp only [q2,q12,q20,q28,q38,bB,bS,↓reduceIte] at hx
      refine kC (h:=w_pstp (f:=F) (F:=F) (by omega) hx ⟨by omega,by omega⟩ fun A40 c40 B40 d40 h40 p40=>?_)
      try simp only [aS,hdd.2]
      refine kr (h:=?_)
      exact hK _ _ _ ⟨⟨_,_,_,_,rfl⟩,rfl,rfl,p40⟩
end Go.Proofs.YtdmacgoeikjdbaaGreatDoor

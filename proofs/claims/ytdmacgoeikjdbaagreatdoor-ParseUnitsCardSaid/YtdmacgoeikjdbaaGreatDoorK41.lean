/- The program's parser: signs ahead, from where the sign was looked up ( -/
import Derived.Test.YtdmacgoeikjdbaaGreatDoorK40
import Derived.Test.YtdmacgoeikjdbaaGreatDoorK38
import Derived.Test.YtdmacgoeikjdbaaGreatDoorK02
set_option linter.unusedSimpArgs false
set_option linter.unusedVariables false
set_option maxHeartbeats 16000000
namespace Go.Proofs.YtdmacgoeikjdbaaGreatDoor
open Go.RowKit Sx
def cfP_unary:Cfg:=⟨[(65,sTok),(130,sExs),(67,sOne),(70,sUnit),(26,sTy),(28,sOne),(131,sEx),(133,sEx),(132,sPostX)],[(100 * 100 + 6,8),(100 * 89 + 1,8),(100 * 89 + 2,9),(100 * 56 + 4,1),(100 * 60 + 4,6),(100 * 60 + 5,9),(100 * 60 + 6,6)],[],sEx,[],[]⟩
def stP_unary:Sx.St:=⟨[(0,.el (.one (.v 0))),(1,.el (.one (.v 1))),(4,.el (.one (.p 0 0))),(5,.el (.one (.p 1 0))),(6,.el (.one (.v 6))),(7,.el (.one (.v 7)))],[⟨0,100,xZ⟩,⟨1,43,vsFrom 2 4⟩],[],8,2,0,60,[],[]⟩
def TP_unary_11:Tree:=tO 4 <| tW <| tS 3 [41] <| .ret [jI 10,.v 10,.v 11,.v 12,jE,jI 0,jN,.v 5] [jP 8]
def TP_unary_15:Tree:=tW <| tO 4 <| tS 3 [41] <| .ret [jI 10,.v 10,.v 11,.v 12,jE,jI 0,jN,.v 5] [jP 8]
def TP_unary_30:Tree:=tO 4 <| tW <| tS 3 [41] <| .ret [jI 10,.v 9,.v 10,.v 11,jE,jI 0,jN,.v 5] [jP 8]
def Z114:Tree:=tS 2 [115,105,122,101,111,102] <| .ite 9 (tS 3 [40] <| .both TP_unary_11 TP_unary_15) (tS 5 [40] <| .ite 10 (tV 6 1 <| .ret [.v 11,.v 12,.v 13,.v 14,.v 15,.v 16,.v 17,.v 18] [jD 17 0]) (tV 7 1 <| .nd (.call 8 [.one (.v 0),.agg [.v 11,.v 12,.v 13,.v 14,.v 15,.v 16,.v 17,.v 18],.one (.v 1)] [jD 17 0]) <| .ret [.v 19,.v 20,.v 21,.v 22,.v 23,.v 24,.v 25,.v 26] [jD 25 1]))
def Z113:Tree:=tQ 2 3 <| .ite 8 (tO 0 <| tA 1 1 <| tV 1 13 <| .ret [.v 6,jI 0,jI 0,jI 0,jE,jI 0,.v 14,.v 5] [jD 14 0]) Z114
def TP_unary_34:Tree:=tW <| tO 4 <| tS 3 [41] <| .ret [jI 10,.v 9,.v 10,.v 11,jE,jI 0,jN,.v 5] [jP 8]
def Z115:Tree:=tS 2 [115,105,122,101,111,102] <| .ite 8 (tS 3 [40] <| .both TP_unary_30 TP_unary_34) (tS 5 [40] <| .ite 9 (tV 6 1 <| .ret [.v 10,.v 11,.v 12,.v 13,.v 14,.v 15,.v 16,.v 17] [jD 16 0]) (tV 7 1 <| .nd (.call 8 [.one (.v 0),.agg [.v 10,.v 11,.v 12,.v 13,.v 14,.v 15,.v 16,.v 17],.one (.v 1)] [jD 16 0]) <| .ret [.v 18,.v 19,.v 20,.v 21,.v 22,.v 23,.v 24,.v 25] [jD 24 1]))
def TP_unary:Tree:=.ite 7 Z113 Z115
theorem munary_tree (F:Nat) (iho:∀ f,f≤F→MExs 130 (moperand f) f) (iht:∀ f,f≤F→MEx 131 (mcast f) f) (ihr:∀ f,f≤F→MEx 133 (mprimary f) f) (ihp:∀ f,f≤F→MPostOk f) (g:Nat) (d:Int) (s s':RS) (x:Ex) (h0:QH) (b4 b5:Nat) (bb:Bool) (K:List Value→List D→QS→Prop) (hx:munary (F + 1) d s=some (x,s')) (hd:DepthOk d (F + 1)) (hb:(lookS (hdT s.ts).text prefixes != 0)=bb) (hp0:OkS ⟨s,h0⟩)
  (hK':∀ A c h,OkS ⟨s',h⟩→K (exV x A c) [kidsD x] ⟨s',h⟩) :
  TP_unary.holds (R:=QR g) (P:=Tryz.prog) [(qNext g).x,(qExs 130 moperand g iho).x,(qEat g).x,(qWant g).x,(qTyp g).x,(qIs g).x,(qEx 131 mcast g iht).x,(qEx 133 mprimary g ihr).x,(qPost g ihp).x] K (fun _ _ _ _=>False) (⟨[ptrV g,.int .i64 d,.int .i64 (hdT s.ts).kind,strV8 (hdT s.ts).text,.int .i64 (hdT s.ts).n,.int .i64 (hdT s.ts).pos,.int .i64 (lookS (hdT s.ts).text prefixes),.bool bb],[b4,b5],[],⟨s,h0⟩⟩:Env QS):=by
 have hK:∀ vs ds σ',((∃ A c,vs=exV x A c)∧ds=[kidsD x]∧σ'.s=s'∧OkS σ')→K vs ds σ':=fun vs ds σ' h=>by
  obtain ⟨⟨A,c,rfl⟩,rfl,rfl,h3⟩:=h
  exact hK' A c _ h3
 have hd1:=hd.1
 have hd2:=hd.2
 have hdd:=deeper hd
 rw [munary,hb] at hx
 clear hb
 refine h_ite rfl (fun q1=>?_) (fun q1=>?_)
 ·skip
  try simp only [q1,bSizeof,bS,↓reduceIte] at hx
  refine h_pv rfl rfl ?_
  try simp only [aS,hdd.2]
  refine h_ite rfl (fun q3=>?_) (fun q3=>?_)
  ·skip
   try dsimp only at q3
   try simp only [q1,q3,bSizeof,bS,↓reduceIte] at hx
   refine kc (h:=w_pnext fun h4 p4=>?_)
   try simp only [aS,hdd.2]
   refine h_pv rfl rfl ?_
   try simp only [aS,hdd.2]
   try simp only [q1,q3,bSizeof,bS,↓reduceIte] at hx
   obtain ⟨⟨x6,s6⟩,e6,hx⟩:=Option.bind_eq_some_iff.1 hx
   simp only at hx
   refine kc (h:=w_pexs (f:=F) (by omega) e6 ⟨by omega,by omega⟩ fun A6 c6 h6 p6=>?_)
   try simp only [aS,hdd.2]
   try simp only [q1,q3,bSizeof,bS,↓reduceIte] at hx
   obtain ⟨rfl,rfl⟩:=sP hx
   refine kr (h:=?_)
   refine hK _ _ _ ⟨⟨_,_,rfl⟩,?_,rfl,p6⟩
   first | rfl | (simp only [kidsD,Ex.kids,List.map,encEx_eq];done) | (simp only [kidsD,Ex.kids,List.map,encEx_eq];rfl) | (simp only [exsD,List.map,encEx_eq];done) | (simp only [exsD,List.map,encEx_eq];rfl) | (simp [kidsD,exsD,Ex.kids,encEx_eq];done)
  ·skip
   try dsimp only at q3
   try simp only [q1,q3,bSizeof,bS,↓reduceIte] at hx
   refine kc (h:=w_peat fun h7 p7=>?_)
   try simp only [aS,hdd.2]
   refine h_ite rfl (fun q8=>?_) (fun q8=>?_)
   ·skip
    try simp only [q1,q3,q8,bSizeof,bS,↓reduceIte] at hx
    refine kc (h:=w_pwant fun h9 p9=>?_)
    refine h_both ?_ ?_
    ·unfold TP_unary_11
     refine kc (h:=w_ptyp fun h10 p10=>?_)
     try simp only [aS,hdd.2]
     refine h_new fun g11=>?_
     refine kc (h:=w_pwant fun h12 p12=>?_)
     try simp only [q1,q3,q8,bSizeof,bS,↓reduceIte] at hx
     obtain ⟨rfl,rfl⟩:=sP hx
     refine kr (h:=?_)
     refine hK _ _ _ ⟨⟨_,_,rfl⟩,?_,rfl,p12⟩
     first | rfl | (simp only [kidsD,Ex.kids,List.map,encEx_eq];done) | (simp only [kidsD,Ex.kids,List.map,encEx_eq];rfl) | (simp only [exsD,List.map,encEx_eq];done) | (simp only [exsD,List.map,encEx_eq];rfl) | (simp [kidsD,exsD,Ex.kids,encEx_eq];done)
    ·unfold TP_unary_15
     refine h_new fun g13=>?_
     refine kc (h:=w_ptyp fun h14 p14=>?_)
     try simp only [aS,hdd.2]
     refine kc (h:=w_pwant fun h15 p15=>?_)
     try simp only [q1,q3,q8,bSizeof,bS,↓reduceIte] at hx
     obtain ⟨rfl,rfl⟩:=sP hx
     refine kr (h:=?_)
     refine hK _ _ _ ⟨⟨_,_,rfl⟩,?_,rfl,p15⟩
     first | rfl | (simp only [kidsD,Ex.kids,List.map,encEx_eq];done) | (simp only [kidsD,Ex.kids,List.map,encEx_eq];rfl) | (simp only [exsD,List.map,encEx_eq];done) | (simp only [exsD,List.map,encEx_eq];rfl) | (simp [kidsD,exsD,Ex.kids,encEx_eq];done)
   ·skip
    have z8:=meat_noS q8
    rw [z8] at p7
    rw [z8]
    try simp only [z8] at hx
    try simp only [q1,q3,q8,bSizeof,bS,↓reduceIte] at hx
    refine kc (h:=w_pis ?_)
    try simp only [aS,hdd.2]
    refine h_ite rfl (fun q17=>?_) (fun q17=>?_)
    ·skip
     try simp only [q1,q3,q8,q17,bSizeof,bS,↓reduceIte] at hx
     try simp only [q1,q3,q8,q17,bSizeof,bS,↓reduceIte] at hx
     refine kc (h:=w_pex (f:=F)  (by omega) hx ⟨by omega,by omega⟩ fun A18 c18 h18 p18=>?_)
     try simp only [aS,hdd.2]
     refine kr (h:=?_)
     exact hK _ _ _ ⟨⟨_,_,rfl⟩,rfl,rfl,p18⟩
    ·skip
     try simp only [q1,q3,q8,q17,bSizeof,bS,↓reduceIte] at hx
     try simp only [q1,q3,q8,q17,bSizeof,bS,↓reduceIte] at hx
     obtain ⟨⟨x19,s19⟩,e19,hx⟩:=Option.bind_eq_some_iff.1 hx
     simp only at hx
     refine kc (h:=w_pex (f:=F) (by omega) e19 ⟨by omega,by omega⟩ fun A19 c19 h19 p19=>?_)
     try simp only [aS,hdd.2]
     try simp only [q1,q3,q8,q17,bSizeof,bS,↓reduceIte] at hx
     refine kc (h:=w_ppost (f:=F) (B:=A19) (e:=c19) (by omega) hx ⟨by omega,by omega⟩ fun A20 c20 h20 p20=>?_)
     try simp only [aS,hdd.2]
     refine kr (h:=?_)
     exact hK _ _ _ ⟨⟨_,_,rfl⟩,rfl,rfl,p20⟩
 ·skip
  try simp only [q1,bSizeof,bS,↓reduceIte] at hx
  refine kc (h:=w_peat fun h21 p21=>?_)
  try simp only [aS,hdd.2]
  refine h_ite rfl (fun q22=>?_) (fun q22=>?_)
  ·skip
   try simp only [q1,q22,bSizeof,bS,↓reduceIte] at hx
   refine kc (h:=w_pwant fun h23 p23=>?_)
   refine h_both ?_ ?_
   ·unfold TP_unary_30
    refine kc (h:=w_ptyp fun h24 p24=>?_)
    try simp only [aS,hdd.2]
    refine h_new fun g25=>?_
    refine kc (h:=w_pwant fun h26 p26=>?_)
    try simp only [q1,q22,bSizeof,bS,↓reduceIte] at hx
    obtain ⟨rfl,rfl⟩:=sP hx
    refine kr (h:=?_)
    refine hK _ _ _ ⟨⟨_,_,rfl⟩,?_,rfl,p26⟩
    first | rfl | (simp only [kidsD,Ex.kids,List.map,encEx_eq];done) | (simp only [kidsD,Ex.kids,List.map,encEx_eq];rfl) | (simp only [exsD,List.map,encEx_eq];done) | (simp only [exsD,List.map,encEx_eq];rfl) | (simp [kidsD,exsD,Ex.kids,encEx_eq];done)
   ·unfold TP_unary_34
    refine h_new fun g27=>?_
    refine kc (h:=w_ptyp fun h28 p28=>?_)
    try simp only [aS,hdd.2]
    refine kc (h:=w_pwant fun h29 p29=>?_)
    try simp only [q1,q22,bSizeof,bS,↓reduceIte] at hx
    obtain ⟨rfl,rfl⟩:=sP hx
    refine kr (h:=?_)
    refine hK _ _ _ ⟨⟨_,_,rfl⟩,?_,rfl,p29⟩
    first | rfl | (simp only [kidsD,Ex.kids,List.map,encEx_eq];done) | (simp only [kidsD,Ex.kids,List.map,encEx_eq];rfl) | (simp only [exsD,List.map,encEx_eq];done) | (simp only [exsD,List.map,encEx_eq];rfl) | (simp [kidsD,exsD,Ex.kids,encEx_eq];done)
  ·skip
   have z22:=meat_noS q22
   rw [z22] at p21
   rw [z22]
   try simp only [z22] at hx
   try simp only [q1,q22,bSizeof,bS,↓reduceIte] at hx
   refine kc (h:=w_pis ?_)
   try simp only [aS,hdd.2]
   refine h_ite rfl (fun q31=>?_) (fun q31=>?_)
   ·skip
    try simp only [q1,q22,q31,bSizeof,bS,↓reduceIte] at hx
    try simp only [q1,q22,q31,bSizeof,bS,↓reduceIte] at hx
    refine kc (h:=w_pex (f:=F)  (by omega) hx ⟨by omega,by omega⟩ fun A32 c32 h32 p32=>?_)
    try simp only [aS,hdd.2]
    refine kr (h:=?_)
    exact hK _ _ _ ⟨⟨_,_,rfl⟩,rfl,rfl,p32⟩
   ·skip
    try simp only [q1,q22,q31,bSizeof,bS,↓reduceIte] at hx
    try simp only [q1,q22,q31,bSizeof,bS,↓reduceIte] at hx
    obtain ⟨⟨x33,s33⟩,e33,hx⟩:=Option.bind_eq_some_iff.1 hx
    simp only at hx
    refine kc (h:=w_pex (f:=F) (by omega) e33 ⟨by omega,by omega⟩ fun A33 c33 h33 p33=>?_)
    try simp only [aS,hdd.2]
    try simp only [q1,q22,q31,bSizeof,bS,↓reduceIte] at hx
    refine kc (h:=w_ppost (f:=F) (B:=A33) (e:=c33) (by omega) hx ⟨by omega,by omega⟩ fun A34 c34 h34 p34=>?_)
    try simp only [aS,hdd.2]
    refine kr (h:=?_)
    exact hK _ _ _ ⟨⟨_,_,rfl⟩,rfl,rfl,p34⟩
end Go.Proofs.YtdmacgoeikjdbaaGreatDoor
namespace Go.Proofs.YtdmacgoeikjdbaaGreatDoor
open Go.RowKit Sx Go.WideMaps Go.Maps
theorem lookN_mem {α:Type} {t:Nat} {x:α}:∀ {l:List (Nat × α)},lookN t l=some x→(t,x) ∈ l
 | [],h=>by cases h
 | (i,y) :: l,h=>by
  unfold lookN at h
  split at h
  ·rename_i hi
   injection h with h
   rw [Nat.eq_of_beq_eq_true hi,h]
   exact List.mem_cons_self
  ·exact List.mem_cons_of_mem _ (lookN_mem h)
theorem tms_of {S:Type} {E:Env S} {st:Sx.St} {a:Act} (h1:a.tmps.size=st.nt) (h2:a.defers=[]) (h:∀ x ∈ st.tm,∃ v,x.2.den E.vals E.blks=some v∧a.tmps[x.1]?=some v):Tms E st a:=⟨h1,h2,fun t sv ht=>h (t,sv) (lookN_mem ht)⟩
set_option maxRecDepth 8000 in
theorem look_pref {w:World} {b:Nat} (tx:List UInt8) (hl:tx.length≤1000000) (h:w.ownsMap Tryz.prog 9 (plainElem (H:=Unit) Tryz.prog 3) b 7 (mapS prefR)) :
  (Instr.lookup 139 (.map (some b)) (strB tx) true).run Tryz.prog w=.ok (.tuple #[.int .i64 (lookS tx prefixes),.bool (lookS tx prefixes != 0)]) w:=by
 obtain ⟨v,ps,h1,h2⟩:=h.look_ok keyedS Tryz.underlying139 (zeroI _) (zd:=.lit (.int .i64 0)) (zp:=[]) (plainElem_int Tryz.underlying3 (by decide)) (key:=strB tx) (kl:=.string tx) (keyOf_string_mk (s:=⟨tx.toArray⟩) Tryz.underlying9 (by show tx.toArray.size≤maxLen;unfold maxLen;simp;omega))
 obtain ⟨c,rfl,hc,_⟩:=plainElem_int_inv Tryz.underlying3 h2
 have h3:=mapS_at tx prefR (by decide)
 rw [look_prefR] at h3
 have h4:=congrArg Prod.fst hc
 simp only at h4
 rw [h3.1] at h4
 injection h4 with h4
 injection h4 with _ h4
 rw [h1,h3.2,h4]
set_option maxRecDepth 8000 in
theorem munary_step (F:Nat) (iho:∀ f,f≤F→MExs 130 (moperand f) f) (iht:∀ f,f≤F→MEx 131 (mcast f) f) (ihr:∀ f,f≤F→MEx 133 (mprimary f) f) (ihp:∀ f,f≤F→MPostOk f):MEx 121 (munary (F + 1)) (F + 1):=by
 intro g d s s' x h0 w okk K hx hd hr hok hK'
 obtain ⟨bb,hbb⟩:∃ b,(lookS (hdT s.ts).text prefixes != 0)=b:=⟨_,rfl⟩
 have htree:=fun b4 b5=>munary_tree F iho iht ihr ihp g d s s' x h0 b4 b5 bb K hx hd hbb hr.1 hK'
 clear hx hK'
 have htok:=fun W (h:QR g ⟨s,h0⟩ W)=>tok_calls h
 have hg:=hr.lt
 have hlen:=hr.1.htx
 simp only at hlen
 obtain ⟨⟨kd,tx,m,ps⟩,ht⟩:∃ t,hdT s.ts=t:=⟨_,rfl⟩
 simp only [ht,Tok.val,tokVal] at htok
 simp only [ht] at htree hbb hlen
 have HT:=Lib.hid htree
 have HR:=Lib.hid hr
 obtain ⟨Kq,hKq⟩:∃ Q,Hid (PostQ g sEx okk w K=Q):=⟨_,Lib.hid rfl⟩
 rw [hKq.out]
 clear htree hr
 go_enter Tryz.func121,Tryz.ntmps121
 go_wp2_with fail
 have hb0:=below_alloc w (.cells #[.int .i64 0,.int .i64 0,.int .i64 0,.int .i64 0,.string ⟨#[]⟩,.int .i64 0,.slice none 0 0,.int .i64 0] 100)
 have z4:BlkIs (w.alloc (.cells #[.int .i64 0,.int .i64 0,.int .i64 0,.int .i64 0,.string ⟨#[]⟩,.int .i64 0,.slice none 0 0,.int .i64 0] 100)) w.heap.size 100 #[.int .i64 0,.int .i64 0,.int .i64 0,.int .i64 0,.string ⟨#[]⟩,.int .i64 0,.slice none 0 0,.int .i64 0]:=BlkIs.fresh _ _ _
 have hr1:=HR.out.below hb0
 have hk1:KeepM g w _:=KeepM.of hb0
 have hs1:w.heap.size<(w.alloc (.cells #[.int .i64 0,.int .i64 0,.int .i64 0,.int .i64 0,.string ⟨#[]⟩,.int .i64 0,.slice none 0 0,.int .i64 0] 100)).heap.size:=z4.lt
 obtain ⟨w1,hw1⟩:∃ w1,w1=w.alloc (.cells #[.int .i64 0,.int .i64 0,.int .i64 0,.int .i64 0,.string ⟨#[]⟩,.int .i64 0,.slice none 0 0,.int .i64 0] 100):=⟨_,rfl⟩
 rw [← hw1] at z4 hr1 hk1 hs1 ⊢
 clear hw1 hb0
 refine (htok _ hr1).mono ?_
 rintro e w2 ⟨rfl,r2,k2⟩
 have z4:=z4.keepM k2 (by omega)
 have hk2:=hk1.trans k2
 have hs2:=Nat.lt_of_lt_of_le hs1 k2.size
 clear k2 hr1 hk1 hs1
 go_upto_region 2 with fail
 have hb0:=below_alloc w2 (.cells #[.int .i64 kd,.string ⟨tx.toArray⟩,.int .i64 m,.int .i64 ps] 43)
 have z5:BlkIs (w2.alloc (.cells #[.int .i64 kd,.string ⟨tx.toArray⟩,.int .i64 m,.int .i64 ps] 43)) w2.heap.size 43 #[.int .i64 kd,.string ⟨tx.toArray⟩,.int .i64 m,.int .i64 ps]:=BlkIs.fresh _ _ _
 have r3:=r2.below hb0
 have z4:=z4.below hb0 hs2
 have hk3:=hk2.trans (KeepM.of hb0)
 obtain ⟨w3,hw3⟩:∃ w3,w3=w2.alloc (.cells #[.int .i64 kd,.string ⟨tx.toArray⟩,.int .i64 m,.int .i64 ps] 43):=⟨_,rfl⟩
 rw [← hw3] at z4 z5 r3 hk3 ⊢
 clear hw3 hb0 r2 hk2
 have c1:w3.cell? ⟨w2.heap.size,1,none⟩=some (.string ⟨tx.toArray⟩):=by rw [z5.cell];rfl
 have hs3:=z5.lt
 refine beginH (fun W'=>Below w3.heap.size w3 W') (by kernel_rfl) ((Below.refl _ _).drew) (fun hHeld=>?_)
 refine takeH (i:=1) (d:=some 13) (v:=.pointer (some ⟨w2.heap.size,1,none⟩)) (by kernel_rfl) rfl rfl rfl (fun _ _ _ h=>h) hHeld (fun W hSw=>by go_simp) ?_
 simp only [Act.put,List.setIfInBounds_toArray,List.set_cons_zero,List.set_cons_succ]
 refine takeH (i:=2) (d:=some 14) (v:=.string ⟨tx.toArray⟩) (by kernel_rfl) rfl rfl rfl (fun _ _ _ h=>h) hHeld (fun W hSw=>by have x0:=(hSw.cell (p:=⟨w2.heap.size,1,none⟩) (by show w2.heap.size<_;omega)).trans c1;go_simp) ?_
 simp only [Act.put,List.setIfInBounds_toArray,List.set_cons_zero,List.set_cons_succ]
 refine onlyH (i:=0) (d:=some 12) (by kernel_rfl) rfl rfl rfl (fun K' hK=>?_)
 refine wp_go_call 129 _ _ rfl #[] rfl (fun W'=>by go_simp) (prefix_any _) (fun e wg he=>?_)
 obtain ⟨rfl,hown,hb3⟩:=he
 refine ⟨_,rfl,hK.out _ _ (hHeld.trans (hb3.mono hHeld.size)) (fun hHeld=>?_)⟩
 have hlook:(Instr.lookup 139 (.map (some w3.heap.size)) (.string ⟨tx.toArray⟩) true).run Tryz.prog wg=.ok (.tuple #[.int .i64 (lookS tx prefixes),.bool bb]) wg:=by rw [← hbb];exact look_pref tx hlen hown
 clear hown hb3
 simp only [Act.put,List.setIfInBounds_toArray,List.set_cons_zero,List.set_cons_succ]
 refine onlyH (i:=3) (d:=some 15) (by kernel_rfl) rfl rfl rfl (fun K' hK=>?_)
 refine wp_val (w':=wg) (v:=.tuple #[.int .i64 (lookS tx prefixes),.bool bb]) (by go_simp) (hK.out _ _ hHeld (fun hHeld=>?_))
 clear hlook
 simp only [Act.put,List.setIfInBounds_toArray,List.set_cons_zero,List.set_cons_succ]
 refine takeH (i:=4) (d:=some 11) (v:=.tuple #[.int .i64 (lookS tx prefixes),.bool bb]) (by kernel_rfl) rfl rfl rfl (fun _ _ _ h=>h) hHeld (fun W hSw=>by go_simp) ?_
 simp only [Act.put,List.setIfInBounds_toArray,List.set_cons_zero,List.set_cons_succ]
 refine takeH (i:=5) (d:=some 16) (v:=.int .i64 (lookS tx prefixes)) (by kernel_rfl) rfl rfl rfl (fun _ _ _ h=>h) hHeld (fun W hSw=>by go_simp) ?_
 simp only [Act.put,List.setIfInBounds_toArray,List.set_cons_zero,List.set_cons_succ]
 refine takeH (i:=6) (d:=some 17) (v:=.bool bb) (by kernel_rfl) rfl rfl rfl (fun _ _ _ h=>h) hHeld (fun W hSw=>by go_simp) ?_
 simp only [Act.put,List.setIfInBounds_toArray,List.set_cons_zero,List.set_cons_succ]
 refine takeH (i:=7) (d:=some 6) (v:=.int .i64 (lookS tx prefixes)) (by kernel_rfl) rfl rfl rfl (fun _ _ _ h=>h) hHeld (fun W hSw=>by go_simp) ?_
 simp only [Act.put,List.setIfInBounds_toArray,List.set_cons_zero,List.set_cons_succ]
 refine takeH (i:=8) (d:=some 7) (v:=.bool bb) (by kernel_rfl) rfl rfl rfl (fun _ _ _ h=>h) hHeld (fun W hSw=>by go_simp) ?_
 simp only [Act.put,List.setIfInBounds_toArray,List.set_cons_zero,List.set_cons_succ]
 refine wpAnyH_done (by kernel_rfl) ?_ _
 go_step
 go_step
 have z4:=z4.below hHeld (by omega)
 have z5:=z5.below hHeld hs3
 have r4:=r3.below hHeld
 have hk4:=hk3.trans (KeepM.of hHeld)
 have hsz:=hHeld.size
 have hgk:∀ k,okk k→g<k:=hok
 rw [← hKq.out]
 refine rest_ok (cf:=cfP_unary) _ rfl mixed QR.stable (st:=stP_unary) (by kernel_rfl) hg hgk (HT.out w.heap.size w2.heap.size) (tms_of rfl rfl ?_) ?_
 ·intro y hy
  simp only [stP_unary,List.mem_cons,List.not_mem_nil,or_false] at hy
  rcases hy with rfl | rfl | rfl | rfl | rfl | rfl <;> exact ⟨_,rfl,rfl⟩
 ·refine ⟨rfl,rfl,rfl,by simp [Value.oneCell',strV8],by simp;omega,?_,?_,fun f hf=>(by cases hf),fun f hf=>(by cases hf),fun f hf=>(by cases hf),r4,KeepX.ofM hk4 (.inl rfl),fun y hy=>(by cases hy),fun i b hb=>(by simp [stP_unary] at hb)⟩
  ·intro k hk
   simp only [List.mem_cons,List.not_mem_nil,or_false] at hk
   rcases hk with rfl | rfl
   ·exact ⟨.inr (Nat.le_refl _),by omega⟩
   ·exact ⟨.inr (by show w.heap.size≤_;omega),by omega⟩
  ·intro B hB
   simp only [stP_unary,List.mem_cons,List.not_mem_nil,or_false] at hB
   rcases hB with rfl | rfl
   ·exact ⟨_,_,rfl,rfl,z4,by simp [Value.oneCell']⟩
   ·exact ⟨_,_,rfl,rfl,z5,by simp [Value.oneCell',strV8]⟩
end Go.Proofs.YtdmacgoeikjdbaaGreatDoor

/- The program's parser: ops of two, so deep it is, casts (symbolic execu -/
import Derived.Test.YtdmacgoeikjdbaaGreatDoorK39
set_option linter.unusedSimpArgs false
set_option linter.unusedVariables false
set_option maxHeartbeats 16000000
namespace Go.Proofs.YtdmacgoeikjdbaaGreatDoor
open Go.RowKit Sx
def cfP_binary:Cfg:=⟨[(121,sEx),(112,sEx),(14,sTok),(122,sAss),(65,sTok)],[(100 * 100 + 6,8),(100 * 89 + 1,8),(100 * 89 + 2,9),(100 * 56 + 4,1),(100 * 60 + 4,6),(100 * 60 + 5,9),(100 * 60 + 6,6)],[(0,⟨[(0,.el (.one (.v 0))),(1,.el (.one (.v 1))),(2,.el (.one (.v 2))),(6,.el (.one (.p 0 0))),(7,.el (.one (.p 1 0)))],[⟨0,100,xZ⟩,⟨1,100,vsFrom 3 8⟩],[⟨9,0,none⟩],11,2,1,45,[],[]⟩)],sEx,[],[]⟩
def Z109:Tree:=tO 2 <| tV 3 2 <| tT 16 <| .ite 17 (.ret [.v 3,.v 4,.v 5,.v 6,.v 7,.v 8,.v 9,.v 10] [jD 9 0]) (tO 4 <| tA 2 1 <| .nd (.call 1 [.one (.v 0),.one (.v 1),.one (.v 22)] []) <| tB 8 2 [rX 3 0,rX 23 1] <| .again 0 [.v 0,.v 1,.v 2,.v 15,jI 0,jI 0,jI 0,jE,jI 0,.v 31,.v 14] [jD 31 2])
def TP_binary:Tree:=tW <| .nd (.pv (.bin .gtr) [.v 2,jI 9]) <| .ite 3 (tV 0 1 <| .ret [.v 4,.v 5,.v 6,.v 7,.v 8,.v 9,.v 10,.v 11] [jD 10 0]) (tA 2 1 <| .nd (.call 1 [.one (.v 0),.one (.v 1),.one (.v 4)] []) <| tW <| .loop 0 2 [.v 0,.v 1,.v 2,.v 5,.v 6,.v 7,.v 8,.v 9,.v 10,.v 11,.v 12] [jD 11 0] Z109)
theorem TP_binary_eq:fnS Tryz.prog cfP_binary [.one,.one,.one] 112=some TP_binary:=by kernel_rfl
theorem mbin_step (F:Nat) (ihu:∀ f,f≤F→MEx 121 (munary f) f) (ihb:∀ f,f≤F→MBinOk f):MBinOk (F + 1):=by
 intro g d n s s' x h0 w okk K hn hx hd hr hok hK'
 have hK:∀ vs ds σ',((∃ A c,vs=exV x A c)∧ds=[kidsD x]∧σ'.s=s'∧OkS σ')→K vs ds σ':=fun vs ds σ' h=>by
  obtain ⟨⟨A,c,rfl⟩,rfl,rfl,h3⟩:=h
  exact hK' A c _ h3
 refine fn_ok (cf:=cfP_binary) [(qEx 121 munary g ihu).x,(qBin g ihb).x,(qTok g).x,(qOperator g).x,(qNext g).x] rfl mixed QR.stable TP_binary_eq (W:=fun args ds σ K'=>args=[ptrV g,.int .i64 d,.int .i64 n]∧ds=[]∧σ=⟨s,h0⟩∧K'=K)
  (fun args ds σ K hW=>by obtain ⟨rfl,_⟩:=hW;exact ⟨rfl,rfl,rfl,trivial⟩) ?_ [ptrV g,.int .i64 d,.int .i64 n] [] ⟨s,h0⟩ w okk K hr.lt hr hok (daOk_nil _ _ _) (by simp [Sx.flat,Value.cells,Value.oneCell',exC,strV8]) ⟨rfl,rfl,rfl,rfl⟩
 rintro args ds σ K' ⟨rfl,rfl,rfl,rfl⟩ _
 have hp0:=hr.1
 have hd1:=hd.1
 have hd2:=hd.2
 have hdd:=deeper hd
 have hn1:9 ≥ n→IntKind.i64.wrap ((n:Int) + 1)=((n + 1:Nat):Int):=fun h=>by rw [IntKind.wrap_i64];omega
 rw [mbinary] at hx
 show Tree.holds _ _ _ _ (⟨Sx.flat [ptrV g,.int .i64 d,.int .i64 n],[],[],⟨s,h0⟩⟩:Env QS)
 simp only [Sx.flat,Value.cells,List.flatMap_cons,List.flatMap_nil,List.append_nil,List.cons_append,List.nil_append,Array.toList]
 refine h_new fun g1=>?_
 refine h_pv rfl rfl ?_
 try simp only [aS,hdd.2,hn1]
 refine h_ite rfl (fun q3=>?_) (fun q3=>?_)
 ·skip
  try dsimp only at q3
  have qn:9<n:=by have:=q3;simp at this;omega
  rw [if_pos qn] at hx
  try simp only [q3,bS,↓reduceIte] at hx
  try simp only [q3,bS,↓reduceIte] at hx
  refine kc (h:=w_pex (f:=F)  (by omega) hx ⟨by omega,by omega⟩ fun A4 c4 h4 p4=>?_)
  try simp only [aS,hdd.2,hn1]
  refine kr (h:=?_)
  exact hK _ _ _ ⟨⟨_,_,rfl⟩,rfl,rfl,p4⟩
 ·skip
  try dsimp only at q3
  have qn:¬ 9<n:=by have:=q3;simp at this;omega
  rw [if_neg qn] at hx
  have hn1:=hn1 (by omega)
  try simp only [q3,bS,↓reduceIte] at hx
  refine h_pv rfl rfl ?_
  try simp only [aS,hdd.2,hn1]
  try simp only [q3,bS,↓reduceIte] at hx
  obtain ⟨⟨x6,s6⟩,e6,hx⟩:=Option.bind_eq_some_iff.1 hx
  simp only at hx
  refine kc (h:=w_pbin (f:=F) (n:=n + 1) (by omega) (by omega) e6 ⟨by omega,by omega⟩ fun A6 c6 h6 p6=>?_)
  try simp only [aS,hdd.2,hn1]
  refine h_new fun g7=>?_
  refine h_loop (fun k vs ds σ=>∃ (a:Ex) (A:Option Addr) (c:Nat),vs=ptrV g :: .int .i64 d :: .int .i64 n :: exV a A c∧ds=[kidsD a]∧OkS σ∧k≤F∧mbinloop k d n a σ.s=some (x,s')) F (by simp only [rowsD,ldens,dens,dens2,T2.den,L.den,CD.den,leafD,rowD,List.getElem?_cons_zero,List.getElem?_cons_succ] <;> rfl) (by simp only [rowsD,ldens,dens,dens2,T2.den,L.den,CD.den,leafD,rowD,List.getElem?_cons_zero,List.getElem?_cons_succ] <;> rfl) (fun vs ds σ ⟨a,A,c,_,_,_,_,h⟩=>by cases h) ⟨_,_,_,rfl,rfl,p6,Nat.le_refl _,hx⟩ ?_
  rintro k vs ds bl ⟨s,h0⟩ hbl ⟨a,A,c,rfl,rfl,hp0,hk,hx⟩
  rw [mbinloop] at hx
  simp only at hx
  try simp only [aS,hdd.2,hn1]
  refine kc (h:=w_ptok ?_)
  try simp only [aS,hdd.2,hn1]
  refine kc (h:=w_poperator (by omega) fun v9 hv9=>?_)
  try simp only [aS,hdd.2,hn1]
  refine h_pv rfl rfl ?_
  try simp only [aS,hdd.2,hn1]
  refine h_ite rfl (fun q11=>?_) (fun q11=>?_)
  ·skip
   simp only [nS] at q11
   try simp only [q11,bS,↓reduceIte] at hx
   try simp only [q11,bS,↓reduceIte] at hx
   obtain ⟨rfl,rfl⟩:=sP hx
   refine kr (h:=?_)
   refine hK _ _ _ ⟨⟨_,_,rfl⟩,?_,rfl,hp0⟩
   first | rfl | (simp only [kidsD,Ex.kids,List.map,encEx_eq];done) | (simp only [kidsD,Ex.kids,List.map,encEx_eq];rfl) | (simp only [exsD,List.map,encEx_eq];done) | (simp only [exsD,List.map,encEx_eq];rfl) | (simp [kidsD,exsD,Ex.kids,encEx_eq];done)
  ·skip
   simp only [nS] at q11
   try simp only [q11,bS,↓reduceIte] at hx
   obtain rfl:=hv9 q11
   refine kc (h:=w_pnext fun h12 p12=>?_)
   try simp only [aS,hdd.2,hn1]
   refine h_pv rfl rfl ?_
   try simp only [aS,hdd.2,hn1]
   try simp only [q11,bS,↓reduceIte] at hx
   obtain ⟨⟨x14,s14⟩,e14,hx⟩:=Option.bind_eq_some_iff.1 hx
   simp only at hx
   refine kc (h:=w_pbin (f:=k) (n:=n + 1) (by omega) (by omega) e14 ⟨by omega,by omega⟩ fun A14 c14 h14 p14=>?_)
   try simp only [aS,hdd.2,hn1]
   refine kb (h:=fun g15=>?_)
   try simp only [aS,hdd.2,hn1]
   try simp only [q11,bS,↓reduceIte] at hx
   refine ka (h:=?_)
   show (ite ((0:Nat)=0) _ _:List Value→List D→QS→Prop) _ _ _
   rw [if_pos rfl]
   refine ⟨_,_,_,rfl,?_,p14,by omega,hx⟩
   first | rfl | (simp only [kidsD,Ex.kids,List.map,encEx_eq];done) | (simp only [kidsD,Ex.kids,List.map,encEx_eq];rfl) | (simp [kidsD,exsD,Ex.kids,encEx_eq];done)
def cfP_operand:Cfg:=⟨[(84,sUnit),(121,sEx)],[(100 * 100 + 6,8),(100 * 89 + 1,8),(100 * 89 + 2,9),(100 * 56 + 4,1),(100 * 60 + 4,6),(100 * 60 + 5,9),(100 * 60 + 6,6)],[],sExs,[],[]⟩
def TP_operand:Tree:=tV 0 1 <| tV 1 1 <| tB 8 1 [rX 2 0] <| .ret [.v 10] [jD 10 1]
theorem TP_operand_eq:fnS Tryz.prog cfP_operand [.one,.one] 130=some TP_operand:=by kernel_rfl
theorem moperand_step (F:Nat) (ihu:∀ f,f≤F→MEx 121 (munary f) f):MExs 130 (moperand (F + 1)) (F + 1):=by
 intro g d s s' x h0 w okk K hx hd hr hok hK'
 have hK:∀ vs ds σ',((∃ A c,vs=[.slice A x.length c])∧ds=[exsD x]∧σ'.s=s'∧OkS σ')→K vs ds σ':=fun vs ds σ' h=>by
  obtain ⟨⟨A,c,rfl⟩,rfl,rfl,h3⟩:=h
  exact hK' A c _ h3
 refine fn_ok (cf:=cfP_operand) [(qDeep g).x,(qEx 121 munary g ihu).x] rfl mixed QR.stable TP_operand_eq (W:=fun args ds σ K'=>args=[ptrV g,.int .i64 d]∧ds=[]∧σ=⟨s,h0⟩∧K'=K)
  (fun args ds σ K hW=>by obtain ⟨rfl,_⟩:=hW;exact ⟨rfl,rfl,trivial⟩) ?_ [ptrV g,.int .i64 d] [] ⟨s,h0⟩ w okk K hr.lt hr hok (daOk_nil _ _ _) (by simp [Sx.flat,Value.cells,Value.oneCell',exC,strV8]) ⟨rfl,rfl,rfl,rfl⟩
 rintro args ds σ K' ⟨rfl,rfl,rfl,rfl⟩ _
 have hp0:=hr.1
 have hd1:=hd.1
 have hd2:=hd.2
 rw [moperand] at hx
 show Tree.holds _ _ _ _ (⟨Sx.flat [ptrV g,.int .i64 d],[],[],⟨s,h0⟩⟩:Env QS)
 simp only [Sx.flat,Value.cells,List.flatMap_cons,List.flatMap_nil,List.append_nil,List.cons_append,List.nil_append,Array.toList]
 refine kc (h:=w_pdeep fun h1 p1=>?_)
 try simp only [bS,↓reduceIte] at hx
 obtain ⟨⟨x2,s2⟩,e2,hx⟩:=Option.bind_eq_some_iff.1 hx
 simp only at hx
 refine kc (h:=w_pex (f:=F) (by omega) e2 ⟨by omega,by omega⟩ fun A2 c2 h2 p2=>?_)
 try simp only [aS,hdd.2]
 refine kb (h:=fun g3=>?_)
 try simp only [aS,hdd.2]
 try simp only [bS,↓reduceIte] at hx
 obtain ⟨rfl,rfl⟩:=sP hx
 refine kr (h:=?_)
 refine hK _ _ _ ⟨⟨_,_,rfl⟩,?_,rfl,p2⟩
 first | rfl | (simp only [kidsD,Ex.kids,List.map,encEx_eq];done) | (simp only [kidsD,Ex.kids,List.map,encEx_eq];rfl) | (simp only [exsD,List.map,encEx_eq];done) | (simp only [exsD,List.map,encEx_eq];rfl) | (simp [kidsD,exsD,Ex.kids,encEx_eq];done)
def cfP_cast:Cfg:=⟨[(65,sTok),(85,sOne),(26,sTy),(70,sUnit),(130,sExs),(88,sEx),(132,sPostX)],[(100 * 100 + 6,8),(100 * 89 + 1,8),(100 * 89 + 2,9),(100 * 56 + 4,1),(100 * 60 + 4,6),(100 * 60 + 5,9),(100 * 60 + 6,6)],[],sEx,[],[]⟩
def TP_cast_6:Tree:=tO 2 <| tW <| tS 3 [41] <| tA 1 1 <| tV 4 10 <| .ret [jI 9,.v 7,.v 8,.v 9,jE,jI 0,.v 11,.v 5] [jD 11 0]
def TP_cast_12:Tree:=tW <| tO 2 <| tS 3 [41] <| tA 1 1 <| tV 4 10 <| .ret [jI 9,.v 7,.v 8,.v 9,jE,jI 0,.v 11,.v 5] [jD 11 0]
def TP_cast:Tree:=tW <| tO 0 <| tW <| tO 1 <| .ite 6 (.both TP_cast_6 TP_cast_12) (tA 1 1 <| tV 5 7 <| tW <| tS 3 [41] <| .nd (.call 6 [.one (.v 0),.agg [.v 8,.v 9,.v 10,.v 11,.v 12,.v 13,.v 14,.v 15],.one (.v 1)] [jD 14 0]) <| .ret [.v 16,.v 17,.v 18,.v 19,.v 20,.v 21,.v 22,.v 23] [jD 22 1])
theorem TP_cast_eq:fnS Tryz.prog cfP_cast [.one,.one] 131=some TP_cast:=by kernel_rfl
theorem mcast_step (F:Nat) (iho:∀ f,f≤F→MExs 130 (moperand f) f) (ihe:∀ f,f≤F→MEx 88 (mexpr f) f) (ihp:∀ f,f≤F→MPostOk f):MEx 131 (mcast (F + 1)) (F + 1):=by
 intro g d s s' x h0 w okk K hx hd hr hok hK'
 have hK:∀ vs ds σ',((∃ A c,vs=exV x A c)∧ds=[kidsD x]∧σ'.s=s'∧OkS σ')→K vs ds σ':=fun vs ds σ' h=>by
  obtain ⟨⟨A,c,rfl⟩,rfl,rfl,h3⟩:=h
  exact hK' A c _ h3
 refine fn_ok (cf:=cfP_cast) [(qNext g).x,(qTyped g).x,(qTyp g).x,(qWant g).x,(qExs 130 moperand g iho).x,(qEx 88 mexpr g ihe).x,(qPost g ihp).x] rfl mixed QR.stable TP_cast_eq (W:=fun args ds σ K'=>args=[ptrV g,.int .i64 d]∧ds=[]∧σ=⟨s,h0⟩∧K'=K)
  (fun args ds σ K hW=>by obtain ⟨rfl,_⟩:=hW;exact ⟨rfl,rfl,trivial⟩) ?_ [ptrV g,.int .i64 d] [] ⟨s,h0⟩ w okk K hr.lt hr hok (daOk_nil _ _ _) (by simp [Sx.flat,Value.cells,Value.oneCell',exC,strV8]) ⟨rfl,rfl,rfl,rfl⟩
 rintro args ds σ K' ⟨rfl,rfl,rfl,rfl⟩ _
 have hp0:=hr.1
 have hd1:=hd.1
 have hd2:=hd.2
 have hdd:=deeper hd
 rw [mcast] at hx
 show Tree.holds _ _ _ _ (⟨Sx.flat [ptrV g,.int .i64 d],[],[],⟨s,h0⟩⟩:Env QS)
 simp only [Sx.flat,Value.cells,List.flatMap_cons,List.flatMap_nil,List.append_nil,List.cons_append,List.nil_append,Array.toList]
 refine h_new fun g1=>?_
 refine kc (h:=w_pnext fun h2 p2=>?_)
 try simp only [aS,hdd.2]
 refine h_new fun g3=>?_
 refine kc (h:=w_ptyped ?_)
 try simp only [aS,hdd.2]
 refine h_ite rfl (fun q5=>?_) (fun q5=>?_)
 ·skip
  try simp only [q5,bS,↓reduceIte] at hx
  refine h_both ?_ ?_
  ·unfold TP_cast_6
   refine kc (h:=w_ptyp fun h6 p6=>?_)
   try simp only [aS,hdd.2]
   refine h_new fun g7=>?_
   refine kc (h:=w_pwant fun h8 p8=>?_)
   refine h_pv rfl rfl ?_
   try simp only [aS,hdd.2]
   try simp only [q5,bS,↓reduceIte] at hx
   obtain ⟨⟨x10,s10⟩,e10,hx⟩:=Option.bind_eq_some_iff.1 hx
   simp only at hx
   refine kc (h:=w_pexs (f:=F) (by omega) e10 ⟨by omega,by omega⟩ fun A10 c10 h10 p10=>?_)
   try simp only [aS,hdd.2]
   try simp only [q5,bS,↓reduceIte] at hx
   obtain ⟨rfl,rfl⟩:=sP hx
   refine kr (h:=?_)
   refine hK _ _ _ ⟨⟨_,_,rfl⟩,?_,rfl,p10⟩
   first | rfl | (simp only [kidsD,Ex.kids,List.map,encEx_eq];done) | (simp only [kidsD,Ex.kids,List.map,encEx_eq];rfl) | (simp only [exsD,List.map,encEx_eq];done) | (simp only [exsD,List.map,encEx_eq];rfl) | (simp [kidsD,exsD,Ex.kids,encEx_eq];done)
  ·unfold TP_cast_12
   refine h_new fun g11=>?_
   refine kc (h:=w_ptyp fun h12 p12=>?_)
   try simp only [aS,hdd.2]
   refine kc (h:=w_pwant fun h13 p13=>?_)
   refine h_pv rfl rfl ?_
   try simp only [aS,hdd.2]
   try simp only [q5,bS,↓reduceIte] at hx
   obtain ⟨⟨x15,s15⟩,e15,hx⟩:=Option.bind_eq_some_iff.1 hx
   simp only at hx
   refine kc (h:=w_pexs (f:=F) (by omega) e15 ⟨by omega,by omega⟩ fun A15 c15 h15 p15=>?_)
   try simp only [aS,hdd.2]
   try simp only [q5,bS,↓reduceIte] at hx
   obtain ⟨rfl,rfl⟩:=sP hx
   refine kr (h:=?_)
   refine hK _ _ _ ⟨⟨_,_,rfl⟩,?_,rfl,p15⟩
   first | rfl | (simp only [kidsD,Ex.kids,List.map,encEx_eq];done) | (simp only [kidsD,Ex.kids,List.map,encEx_eq];rfl) | (simp only [exsD,List.map,encEx_eq];done) | (simp only [exsD,List.map,encEx_eq];rfl) | (simp [kidsD,exsD,Ex.kids,encEx_eq];done)
 ·skip
  try simp only [q5,bS,↓reduceIte] at hx
  refine h_pv rfl rfl ?_
  try simp only [aS,hdd.2]
  try simp only [q5,bS,↓reduceIte] at hx
  obtain ⟨⟨x17,s17⟩,e17,hx⟩:=Option.bind_eq_some_iff.1 hx
  simp only at hx
  refine kc (h:=w_pex (f:=F) (by omega) e17 ⟨by omega,by omega⟩ fun A17 c17 h17 p17=>?_)
  try simp only [aS,hdd.2]
  refine h_new fun g18=>?_
  refine kc (h:=w_pwant fun h19 p19=>?_)
  try simp only [q5,bS,↓reduceIte] at hx
  refine kc (h:=w_ppost (f:=F) (B:=A17) (e:=c17) (by omega) hx ⟨by omega,by omega⟩ fun A20 c20 h20 p20=>?_)
  try simp only [aS,hdd.2]
  refine kr (h:=?_)
  exact hK _ _ _ ⟨⟨_,_,rfl⟩,rfl,rfl,p20⟩
end Go.Proofs.YtdmacgoeikjdbaaGreatDoor
namespace Go.Proofs.YtdmacgoeikjdbaaGreatDoor
open Go.RowKit Sx
def cfP_primary:Cfg:=⟨[(14,sTok),(65,sTok),(67,sOne),(140,sExs),(64,sUnit)],[(100 * 100 + 6,8),(100 * 89 + 1,8),(100 * 89 + 2,9),(100 * 56 + 4,1),(100 * 60 + 4,6),(100 * 60 + 5,9),(100 * 60 + 6,6)],[],sEx,[],[]⟩
def TP_primary:Tree:=tW <| tO 0 <| tW <| tQ 2 2 <| .ite 6 (tO 1 <| .ret [jI 1,jI 0,jI 0,jI 0,jE,.v 4,jN,.v 5] [jP 8]) (tQ 2 1 <| .ite 7 (tO 1 <| tS 2 [40] <| .ite 12 (tA 1 1 <| tV 3 13 <| .ret [jI 35,jI 0,jI 0,jI 0,.v 3,jI 0,.v 14,.v 5] [jD 14 0]) (.ret [jI 2,jI 0,jI 0,jI 0,.v 3,jI 0,jN,.v 5] [jP 8])) (tI 4 4 <| .ret [jI 0,jI 0,jI 0,jI 0,jE,jI 0,jN,jI 0] [jP 8]))
theorem TP_primary_eq:fnS Tryz.prog cfP_primary [.one,.one] 133=some TP_primary:=by kernel_rfl
theorem mprimary_step (F:Nat) (iha:∀ f,f≤F→MExs 140 (margs f) f):MEx 133 (mprimary (F + 1)) (F + 1):=by
 intro g d s s' x h0 w okk K hx hd hr hok hK'
 have hK:∀ vs ds σ',((∃ A c,vs=exV x A c)∧ds=[kidsD x]∧σ'.s=s'∧OkS σ')→K vs ds σ':=fun vs ds σ' h=>by
  obtain ⟨⟨A,c,rfl⟩,rfl,rfl,h3⟩:=h
  exact hK' A c _ h3
 refine fn_ok (cf:=cfP_primary) [(qTok g).x,(qNext g).x,(qEat g).x,(qExs 140 margs g iha).x,(qFail g).x] rfl mixed QR.stable TP_primary_eq (W:=fun args ds σ K'=>args=[ptrV g,.int .i64 d]∧ds=[]∧σ=⟨s,h0⟩∧K'=K)
  (fun args ds σ K hW=>by obtain ⟨rfl,_⟩:=hW;exact ⟨rfl,rfl,trivial⟩) ?_ [ptrV g,.int .i64 d] [] ⟨s,h0⟩ w okk K hr.lt hr hok (daOk_nil _ _ _) (by simp [Sx.flat,Value.cells,Value.oneCell',exC,strV8]) ⟨rfl,rfl,rfl,rfl⟩
 rintro args ds σ K' ⟨rfl,rfl,rfl,rfl⟩ _
 have hp0:=hr.1
 have hd1:=hd.1
 have hd2:=hd.2
 have hdd:=deeper hd
 rw [mprimary] at hx
 show Tree.holds _ _ _ _ (⟨Sx.flat [ptrV g,.int .i64 d],[],[],⟨s,h0⟩⟩:Env QS)
 simp only [Sx.flat,Value.cells,List.flatMap_cons,List.flatMap_nil,List.append_nil,List.cons_append,List.nil_append,Array.toList]
 refine h_new fun g1=>?_
 refine kc (h:=w_ptok ?_)
 try simp only [aS,hdd.2]
 refine h_new fun g3=>?_
 refine h_pv rfl rfl ?_
 try simp only [aS,hdd.2]
 refine h_ite rfl (fun q5=>?_) (fun q5=>?_)
 ·skip
  try dsimp only at q5
  try simp only [q5,bne,bS,↓reduceIte] at hx
  refine kc (h:=w_pnext fun h6 p6=>?_)
  try simp only [aS,hdd.2]
  try simp only [q5,bne,bS,↓reduceIte] at hx
  obtain ⟨rfl,rfl⟩:=sP hx
  refine kr (h:=?_)
  refine hK _ _ _ ⟨⟨_,_,rfl⟩,?_,rfl,p6⟩
  first | rfl | (simp only [kidsD,Ex.kids,List.map,encEx_eq];done) | (simp only [kidsD,Ex.kids,List.map,encEx_eq];rfl) | (simp only [exsD,List.map,encEx_eq];done) | (simp only [exsD,List.map,encEx_eq];rfl) | (simp [kidsD,exsD,Ex.kids,encEx_eq];done)
 ·skip
  try dsimp only at q5
  try simp only [q5,bne,bS,↓reduceIte] at hx
  refine h_pv rfl rfl ?_
  try simp only [aS,hdd.2]
  refine h_ite rfl (fun q8=>?_) (fun q8=>?_)
  ·skip
   try dsimp only at q8
   try simp only [q5,q8,bne,bS,↓reduceIte] at hx
   refine kc (h:=w_pnext fun h9 p9=>?_)
   try simp only [aS,hdd.2]
   refine kc (h:=w_peat fun h10 p10=>?_)
   try simp only [aS,hdd.2]
   refine h_ite rfl (fun q11=>?_) (fun q11=>?_)
   ·skip
    try simp only [q5,q8,q11,bne,bS,↓reduceIte] at hx
    refine h_pv rfl rfl ?_
    try simp only [aS,hdd.2]
    try simp only [q5,q8,q11,bne,bS,↓reduceIte] at hx
    obtain ⟨⟨x13,s13⟩,e13,hx⟩:=Option.bind_eq_some_iff.1 hx
    simp only at hx
    refine kc (h:=w_pexs (f:=F) (by omega) e13 ⟨by omega,by omega⟩ fun A13 c13 h13 p13=>?_)
    try simp only [aS,hdd.2]
    try simp only [q5,q8,q11,bne,bS,↓reduceIte] at hx
    obtain ⟨rfl,rfl⟩:=sP hx
    refine kr (h:=?_)
    refine hK _ _ _ ⟨⟨_,_,rfl⟩,?_,rfl,p13⟩
    first | rfl | (simp only [kidsD,Ex.kids,List.map,encEx_eq];done) | (simp only [kidsD,Ex.kids,List.map,encEx_eq];rfl) | (simp only [exsD,List.map,encEx_eq];done) | (simp only [exsD,List.map,encEx_eq];rfl) | (simp [kidsD,exsD,Ex.kids,encEx_eq];done)
   ·skip
    have z11:=meat_noS q11
    rw [z11] at p10
    rw [z11]
    try simp only [z11] at hx
    try simp only [q5,q8,q11,bne,bS,↓reduceIte] at hx
    try simp only [q5,q8,q11,bne,bS,↓reduceIte] at hx
    obtain ⟨rfl,rfl⟩:=sP hx
    refine kr (h:=?_)
    refine hK _ _ _ ⟨⟨_,_,rfl⟩,?_,rfl,p10⟩
    first | rfl | (simp only [kidsD,Ex.kids,List.map,encEx_eq];done) | (simp only [kidsD,Ex.kids,List.map,encEx_eq];rfl) | (simp only [exsD,List.map,encEx_eq];done) | (simp only [exsD,List.map,encEx_eq];rfl) | (simp [kidsD,exsD,Ex.kids,encEx_eq];done)
  ·skip
   try dsimp only at q8
   try simp only [q5,q8,bne,bS,↓reduceIte] at hx
   refine kc (h:=w_pfail fun h14 p14=>?_)
   try simp only [q5,q8,bne,bS,↓reduceIte] at hx
   obtain ⟨rfl,rfl⟩:=sP hx
   refine kr (h:=?_)
   refine hK _ _ _ ⟨⟨_,_,rfl⟩,?_,rfl,p14⟩
   first | rfl | (simp only [kidsD,Ex.kids,List.map,encEx_eq];done) | (simp only [kidsD,Ex.kids,List.map,encEx_eq];rfl) | (simp only [exsD,List.map,encEx_eq];done) | (simp only [exsD,List.map,encEx_eq];rfl) | (simp [kidsD,exsD,Ex.kids,encEx_eq];done)
def cfP_args:Cfg:=⟨[(67,sOne),(13,sOne),(64,sUnit),(88,sEx),(70,sUnit)],[(100 * 100 + 6,8),(100 * 89 + 1,8),(100 * 89 + 2,9),(100 * 56 + 4,1),(100 * 60 + 4,6),(100 * 60 + 5,9),(100 * 60 + 6,6)],[(0,⟨[(0,.el (.one (.v 0))),(1,.el (.one (.v 1))),(4,.el (.one (.v 2)))],[],[⟨2,0,some (100,8)⟩],3,0,1,27,[],[]⟩)],sExs,[],[]⟩
def Z111:Tree:=tO 1 <| tT 3 <| .ite 4 (.nd (.pv .len [.v 2]) <| tQ 5 4 <| .ite 6 (tI 2 2 <| .ret [.v 2] [jD 2 0]) (tV 3 1 <| tB 8 1 [rX 7 1] <| tU 8 0 2 <| tS 0 [44] <| tT 17 <| .ite 18 (tS 4 [41] <| .ret [.v 16] [jD 16 3]) (.again 0 [.v 0,.v 1,.v 16] [jD 16 3]))) (.ret [.v 2] [jD 2 0])
def Z110:Tree:=.loop 0 0 [.v 0,.v 1,jN] [jP 8] Z111
def TP_args:Tree:=tS 0 [41] <| .ite 2 (.ret [jN] [jP 8]) Z110
theorem TP_args_eq:fnS Tryz.prog cfP_args [.one,.one] 140=some TP_args:=by kernel_rfl
theorem margs_step (F:Nat) (ihe:∀ f,f≤F→MEx 88 (mexpr f) f):MExs 140 (margs (F + 1)) (F + 1):=by
 intro g d s s' x h0 w okk K hx hd hr hok hK'
 have hK:∀ vs ds σ',((∃ A c,vs=[.slice A x.length c])∧ds=[exsD x]∧σ'.s=s'∧OkS σ')→K vs ds σ':=fun vs ds σ' h=>by
  obtain ⟨⟨A,c,rfl⟩,rfl,rfl,h3⟩:=h
  exact hK' A c _ h3
 refine fn_ok (cf:=cfP_args) [(qEat g).x,(qBad g).x,(qFail g).x,(qEx 88 mexpr g ihe).x,(qWant g).x] rfl mixed QR.stable TP_args_eq (W:=fun args ds σ K'=>args=[ptrV g,.int .i64 d]∧ds=[]∧σ=⟨s,h0⟩∧K'=K)
  (fun args ds σ K hW=>by obtain ⟨rfl,_⟩:=hW;exact ⟨rfl,rfl,trivial⟩) ?_ [ptrV g,.int .i64 d] [] ⟨s,h0⟩ w okk K hr.lt hr hok (daOk_nil _ _ _) (by simp [Sx.flat,Value.cells,Value.oneCell',exC,strV8]) ⟨rfl,rfl,rfl,rfl⟩
 rintro args ds σ K' ⟨rfl,rfl,rfl,rfl⟩ _
 have hp0:=hr.1
 have hd1:=hd.1
 have hd2:=hd.2
 rw [margs] at hx
 show Tree.holds _ _ _ _ (⟨Sx.flat [ptrV g,.int .i64 d],[],[],⟨s,h0⟩⟩:Env QS)
 simp only [Sx.flat,Value.cells,List.flatMap_cons,List.flatMap_nil,List.append_nil,List.cons_append,List.nil_append,Array.toList]
 refine kc (h:=w_peat fun h1 p1=>?_)
 try simp only [aS,hdd.2,List.length_nil]
 refine h_ite rfl (fun q2=>?_) (fun q2=>?_)
 ·skip
  try simp only [q2,bS,↓reduceIte] at hx
  try simp only [q2,bS,↓reduceIte] at hx
  obtain ⟨rfl,rfl⟩:=sP hx
  refine kr (h:=?_)
  refine hK _ _ _ ⟨⟨none,0,?_⟩,?_,rfl,p1⟩
  ·first | rfl | (simp only [List.length_append,List.length_map];rfl)
  ·first | rfl | (simp [exsD,encEx_eq,encSt_eq,encDe];done)
 ·skip
  have z2:=meat_noS q2
  rw [z2] at p1
  rw [z2]
  try simp only [z2] at hx
  try simp only [q2,bS,↓reduceIte] at hx
  try simp only [q2,bS,↓reduceIte] at hx
  refine h_loop (fun k vs ds σ=>∃ (acc:List Ex) (A:Option Addr) (c:Nat),vs=[ptrV g,.int .i64 d,.slice A acc.length c]∧ds=[exsD acc]∧OkS σ∧acc.length≤4∧k≤F∧margloop k d acc σ.s=some (x,s')) F (by simp only [rowsD,ldens,dens,dens2,T2.den,L.den,CD.den,leafD,rowD,List.getElem?_cons_zero,List.getElem?_cons_succ] <;> rfl) (by simp only [rowsD,ldens,dens,dens2,T2.den,L.den,CD.den,leafD,rowD,List.getElem?_cons_zero,List.getElem?_cons_succ] <;> rfl) (fun vs ds σ ⟨a,A,c,_,_,_,_,_,h⟩=>by cases h) ⟨[],none,0,rfl,rfl,p1,Nat.zero_le _,Nat.le_refl _,hx⟩ ?_
  clear hx
  rintro k vs ds bl ⟨s,h0⟩ hbl ⟨acc,A,c,rfl,rfl,hp0,hacc,hk,hx⟩
  rw [margloop] at hx
  simp only at hx
  try simp only [aS,hdd.2,List.length_nil]
  refine kc (h:=w_pbad ?_)
  try simp only [aS,hdd.2,List.length_nil]
  refine h_pv rfl rfl ?_
  try simp only [aS,hdd.2,List.length_nil]
  refine h_ite rfl (fun q5=>?_) (fun q5=>?_)
  ·skip
   simp only [nS] at q5
   try simp only [Bool.not_eq_true',Bool.not_eq_false'] at q5
   try simp only [q5,bS,↓reduceIte] at hx
   refine h_pv rfl rfl ?_
   try simp only [aS,hdd.2,List.length_nil]
   refine h_pv rfl rfl ?_
   try simp only [aS,hdd.2,List.length_nil]
   refine h_ite rfl (fun q8=>?_) (fun q8=>?_)
   ·skip
    try dsimp only at q8
    have qn:acc.length=4:=by have:=q8;simp at this;omega
    rw [if_pos qn] at hx
    try simp only [q5,q8,bS,↓reduceIte] at hx
    refine kc (h:=w_pfail fun h9 p9=>?_)
    try simp only [q5,q8,bS,↓reduceIte] at hx
    obtain ⟨rfl,rfl⟩:=sP hx
    refine kr (h:=?_)
    refine hK _ _ _ ⟨⟨A,c,?_⟩,?_,rfl,p9⟩
    ·first | rfl | (simp only [List.length_append,List.length_map];rfl)
    ·first | rfl | (simp [exsD,encEx_eq,encSt_eq,encDe];done)
   ·skip
    try dsimp only at q8
    have qn:¬ acc.length=4:=by have:=q8;simp at this;omega
    rw [if_neg qn] at hx
    try simp only [q5,q8,bS,↓reduceIte] at hx
    try simp only [q5,q8,bS,↓reduceIte] at hx
    obtain ⟨⟨x10,s10⟩,e10,hx⟩:=Option.bind_eq_some_iff.1 hx
    simp only at hx
    refine kc (h:=w_pex (f:=k) (by omega) e10 ⟨by omega,by omega⟩ fun A10 c10 h10 p10=>?_)
    try simp only [aS,hdd.2,List.length_nil]
    refine kb (h:=fun g11=>?_)
    try simp only [aS,hdd.2,List.length_nil]
    refine h_app rfl rfl (by simp only [List.length_map,List.length_cons,List.length_nil];omega) fun A12 c12=>?_
    try simp only [aS,hdd.2,List.length_nil]
    refine kc (h:=w_peat fun h13 p13=>?_)
    try simp only [aS,hdd.2,List.length_nil]
    refine h_pv rfl rfl ?_
    try simp only [aS,hdd.2,List.length_nil]
    refine h_ite rfl (fun q15=>?_) (fun q15=>?_)
    ·skip
     simp only [nS] at q15
     have z15:=meat_noS q15
     rw [z15] at p13
     rw [z15]
     try simp only [z15] at hx
     try simp only [q5,q8,q15,bS,↓reduceIte] at hx
     refine kc (h:=w_pwant fun h16 p16=>?_)
     try simp only [q5,q8,q15,bS,↓reduceIte] at hx
     obtain ⟨rfl,rfl⟩:=sP hx
     refine kr (h:=?_)
     refine hK _ _ _ ⟨⟨A12,c12,?_⟩,?_,rfl,p16⟩
     ·first | rfl | (simp only [List.length_append,List.length_map];rfl)
     ·first | rfl | (simp [exsD,encEx_eq,encSt_eq,encDe];done)
    ·skip
     simp only [nS] at q15
     try simp only [q5,q8,q15,bS,↓reduceIte] at hx
     try simp only [q5,q8,q15,bS,↓reduceIte] at hx
     refine ka (h:=?_)
     show (ite ((0:Nat)=0) _ _:List Value→List D→QS→Prop) _ _ _
     rw [if_pos rfl]
     refine ⟨_,A12,c12,?_,?_,p13,?_,by omega,hx⟩
     ·simp only [List.length_append,List.length_map];rfl
     ·simp [exsD,encEx_eq,encSt_eq,encDe]
     ·simp only [List.length_append,List.length_cons,List.length_nil];omega
  ·skip
   simp only [nS] at q5
   try simp only [Bool.not_eq_true',Bool.not_eq_false'] at q5
   try simp only [q5,bS,↓reduceIte] at hx
   try simp only [q5,bS,↓reduceIte] at hx
   obtain ⟨rfl,rfl⟩:=sP hx
   refine kr (h:=?_)
   refine hK _ _ _ ⟨⟨A,c,?_⟩,?_,rfl,hp0⟩
   ·first | rfl | (simp only [List.length_append,List.length_map];rfl)
   ·first | rfl | (simp [exsD,encEx_eq,encSt_eq,encDe];done)
theorem daOk_one {w:World} {ok:Nat→Prop} {vs:List Value} {i z:Nat} {d:D} {v:Value} (hv:vs[i]?=some v) (h:Rep w ok d [v]):DaOk w ok vs [(i,z)] [d]:=⟨rfl,fun j x e hj hd=>by
 cases j with
 | zero=>
  simp at hj hd
  subst hj hd
  exact ⟨v,hv,h⟩
 | succ j=>simp at hj⟩
def cfP_postfix:Cfg:=⟨[(14,sTok),(67,sOne),(88,sEx),(70,sUnit)],[(100 * 100 + 6,8),(100 * 89 + 1,8),(100 * 89 + 2,9),(100 * 56 + 4,1),(100 * 60 + 4,6),(100 * 60 + 5,9),(100 * 60 + 6,6)],[(0,⟨[(0,.el (.one (.v 0))),(2,.el (.one (.v 1))),(4,.el (.one (.p 0 0))),(6,.el (.one (.p 1 0)))],[⟨0,100,vsFrom 2 8⟩,⟨1,100,xZ⟩],[⟨8,0,none⟩],10,2,1,41,[],[]⟩)],sPostX,[],[]⟩
def Z112:Tree:=tO 0 <| tW <| tS 1 [91] <| .ite 14 (tA 1 1 <| tV 2 15 <| tB 8 2 [rX 2 0,rX 16 1] <| tS 3 [93] <| .again 0 [.v 0,.v 1,jI 3,jI 0,jI 0,jI 0,jE,jI 0,.v 24,.v 13] [jD 24 2]) (tS 1 [43,43] <| .ite 15 (tB 8 1 [rX 2 0] <| .again 0 [.v 0,.v 1,jI 13,jI 0,jI 0,jI 0,jE,jI 0,.v 16,.v 13] [jD 16 1]) (tS 1 [45,45] <| .ite 16 (tB 8 1 [rX 2 0] <| .again 0 [.v 0,.v 1,jI 14,jI 0,jI 0,jI 0,jE,jI 0,.v 17,.v 13] [jD 17 1]) (.ret [.v 2,.v 3,.v 4,.v 5,.v 6,.v 7,.v 8,.v 9] [jD 8 0])))
def TP_postfix:Tree:=tW <| tW <| .loop 0 2 [.v 0,.v 9,.v 1,.v 2,.v 3,.v 4,.v 5,.v 6,.v 7,.v 8] [jD 7 0] Z112
theorem TP_postfix_eq:fnS Tryz.prog cfP_postfix [.one,.agg 8,.one] 132=some TP_postfix:=by kernel_rfl
theorem mpost_step (F:Nat) (ihe:∀ f,f≤F→MEx 88 (mexpr f) f):MPostOk (F + 1):=by
 intro g d a B e s s' x h0 w okk K hx hd hr hok hrep hK'
 have hK:∀ vs ds σ',((∃ A c,vs=exV x A c)∧ds=[kidsD x]∧σ'.s=s'∧OkS σ')→K vs ds σ':=fun vs ds σ' h=>by
  obtain ⟨⟨A,c,rfl⟩,rfl,rfl,h3⟩:=h
  exact hK' A c _ h3
 refine fn_ok (cf:=cfP_postfix) [(qTok g).x,(qEat g).x,(qEx 88 mexpr g ihe).x,(qWant g).x] rfl mixed QR.stable TP_postfix_eq (W:=fun args ds σ K'=>args=[ptrV g,.agg (exC a B e).toArray,.int .i64 d]∧ds=[kidsD a]∧σ=⟨s,h0⟩∧K'=K)
  (fun args ds σ K hW=>by obtain ⟨rfl,_⟩:=hW;exact ⟨rfl,⟨_,rfl,rfl⟩,rfl,trivial⟩) ?_ [ptrV g,.agg (exC a B e).toArray,.int .i64 d] [kidsD a] ⟨s,h0⟩ w okk K hr.lt hr hok (daOk_one rfl hrep) (by simp [Sx.flat,Value.cells,Value.oneCell',exC,strV8]) ⟨rfl,rfl,rfl,rfl⟩
 rintro args ds σ K' ⟨rfl,rfl,rfl,rfl⟩ _
 have hp0:=hr.1
 have hd1:=hd.1
 have hd2:=hd.2
 have hdd:=deeper hd
 skip
 show Tree.holds _ _ _ _ (⟨Sx.flat [ptrV g,.agg (exC a B e).toArray,.int .i64 d],[],[kidsD a],⟨s,h0⟩⟩:Env QS)
 simp only [Sx.flat,Value.cells,List.flatMap_cons,List.flatMap_nil,List.append_nil,List.cons_append,List.nil_append,Array.toList]
 refine h_new fun g1=>?_
 refine h_new fun g2=>?_
 refine h_loop (fun k vs ds σ=>∃ (a:Ex) (A:Option Addr) (c:Nat),vs=ptrV g :: .int .i64 d :: exV a A c∧ds=[kidsD a]∧OkS σ∧k≤F + 1∧mpostloop k d a σ.s=some (x,s')) (F + 1) (by simp only [rowsD,ldens,dens,dens2,T2.den,L.den,CD.den,leafD,rowD,List.getElem?_cons_zero,List.getElem?_cons_succ] <;> rfl) (by simp only [rowsD,ldens,dens,dens2,T2.den,L.den,CD.den,leafD,rowD,List.getElem?_cons_zero,List.getElem?_cons_succ] <;> rfl) (fun vs ds σ ⟨a,A,c,_,_,_,_,h⟩=>by cases h) ⟨_,_,_,rfl,rfl,hp0,Nat.le_refl _,hx⟩ ?_
 clear hx hrep
 rintro k vs ds bl ⟨s,h0⟩ hbl ⟨a,A,c,rfl,rfl,hp0,hk,hx⟩
 rw [mpostloop] at hx
 simp only at hx
 try simp only [aS,hdd.2]
 refine kc (h:=w_ptok ?_)
 try simp only [aS,hdd.2]
 refine h_new fun g4=>?_
 refine kc (h:=w_peat fun h5 p5=>?_)
 try simp only [aS,hdd.2]
 refine h_ite rfl (fun q6=>?_) (fun q6=>?_)
 ·skip
  try simp only [q6,bS,↓reduceIte] at hx
  refine h_pv rfl rfl ?_
  try simp only [aS,hdd.2]
  try simp only [q6,bS,↓reduceIte] at hx
  obtain ⟨⟨x8,s8⟩,e8,hx⟩:=Option.bind_eq_some_iff.1 hx
  simp only at hx
  refine kc (h:=w_pex (f:=k) (by omega) e8 ⟨by omega,by omega⟩ fun A8 c8 h8 p8=>?_)
  try simp only [aS,hdd.2]
  refine kb (h:=fun g9=>?_)
  try simp only [aS,hdd.2]
  refine kc (h:=w_pwant fun h10 p10=>?_)
  try simp only [q6,bS,↓reduceIte] at hx
  refine ka (h:=?_)
  show (ite ((0:Nat)=0) _ _:List Value→List D→QS→Prop) _ _ _
  rw [if_pos rfl]
  refine ⟨_,_,_,rfl,?_,p10,by omega,hx⟩
  first | rfl | (simp only [kidsD,Ex.kids,List.map,encEx_eq];done) | (simp only [kidsD,Ex.kids,List.map,encEx_eq];rfl) | (simp [kidsD,exsD,Ex.kids,encEx_eq];done)
 ·skip
  have z6:=meat_noS q6
  rw [z6] at p5
  rw [z6]
  try simp only [z6] at hx
  try simp only [q6,bS,↓reduceIte] at hx
  refine kc (h:=w_peat fun h11 p11=>?_)
  try simp only [aS,hdd.2]
  refine h_ite rfl (fun q12=>?_) (fun q12=>?_)
  ·skip
   try simp only [q6,q12,bS,↓reduceIte] at hx
   refine kb (h:=fun g13=>?_)
   try simp only [aS,hdd.2]
   try simp only [q6,q12,bS,↓reduceIte] at hx
   refine ka (h:=?_)
   show (ite ((0:Nat)=0) _ _:List Value→List D→QS→Prop) _ _ _
   rw [if_pos rfl]
   refine ⟨_,_,_,rfl,?_,p11,by omega,hx⟩
   first | rfl | (simp only [kidsD,Ex.kids,List.map,encEx_eq];done) | (simp only [kidsD,Ex.kids,List.map,encEx_eq];rfl) | (simp [kidsD,exsD,Ex.kids,encEx_eq];done)
  ·skip
   have z12:=meat_noS q12
   rw [z12] at p11
   rw [z12]
   try simp only [z12] at hx
   try simp only [q6,q12,bS,↓reduceIte] at hx
   refine kc (h:=w_peat fun h14 p14=>?_)
   try simp only [aS,hdd.2]
   refine h_ite rfl (fun q15=>?_) (fun q15=>?_)
   ·skip
    try simp only [q6,q12,q15,bS,↓reduceIte] at hx
    refine kb (h:=fun g16=>?_)
    try simp only [aS,hdd.2]
    try simp only [q6,q12,q15,bS,↓reduceIte] at hx
    refine ka (h:=?_)
    show (ite ((0:Nat)=0) _ _:List Value→List D→QS→Prop) _ _ _
    rw [if_pos rfl]
    refine ⟨_,_,_,rfl,?_,p14,by omega,hx⟩
    first | rfl | (simp only [kidsD,Ex.kids,List.map,encEx_eq];done) | (simp only [kidsD,Ex.kids,List.map,encEx_eq];rfl) | (simp [kidsD,exsD,Ex.kids,encEx_eq];done)
   ·skip
    have z15:=meat_noS q15
    rw [z15] at p14
    rw [z15]
    try simp only [z15] at hx
    try simp only [q6,q12,q15,bS,↓reduceIte] at hx
    try simp only [q6,q12,q15,bS,↓reduceIte] at hx
    obtain ⟨rfl,rfl⟩:=sP hx
    refine kr (h:=?_)
    refine hK _ _ _ ⟨⟨_,_,rfl⟩,?_,rfl,p14⟩
    first | rfl | (simp only [kidsD,Ex.kids,List.map,encEx_eq];done) | (simp only [kidsD,Ex.kids,List.map,encEx_eq];rfl) | (simp only [exsD,List.map,encEx_eq];done) | (simp only [exsD,List.map,encEx_eq];rfl) | (simp [kidsD,exsD,Ex.kids,encEx_eq];done)
end Go.Proofs.YtdmacgoeikjdbaaGreatDoor

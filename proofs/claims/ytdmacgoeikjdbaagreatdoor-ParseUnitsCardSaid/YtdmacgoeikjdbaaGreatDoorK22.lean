/- The reference's parser: what stands behind (symbolic execution). Print -/
import Derived.Test.YtdmacgoeikjdbaaGreatDoorK21
set_option linter.unusedSimpArgs false
set_option linter.unusedVariables false
set_option maxHeartbeats 8000000
namespace Go.Proofs.YtdmacgoeikjdbaaGreatDoor
open Go.RowKit Sx
def cfPost:Cfg:=⟨[(142,sEx),(40,sOne),(47,sOne),(90,sEx),(50,sUnit)],[(100 * 100 + 6,8),(100 * 89 + 1,8),(100 * 89 + 2,9),(100 * 56 + 4,1),(100 * 60 + 4,6),(100 * 60 + 5,9),(100 * 60 + 6,6)],[(0,⟨[(0,.el (.one (.v 0))),(1,.el (.one (.v 1))),(4,.el (.one (.p 0 0))),(5,.el (.one (.p 1 0)))],[⟨0,100,xZ⟩,⟨1,100,vsFrom 2 8⟩],[⟨8,0,none⟩],10,2,1,52,[],[]⟩)],sEx,[],[]⟩
def Z2:Tree:=tN 0 <| tF 0 11 <| tL 12 1 <| tX 4 13 0 <| tL 14 4 <| tW <| tS 2 [91] <| .ite 19 (tA 1 1 <| tV 3 20 <| tW <| tS 4 [93] <| tB 8 2 [rX 2 0,rX 21 1] <| .again 0 [.v 0,.v 1,jI 3,jI 0,jI 0,jI 0,jE,jI 0,.v 29,.v 18] [jD 29 2]) (tS 2 [43,43] <| .ite 20 (tB 8 1 [rX 2 0] <| .again 0 [.v 0,.v 1,jI 13,jI 0,jI 0,jI 0,jE,jI 0,.v 21,.v 18] [jD 21 1]) (tS 2 [45,45] <| .ite 21 (tB 8 1 [rX 2 0] <| .again 0 [.v 0,.v 1,jI 14,jI 0,jI 0,jI 0,jE,jI 0,.v 22,.v 18] [jD 22 1]) (.ret [.v 2,.v 3,.v 4,.v 5,.v 6,.v 7,.v 8,.v 9] [jD 8 0])))
def Z1:Tree:=tO 1 <| .ite 10 Z2 (.ret [.v 2,.v 3,.v 4,.v 5,.v 6,.v 7,.v 8,.v 9] [jD 8 0])
def TPost:Tree:=tW <| tV 0 1 <| tW <| .loop 0 2 [.v 0,.v 1,.v 2,.v 3,.v 4,.v 5,.v 6,.v 7,.v 8,.v 9] [jD 8 0] Z1
theorem TPost_eq:fnS Tryz.prog cfPost [.one,.one] 139=some TPost:=by kernel_rfl
theorem rpost_step (F:Nat) (ihr:∀ f,f≤F→RPrimOk f) (ihe:∀ f,f≤F→RExprOk f):RPostOk (F + 1):=by
 intro d s s' x g gv fv w hx hd hr
 obtain ⟨hd0,hr⟩:=hr.rr
 refine ex_of g gv fv (fn_ok (cf:=cfPost) [(conPrim ihr).x,(conOk g gv fv).x,(conTake g gv fv).x,(conExpr ihe).x,(conMust g gv fv).x] rfl mixed RR.stable TPost_eq
  (W:=fun args ds σ K=>args=[ptrV g,.int .i64 d]∧ds=[]∧σ=⟨s,hd0⟩∧∀ vs ds σ',((∃ A c,vs=exV x A c)∧ds=[kidsD x]∧σ'.s=s')→K vs ds σ')
  (fun args ds σ K hW=>by obtain ⟨rfl,_⟩:=hW;exact ⟨rfl,rfl,trivial⟩) ?_ [ptrV g,.int .i64 d] [] ⟨s,hd0⟩ w _ _ hr.rd.lt hr (fun k h=>h.elim) (daOk_nil _ _ _) (by simp [Sx.flat,Value.cells,Value.oneCell']) ⟨rfl,rfl,rfl,fun vs ds σ' h=>h⟩)
 rintro args ds σ K ⟨rfl,rfl,rfl,hK⟩ _
 have hp0:=hr.1
 have hd1:=hd.1
 have hd2:=hd.2
 have hdd:=deeper hd
 rw [rpostfix] at hx
 show Tree.holds _ _ _ _ (⟨[ptrV g,.int .i64 d],[],[],⟨s,hd0⟩⟩:Env RH)
 refine h_new fun g1=>?_
 try simp only [bS,↓reduceIte] at hx
 obtain ⟨⟨x2,s2⟩,e2,hx⟩:=Option.bind_eq_some_iff.1 hx
 simp only at hx
 refine kc (h:=w_prim (f:=F) (by omega) e2 ⟨by omega,by omega⟩ fun A2 c2 h2 p2=>?_)
 try simp only [aS,hdd.2]
 refine h_new fun g3=>?_
 refine h_loop (fun k vs ds σ=>∃ (a:Ex) (A:Option Addr) (c:Nat),vs=ptrV g :: .int .i64 d :: exV a A c∧ds=[kidsD a]∧0<σ.s.ts.length∧k≤F∧rpostloop k d a σ.s=some (x,s')) F (by simp only [rowsD,ldens,dens,dens2,T2.den,L.den,CD.den,leafD,rowD,List.getElem?_cons_zero,List.getElem?_cons_succ] <;> rfl) (by simp only [rowsD,ldens,dens,dens2,T2.den,L.den,CD.den,leafD,rowD,List.getElem?_cons_zero,List.getElem?_cons_succ] <;> rfl) (fun vs ds σ ⟨a,A,c,_,_,_,_,h⟩=>by cases h) ⟨_,_,_,rfl,rfl,p2,Nat.le_refl _,hx⟩ ?_
 rintro k vs ds bl ⟨s,h0⟩ hbl ⟨a,A,c,rfl,rfl,hp0,hk,hx⟩
 rw [rpostloop] at hx
 simp only at hx hp0
 try simp only [aS,hdd.2]
 refine kc (h:=w_ok ?_)
 try simp only [aS,hdd.2]
 refine h_ite rfl (fun q5=>?_) (fun q5=>?_)
 ·skip
  try simp only [q5,bS,↓reduceIte] at hx
  refine h_pv rfl rfl ?_
  try simp only [aS,hdd.2]
  refine h_pv rfl rfl ?_
  try simp only [aS,hdd.2]
  refine h_ld rfl RR.ld0 rfl (hdV_one _ _) ?_
  try simp only [aS,hdd.2]
  refine h_pv rfl (sem_ia 0 hp0) ?_
  try simp only [aS,hdd.2]
  refine h_ld rfl (RR.ldH hp0) rfl (tokC_one _) ?_
  try simp only [aS,hdd.2]
  refine h_new fun g11=>?_
  refine kc (h:=w_take fun h12 p12=>?_)
  try simp only [aS,hdd.2]
  refine h_ite rfl (fun q13=>?_) (fun q13=>?_)
  ·skip
   try simp only [q5,q13,bS,↓reduceIte] at hx
   refine h_pv rfl rfl ?_
   try simp only [aS,hdd.2]
   try simp only [q5,q13,bS,↓reduceIte] at hx
   obtain ⟨⟨x15,s15⟩,e15,hx⟩:=Option.bind_eq_some_iff.1 hx
   simp only at hx
   refine kc (h:=w_expr (f:=k) (by omega) e15 ⟨by omega,by omega⟩ fun A15 c15 h15 p15=>?_)
   try simp only [aS,hdd.2]
   refine h_new fun g16=>?_
   refine kc (h:=w_must fun h17 p17=>?_)
   refine kb (h:=fun g18=>?_)
   try simp only [aS,hdd.2]
   try simp only [q5,q13,bS,↓reduceIte] at hx
   refine ka (h:=?_)
   show (ite ((0:Nat)=0) _ _:List Value→List D→RH→Prop) _ _ _
   rw [if_pos rfl]
   refine ⟨_,_,_,rfl,?_,p17,by omega,hx⟩
   first | rfl | (simp only [kidsD,Ex.kids,List.map,encEx_eq];done) | (simp only [kidsD,Ex.kids,List.map,encEx_eq];rfl)
  ·skip
   have z13:=rtake_no q13
   rw [z13] at p12
   rw [z13]
   try simp only [z13] at hx
   try simp only [q5,q13,bS,↓reduceIte] at hx
   refine kc (h:=w_take fun h19 p19=>?_)
   try simp only [aS,hdd.2]
   refine h_ite rfl (fun q20=>?_) (fun q20=>?_)
   ·skip
    try simp only [q5,q13,q20,bS,↓reduceIte] at hx
    refine kb (h:=fun g21=>?_)
    try simp only [aS,hdd.2]
    try simp only [q5,q13,q20,bS,↓reduceIte] at hx
    refine ka (h:=?_)
    show (ite ((0:Nat)=0) _ _:List Value→List D→RH→Prop) _ _ _
    rw [if_pos rfl]
    refine ⟨_,_,_,rfl,?_,p19,by omega,hx⟩
    first | rfl | (simp only [kidsD,Ex.kids,List.map,encEx_eq];done) | (simp only [kidsD,Ex.kids,List.map,encEx_eq];rfl)
   ·skip
    have z20:=rtake_no q20
    rw [z20] at p19
    rw [z20]
    try simp only [z20] at hx
    try simp only [q5,q13,q20,bS,↓reduceIte] at hx
    refine kc (h:=w_take fun h22 p22=>?_)
    try simp only [aS,hdd.2]
    refine h_ite rfl (fun q23=>?_) (fun q23=>?_)
    ·skip
     try simp only [q5,q13,q20,q23,bS,↓reduceIte] at hx
     refine kb (h:=fun g24=>?_)
     try simp only [aS,hdd.2]
     try simp only [q5,q13,q20,q23,bS,↓reduceIte] at hx
     refine ka (h:=?_)
     show (ite ((0:Nat)=0) _ _:List Value→List D→RH→Prop) _ _ _
     rw [if_pos rfl]
     refine ⟨_,_,_,rfl,?_,p22,by omega,hx⟩
     first | rfl | (simp only [kidsD,Ex.kids,List.map,encEx_eq];done) | (simp only [kidsD,Ex.kids,List.map,encEx_eq];rfl)
    ·skip
     have z23:=rtake_no q23
     rw [z23] at p22
     rw [z23]
     try simp only [z23] at hx
     try simp only [q5,q13,q20,q23,bS,↓reduceIte] at hx
     try simp only [q5,q13,q20,q23,bS,↓reduceIte] at hx
     obtain ⟨rfl,rfl⟩:=sP hx
     refine kr (h:=?_)
     refine hK _ _ _ ⟨⟨_,_,rfl⟩,?_,rfl⟩
     first | rfl | (simp only [kidsD,Ex.kids,List.map,encEx_eq];done) | (simp only [kidsD,Ex.kids,List.map,encEx_eq];rfl)
 ·skip
  try simp only [q5,bS,↓reduceIte] at hx
  try simp only [q5,bS,↓reduceIte] at hx
  obtain ⟨rfl,rfl⟩:=sP hx
  refine kr (h:=?_)
  refine hK _ _ _ ⟨⟨_,_,rfl⟩,?_,rfl⟩
  first | rfl | (simp only [kidsD,Ex.kids,List.map,encEx_eq];done) | (simp only [kidsD,Ex.kids,List.map,encEx_eq];rfl)
end Go.Proofs.YtdmacgoeikjdbaaGreatDoor
namespace Go.Proofs.YtdmacgoeikjdbaaGreatDoor
open Go.RowKit Sx
def cfUnary:Cfg:=⟨[(40,sOne),(47,sOne),(138,sExs),(41,sOne),(89,sOne),(43,sTok),(38,sTy),(50,sUnit),(139,sEx)],[(100 * 100 + 6,8),(100 * 89 + 1,8),(100 * 89 + 2,9),(100 * 56 + 4,1),(100 * 60 + 4,6),(100 * 60 + 5,9),(100 * 60 + 6,6)],[],sEx,[22,105],[]⟩
def Z11:Tree:=tI 4 1 <| .ite 18 (tO 5 <| tO 6 <| tS 7 [41] <| tV 2 1 <| .ret [jI 9,.v 23,.v 24,.v 25,jE,jI 0,.v 26,.v 9] [jD 26 0]) (tS 1 [115,105,122,101,111,102] <| .ite 19 (tS 7 [40] <| tO 0 <| .ite 20 (tO 6 <| tS 7 [41] <| .ret [jI 10,.v 21,.v 22,.v 23,jE,jI 0,jN,.v 9] [jP 8]) (tS 7 [41] <| .ret [jI 10,jI 0,jI 0,jI 0,jE,jI 0,jN,.v 9] [jP 8])) (tV 8 1 <| .ret [.v 20,.v 21,.v 22,.v 23,.v 24,.v 25,.v 26,.v 27] [jD 26 0]))
def Z10:Tree:=tS 3 [40] <| .ite 17 Z11 (tS 1 [115,105,122,101,111,102] <| .ite 18 (tS 7 [40] <| tO 0 <| .ite 19 (tO 6 <| tS 7 [41] <| .ret [jI 10,.v 20,.v 21,.v 22,jE,jI 0,jN,.v 9] [jP 8]) (tS 7 [41] <| .ret [jI 10,jI 0,jI 0,jI 0,jE,jI 0,jN,.v 9] [jP 8])) (tV 8 1 <| .ret [.v 19,.v 20,.v 21,.v 22,.v 23,.v 24,.v 25,.v 26] [jD 25 0]))
def Z9:Tree:=tS 1 [45,45] <| .ite 16 (tV 2 1 <| .ret [jI 12,jI 0,jI 0,jI 0,jE,jI 0,.v 17,.v 9] [jD 17 0]) Z10
def Z8:Tree:=tS 1 [43,43] <| .ite 15 (tV 2 1 <| .ret [jI 11,jI 0,jI 0,jI 0,jE,jI 0,.v 16,.v 9] [jD 16 0]) Z9
def Z7:Tree:=tS 1 [38] <| .ite 14 (tV 2 1 <| .ret [jI 5,jI 0,jI 0,jI 0,jE,jI 0,.v 15,.v 9] [jD 15 0]) Z8
def Z6:Tree:=tS 1 [42] <| .ite 13 (tV 2 1 <| .ret [jI 4,jI 0,jI 0,jI 0,jE,jI 0,.v 14,.v 9] [jD 14 0]) Z7
def Z5:Tree:=tS 1 [33] <| .ite 12 (tV 2 1 <| .ret [jI 8,jI 0,jI 0,jI 0,jE,jI 0,.v 13,.v 9] [jD 13 0]) Z6
def Z4:Tree:=tS 1 [126] <| .ite 11 (tV 2 1 <| .ret [jI 7,jI 0,jI 0,jI 0,jE,jI 0,.v 12,.v 9] [jD 12 0]) Z5
def Z3:Tree:=tN 0 <| tF 0 4 <| tL 5 1 <| tX 4 6 0 <| tF 3 7 <| tL 8 1 <| tW <| tW <| tW <| tS 1 [45] <| .ite 10 (tV 2 1 <| .ret [jI 6,jI 0,jI 0,jI 0,jE,jI 0,.v 11,.v 9] [jD 11 0]) Z4
def TUnary:Tree:=tW <| tO 0 <| tT 2 <| .ite 3 (.ret [jI 0,jI 0,jI 0,jI 0,jE,jI 0,jN,jI 0] [jP 8]) Z3
theorem TUnary_eq:fnS Tryz.prog cfUnary [.one,.one] 125=some TUnary:=by kernel_rfl
theorem runary_step (F:Nat) (iho:∀ f,f≤F→ROperandOk f) (ihp:∀ f,f≤F→RPostOk f):RUnaryOk (F + 1):=by
 intro d s s' x g gv fv w hx hd hr
 obtain ⟨hd0,hr⟩:=hr.rr
 refine ex_of g gv fv (fn_ok (cf:=cfUnary) [(conOk g gv fv).x,(conTake g gv fv).x,(conOperand iho).x,(conIs g gv fv).x,(conTyped g gv fv).x,(conNext g gv fv).x,(conTyp g gv fv).x,(conMust g gv fv).x,(conPost ihp).x] rfl mixed RR.stable TUnary_eq
  (W:=fun args ds σ K=>args=[ptrV g,.int .i64 d]∧ds=[]∧σ=⟨s,hd0⟩∧∀ vs ds σ',((∃ A c,vs=exV x A c)∧ds=[kidsD x]∧σ'.s=s')→K vs ds σ')
  (fun args ds σ K hW=>by obtain ⟨rfl,_⟩:=hW;exact ⟨rfl,rfl,trivial⟩) ?_ [ptrV g,.int .i64 d] [] ⟨s,hd0⟩ w _ _ hr.rd.lt hr (fun k h=>h.elim) (daOk_nil _ _ _) (by simp [Sx.flat,Value.cells,Value.oneCell']) ⟨rfl,rfl,rfl,fun vs ds σ' h=>h⟩)
 rintro args ds σ K ⟨rfl,rfl,rfl,hK⟩ _
 have hp0:=hr.1
 have hd1:=hd.1
 have hd2:=hd.2
 have hdd:=deeper hd
 rw [runary] at hx
 show Tree.holds _ _ _ _ (⟨[ptrV g,.int .i64 d],[],[],⟨s,hd0⟩⟩:Env RH)
 refine h_new fun g1=>?_
 refine kc (h:=w_ok ?_)
 try simp only [aS,hdd.2]
 refine h_pv rfl rfl ?_
 try simp only [aS,hdd.2]
 refine h_ite rfl (fun q4=>?_) (fun q4=>?_)
 ·skip
  simp only [nS] at q4
  try simp only [q4,runop,prefixes,bSizeof,bS,↓reduceIte] at hx
  try simp only [q4,runop,prefixes,bSizeof,bS,↓reduceIte] at hx
  obtain ⟨rfl,rfl⟩:=sP hx
  refine kr (h:=?_)
  refine hK _ _ _ ⟨⟨_,_,rfl⟩,?_,rfl⟩
  first | rfl | (simp only [kidsD,Ex.kids,List.map,encEx_eq];done) | (simp only [kidsD,Ex.kids,List.map,encEx_eq];rfl)
 ·skip
  simp only [nS] at q4
  try simp only [q4,runop,prefixes,bSizeof,bS,↓reduceIte] at hx
  refine h_pv rfl rfl ?_
  try simp only [aS,hdd.2]
  refine h_pv rfl rfl ?_
  try simp only [aS,hdd.2]
  refine h_ld rfl RR.ld0 rfl (hdV_one _ _) ?_
  try simp only [aS,hdd.2]
  refine h_pv rfl (sem_ia 0 hp0) ?_
  try simp only [aS,hdd.2]
  refine h_pv rfl rfl ?_
  try simp only [aS,hdd.2]
  refine h_ld rfl (RR.ldF3 hp0) rfl (by simp [strV8,Value.oneCell']) ?_
  try simp only [aS,hdd.2]
  refine h_new fun g11=>?_
  refine h_new fun g12=>?_
  refine h_new fun g13=>?_
  refine kc (h:=w_take fun h14 p14=>?_)
  try simp only [aS,hdd.2]
  refine h_ite rfl (fun q15=>?_) (fun q15=>?_)
  ·skip
   try simp only [q4,q15,runop,prefixes,bSizeof,bS,↓reduceIte] at hx
   rw [rtake_yes q15] at p14
   rw [rtake_yes q15]
   try simp only [rtake_yes q15] at hx
   try simp only [q4,q15,runop,prefixes,bSizeof,bS,↓reduceIte] at hx
   obtain ⟨⟨x16,s16⟩,e16,hx⟩:=Option.bind_eq_some_iff.1 hx
   simp only at hx
   refine kc (h:=w_operand (f:=F) (by omega) e16 ⟨by omega,by omega⟩ fun A16 c16 h16 p16=>?_)
   try simp only [aS,hdd.2]
   try simp only [q4,q15,runop,prefixes,bSizeof,bS,↓reduceIte] at hx
   obtain ⟨rfl,rfl⟩:=sP hx
   refine kr (h:=?_)
   refine hK _ _ _ ⟨⟨_,_,rfl⟩,?_,rfl⟩
   first | rfl | (simp only [kidsD,Ex.kids,List.map,encEx_eq];done) | (simp only [kidsD,Ex.kids,List.map,encEx_eq];rfl)
  ·skip
   have z15:=rtake_no q15
   rw [z15] at p14
   rw [z15]
   try simp only [z15] at hx
   try simp only [q4,q15,runop,prefixes,bSizeof,bS,↓reduceIte] at hx
   refine kc (h:=w_take fun h17 p17=>?_)
   try simp only [aS,hdd.2]
   refine h_ite rfl (fun q18=>?_) (fun q18=>?_)
   ·skip
    try simp only [q4,q15,q18,runop,prefixes,bSizeof,bS,↓reduceIte] at hx
    rw [rtake_yes q18] at p17
    rw [rtake_yes q18]
    try simp only [rtake_yes q18] at hx
    try simp only [q4,q15,q18,runop,prefixes,bSizeof,bS,↓reduceIte] at hx
    obtain ⟨⟨x19,s19⟩,e19,hx⟩:=Option.bind_eq_some_iff.1 hx
    simp only at hx
    refine kc (h:=w_operand (f:=F) (by omega) e19 ⟨by omega,by omega⟩ fun A19 c19 h19 p19=>?_)
    try simp only [aS,hdd.2]
    try simp only [q4,q15,q18,runop,prefixes,bSizeof,bS,↓reduceIte] at hx
    obtain ⟨rfl,rfl⟩:=sP hx
    refine kr (h:=?_)
    refine hK _ _ _ ⟨⟨_,_,rfl⟩,?_,rfl⟩
    first | rfl | (simp only [kidsD,Ex.kids,List.map,encEx_eq];done) | (simp only [kidsD,Ex.kids,List.map,encEx_eq];rfl)
   ·skip
    have z18:=rtake_no q18
    rw [z18] at p17
    rw [z18]
    try simp only [z18] at hx
    try simp only [q4,q15,q18,runop,prefixes,bSizeof,bS,↓reduceIte] at hx
    refine kc (h:=w_take fun h20 p20=>?_)
    try simp only [aS,hdd.2]
    refine h_ite rfl (fun q21=>?_) (fun q21=>?_)
    ·skip
     try simp only [q4,q15,q18,q21,runop,prefixes,bSizeof,bS,↓reduceIte] at hx
     rw [rtake_yes q21] at p20
     rw [rtake_yes q21]
     try simp only [rtake_yes q21] at hx
     try simp only [q4,q15,q18,q21,runop,prefixes,bSizeof,bS,↓reduceIte] at hx
     obtain ⟨⟨x22,s22⟩,e22,hx⟩:=Option.bind_eq_some_iff.1 hx
     simp only at hx
     refine kc (h:=w_operand (f:=F) (by omega) e22 ⟨by omega,by omega⟩ fun A22 c22 h22 p22=>?_)
     try simp only [aS,hdd.2]
     try simp only [q4,q15,q18,q21,runop,prefixes,bSizeof,bS,↓reduceIte] at hx
     obtain ⟨rfl,rfl⟩:=sP hx
     refine kr (h:=?_)
     refine hK _ _ _ ⟨⟨_,_,rfl⟩,?_,rfl⟩
     first | rfl | (simp only [kidsD,Ex.kids,List.map,encEx_eq];done) | (simp only [kidsD,Ex.kids,List.map,encEx_eq];rfl)
    ·skip
     have z21:=rtake_no q21
     rw [z21] at p20
     rw [z21]
     try simp only [z21] at hx
     try simp only [q4,q15,q18,q21,runop,prefixes,bSizeof,bS,↓reduceIte] at hx
     refine kc (h:=w_take fun h23 p23=>?_)
     try simp only [aS,hdd.2]
     refine h_ite rfl (fun q24=>?_) (fun q24=>?_)
     ·skip
      try simp only [q4,q15,q18,q21,q24,runop,prefixes,bSizeof,bS,↓reduceIte] at hx
      rw [rtake_yes q24] at p23
      rw [rtake_yes q24]
      try simp only [rtake_yes q24] at hx
      try simp only [q4,q15,q18,q21,q24,runop,prefixes,bSizeof,bS,↓reduceIte] at hx
      obtain ⟨⟨x25,s25⟩,e25,hx⟩:=Option.bind_eq_some_iff.1 hx
      simp only at hx
      refine kc (h:=w_operand (f:=F) (by omega) e25 ⟨by omega,by omega⟩ fun A25 c25 h25 p25=>?_)
      try simp only [aS,hdd.2]
      try simp only [q4,q15,q18,q21,q24,runop,prefixes,bSizeof,bS,↓reduceIte] at hx
      obtain ⟨rfl,rfl⟩:=sP hx
      refine kr (h:=?_)
      refine hK _ _ _ ⟨⟨_,_,rfl⟩,?_,rfl⟩
      first | rfl | (simp only [kidsD,Ex.kids,List.map,encEx_eq];done) | (simp only [kidsD,Ex.kids,List.map,encEx_eq];rfl)
     ·skip
      have z24:=rtake_no q24
      rw [z24] at p23
      rw [z24]
      try simp only [z24] at hx
      try simp only [q4,q15,q18,q21,q24,runop,prefixes,bSizeof,bS,↓reduceIte] at hx
      refine kc (h:=w_take fun h26 p26=>?_)
      try simp only [aS,hdd.2]
      refine h_ite rfl (fun q27=>?_) (fun q27=>?_)
      ·skip
       try simp only [q4,q15,q18,q21,q24,q27,runop,prefixes,bSizeof,bS,↓reduceIte] at hx
       rw [rtake_yes q27] at p26
       rw [rtake_yes q27]
       try simp only [rtake_yes q27] at hx
       try simp only [q4,q15,q18,q21,q24,q27,runop,prefixes,bSizeof,bS,↓reduceIte] at hx
       obtain ⟨⟨x28,s28⟩,e28,hx⟩:=Option.bind_eq_some_iff.1 hx
       simp only at hx
       refine kc (h:=w_operand (f:=F) (by omega) e28 ⟨by omega,by omega⟩ fun A28 c28 h28 p28=>?_)
       try simp only [aS,hdd.2]
       try simp only [q4,q15,q18,q21,q24,q27,runop,prefixes,bSizeof,bS,↓reduceIte] at hx
       obtain ⟨rfl,rfl⟩:=sP hx
       refine kr (h:=?_)
       refine hK _ _ _ ⟨⟨_,_,rfl⟩,?_,rfl⟩
       first | rfl | (simp only [kidsD,Ex.kids,List.map,encEx_eq];done) | (simp only [kidsD,Ex.kids,List.map,encEx_eq];rfl)
      ·skip
       have z27:=rtake_no q27
       rw [z27] at p26
       rw [z27]
       try simp only [z27] at hx
       try simp only [q4,q15,q18,q21,q24,q27,runop,prefixes,bSizeof,bS,↓reduceIte] at hx
       refine kc (h:=w_take fun h29 p29=>?_)
       try simp only [aS,hdd.2]
       refine h_ite rfl (fun q30=>?_) (fun q30=>?_)
       ·skip
        try simp only [q4,q15,q18,q21,q24,q27,q30,runop,prefixes,bSizeof,bS,↓reduceIte] at hx
        rw [rtake_yes q30] at p29
        rw [rtake_yes q30]
        try simp only [rtake_yes q30] at hx
        try simp only [q4,q15,q18,q21,q24,q27,q30,runop,prefixes,bSizeof,bS,↓reduceIte] at hx
        obtain ⟨⟨x31,s31⟩,e31,hx⟩:=Option.bind_eq_some_iff.1 hx
        simp only at hx
        refine kc (h:=w_operand (f:=F) (by omega) e31 ⟨by omega,by omega⟩ fun A31 c31 h31 p31=>?_)
        try simp only [aS,hdd.2]
        try simp only [q4,q15,q18,q21,q24,q27,q30,runop,prefixes,bSizeof,bS,↓reduceIte] at hx
        obtain ⟨rfl,rfl⟩:=sP hx
        refine kr (h:=?_)
        refine hK _ _ _ ⟨⟨_,_,rfl⟩,?_,rfl⟩
        first | rfl | (simp only [kidsD,Ex.kids,List.map,encEx_eq];done) | (simp only [kidsD,Ex.kids,List.map,encEx_eq];rfl)
       ·skip
        have z30:=rtake_no q30
        rw [z30] at p29
        rw [z30]
        try simp only [z30] at hx
        try simp only [q4,q15,q18,q21,q24,q27,q30,runop,prefixes,bSizeof,bS,↓reduceIte] at hx
        refine kc (h:=w_take fun h32 p32=>?_)
        try simp only [aS,hdd.2]
        refine h_ite rfl (fun q33=>?_) (fun q33=>?_)
        ·skip
         try simp only [q4,q15,q18,q21,q24,q27,q30,q33,runop,prefixes,bSizeof,bS,↓reduceIte] at hx
         rw [rtake_yes q33] at p32
         rw [rtake_yes q33]
         try simp only [rtake_yes q33] at hx
         try simp only [q4,q15,q18,q21,q24,q27,q30,q33,runop,prefixes,bSizeof,bS,↓reduceIte] at hx
         obtain ⟨⟨x34,s34⟩,e34,hx⟩:=Option.bind_eq_some_iff.1 hx
         simp only at hx
         refine kc (h:=w_operand (f:=F) (by omega) e34 ⟨by omega,by omega⟩ fun A34 c34 h34 p34=>?_)
         try simp only [aS,hdd.2]
         try simp only [q4,q15,q18,q21,q24,q27,q30,q33,runop,prefixes,bSizeof,bS,↓reduceIte] at hx
         obtain ⟨rfl,rfl⟩:=sP hx
         refine kr (h:=?_)
         refine hK _ _ _ ⟨⟨_,_,rfl⟩,?_,rfl⟩
         first | rfl | (simp only [kidsD,Ex.kids,List.map,encEx_eq];done) | (simp only [kidsD,Ex.kids,List.map,encEx_eq];rfl)
        ·skip
         have z33:=rtake_no q33
         rw [z33] at p32
         rw [z33]
         try simp only [z33] at hx
         try simp only [q4,q15,q18,q21,q24,q27,q30,q33,runop,prefixes,bSizeof,bS,↓reduceIte] at hx
         refine kc (h:=w_is ?_)
         try simp only [aS,hdd.2]
         refine h_ite rfl (fun q36=>?_) (fun q36=>?_)
         ·skip
          try simp only [q4,q15,q18,q21,q24,q27,q30,q33,q36,runop,prefixes,bSizeof,bS,↓reduceIte] at hx
          refine kc (h:=w_typed1 ?_)
          try simp only [aS,hdd.2]
          refine h_ite rfl (fun q38=>?_) (fun q38=>?_)
          ·skip
           try simp only [q4,q15,q18,q21,q24,q27,q30,q33,q36,q38,runop,prefixes,bSizeof,bS,↓reduceIte] at hx
           refine kc (h:=w_next fun h39 p39=>?_)
           try simp only [aS,hdd.2]
           refine kc (h:=w_typ fun h40 p40=>?_)
           try simp only [aS,hdd.2]
           refine kc (h:=w_must fun h41 p41=>?_)
           try simp only [q4,q15,q18,q21,q24,q27,q30,q33,q36,q38,runop,prefixes,bSizeof,bS,↓reduceIte] at hx
           obtain ⟨⟨x42,s42⟩,e42,hx⟩:=Option.bind_eq_some_iff.1 hx
           simp only at hx
           refine kc (h:=w_operand (f:=F) (by omega) e42 ⟨by omega,by omega⟩ fun A42 c42 h42 p42=>?_)
           try simp only [aS,hdd.2]
           try simp only [q4,q15,q18,q21,q24,q27,q30,q33,q36,q38,runop,prefixes,bSizeof,bS,↓reduceIte] at hx
           obtain ⟨rfl,rfl⟩:=sP hx
           refine kr (h:=?_)
           refine hK _ _ _ ⟨⟨_,_,rfl⟩,?_,rfl⟩
           first | rfl | (simp only [kidsD,Ex.kids,List.map,encEx_eq];done) | (simp only [kidsD,Ex.kids,List.map,encEx_eq];rfl)
          ·skip
           try simp only [q4,q15,q18,q21,q24,q27,q30,q33,q36,q38,runop,prefixes,bSizeof,bS,↓reduceIte] at hx
           refine kc (h:=w_take fun h43 p43=>?_)
           try simp only [aS,hdd.2]
           refine h_ite rfl (fun q44=>?_) (fun q44=>?_)
           ·skip
            try simp only [q4,q15,q18,q21,q24,q27,q30,q33,q36,q38,q44,runop,prefixes,bSizeof,bS,↓reduceIte] at hx
            rw [rtake_yes q44] at p43
            rw [rtake_yes q44]
            try simp only [rtake_yes q44] at hx
            refine kc (h:=w_must fun h45 p45=>?_)
            refine kc (h:=w_ok ?_)
            try simp only [aS,hdd.2]
            refine h_ite rfl (fun q47=>?_) (fun q47=>?_)
            ·skip
             try simp only [q4,q15,q18,q21,q24,q27,q30,q33,q36,q38,q44,q47,runop,prefixes,bSizeof,bS,↓reduceIte] at hx
             refine kc (h:=w_typ fun h48 p48=>?_)
             try simp only [aS,hdd.2]
             refine kc (h:=w_must fun h49 p49=>?_)
             try simp only [q4,q15,q18,q21,q24,q27,q30,q33,q36,q38,q44,q47,runop,prefixes,bSizeof,bS,↓reduceIte] at hx
             obtain ⟨rfl,rfl⟩:=sP hx
             refine kr (h:=?_)
             refine hK _ _ _ ⟨⟨_,_,rfl⟩,?_,rfl⟩
             first | rfl | (simp only [kidsD,Ex.kids,List.map,encEx_eq];done) | (simp only [kidsD,Ex.kids,List.map,encEx_eq];rfl)
            ·skip
             try simp only [q4,q15,q18,q21,q24,q27,q30,q33,q36,q38,q44,q47,runop,prefixes,bSizeof,bS,↓reduceIte] at hx
             refine kc (h:=w_must fun h50 p50=>?_)
             try simp only [q4,q15,q18,q21,q24,q27,q30,q33,q36,q38,q44,q47,runop,prefixes,bSizeof,bS,↓reduceIte] at hx
             obtain ⟨rfl,rfl⟩:=sP hx
             refine kr (h:=?_)
             refine hK _ _ _ ⟨⟨_,_,rfl⟩,?_,rfl⟩
             first | rfl | (simp only [kidsD,Ex.kids,List.map,encEx_eq];done) | (simp only [kidsD,Ex.kids,List.map,encEx_eq];rfl)
           ·skip
            have z44:=rtake_no q44
            rw [z44] at p43
            rw [z44]
            try simp only [z44] at hx
            try simp only [q4,q15,q18,q21,q24,q27,q30,q33,q36,q38,q44,runop,prefixes,bSizeof,bS,↓reduceIte] at hx
            try simp only [q4,q15,q18,q21,q24,q27,q30,q33,q36,q38,q44,runop,prefixes,bSizeof,bS,↓reduceIte] at hx
            refine kc (h:=w_post (f:=F) (by omega) hx ⟨by omega,by omega⟩ fun A51 c51 h51 p51=>?_)
            try simp only [aS,hdd.2]
            refine kr (h:=?_)
            exact hK _ _ _ ⟨⟨_,_,rfl⟩,rfl,rfl⟩
         ·skip
          try simp only [q4,q15,q18,q21,q24,q27,q30,q33,q36,runop,prefixes,bSizeof,bS,↓reduceIte] at hx
          refine kc (h:=w_take fun h52 p52=>?_)
          try simp only [aS,hdd.2]
          refine h_ite rfl (fun q53=>?_) (fun q53=>?_)
          ·skip
           try simp only [q4,q15,q18,q21,q24,q27,q30,q33,q36,q53,runop,prefixes,bSizeof,bS,↓reduceIte] at hx
           rw [rtake_yes q53] at p52
           rw [rtake_yes q53]
           try simp only [rtake_yes q53] at hx
           refine kc (h:=w_must fun h54 p54=>?_)
           refine kc (h:=w_ok ?_)
           try simp only [aS,hdd.2]
           refine h_ite rfl (fun q56=>?_) (fun q56=>?_)
           ·skip
            try simp only [q4,q15,q18,q21,q24,q27,q30,q33,q36,q53,q56,runop,prefixes,bSizeof,bS,↓reduceIte] at hx
            refine kc (h:=w_typ fun h57 p57=>?_)
            try simp only [aS,hdd.2]
            refine kc (h:=w_must fun h58 p58=>?_)
            try simp only [q4,q15,q18,q21,q24,q27,q30,q33,q36,q53,q56,runop,prefixes,bSizeof,bS,↓reduceIte] at hx
            obtain ⟨rfl,rfl⟩:=sP hx
            refine kr (h:=?_)
            refine hK _ _ _ ⟨⟨_,_,rfl⟩,?_,rfl⟩
            first | rfl | (simp only [kidsD,Ex.kids,List.map,encEx_eq];done) | (simp only [kidsD,Ex.kids,List.map,encEx_eq];rfl)
           ·skip
            try simp only [q4,q15,q18,q21,q24,q27,q30,q33,q36,q53,q56,runop,prefixes,bSizeof,bS,↓reduceIte] at hx
            refine kc (h:=w_must fun h59 p59=>?_)
            try simp only [q4,q15,q18,q21,q24,q27,q30,q33,q36,q53,q56,runop,prefixes,bSizeof,bS,↓reduceIte] at hx
            obtain ⟨rfl,rfl⟩:=sP hx
            refine kr (h:=?_)
            refine hK _ _ _ ⟨⟨_,_,rfl⟩,?_,rfl⟩
            first | rfl | (simp only [kidsD,Ex.kids,List.map,encEx_eq];done) | (simp only [kidsD,Ex.kids,List.map,encEx_eq];rfl)
          ·skip
           have z53:=rtake_no q53
           rw [z53] at p52
           rw [z53]
           try simp only [z53] at hx
           try simp only [q4,q15,q18,q21,q24,q27,q30,q33,q36,q53,runop,prefixes,bSizeof,bS,↓reduceIte] at hx
           try simp only [q4,q15,q18,q21,q24,q27,q30,q33,q36,q53,runop,prefixes,bSizeof,bS,↓reduceIte] at hx
           refine kc (h:=w_post (f:=F) (by omega) hx ⟨by omega,by omega⟩ fun A60 c60 h60 p60=>?_)
           try simp only [aS,hdd.2]
           refine kr (h:=?_)
           exact hK _ _ _ ⟨⟨_,_,rfl⟩,rfl,rfl⟩
end Go.Proofs.YtdmacgoeikjdbaaGreatDoor

/- The program's parser: numbers, names, calls; what stands behind (symbo -/
import Derived.Test.YtdmacgoeikjdbaaGreatDoorL24
import Derived.Test.YtdmacgoeikjdbaaGreatDoorL23
set_option linter.unusedSimpArgs false
set_option linter.unusedVariables false
set_option maxHeartbeats 16000000
namespace Go.Proofs.YtdmacgoeikjdbaaGreatDoor
open Go.RowKit Sx
def cfP_primary:Cfg:=⟨[(14,sTok),(65,sTok),(67,sOne),(140,sExs),(64,sUnit)],[(100 * 100 + 6,8),(100 * 89 + 1,8),(100 * 89 + 2,9),(100 * 56 + 4,1),(100 * 60 + 4,6),(100 * 60 + 5,9),(100 * 60 + 6,6)],[],sEx,[],[]⟩
def TP_primary:Tree:=tW <| tO 0 <| tW <| tQ 2 2 <| .ite 6 (tO 1 <| .ret [jI 1,jI 0,jI 0,jI 0,jE,.v 4,jN,.v 5] [jP 8]) (tQ 2 1 <| .ite 7 (tO 1 <| tS 2 [40] <| .ite 12 (tA 1 1 <| tV 3 13 <| .ret [jI 35,jI 0,jI 0,jI 0,.v 3,jI 0,.v 14,.v 5] [jD 14 0]) (.ret [jI 2,jI 0,jI 0,jI 0,.v 3,jI 0,jN,.v 5] [jP 8])) (tI 4 4 <| .ret [jI 0,jI 0,jI 0,jI 0,jE,jI 0,jN,jI 0] [jP 8]))
theorem TP_primary_eq:fnS Tryz.prog cfP_primary [.one,.one] 133=some TP_primary:=by kernel_rfl
theorem mprimary_step (F:Nat) (iha:∀ f,f≤F→MExs 140 (margs f) f):MEx 133 (mprimary (F + 1)) (F + 1):=by
 intro g d s s' x h0 w okk K hx hd hr hok hK'
 have hK:∀ vs ds σ',((∃ A c,vs=exV x A c)∧ds=[kidsD x]∧σ'.s=s'∧OkS σ')→K vs ds σ':=fun vs ds σ' h=>by
  obtain ⟨⟨A,c,rfl⟩,rfl,rfl,h3⟩:=h
  exact hK' A c _ h3
 refine fn_ok (cf:=cfP_primary) [(qTok g).x,(qNext g).x,(qEat g).x,(qExs 140 margs g iha).x,(qFail g).x] rfl mixed QR.stable TP_primary_eq (W:=fun args ds σ K'=>args=[ptrV g,.int .i64 d]∧ds=[]∧σ=⟨s,h0⟩∧K'=K)
  (fun args ds σ K hW=>by obtain ⟨rfl,_⟩:=hW;exact ⟨rfl,rfl,trivial⟩) ?_ [ptrV g,.int .i64 d] [] ⟨s,h0⟩ w okk K hr.lt hr hok (daOk_nil _ _ _) (by simp [Sx.flat,Value.cells,Value.oneCell',exC,strV8]) ⟨rfl,rfl,rfl,rfl⟩
 rintro args ds σ K' ⟨rfl,rfl,rfl,rfl⟩ _
 have hp0:=hr.1
 have hd1:=hd.1
 have hd2:=hd.2
 have hdd:=deeper hd
 rw [mprimary] at hx
 show Tree.holds _ _ _ _ (⟨Sx.flat [ptrV g,.int .i64 d],[],[],⟨s,h0⟩⟩:Env QS)
 simp only [Sx.flat,Value.cells,List.flatMap_cons,List.flatMap_nil,List.append_nil,List.cons_append,List.nil_append,Array.toList]
 refine h_new fun g1=>?_
 refine kc (h:=w_ptok ?_)
 try simp only [aS,hdd.2]
 refine h_new fun g3=>?_
 refine h_pv rfl rfl ?_
 try simp only [aS,hdd.2]
 refine h_ite rfl (fun q5=>?_) (fun q5=>?_)
 ·skip
  try dsimp only at q5
  try simp only [q5,bne,bS,↓reduceIte] at hx
  refine kc (h:=w_pnext fun h6 p6=>?_)
  try simp only [aS,hdd.2]
  try simp only [q5,bne,bS,↓reduceIte] at hx
  obtain ⟨rfl,rfl⟩:=sP hx
  refine kr (h:=?_)
  refine hK _ _ _ ⟨⟨_,_,rfl⟩,?_,rfl,p6⟩
  first | rfl | (simp only [kidsD,Ex.kids,List.map,encEx_eq];done) | (simp only [kidsD,Ex.kids,List.map,encEx_eq];rfl) | (simp only [exsD,List.map,encEx_eq];done) | (simp only [exsD,List.map,encEx_eq];rfl) | (simp [kidsD,exsD,Ex.kids,encEx_eq];done)
 ·skip
  try dsimp only at q5
  try simp only [q5,bne,bS,↓reduceIte] at hx
  refine h_pv rfl rfl ?_
  try simp only [aS,hdd.2]
  refine h_ite rfl (fun q8=>?_) (fun q8=>?_)
  ·skip
   try dsimp only at q8
   try simp only [q5,q8,bne,bS,↓reduceIte] at hx
   refine kc (h:=w_pnext fun h9 p9=>?_)
   try simp only [aS,hdd.2]
   refine kc (h:=w_peat fun h10 p10=>?_)
   try simp only [aS,hdd.2]
   refine h_ite rfl (fun q11=>?_) (fun q11=>?_)
   ·skip
    try simp only [q5,q8,q11,bne,bS,↓reduceIte] at hx
    refine h_pv rfl rfl ?_
    try simp only [aS,hdd.2]
    try simp only [q5,q8,q11,bne,bS,↓reduceIte] at hx
    obtain ⟨⟨x13,s13⟩,e13,hx⟩:=Option.bind_eq_some_iff.1 hx
    simp only at hx
    refine kc (h:=w_pexs (f:=F) (by omega) e13 ⟨by omega,by omega⟩ fun A13 c13 h13 p13=>?_)
    try simp only [aS,hdd.2]
    try simp only [q5,q8,q11,bne,bS,↓reduceIte] at hx
    obtain ⟨rfl,rfl⟩:=sP hx
    refine kr (h:=?_)
    refine hK _ _ _ ⟨⟨_,_,rfl⟩,?_,rfl,p13⟩
    first | rfl | (simp only [kidsD,Ex.kids,List.map,encEx_eq];done) | (simp only [kidsD,Ex.kids,List.map,encEx_eq];rfl) | (simp only [exsD,List.map,encEx_eq];done) | (simp only [exsD,List.map,encEx_eq];rfl) | (simp [kidsD,exsD,Ex.kids,encEx_eq];done)
   ·skip
    have z11:=meat_noS q11
    rw [z11] at p10
    rw [z11]
    try simp only [z11] at hx
    try simp only [q5,q8,q11,bne,bS,↓reduceIte] at hx
    try simp only [q5,q8,q11,bne,bS,↓reduceIte] at hx
    obtain ⟨rfl,rfl⟩:=sP hx
    refine kr (h:=?_)
    refine hK _ _ _ ⟨⟨_,_,rfl⟩,?_,rfl,p10⟩
    first | rfl | (simp only [kidsD,Ex.kids,List.map,encEx_eq];done) | (simp only [kidsD,Ex.kids,List.map,encEx_eq];rfl) | (simp only [exsD,List.map,encEx_eq];done) | (simp only [exsD,List.map,encEx_eq];rfl) | (simp [kidsD,exsD,Ex.kids,encEx_eq];done)
  ·skip
   try dsimp only at q8
   try simp only [q5,q8,bne,bS,↓reduceIte] at hx
   refine kc (h:=w_pfail fun h14 p14=>?_)
   try simp only [q5,q8,bne,bS,↓reduceIte] at hx
   obtain ⟨rfl,rfl⟩:=sP hx
   refine kr (h:=?_)
   refine hK _ _ _ ⟨⟨_,_,rfl⟩,?_,rfl,p14⟩
   first | rfl | (simp only [kidsD,Ex.kids,List.map,encEx_eq];done) | (simp only [kidsD,Ex.kids,List.map,encEx_eq];rfl) | (simp only [exsD,List.map,encEx_eq];done) | (simp only [exsD,List.map,encEx_eq];rfl) | (simp [kidsD,exsD,Ex.kids,encEx_eq];done)
def cfP_args:Cfg:=⟨[(67,sOne),(13,sOne),(64,sUnit),(88,sEx),(70,sUnit)],[(100 * 100 + 6,8),(100 * 89 + 1,8),(100 * 89 + 2,9),(100 * 56 + 4,1),(100 * 60 + 4,6),(100 * 60 + 5,9),(100 * 60 + 6,6)],[(0,⟨[(0,.el (.one (.v 0))),(1,.el (.one (.v 1))),(4,.el (.one (.v 2)))],[],[⟨2,0,some (100,8)⟩],3,0,1,27,[],[]⟩)],sExs,[],[]⟩
def Z5:Tree:=tO 1 <| tT 3 <| .ite 4 (.nd (.pv .len [.v 2]) <| tQ 5 4 <| .ite 6 (tI 2 2 <| .ret [.v 2] [jD 2 0]) (tV 3 1 <| tB 8 1 [rX 7 1] <| tU 8 0 2 <| tS 0 [44] <| tT 17 <| .ite 18 (tS 4 [41] <| .ret [.v 16] [jD 16 3]) (.again 0 [.v 0,.v 1,.v 16] [jD 16 3]))) (.ret [.v 2] [jD 2 0])
def Z4:Tree:=.loop 0 0 [.v 0,.v 1,jN] [jP 8] Z5
def TP_args:Tree:=tS 0 [41] <| .ite 2 (.ret [jN] [jP 8]) Z4
theorem TP_args_eq:fnS Tryz.prog cfP_args [.one,.one] 140=some TP_args:=by kernel_rfl
theorem margs_step (F:Nat) (ihe:∀ f,f≤F→MEx 88 (mexpr f) f):MExs 140 (margs (F + 1)) (F + 1):=by
 intro g d s s' x h0 w okk K hx hd hr hok hK'
 have hK:∀ vs ds σ',((∃ A c,vs=[.slice A x.length c])∧ds=[exsD x]∧σ'.s=s'∧OkS σ')→K vs ds σ':=fun vs ds σ' h=>by
  obtain ⟨⟨A,c,rfl⟩,rfl,rfl,h3⟩:=h
  exact hK' A c _ h3
 refine fn_ok (cf:=cfP_args) [(qEat g).x,(qBad g).x,(qFail g).x,(qEx 88 mexpr g ihe).x,(qWant g).x] rfl mixed QR.stable TP_args_eq (W:=fun args ds σ K'=>args=[ptrV g,.int .i64 d]∧ds=[]∧σ=⟨s,h0⟩∧K'=K)
  (fun args ds σ K hW=>by obtain ⟨rfl,_⟩:=hW;exact ⟨rfl,rfl,trivial⟩) ?_ [ptrV g,.int .i64 d] [] ⟨s,h0⟩ w okk K hr.lt hr hok (daOk_nil _ _ _) (by simp [Sx.flat,Value.cells,Value.oneCell',exC,strV8]) ⟨rfl,rfl,rfl,rfl⟩
 rintro args ds σ K' ⟨rfl,rfl,rfl,rfl⟩ _
 have hp0:=hr.1
 have hd1:=hd.1
 have hd2:=hd.2
 rw [margs] at hx
 show Tree.holds _ _ _ _ (⟨Sx.flat [ptrV g,.int .i64 d],[],[],⟨s,h0⟩⟩:Env QS)
 simp only [Sx.flat,Value.cells,List.flatMap_cons,List.flatMap_nil,List.append_nil,List.cons_append,List.nil_append,Array.toList]
 refine kc (h:=w_peat fun h1 p1=>?_)
 try simp only [aS,hdd.2,List.length_nil]
 refine h_ite rfl (fun q2=>?_) (fun q2=>?_)
 ·skip
  try simp only [q2,bS,↓reduceIte] at hx
  try simp only [q2,bS,↓reduceIte] at hx
  obtain ⟨rfl,rfl⟩:=sP hx
  refine kr (h:=?_)
  refine hK _ _ _ ⟨⟨none,0,?_⟩,?_,rfl,p1⟩
  ·first | rfl | (simp only [List.length_append,List.length_map];rfl)
  ·first | rfl | (simp [exsD,encEx_eq,encSt_eq,encDe];done)
 ·skip
  have z2:=meat_noS q2
  rw [z2] at p1
  rw [z2]
  try simp only [z2] at hx
  try simp only [q2,bS,↓reduceIte] at hx
  try simp only [q2,bS,↓reduceIte] at hx
  refine h_loop (fun k vs ds σ=>∃ (acc:List Ex) (A:Option Addr) (c:Nat),vs=[ptrV g,.int .i64 d,.slice A acc.length c]∧ds=[exsD acc]∧OkS σ∧acc.length≤4∧k≤F∧margloop k d acc σ.s=some (x,s')) F (by simp only [rowsD,ldens,dens,dens2,T2.den,L.den,CD.den,leafD,rowD,List.getElem?_cons_zero,List.getElem?_cons_succ] <;> rfl) (by simp only [rowsD,ldens,dens,dens2,T2.den,L.den,CD.den,leafD,rowD,List.getElem?_cons_zero,List.getElem?_cons_succ] <;> rfl) (fun vs ds σ ⟨a,A,c,_,_,_,_,_,h⟩=>by cases h) ⟨[],none,0,rfl,rfl,p1,Nat.zero_le _,Nat.le_refl _,hx⟩ ?_
  clear hx
  rintro k vs ds bl ⟨s,h0⟩ hbl ⟨acc,A,c,rfl,rfl,hp0,hacc,hk,hx⟩
  rw [margloop] at hx
  simp only at hx
  try simp only [aS,hdd.2,List.length_nil]
  refine kc (h:=w_pbad ?_)
  try simp only [aS,hdd.2,List.length_nil]
  refine h_pv rfl rfl ?_
  try simp only [aS,hdd.2,List.length_nil]
  refine h_ite rfl (fun q5=>?_) (fun q5=>?_)
  ·skip
   simp only [nS] at q5
   try simp only [Bool.not_eq_true',Bool.not_eq_false'] at q5
   try simp only [q5,bS,↓reduceIte] at hx
   refine h_pv rfl rfl ?_
   try simp only [aS,hdd.2,List.length_nil]
   refine h_pv rfl rfl ?_
   try simp only [aS,hdd.2,List.length_nil]
   refine h_ite rfl (fun q8=>?_) (fun q8=>?_)
   ·skip
    try dsimp only at q8
    have qn:acc.length=4:=by have:=q8;simp at this;omega
    rw [if_pos qn] at hx
    try simp only [q5,q8,bS,↓reduceIte] at hx
    refine kc (h:=w_pfail fun h9 p9=>?_)
    try simp only [q5,q8,bS,↓reduceIte] at hx
    obtain ⟨rfl,rfl⟩:=sP hx
    refine kr (h:=?_)
    refine hK _ _ _ ⟨⟨A,c,?_⟩,?_,rfl,p9⟩
    ·first | rfl | (simp only [List.length_append,List.length_map];rfl)
    ·first | rfl | (simp [exsD,encEx_eq,encSt_eq,encDe];done)
   ·skip
    try dsimp only at q8
    have qn:¬ acc.length=4:=by have:=q8;simp at this;omega
    rw [if_neg qn] at hx
    try simp only [q5,q8,bS,↓reduceIte] at hx
    try simp only [q5,q8,bS,↓reduceIte] at hx
    obtain ⟨⟨x10,s10⟩,e10,hx⟩:=Option.bind_eq_some_iff.1 hx
    simp only at hx
    refine kc (h:=w_pex (f:=k) (by omega) e10 ⟨by omega,by omega⟩ fun A10 c10 h10 p10=>?_)
    try simp only [aS,hdd.2,List.length_nil]
    refine kb (h:=fun g11=>?_)
    try simp only [aS,hdd.2,List.length_nil]
    refine h_app rfl rfl (by simp only [List.length_map,List.length_cons,List.length_nil];omega) fun A12 c12=>?_
    try simp only [aS,hdd.2,List.length_nil]
    refine kc (h:=w_peat fun h13 p13=>?_)
    try simp only [aS,hdd.2,List.length_nil]
    refine h_pv rfl rfl ?_
    try simp only [aS,hdd.2,List.length_nil]
    refine h_ite rfl (fun q15=>?_) (fun q15=>?_)
    ·skip
     simp only [nS] at q15
     have z15:=meat_noS q15
     rw [z15] at p13
     rw [z15]
     try simp only [z15] at hx
     try simp only [q5,q8,q15,bS,↓reduceIte] at hx
     refine kc (h:=w_pwant fun h16 p16=>?_)
     try simp only [q5,q8,q15,bS,↓reduceIte] at hx
     obtain ⟨rfl,rfl⟩:=sP hx
     refine kr (h:=?_)
     refine hK _ _ _ ⟨⟨A12,c12,?_⟩,?_,rfl,p16⟩
     ·first | rfl | (simp only [List.length_append,List.length_map];rfl)
     ·first | rfl | (simp [exsD,encEx_eq,encSt_eq,encDe];done)
    ·skip
     simp only [nS] at q15
     try simp only [q5,q8,q15,bS,↓reduceIte] at hx
     try simp only [q5,q8,q15,bS,↓reduceIte] at hx
     refine ka (h:=?_)
     show (ite ((0:Nat)=0) _ _:List Value→List D→QS→Prop) _ _ _
     rw [if_pos rfl]
     refine ⟨_,A12,c12,?_,?_,p13,?_,by omega,hx⟩
     ·simp only [List.length_append,List.length_map];rfl
     ·simp [exsD,encEx_eq,encSt_eq,encDe]
     ·simp only [List.length_append,List.length_cons,List.length_nil];omega
  ·skip
   simp only [nS] at q5
   try simp only [Bool.not_eq_true',Bool.not_eq_false'] at q5
   try simp only [q5,bS,↓reduceIte] at hx
   try simp only [q5,bS,↓reduceIte] at hx
   obtain ⟨rfl,rfl⟩:=sP hx
   refine kr (h:=?_)
   refine hK _ _ _ ⟨⟨A,c,?_⟩,?_,rfl,hp0⟩
   ·first | rfl | (simp only [List.length_append,List.length_map];rfl)
   ·first | rfl | (simp [exsD,encEx_eq,encSt_eq,encDe];done)
theorem daOk_one {w:World} {ok:Nat→Prop} {vs:List Value} {i z:Nat} {d:D} {v:Value} (hv:vs[i]?=some v) (h:Rep w ok d [v]):DaOk w ok vs [(i,z)] [d]:=⟨rfl,fun j x e hj hd=>by
 cases j with
 | zero=>
  simp at hj hd
  subst hj hd
  exact ⟨v,hv,h⟩
 | succ j=>simp at hj⟩
def cfP_postfix:Cfg:=⟨[(14,sTok),(67,sOne),(88,sEx),(70,sUnit)],[(100 * 100 + 6,8),(100 * 89 + 1,8),(100 * 89 + 2,9),(100 * 56 + 4,1),(100 * 60 + 4,6),(100 * 60 + 5,9),(100 * 60 + 6,6)],[(0,⟨[(0,.el (.one (.v 0))),(2,.el (.one (.v 1))),(4,.el (.one (.p 0 0))),(6,.el (.one (.p 1 0)))],[⟨0,100,vsFrom 2 8⟩,⟨1,100,xZ⟩],[⟨8,0,none⟩],10,2,1,41,[],[]⟩)],sPostX,[],[]⟩
def Z6:Tree:=tO 0 <| tW <| tS 1 [91] <| .ite 14 (tA 1 1 <| tV 2 15 <| tB 8 2 [rX 2 0,rX 16 1] <| tS 3 [93] <| .again 0 [.v 0,.v 1,jI 3,jI 0,jI 0,jI 0,jE,jI 0,.v 24,.v 13] [jD 24 2]) (tS 1 [43,43] <| .ite 15 (tB 8 1 [rX 2 0] <| .again 0 [.v 0,.v 1,jI 13,jI 0,jI 0,jI 0,jE,jI 0,.v 16,.v 13] [jD 16 1]) (tS 1 [45,45] <| .ite 16 (tB 8 1 [rX 2 0] <| .again 0 [.v 0,.v 1,jI 14,jI 0,jI 0,jI 0,jE,jI 0,.v 17,.v 13] [jD 17 1]) (.ret [.v 2,.v 3,.v 4,.v 5,.v 6,.v 7,.v 8,.v 9] [jD 8 0])))
def TP_postfix:Tree:=tW <| tW <| .loop 0 2 [.v 0,.v 9,.v 1,.v 2,.v 3,.v 4,.v 5,.v 6,.v 7,.v 8] [jD 7 0] Z6
theorem TP_postfix_eq:fnS Tryz.prog cfP_postfix [.one,.agg 8,.one] 132=some TP_postfix:=by kernel_rfl
theorem mpost_step (F:Nat) (ihe:∀ f,f≤F→MEx 88 (mexpr f) f):MPostOk (F + 1):=by
 intro g d a B e s s' x h0 w okk K hx hd hr hok hrep hK'
 have hK:∀ vs ds σ',((∃ A c,vs=exV x A c)∧ds=[kidsD x]∧σ'.s=s'∧OkS σ')→K vs ds σ':=fun vs ds σ' h=>by
  obtain ⟨⟨A,c,rfl⟩,rfl,rfl,h3⟩:=h
  exact hK' A c _ h3
 refine fn_ok (cf:=cfP_postfix) [(qTok g).x,(qEat g).x,(qEx 88 mexpr g ihe).x,(qWant g).x] rfl mixed QR.stable TP_postfix_eq (W:=fun args ds σ K'=>args=[ptrV g,.agg (exC a B e).toArray,.int .i64 d]∧ds=[kidsD a]∧σ=⟨s,h0⟩∧K'=K)
  (fun args ds σ K hW=>by obtain ⟨rfl,_⟩:=hW;exact ⟨rfl,⟨_,rfl,rfl⟩,rfl,trivial⟩) ?_ [ptrV g,.agg (exC a B e).toArray,.int .i64 d] [kidsD a] ⟨s,h0⟩ w okk K hr.lt hr hok (daOk_one rfl hrep) (by simp [Sx.flat,Value.cells,Value.oneCell',exC,strV8]) ⟨rfl,rfl,rfl,rfl⟩
 rintro args ds σ K' ⟨rfl,rfl,rfl,rfl⟩ _
 have hp0:=hr.1
 have hd1:=hd.1
 have hd2:=hd.2
 have hdd:=deeper hd
 skip
 show Tree.holds _ _ _ _ (⟨Sx.flat [ptrV g,.agg (exC a B e).toArray,.int .i64 d],[],[kidsD a],⟨s,h0⟩⟩:Env QS)
 simp only [Sx.flat,Value.cells,List.flatMap_cons,List.flatMap_nil,List.append_nil,List.cons_append,List.nil_append,Array.toList]
 refine h_new fun g1=>?_
 refine h_new fun g2=>?_
 refine h_loop (fun k vs ds σ=>∃ (a:Ex) (A:Option Addr) (c:Nat),vs=ptrV g :: .int .i64 d :: exV a A c∧ds=[kidsD a]∧OkS σ∧k≤F + 1∧mpostloop k d a σ.s=some (x,s')) (F + 1) (by simp only [rowsD,ldens,dens,dens2,T2.den,L.den,CD.den,leafD,rowD,List.getElem?_cons_zero,List.getElem?_cons_succ] <;> rfl) (by simp only [rowsD,ldens,dens,dens2,T2.den,L.den,CD.den,leafD,rowD,List.getElem?_cons_zero,List.getElem?_cons_succ] <;> rfl) (fun vs ds σ ⟨a,A,c,_,_,_,_,h⟩=>by cases h) ⟨_,_,_,rfl,rfl,hp0,Nat.le_refl _,hx⟩ ?_
 clear hx hrep
 rintro k vs ds bl ⟨s,h0⟩ hbl ⟨a,A,c,rfl,rfl,hp0,hk,hx⟩
 rw [mpostloop] at hx
 simp only at hx
 try simp only [aS,hdd.2]
 refine kc (h:=w_ptok ?_)
 try simp only [aS,hdd.2]
 refine h_new fun g4=>?_
 refine kc (h:=w_peat fun h5 p5=>?_)
 try simp only [aS,hdd.2]
 refine h_ite rfl (fun q6=>?_) (fun q6=>?_)
 ·skip
  try simp only [q6,bS,↓reduceIte] at hx
  refine h_pv rfl rfl ?_
  try simp only [aS,hdd.2]
  try simp only [q6,bS,↓reduceIte] at hx
  obtain ⟨⟨x8,s8⟩,e8,hx⟩:=Option.bind_eq_some_iff.1 hx
  simp only at hx
  refine kc (h:=w_pex (f:=k) (by omega) e8 ⟨by omega,by omega⟩ fun A8 c8 h8 p8=>?_)
  try simp only [aS,hdd.2]
  refine kb (h:=fun g9=>?_)
  try simp only [aS,hdd.2]
  refine kc (h:=w_pwant fun h10 p10=>?_)
  try simp only [q6,bS,↓reduceIte] at hx
  refine ka (h:=?_)
  show (ite ((0:Nat)=0) _ _:List Value→List D→QS→Prop) _ _ _
  rw [if_pos rfl]
  refine ⟨_,_,_,rfl,?_,p10,by omega,hx⟩
  first | rfl | (simp only [kidsD,Ex.kids,List.map,encEx_eq];done) | (simp only [kidsD,Ex.kids,List.map,encEx_eq];rfl) | (simp [kidsD,exsD,Ex.kids,encEx_eq];done)
 ·skip
  have z6:=meat_noS q6
  rw [z6] at p5
  rw [z6]
  try simp only [z6] at hx
  try simp only [q6,bS,↓reduceIte] at hx
  refine kc (h:=w_peat fun h11 p11=>?_)
  try simp only [aS,hdd.2]
  refine h_ite rfl (fun q12=>?_) (fun q12=>?_)
  ·skip
   try simp only [q6,q12,bS,↓reduceIte] at hx
   refine kb (h:=fun g13=>?_)
   try simp only [aS,hdd.2]
   try simp only [q6,q12,bS,↓reduceIte] at hx
   refine ka (h:=?_)
   show (ite ((0:Nat)=0) _ _:List Value→List D→QS→Prop) _ _ _
   rw [if_pos rfl]
   refine ⟨_,_,_,rfl,?_,p11,by omega,hx⟩
   first | rfl | (simp only [kidsD,Ex.kids,List.map,encEx_eq];done) | (simp only [kidsD,Ex.kids,List.map,encEx_eq];rfl) | (simp [kidsD,exsD,Ex.kids,encEx_eq];done)
  ·skip
   have z12:=meat_noS q12
   rw [z12] at p11
   rw [z12]
   try simp only [z12] at hx
   try simp only [q6,q12,bS,↓reduceIte] at hx
   refine kc (h:=w_peat fun h14 p14=>?_)
   try simp only [aS,hdd.2]
   refine h_ite rfl (fun q15=>?_) (fun q15=>?_)
   ·skip
    try simp only [q6,q12,q15,bS,↓reduceIte] at hx
    refine kb (h:=fun g16=>?_)
    try simp only [aS,hdd.2]
    try simp only [q6,q12,q15,bS,↓reduceIte] at hx
    refine ka (h:=?_)
    show (ite ((0:Nat)=0) _ _:List Value→List D→QS→Prop) _ _ _
    rw [if_pos rfl]
    refine ⟨_,_,_,rfl,?_,p14,by omega,hx⟩
    first | rfl | (simp only [kidsD,Ex.kids,List.map,encEx_eq];done) | (simp only [kidsD,Ex.kids,List.map,encEx_eq];rfl) | (simp [kidsD,exsD,Ex.kids,encEx_eq];done)
   ·skip
    have z15:=meat_noS q15
    rw [z15] at p14
    rw [z15]
    try simp only [z15] at hx
    try simp only [q6,q12,q15,bS,↓reduceIte] at hx
    try simp only [q6,q12,q15,bS,↓reduceIte] at hx
    obtain ⟨rfl,rfl⟩:=sP hx
    refine kr (h:=?_)
    refine hK _ _ _ ⟨⟨_,_,rfl⟩,?_,rfl,p14⟩
    first | rfl | (simp only [kidsD,Ex.kids,List.map,encEx_eq];done) | (simp only [kidsD,Ex.kids,List.map,encEx_eq];rfl) | (simp only [exsD,List.map,encEx_eq];done) | (simp only [exsD,List.map,encEx_eq];rfl) | (simp [kidsD,exsD,Ex.kids,encEx_eq];done)
end Go.Proofs.YtdmacgoeikjdbaaGreatDoor
namespace Go.Proofs.YtdmacgoeikjdbaaGreatDoor
open Go.RowKit Sx
def cfP_unary:Cfg:=⟨[(65,sTok),(130,sExs),(67,sOne),(70,sUnit),(26,sTy),(28,sOne),(131,sEx),(133,sEx),(132,sPostX)],[(100 * 100 + 6,8),(100 * 89 + 1,8),(100 * 89 + 2,9),(100 * 56 + 4,1),(100 * 60 + 4,6),(100 * 60 + 5,9),(100 * 60 + 6,6)],[],sEx,[],[]⟩
def stP_unary:Sx.St:=⟨[(0,.el (.one (.v 0))),(1,.el (.one (.v 1))),(4,.el (.one (.p 0 0))),(5,.el (.one (.p 1 0))),(6,.el (.one (.v 6))),(7,.el (.one (.v 7)))],[⟨0,100,xZ⟩,⟨1,43,vsFrom 2 4⟩],[],8,2,0,60,[],[]⟩
def TP_unary_11:Tree:=tO 4 <| tW <| tS 3 [41] <| .ret [jI 10,.v 10,.v 11,.v 12,jE,jI 0,jN,.v 5] [jP 8]
def TP_unary_15:Tree:=tW <| tO 4 <| tS 3 [41] <| .ret [jI 10,.v 10,.v 11,.v 12,jE,jI 0,jN,.v 5] [jP 8]
def TP_unary_30:Tree:=tO 4 <| tW <| tS 3 [41] <| .ret [jI 10,.v 9,.v 10,.v 11,jE,jI 0,jN,.v 5] [jP 8]
def Z8:Tree:=tS 2 [115,105,122,101,111,102] <| .ite 9 (tS 3 [40] <| .both TP_unary_11 TP_unary_15) (tS 5 [40] <| .ite 10 (tV 6 1 <| .ret [.v 11,.v 12,.v 13,.v 14,.v 15,.v 16,.v 17,.v 18] [jD 17 0]) (tV 7 1 <| .nd (.call 8 [.one (.v 0),.agg [.v 11,.v 12,.v 13,.v 14,.v 15,.v 16,.v 17,.v 18],.one (.v 1)] [jD 17 0]) <| .ret [.v 19,.v 20,.v 21,.v 22,.v 23,.v 24,.v 25,.v 26] [jD 25 1]))
def Z7:Tree:=tQ 2 3 <| .ite 8 (tO 0 <| tA 1 1 <| tV 1 13 <| .ret [.v 6,jI 0,jI 0,jI 0,jE,jI 0,.v 14,.v 5] [jD 14 0]) Z8
def TP_unary_34:Tree:=tW <| tO 4 <| tS 3 [41] <| .ret [jI 10,.v 9,.v 10,.v 11,jE,jI 0,jN,.v 5] [jP 8]
def Z9:Tree:=tS 2 [115,105,122,101,111,102] <| .ite 8 (tS 3 [40] <| .both TP_unary_30 TP_unary_34) (tS 5 [40] <| .ite 9 (tV 6 1 <| .ret [.v 10,.v 11,.v 12,.v 13,.v 14,.v 15,.v 16,.v 17] [jD 16 0]) (tV 7 1 <| .nd (.call 8 [.one (.v 0),.agg [.v 10,.v 11,.v 12,.v 13,.v 14,.v 15,.v 16,.v 17],.one (.v 1)] [jD 16 0]) <| .ret [.v 18,.v 19,.v 20,.v 21,.v 22,.v 23,.v 24,.v 25] [jD 24 1]))
def TP_unary:Tree:=.ite 7 Z7 Z9
theorem munary_tree (F:Nat) (iho:∀ f,f≤F→MExs 130 (moperand f) f) (iht:∀ f,f≤F→MEx 131 (mcast f) f) (ihr:∀ f,f≤F→MEx 133 (mprimary f) f) (ihp:∀ f,f≤F→MPostOk f) (g:Nat) (d:Int) (s s':RS) (x:Ex) (h0:QH) (b4 b5:Nat) (bb:Bool) (K:List Value→List D→QS→Prop) (hx:munary (F + 1) d s=some (x,s')) (hd:DepthOk d (F + 1)) (hb:(lookS (hdT s.ts).text prefixes != 0)=bb) (hp0:OkS ⟨s,h0⟩)
  (hK':∀ A c h,OkS ⟨s',h⟩→K (exV x A c) [kidsD x] ⟨s',h⟩) :
  TP_unary.holds (R:=QR g) (P:=Tryz.prog) [(qNext g).x,(qExs 130 moperand g iho).x,(qEat g).x,(qWant g).x,(qTyp g).x,(qIs g).x,(qEx 131 mcast g iht).x,(qEx 133 mprimary g ihr).x,(qPost g ihp).x] K (fun _ _ _ _=>False) (⟨[ptrV g,.int .i64 d,.int .i64 (hdT s.ts).kind,strV8 (hdT s.ts).text,.int .i64 (hdT s.ts).n,.int .i64 (hdT s.ts).pos,.int .i64 (lookS (hdT s.ts).text prefixes),.bool bb],[b4,b5],[],⟨s,h0⟩⟩:Env QS):=by
 have hK:∀ vs ds σ',((∃ A c,vs=exV x A c)∧ds=[kidsD x]∧σ'.s=s'∧OkS σ')→K vs ds σ':=fun vs ds σ' h=>by
  obtain ⟨⟨A,c,rfl⟩,rfl,rfl,h3⟩:=h
  exact hK' A c _ h3
 have hd1:=hd.1
 have hd2:=hd.2
 have hdd:=deeper hd
 rw [munary,hb] at hx
 clear hb
 refine h_ite rfl (fun q1=>?_) (fun q1=>?_)
 ·skip
  try simp only [q1,bSizeof,bS,↓reduceIte] at hx
  refine h_pv rfl rfl ?_
  try simp only [aS,hdd.2]
  refine h_ite rfl (fun q3=>?_) (fun q3=>?_)
  ·skip
   try dsimp only at q3
   try simp only [q1,q3,bSizeof,bS,↓reduceIte] at hx
   refine kc (h:=w_pnext fun h4 p4=>?_)
   try simp only [aS,hdd.2]
   refine h_pv rfl rfl ?_
   try simp only [aS,hdd.2]
   try simp only [q1,q3,bSizeof,bS,↓reduceIte] at hx
   obtain ⟨⟨x6,s6⟩,e6,hx⟩:=Option.bind_eq_some_iff.1 hx
   simp only at hx
   refine kc (h:=w_pexs (f:=F) (by omega) e6 ⟨by omega,by omega⟩ fun A6 c6 h6 p6=>?_)
   try simp only [aS,hdd.2]
   try simp only [q1,q3,bSizeof,bS,↓reduceIte] at hx
   obtain ⟨rfl,rfl⟩:=sP hx
   refine kr (h:=?_)
   refine hK _ _ _ ⟨⟨_,_,rfl⟩,?_,rfl,p6⟩
   first | rfl | (simp only [kidsD,Ex.kids,List.map,encEx_eq];done) | (simp only [kidsD,Ex.kids,List.map,encEx_eq];rfl) | (simp only [exsD,List.map,encEx_eq];done) | (simp only [exsD,List.map,encEx_eq];rfl) | (simp [kidsD,exsD,Ex.kids,encEx_eq];done)
  ·skip
   try dsimp only at q3
   try simp only [q1,q3,bSizeof,bS,↓reduceIte] at hx
   refine kc (h:=w_peat fun h7 p7=>?_)
   try simp only [aS,hdd.2]
   refine h_ite rfl (fun q8=>?_) (fun q8=>?_)
   ·skip
    try simp only [q1,q3,q8,bSizeof,bS,↓reduceIte] at hx
    refine kc (h:=w_pwant fun h9 p9=>?_)
    refine h_both ?_ ?_
    ·unfold TP_unary_11
     refine kc (h:=w_ptyp fun h10 p10=>?_)
     try simp only [aS,hdd.2]
     refine h_new fun g11=>?_
     refine kc (h:=w_pwant fun h12 p12=>?_)
     try simp only [q1,q3,q8,bSizeof,bS,↓reduceIte] at hx
     obtain ⟨rfl,rfl⟩:=sP hx
     refine kr (h:=?_)
     refine hK _ _ _ ⟨⟨_,_,rfl⟩,?_,rfl,p12⟩
     first | rfl | (simp only [kidsD,Ex.kids,List.map,encEx_eq];done) | (simp only [kidsD,Ex.kids,List.map,encEx_eq];rfl) | (simp only [exsD,List.map,encEx_eq];done) | (simp only [exsD,List.map,encEx_eq];rfl) | (simp [kidsD,exsD,Ex.kids,encEx_eq];done)
    ·unfold TP_unary_15
     refine h_new fun g13=>?_
     refine kc (h:=w_ptyp fun h14 p14=>?_)
     try simp only [aS,hdd.2]
     refine kc (h:=w_pwant fun h15 p15=>?_)
     try simp only [q1,q3,q8,bSizeof,bS,↓reduceIte] at hx
     obtain ⟨rfl,rfl⟩:=sP hx
     refine kr (h:=?_)
     refine hK _ _ _ ⟨⟨_,_,rfl⟩,?_,rfl,p15⟩
     first | rfl | (simp only [kidsD,Ex.kids,List.map,encEx_eq];done) | (simp only [kidsD,Ex.kids,List.map,encEx_eq];rfl) | (simp only [exsD,List.map,encEx_eq];done) | (simp only [exsD,List.map,encEx_eq];rfl) | (simp [kidsD,exsD,Ex.kids,encEx_eq];done)
   ·skip
    have z8:=meat_noS q8
    rw [z8] at p7
    rw [z8]
    try simp only [z8] at hx
    try simp only [q1,q3,q8,bSizeof,bS,↓reduceIte] at hx
    refine kc (h:=w_pis ?_)
    try simp only [aS,hdd.2]
    refine h_ite rfl (fun q17=>?_) (fun q17=>?_)
    ·skip
     try simp only [q1,q3,q8,q17,bSizeof,bS,↓reduceIte] at hx
     try simp only [q1,q3,q8,q17,bSizeof,bS,↓reduceIte] at hx
     refine kc (h:=w_pex (f:=F)  (by omega) hx ⟨by omega,by omega⟩ fun A18 c18 h18 p18=>?_)
     try simp only [aS,hdd.2]
     refine kr (h:=?_)
     exact hK _ _ _ ⟨⟨_,_,rfl⟩,rfl,rfl,p18⟩
    ·skip
     try simp only [q1,q3,q8,q17,bSizeof,bS,↓reduceIte] at hx
     try simp only [q1,q3,q8,q17,bSizeof,bS,↓reduceIte] at hx
     obtain ⟨⟨x19,s19⟩,e19,hx⟩:=Option.bind_eq_some_iff.1 hx
     simp only at hx
     refine kc (h:=w_pex (f:=F) (by omega) e19 ⟨by omega,by omega⟩ fun A19 c19 h19 p19=>?_)
     try simp only [aS,hdd.2]
     try simp only [q1,q3,q8,q17,bSizeof,bS,↓reduceIte] at hx
     refine kc (h:=w_ppost (f:=F) (B:=A19) (e:=c19) (by omega) hx ⟨by omega,by omega⟩ fun A20 c20 h20 p20=>?_)
     try simp only [aS,hdd.2]
     refine kr (h:=?_)
     exact hK _ _ _ ⟨⟨_,_,rfl⟩,rfl,rfl,p20⟩
 ·skip
  try simp only [q1,bSizeof,bS,↓reduceIte] at hx
  refine kc (h:=w_peat fun h21 p21=>?_)
  try simp only [aS,hdd.2]
  refine h_ite rfl (fun q22=>?_) (fun q22=>?_)
  ·skip
   try simp only [q1,q22,bSizeof,bS,↓reduceIte] at hx
   refine kc (h:=w_pwant fun h23 p23=>?_)
   refine h_both ?_ ?_
   ·unfold TP_unary_30
    refine kc (h:=w_ptyp fun h24 p24=>?_)
    try simp only [aS,hdd.2]
    refine h_new fun g25=>?_
    refine kc (h:=w_pwant fun h26 p26=>?_)
    try simp only [q1,q22,bSizeof,bS,↓reduceIte] at hx
    obtain ⟨rfl,rfl⟩:=sP hx
    refine kr (h:=?_)
    refine hK _ _ _ ⟨⟨_,_,rfl⟩,?_,rfl,p26⟩
    first | rfl | (simp only [kidsD,Ex.kids,List.map,encEx_eq];done) | (simp only [kidsD,Ex.kids,List.map,encEx_eq];rfl) | (simp only [exsD,List.map,encEx_eq];done) | (simp only [exsD,List.map,encEx_eq];rfl) | (simp [kidsD,exsD,Ex.kids,encEx_eq];done)
   ·unfold TP_unary_34
    refine h_new fun g27=>?_
    refine kc (h:=w_ptyp fun h28 p28=>?_)
    try simp only [aS,hdd.2]
    refine kc (h:=w_pwant fun h29 p29=>?_)
    try simp only [q1,q22,bSizeof,bS,↓reduceIte] at hx
    obtain ⟨rfl,rfl⟩:=sP hx
    refine kr (h:=?_)
    refine hK _ _ _ ⟨⟨_,_,rfl⟩,?_,rfl,p29⟩
    first | rfl | (simp only [kidsD,Ex.kids,List.map,encEx_eq];done) | (simp only [kidsD,Ex.kids,List.map,encEx_eq];rfl) | (simp only [exsD,List.map,encEx_eq];done) | (simp only [exsD,List.map,encEx_eq];rfl) | (simp [kidsD,exsD,Ex.kids,encEx_eq];done)
  ·skip
   have z22:=meat_noS q22
   rw [z22] at p21
   rw [z22]
   try simp only [z22] at hx
   try simp only [q1,q22,bSizeof,bS,↓reduceIte] at hx
   refine kc (h:=w_pis ?_)
   try simp only [aS,hdd.2]
   refine h_ite rfl (fun q31=>?_) (fun q31=>?_)
   ·skip
    try simp only [q1,q22,q31,bSizeof,bS,↓reduceIte] at hx
    try simp only [q1,q22,q31,bSizeof,bS,↓reduceIte] at hx
    refine kc (h:=w_pex (f:=F)  (by omega) hx ⟨by omega,by omega⟩ fun A32 c32 h32 p32=>?_)
    try simp only [aS,hdd.2]
    refine kr (h:=?_)
    exact hK _ _ _ ⟨⟨_,_,rfl⟩,rfl,rfl,p32⟩
   ·skip
    try simp only [q1,q22,q31,bSizeof,bS,↓reduceIte] at hx
    try simp only [q1,q22,q31,bSizeof,bS,↓reduceIte] at hx
    obtain ⟨⟨x33,s33⟩,e33,hx⟩:=Option.bind_eq_some_iff.1 hx
    simp only at hx
    refine kc (h:=w_pex (f:=F) (by omega) e33 ⟨by omega,by omega⟩ fun A33 c33 h33 p33=>?_)
    try simp only [aS,hdd.2]
    try simp only [q1,q22,q31,bSizeof,bS,↓reduceIte] at hx
    refine kc (h:=w_ppost (f:=F) (B:=A33) (e:=c33) (by omega) hx ⟨by omega,by omega⟩ fun A34 c34 h34 p34=>?_)
    try simp only [aS,hdd.2]
    refine kr (h:=?_)
    exact hK _ _ _ ⟨⟨_,_,rfl⟩,rfl,rfl,p34⟩
end Go.Proofs.YtdmacgoeikjdbaaGreatDoor

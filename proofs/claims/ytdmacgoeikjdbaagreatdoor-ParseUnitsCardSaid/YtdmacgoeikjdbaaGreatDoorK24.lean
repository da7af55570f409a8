/- The reference's parser: numbers, names, calls (symbolic execution). Pr -/
import Derived.Test.YtdmacgoeikjdbaaGreatDoorK23
set_option linter.unusedSimpArgs false
set_option linter.unusedVariables false
set_option maxHeartbeats 16000000
namespace Go.Proofs.YtdmacgoeikjdbaaGreatDoor
open Go.RowKit Sx
def cfPrim:Cfg:=⟨[(47,sOne),(90,sEx),(50,sUnit),(43,sTok),(45,sUnit),(40,sOne)],[(100 * 100 + 6,8),(100 * 89 + 1,8),(100 * 89 + 2,9),(100 * 56 + 4,1),(100 * 60 + 4,6),(100 * 60 + 5,9),(100 * 60 + 6,6)],[(0,⟨[(0,.el (.one (.v 0))),(1,.el (.one (.v 1))),(4,.el (.one (.p 0 0))),(7,.el (.one (.p 1 0)))],[⟨0,100,xZ⟩,⟨1,100,[.c (.int .i64 35),.c (.int .i64 0),.c (.int .i64 0),.c (.int .i64 0),.v 2,.c (.int .i64 0),.v 3,.v 4]⟩],[⟨3,0,some (100,8)⟩],5,2,1,77,[],[]⟩)],sEx,[],[]⟩
def Z21:Tree:=tO 5 <| .ite 5 (.nd (.pv .len [.v 3]) <| tQ 6 4 <| .ite 7 (tI 4 2 <| tS 2 [41] <| .ret [jI 35,jI 0,jI 0,jI 0,.v 2,jI 0,.v 3,.v 4] [jD 3 0]) (tA 1 1 <| tV 1 8 <| tB 8 1 [rX 9 1] <| tU 8 0 2 <| tS 0 [44] <| tT 19 <| .ite 20 (tS 2 [41] <| .ret [jI 35,jI 0,jI 0,jI 0,.v 2,jI 0,.v 18,.v 4] [jD 18 3]) (.again 0 [.v 0,.v 1,.v 2,.v 18,.v 4] [jD 18 3]))) (tS 2 [41] <| .ret [jI 35,jI 0,jI 0,jI 0,.v 2,jI 0,.v 3,.v 4] [jD 3 0])
def Z20:Tree:=.loop 0 2 [.v 0,.v 1,.v 7,jN,.v 9] [jP 8] Z21
def Z19:Tree:=tS 0 [41] <| .ite 19 (.ret [jI 35,jI 0,jI 0,jI 0,.v 7,jI 0,jN,.v 9] [jP 8]) Z20
def Z18:Tree:=tO 3 <| tW <| tS 0 [40] <| tT 17 <| .ite 18 (.ret [jI 2,jI 0,jI 0,jI 0,.v 7,jI 0,jN,.v 9] [jP 8]) Z19
def Z17:Tree:=.nd (.pv (.bin .neq) [.v 6,jI 1]) <| .ite 12 (tI 4 4 <| .ret [jI 0,jI 0,jI 0,jI 0,jE,jI 0,jN,jI 0] [jP 8]) Z18
def Z16:Tree:=tQ 6 2 <| .ite 11 (tO 3 <| .ret [jI 1,jI 0,jI 0,jI 0,jE,.v 8,jN,.v 9] [jP 8]) Z17
def TPrim:Tree:=tW <| tN 0 <| tF 0 2 <| tL 3 1 <| tX 4 4 0 <| tL 5 4 <| tW <| tS 0 [40] <| .ite 10 (tA 1 1 <| tV 1 11 <| tW <| tS 2 [41] <| .ret [.v 12,.v 13,.v 14,.v 15,.v 16,.v 17,.v 18,.v 19] [jD 18 0]) Z16
theorem TPrim_eq:fnS Tryz.prog cfPrim [.one,.one] 142=some TPrim:=by kernel_rfl
theorem rprim_step (F:Nat) (ihe:∀ f,f≤F→RExprOk f):RPrimOk (F + 1):=by
 intro d s s' x g gv fv w hx hd hr
 obtain ⟨hd0,hr⟩:=hr.rr
 refine ex_of g gv fv (fn_ok (cf:=cfPrim) [(conTake g gv fv).x,(conExpr ihe).x,(conMust g gv fv).x,(conNext g gv fv).x,(conFail g gv fv).x,(conOk g gv fv).x] rfl mixed RR.stable TPrim_eq
  (W:=fun args ds σ K=>args=[ptrV g,.int .i64 d]∧ds=[]∧σ=⟨s,hd0⟩∧∀ vs ds σ',((∃ A c,vs=exV x A c)∧ds=[kidsD x]∧σ'.s=s')→K vs ds σ')
  (fun args ds σ K hW=>by obtain ⟨rfl,_⟩:=hW;exact ⟨rfl,rfl,trivial⟩) ?_ [ptrV g,.int .i64 d] [] ⟨s,hd0⟩ w _ _ hr.rd.lt hr (fun k h=>h.elim) (daOk_nil _ _ _) (by simp [Sx.flat,Value.cells,Value.oneCell']) ⟨rfl,rfl,rfl,fun vs ds σ' h=>h⟩)
 rintro args ds σ K ⟨rfl,rfl,rfl,hK⟩ _
 have hp0:=hr.1
 have hd1:=hd.1
 have hd2:=hd.2
 have hdd:=deeper hd
 rw [rprimary] at hx
 show Tree.holds _ _ _ _ (⟨[ptrV g,.int .i64 d],[],[],⟨s,hd0⟩⟩:Env RH)
 refine h_new fun g1=>?_
 refine h_pv rfl rfl ?_
 try simp only [aS,hdd.2]
 refine h_pv rfl rfl ?_
 try simp only [aS,hdd.2]
 refine h_ld rfl RR.ld0 rfl (hdV_one _ _) ?_
 try simp only [aS,hdd.2]
 refine h_pv rfl (sem_ia 0 hp0) ?_
 try simp only [aS,hdd.2]
 refine h_ld rfl (RR.ldH hp0) rfl (tokC_one _) ?_
 try simp only [aS,hdd.2]
 refine h_new fun g7=>?_
 refine kc (h:=w_take fun h8 p8=>?_)
 try simp only [aS,hdd.2]
 refine h_ite rfl (fun q9=>?_) (fun q9=>?_)
 ·skip
  try simp only [q9,bne,bS,↓reduceIte] at hx
  refine h_pv rfl rfl ?_
  try simp only [aS,hdd.2]
  try simp only [q9,bne,bS,↓reduceIte] at hx
  obtain ⟨⟨x11,s11⟩,e11,hx⟩:=Option.bind_eq_some_iff.1 hx
  simp only at hx
  refine kc (h:=w_expr (f:=F) (by omega) e11 ⟨by omega,by omega⟩ fun A11 c11 h11 p11=>?_)
  try simp only [aS,hdd.2]
  refine h_new fun g12=>?_
  refine kc (h:=w_must fun h13 p13=>?_)
  try simp only [q9,bne,bS,↓reduceIte] at hx
  obtain ⟨rfl,rfl⟩:=sP hx
  refine kr (h:=?_)
  refine hK _ _ _ ⟨⟨_,_,rfl⟩,?_,rfl⟩
  first | rfl | (simp only [kidsD,Ex.kids,List.map,encEx_eq];done) | (simp only [kidsD,Ex.kids,List.map,encEx_eq];rfl) | (simp [kidsD,exsD,Ex.kids,encEx_eq];done)
 ·skip
  have z9:=rtake_no q9
  rw [z9] at p8
  rw [z9]
  try simp only [z9] at hx
  try simp only [q9,bne,bS,↓reduceIte] at hx
  refine h_pv rfl rfl ?_
  try simp only [aS,hdd.2]
  refine h_ite rfl (fun q15=>?_) (fun q15=>?_)
  ·skip
   try simp only [q9,q15,bne,bS,↓reduceIte] at hx
   refine kc (h:=w_next fun h16 p16=>?_)
   try simp only [aS,hdd.2]
   try simp only [q9,q15,bne,bS,↓reduceIte] at hx
   obtain ⟨rfl,rfl⟩:=sP hx
   refine kr (h:=?_)
   refine hK _ _ _ ⟨⟨_,_,rfl⟩,?_,rfl⟩
   first | rfl | (simp only [kidsD,Ex.kids,List.map,encEx_eq];done) | (simp only [kidsD,Ex.kids,List.map,encEx_eq];rfl) | (simp [kidsD,exsD,Ex.kids,encEx_eq];done)
  ·skip
   try simp only [q9,q15,bne,bS,↓reduceIte] at hx
   refine h_pv rfl rfl ?_
   try simp only [aS,hdd.2]
   refine h_ite rfl (fun q18=>?_) (fun q18=>?_)
   ·skip
    try simp only [q9,q15,q18,bne,bS,↓reduceIte] at hx
    refine kc (h:=w_fail fun h19 p19=>?_)
    try simp only [q9,q15,q18,bne,bS,↓reduceIte] at hx
    obtain ⟨rfl,rfl⟩:=sP hx
    refine kr (h:=?_)
    refine hK _ _ _ ⟨⟨_,_,rfl⟩,?_,rfl⟩
    first | rfl | (simp only [kidsD,Ex.kids,List.map,encEx_eq];done) | (simp only [kidsD,Ex.kids,List.map,encEx_eq];rfl) | (simp [kidsD,exsD,Ex.kids,encEx_eq];done)
   ·skip
    try simp only [q9,q15,q18,bne,bS,↓reduceIte] at hx
    refine kc (h:=w_next fun h20 p20=>?_)
    try simp only [aS,hdd.2]
    refine h_new fun g21=>?_
    refine kc (h:=w_take fun h22 p22=>?_)
    try simp only [aS,hdd.2]
    refine h_pv rfl rfl ?_
    try simp only [aS,hdd.2]
    refine h_ite rfl (fun q24=>?_) (fun q24=>?_)
    ·skip
     simp only [nS] at q24
     have z24:=rtake_no q24
     rw [z24] at p22
     rw [z24]
     try simp only [z24] at hx
     try simp only [q9,q15,q18,q24,bne,bS,↓reduceIte] at hx
     try simp only [q9,q15,q18,q24,bne,bS,↓reduceIte] at hx
     obtain ⟨rfl,rfl⟩:=sP hx
     refine kr (h:=?_)
     refine hK _ _ _ ⟨⟨_,_,rfl⟩,?_,rfl⟩
     first | rfl | (simp only [kidsD,Ex.kids,List.map,encEx_eq];done) | (simp only [kidsD,Ex.kids,List.map,encEx_eq];rfl) | (simp [kidsD,exsD,Ex.kids,encEx_eq];done)
    ·skip
     simp only [nS] at q24
     try simp only [q9,q15,q18,q24,bne,bS,↓reduceIte] at hx
     refine kc (h:=w_take fun h25 p25=>?_)
     try simp only [aS,hdd.2]
     refine h_ite rfl (fun q26=>?_) (fun q26=>?_)
     ·skip
      try simp only [q9,q15,q18,q24,q26,bne,bS,↓reduceIte] at hx
      try simp only [q9,q15,q18,q24,q26,bne,bS,↓reduceIte] at hx
      obtain ⟨rfl,rfl⟩:=sP hx
      refine kr (h:=?_)
      refine hK _ _ _ ⟨⟨_,_,rfl⟩,?_,rfl⟩
      first | rfl | (simp only [kidsD,Ex.kids,List.map,encEx_eq];done) | (simp only [kidsD,Ex.kids,List.map,encEx_eq];rfl) | (simp [kidsD,exsD,Ex.kids,encEx_eq];done)
     ·skip
      have z26:=rtake_no q26
      rw [z26] at p25
      rw [z26]
      try simp only [z26] at hx
      try simp only [q9,q15,q18,q24,q26,bne,bS,↓reduceIte] at hx
      try simp only [q9,q15,q18,q24,q26,bne,bS,↓reduceIte] at hx
      obtain ⟨⟨ks,s9⟩,e9,hfin⟩:=Option.bind_eq_some_iff.1 hx
      refine h_loop (fun k vs ds σ=>∃ (acc:List Ex) (A:Option Addr) (c:Nat),vs=[ptrV g,.int .i64 d,strV8 (hdT s.ts).text,.slice A acc.length c,.int .i64 (hdT s.ts).pos]∧ds=[exsD acc]∧0<σ.s.ts.length∧acc.length≤4∧k≤F∧rargs k d acc σ.s=some (ks,s9)) F (by simp only [rowsD,ldens,dens,dens2,T2.den,L.den,CD.den,leafD,rowD,List.getElem?_cons_zero,List.getElem?_cons_succ] <;> rfl) (by simp only [rowsD,ldens,dens,dens2,T2.den,L.den,CD.den,leafD,rowD,List.getElem?_cons_zero,List.getElem?_cons_succ] <;> rfl) (fun vs ds σ ⟨a,A,c,_,_,_,_,_,h⟩=>by cases h) ⟨[],none,0,rfl,rfl,p25,Nat.zero_le _,Nat.le_refl _,e9⟩ ?_
      obtain ⟨tx,htx⟩:∃ x,(hdT s.ts).text=x:=⟨_,rfl⟩
      obtain ⟨ps,hps⟩:∃ x,(hdT s.ts).pos=x:=⟨_,rfl⟩
      simp only [htx,hps] at hfin ⊢
      clear hx e9
      rintro k vs ds bl ⟨s,h0⟩ hbl ⟨acc,A,c,rfl,rfl,hp0,hacc,hk,hx⟩
      rw [rargs] at hx
      simp only at hx hp0
      try simp only [aS,hdd.2]
      refine kc (h:=w_ok ?_)
      try simp only [aS,hdd.2]
      refine h_ite rfl (fun q28=>?_) (fun q28=>?_)
      ·skip
       try simp only [q28,bne,bS,↓reduceIte] at hx
       refine h_pv rfl rfl ?_
       try simp only [aS,hdd.2]
       refine h_pv rfl rfl ?_
       try simp only [aS,hdd.2]
       refine h_ite rfl (fun q31=>?_) (fun q31=>?_)
       ·skip
        have qn:acc.length=4:=by have:=q31;simp at this;omega
        rw [if_pos qn] at hx
        try simp only [q28,q31,bne,bS,↓reduceIte] at hx
        refine kc (h:=w_fail fun h32 p32=>?_)
        refine kc (h:=w_must fun h33 p33=>?_)
        try simp only [q28,q31,bne,bS,↓reduceIte] at hx
        obtain ⟨rfl,rfl⟩:=sP hx
        injection hfin with hfin
        injection hfin with i1 i2
        subst i1 i2
        refine kr (h:=?_)
        refine hK _ _ _ ⟨⟨A,c,?_⟩,?_,rfl⟩
        ·first | rfl | (simp only [exV,exC,Ex.op,Ex.ty,Ex.name,Ex.n,Ex.kids,Ex.pos,List.length_append,List.length_map];rfl)
        ·first | rfl | (simp only [kidsD,Ex.kids,List.map,encEx_eq];done) | (simp only [kidsD,Ex.kids,List.map,encEx_eq];rfl) | (simp [kidsD,exsD,Ex.kids,encEx_eq];done)
       ·skip
        have qn:¬ acc.length=4:=by have:=q31;simp at this;omega
        rw [if_neg qn] at hx
        try simp only [q28,q31,bne,bS,↓reduceIte] at hx
        refine h_pv rfl rfl ?_
        try simp only [aS,hdd.2]
        try simp only [q28,q31,bne,bS,↓reduceIte] at hx
        obtain ⟨⟨x35,s35⟩,e35,hx⟩:=Option.bind_eq_some_iff.1 hx
        simp only at hx
        refine kc (h:=w_expr (f:=k) (by omega) e35 ⟨by omega,by omega⟩ fun A35 c35 h35 p35=>?_)
        try simp only [aS,hdd.2]
        refine kb (h:=fun g36=>?_)
        try simp only [aS,hdd.2]
        refine h_app rfl rfl (by simp only [List.length_map,List.length_cons,List.length_nil];omega) fun A37 c37=>?_
        try simp only [aS,hdd.2]
        refine kc (h:=w_take fun h38 p38=>?_)
        try simp only [aS,hdd.2]
        refine h_pv rfl rfl ?_
        try simp only [aS,hdd.2]
        refine h_ite rfl (fun q40=>?_) (fun q40=>?_)
        ·skip
         simp only [nS] at q40
         have z40:=rtake_no q40
         rw [z40] at p38
         rw [z40]
         try simp only [z40] at hx
         try simp only [q28,q31,q40,bne,bS,↓reduceIte] at hx
         refine kc (h:=w_must fun h41 p41=>?_)
         try simp only [q28,q31,q40,bne,bS,↓reduceIte] at hx
         obtain ⟨rfl,rfl⟩:=sP hx
         injection hfin with hfin
         injection hfin with i1 i2
         subst i1 i2
         refine kr (h:=?_)
         refine hK _ _ _ ⟨⟨A37,c37,?_⟩,?_,rfl⟩
         ·first | rfl | (simp only [exV,exC,Ex.op,Ex.ty,Ex.name,Ex.n,Ex.kids,Ex.pos,List.length_append,List.length_map];rfl)
         ·first | rfl | (simp only [kidsD,Ex.kids,List.map,encEx_eq];done) | (simp only [kidsD,Ex.kids,List.map,encEx_eq];rfl) | (simp [kidsD,exsD,Ex.kids,encEx_eq];done)
        ·skip
         simp only [nS] at q40
         try simp only [q28,q31,q40,bne,bS,↓reduceIte] at hx
         try simp only [q28,q31,q40,bne,bS,↓reduceIte] at hx
         refine ka (h:=?_)
         show (ite ((0:Nat)=0) _ _:List Value→List D→RH→Prop) _ _ _
         rw [if_pos rfl]
         refine ⟨_,A37,c37,?_,?_,p38,?_,by omega,hx⟩
         ·simp only [List.length_append,List.length_map];rfl
         ·simp [exsD,encEx_eq]
         ·simp only [List.length_append,List.length_cons,List.length_nil];omega
      ·skip
       try simp only [q28,bne,bS,↓reduceIte] at hx
       refine kc (h:=w_must fun h42 p42=>?_)
       try simp only [q28,bne,bS,↓reduceIte] at hx
       obtain ⟨rfl,rfl⟩:=sP hx
       injection hfin with hfin
       injection hfin with i1 i2
       subst i1 i2
       refine kr (h:=?_)
       refine hK _ _ _ ⟨⟨A,c,?_⟩,?_,rfl⟩
       ·first | rfl | (simp only [exV,exC,Ex.op,Ex.ty,Ex.name,Ex.n,Ex.kids,Ex.pos,List.length_append,List.length_map];rfl)
       ·first | rfl | (simp only [kidsD,Ex.kids,List.map,encEx_eq];done) | (simp only [kidsD,Ex.kids,List.map,encEx_eq];rfl) | (simp [kidsD,exsD,Ex.kids,encEx_eq];done)
end Go.Proofs.YtdmacgoeikjdbaaGreatDoor
namespace Go.Proofs.YtdmacgoeikjdbaaGreatDoor
open Go.RowKit Sx
structure RAllOk (f:Nat):Prop where
 e:RExprOk f
 c:RCondOk f
 b:RBinOk f
 u:RUnaryOk f
 o:ROperandOk f
 p:RPostOk f
 r:RPrimOk f
theorem rall:∀ f,RAllOk f:=by
 intro f
 induction f using Nat.strongRecOn with
 | ind f ih=>
  cases f with
  | zero=>
   refine ⟨?_,?_,?_,?_,?_,?_,?_⟩
   ·intro d s s' x g gv fv w hx;rw [rexpr] at hx;cases hx
   ·intro d s s' x g gv fv w hx;rw [rcond] at hx;cases hx
   ·intro d n s s' x g gv fv w _ hx;rw [rbinary] at hx;cases hx
   ·intro d s s' x g gv fv w hx;rw [runary] at hx;cases hx
   ·intro d s s' x g gv fv w hx;rw [roperand] at hx;cases hx
   ·intro d s s' x g gv fv w hx;rw [rpostfix] at hx;cases hx
   ·intro d s s' x g gv fv w hx;rw [rprimary] at hx;cases hx
  | succ F=>
   have i:=ih F (Nat.lt_succ_self F)
   exact ⟨rexpr_step F i.c i.e,rcond_step F i.b i.e i.c,rbin_step F (fun f h=>(ih f (by omega)).u) (fun f h=>(ih f (by omega)).b),runary_step F (fun f h=>(ih f (by omega)).o) (fun f h=>(ih f (by omega)).p),roperand_step F i.u,
    rpost_step F (fun f h=>(ih f (by omega)).r) (fun f h=>(ih f (by omega)).e),rprim_step F (fun f h=>(ih f (by omega)).e)⟩
def StQ (x:St) (g:Nat) (gv fv:Value) (s':RS) (w:World) (e:Ending) (w':World):Prop:=
 ∃ (V:Value) (X:Array Value),Hid (V=.agg X)∧e=.returned V∧Rep w' (fun k=>w.heap.size≤k) (encSt x) X.toList∧KeepM g w w'∧RdQ w' g gv fv s'
def StsQ (x:List St) (g:Nat) (gv fv:Value) (s':RS) (w:World) (e:Ending) (w':World):Prop:=
 ∃ (A:Option Addr) (c:Nat),e=.returned (.slice A x.length c)∧Rep w' (fun k=>w.heap.size≤k) (.lst 9 (x.map encSt)) [.slice A x.length c]∧KeepM g w w'∧RdQ w' g gv fv s'
def DesQ (x:List De) (g:Nat) (gv fv:Value) (s':RS) (w:World) (e:Ending) (w':World):Prop:=
 ∃ (A:Option Addr) (c:Nat),e=.returned (.slice A x.length c)∧Rep w' (fun k=>w.heap.size≤k) (.lst 6 (x.map encDe)) [.slice A x.length c]∧KeepM g w w'∧RdQ w' g gv fv s'
def RStmtOk (f:Nat):Prop:=∀ (d:Int) (s s':RS) (x:St) (g:Nat) (gv fv:Value) (w:World),rstmt f d s=some (x,s')→DepthOk d f→RdQ w g gv fv s →
 Calls Tryz.prog 74 #[.pointer (some ⟨g,0,none⟩),.int .i64 d] w (StQ x g gv fv s' w)
def RBlockOk (f:Nat):Prop:=∀ (d:Int) (s s':RS) (x:List St) (g:Nat) (gv fv:Value) (w:World),rblock f d s=some (x,s')→DepthOk d f→RdQ w g gv fv s →
 Calls Tryz.prog 46 #[.pointer (some ⟨g,0,none⟩),.int .i64 d] w (StsQ x g gv fv s' w)
abbrev sSt:Shp:=⟨9,.el (.agg [.v 0,.v 1,.v 2,.v 3,.v 4,.v 5,.v 6,.v 7,.v 8]),[(1,8),(2,9)],[],[],[],[]⟩
abbrev sSts:Shp:=⟨1,.el (.one (.v 0)),[(0,9)],[],[],[],[]⟩
abbrev sDes:Shp:=⟨1,.el (.one (.v 0)),[(0,6)],[],[],[],[]⟩
section
variable (g:Nat) (gv fv:Value)
abbrev stsD (x:List St):D:=.lst 9 (x.map encSt)
abbrev desD (x:List De):D:=.lst 6 (x.map encDe)
abbrev exsOf (x:St):D:=.lst 8 (x.ex.map encEx)
abbrev bodyOf (x:St):D:=.lst 9 (x.body.map encSt)
theorem stC_one (x:St) (A:Option Addr) (c:Nat) (B:Option Addr) (d:Nat):∀ u ∈ stC x A c B d,u.oneCell'=true:=by simp [stC,strV8,Value.oneCell']
theorem lst_post {f:FuncId} {args:Array Value} {z n:Nat} {x:List D} {w:World} {s':RS} {okk:Nat→Prop} {K:List Value→List D→RH→Prop}
  (hc:Calls Tryz.prog f args w fun e w'=>∃ (A:Option Addr) (c:Nat),e=.returned (.slice A n c)∧Rep w' (fun k=>w.heap.size≤k) (.lst z x) [.slice A n c]∧KeepM g w w'∧RdQ w' g gv fv s')
  (hK:∀ A c h,0<s'.ts.length→K [.slice A n c] [.lst z x] ⟨s',h⟩) :
  Calls Tryz.prog f args w (PostC g gv fv ⟨1,.el (.one (.v 0)),[(0,z)],[],[],[],[]⟩ okk w K):=hc.mono fun e w' ⟨A,c,he,hrep,hk,hr⟩=>by
 obtain ⟨hd,hr⟩:=hr.rr
 refine ⟨[.slice A n c],[.lst z x],_,_,hK A c hd hr.1,rfl,he,rfl,rfl,by simp [Value.oneCell'],hr,hk,rfl,fun j y d hj hd=>?_⟩
 cases j with
 | zero=>
  simp at hj hd
  subst hj hd
  exact ⟨_,rfl,hrep.imp fun k hk _=>.inr hk⟩
 | succ j=>simp at hj
theorem lst_of {f:FuncId} {args:Array Value} {z n:Nat} {x:List D} {w:World} {s':RS} (hc:Calls Tryz.prog f args w (PostC g gv fv ⟨1,.el (.one (.v 0)),[(0,z)],[],[],[],[]⟩ (fun _=>False) w (fun vs ds σ'=>(∃ A c,vs=[.slice A n c])∧ds=[.lst z x]∧σ'.s=s'))) :
  Calls Tryz.prog f args w fun e w'=>∃ (A:Option Addr) (c:Nat),e=.returned (.slice A n c)∧Rep w' (fun k=>w.heap.size≤k) (.lst z x) [.slice A n c]∧KeepM g w w'∧RdQ w' g gv fv s':=
 hc.mono fun e w' ⟨vs,ds,σ',r,⟨⟨A,c,h1⟩,h2,h3⟩,h4,he,_,_,_,hr,hk,hda⟩=>by
  subst h1 h2
  have h4:some (Value.slice A n c)=some r:=h4
  injection h4 with h4
  subst h4
  obtain ⟨v,h5,h6⟩:=hda.2 0 (0,z) (.lst z x) rfl rfl
  have h5:some (Value.slice A n c)=some v:=h5
  injection h5 with h5
  subst h5
  refine ⟨A,c,he,h6.imp fun k hk _=>?_,hk,by rw [← h3];exact hr.rd⟩
  rcases hk with hk | hk
  ·exact hk.elim
  ·exact hk
theorem sts_post {f:FuncId} {args:Array Value} {x:List St} {w:World} {s':RS} {okk:Nat→Prop} {K:List Value→List D→RH→Prop} (hc:Calls Tryz.prog f args w (StsQ x g gv fv s' w)) (hK:∀ A c h,0<s'.ts.length→K [.slice A x.length c] [stsD x] ⟨s',h⟩) :
  Calls Tryz.prog f args w (PostC g gv fv sSts okk w K):=lst_post g gv fv hc hK
theorem sts_of {f:FuncId} {args:Array Value} {x:List St} {w:World} {s':RS} (hc:Calls Tryz.prog f args w (PostC g gv fv sSts (fun _=>False) w (fun vs ds σ'=>(∃ A c,vs=[.slice A x.length c])∧ds=[stsD x]∧σ'.s=s'))):Calls Tryz.prog f args w (StsQ x g gv fv s' w):=lst_of g gv fv hc
theorem des_of {f:FuncId} {args:Array Value} {x:List De} {w:World} {s':RS} (hc:Calls Tryz.prog f args w (PostC g gv fv sDes (fun _=>False) w (fun vs ds σ'=>(∃ A c,vs=[.slice A x.length c])∧ds=[desD x]∧σ'.s=s'))):Calls Tryz.prog f args w (DesQ x g gv fv s' w):=lst_of g gv fv hc
theorem lF {a b:List D} (h:a=b:=by first | rfl | (simp [exsOf,bodyOf,St.ex,St.body,Ex.kids,exsD,kidsD,encEx_eq,encSt_eq];done) | (simp [exsOf,bodyOf,St.ex,St.body,Ex.kids,exsD,kidsD,encEx_eq,encSt_eq];rfl)):a=b:=h
theorem st_post {f:FuncId} {args:Array Value} {x:St} {w:World} {s':RS} {okk:Nat→Prop} {K:List Value→List D→RH→Prop} (hc:Calls Tryz.prog f args w (StQ x g gv fv s' w)) (hK:∀ A c B d h,0<s'.ts.length→K (stC x A c B d) [exsOf x,bodyOf x] ⟨s',h⟩) :
  Calls Tryz.prog f args w (PostC g gv fv sSt okk w K):=hc.mono fun e w' ⟨V,X,hV,he,hrep,hk,hr⟩=>by
 obtain ⟨hd,hr⟩:=hr.rr
 obtain ⟨A,c,B,d,h1,h2,h3⟩:=rep_st.1 hrep
 refine ⟨stC x A c B d,[exsOf x,bodyOf x],_,V,hK A c B d hd hr.1,?_,he,rfl,rfl,stC_one x A c B d,hr,hk,rfl,fun j y dd hj hd=>?_⟩
 ·have:X=(stC x A c B d).toArray:=by rw [← h1]
  rw [hV.out,this]
  rfl
 ·match j with
  | 0=>
   simp at hj hd
   subst hj hd
   exact ⟨_,rfl,h2.imp fun k hk _=>.inr hk⟩
  | 1=>
   simp at hj hd
   subst hj hd
   exact ⟨_,rfl,h3.imp fun k hk _=>.inr hk⟩
  | j + 2=>simp at hj
theorem st_of {f:FuncId} {args:Array Value} {x:St} {w:World} {s':RS} (hc:Calls Tryz.prog f args w (PostC g gv fv sSt (fun _=>False) w (fun vs ds σ'=>(∃ A c B d,vs=stC x A c B d)∧ds=[exsOf x,bodyOf x]∧σ'.s=s'))):Calls Tryz.prog f args w (StQ x g gv fv s' w):=
 hc.mono fun e w' ⟨vs,ds,σ',r,⟨⟨A,c,B,d,h1⟩,h2,h3⟩,h4,he,_,_,_,hr,hk,hda⟩=>by
  subst h1 h2
  have h4:some (Value.agg (stC x A c B d).toArray)=some r:=h4
  injection h4 with h4
  have imp:∀ {D:D} {v:Value},Rep w' (fun k=>False ∨ w.heap.size≤k) D [v]→Rep w' (fun k=>w.heap.size≤k) D [v]:=fun h=>h.imp fun k hk _=>hk.elim (fun h=>h.elim) id
  refine ⟨r,(stC x A c B d).toArray,Lib.hid h4.symm,he,?_,hk,by rw [← h3];exact hr.rd⟩
  obtain ⟨v,h5,h6⟩:=hda.2 0 (1,8) (exsOf x) rfl rfl
  have h5:some (Value.slice A x.ex.length c)=some v:=h5
  injection h5 with h5
  subst h5
  obtain ⟨v,h5,h7⟩:=hda.2 1 (2,9) (bodyOf x) rfl rfl
  have h5:some (Value.slice B x.body.length d)=some v:=h5
  injection h5 with h5
  subst h5
  exact rep_st.2 ⟨A,c,B,d,rfl,imp h6,imp h7⟩
variable {g gv fv}
def conParen (g:Nat) (gv fv:Value):Con0 Tryz.prog (RR g gv fv) g where
 f:=91
 sh:=sExs
 W args _ σ K:=∃ f d x s',args=[ptrV g,.int .i64 d]∧rparen f d σ.s=some (x,s')∧DepthOk d f∧∀ A c h,0<s'.ts.length→K [.slice A x.length c] [exsD x] ⟨s',h⟩
 ok args ds σ w okk K hg hR _ _ _ hW:=by
  obtain ⟨f,d,x,s',rfl,h1,h2,hK⟩:=hW
  exact exs_post g gv fv (rparen_any f (rall f).e d σ.s s' x g gv fv w h1 h2 hR.rd) hK
def conMaybe (g:Nat) (gv fv:Value):Con0 Tryz.prog (RR g gv fv) g where
 f:=92
 sh:=sEx
 W args _ σ K:=∃ f d c x s',args=[ptrV g,.int .i64 d,strB c]∧rmaybe f d c σ.s=some (x,s')∧DepthOk d f∧∀ A c h,0<s'.ts.length→K (exV x A c) [kidsD x] ⟨s',h⟩
 ok args ds σ w okk K hg hR _ _ _ hW:=by
  obtain ⟨f,d,c,x,s',rfl,h1,h2,hK⟩:=hW
  exact ex_post g gv fv (rmaybe_any f (rall f).e d c σ.s s' x g gv fv w h1 h2 hR.rd) hK
def conBlock {F:Nat} (ih:∀ f,f≤F→RBlockOk f):Con0 Tryz.prog (RR g gv fv) g where
 f:=46
 sh:=sSts
 W args _ σ K:=∃ f d x s',f≤F∧args=[ptrV g,.int .i64 d]∧rblock f d σ.s=some (x,s')∧DepthOk d f∧∀ A c h,0<s'.ts.length→K [.slice A x.length c] [stsD x] ⟨s',h⟩
 ok args ds σ w okk K hg hR _ _ _ hW:=by
  obtain ⟨f,d,x,s',hf,rfl,h1,h2,hK⟩:=hW
  exact sts_post g gv fv (ih f hf d σ.s s' x g gv fv w h1 h2 hR.rd) hK
def conStmt {F:Nat} (ih:∀ f,f≤F→RStmtOk f):Con0 Tryz.prog (RR g gv fv) g where
 f:=74
 sh:=sSt
 W args _ σ K:=∃ f d x s',f≤F∧args=[ptrV g,.int .i64 d]∧rstmt f d σ.s=some (x,s')∧DepthOk d f∧∀ A c B e h,0<s'.ts.length→K (stC x A c B e) [exsOf x,bodyOf x] ⟨s',h⟩
 ok args ds σ w okk K hg hR _ _ _ hW:=by
  obtain ⟨f,d,x,s',hf,rfl,h1,h2,hK⟩:=hW
  exact st_post g gv fv (ih f hf d σ.s s' x g gv fv w h1 h2 hR.rd) hK
end
section
variable {g:Nat} {gv fv:Value} {K:List Value→List D→RH→Prop} {ds:List D} {s:RS} {h0:Hd}
theorem w_paren {f:Nat} {d:Int} {x:List Ex} {s':RS} (h1:rparen f d s=some (x,s')) (h2:DepthOk d f) (h:∀ A c h,0<s'.ts.length→K [.slice A x.length c] [exsD x] ⟨s',h⟩):(conParen g gv fv).W [ptrV g,.int .i64 d] ds ⟨s,h0⟩ K:=⟨f,d,x,s',rfl,h1,h2,h⟩
theorem w_maybe {f:Nat} {d:Int} {c:List UInt8} {x:Ex} {s':RS} (h1:rmaybe f d c s=some (x,s')) (h2:DepthOk d f) (h:∀ A c h,0<s'.ts.length→K (exV x A c) [kidsD x] ⟨s',h⟩):(conMaybe g gv fv).W [ptrV g,.int .i64 d,strB c] ds ⟨s,h0⟩ K:=⟨f,d,c,x,s',rfl,h1,h2,h⟩
theorem w_block {F f:Nat} {ih:∀ f,f≤F→RBlockOk f} {d:Int} {x:List St} {s':RS} (hf:f≤F) (h1:rblock f d s=some (x,s')) (h2:DepthOk d f) (h:∀ A c h,0<s'.ts.length→K [.slice A x.length c] [stsD x] ⟨s',h⟩):(conBlock ih (g:=g) (gv:=gv) (fv:=fv)).W [ptrV g,.int .i64 d] ds ⟨s,h0⟩ K:=⟨f,d,x,s',hf,rfl,h1,h2,h⟩
theorem w_stmt {F f:Nat} {ih:∀ f,f≤F→RStmtOk f} {d:Int} {x:St} {s':RS} (hf:f≤F) (h1:rstmt f d s=some (x,s')) (h2:DepthOk d f) (h:∀ A c B e h,0<s'.ts.length→K (stC x A c B e) [exsOf x,bodyOf x] ⟨s',h⟩):(conStmt ih (g:=g) (gv:=gv) (fv:=fv)).W [ptrV g,.int .i64 d] ds ⟨s,h0⟩ K:=⟨f,d,x,s',hf,rfl,h1,h2,h⟩
end
end Go.Proofs.YtdmacgoeikjdbaaGreatDoor
namespace Go.Proofs.YtdmacgoeikjdbaaGreatDoor
open Go.RowKit Sx
def cfBlock:Cfg:=⟨[(50,sUnit),(40,sOne),(41,sOne),(45,sUnit),(74,sSt)],[(100 * 100 + 6,8),(100 * 89 + 1,8),(100 * 89 + 2,9),(100 * 56 + 4,1),(100 * 60 + 4,6),(100 * 60 + 5,9),(100 * 60 + 6,6)],[(0,⟨[(0,.el (.one (.v 0))),(1,.el (.one (.v 1))),(5,.el (.one (.v 2)))],[],[⟨2,0,some (89,9)⟩],3,0,1,35,[],[]⟩)],sSts,[],[]⟩
def Z23:Tree:=tS 2 [125] <| tT 4 <| .ite 5 (tN 0 <| tF 0 6 <| tL 7 1 <| tX 4 8 0 <| tF 0 9 <| tL 10 1 <| tQ 11 0 <| .ite 12 (tI 3 4 <| tS 0 [125] <| .ret [.v 2] [jD 2 0]) (tA 1 1 <| tV 4 13 <| tB 9 1 [rS 14 1 2] <| tU 9 0 3 <| .again 0 [.v 0,.v 1,.v 24] [jD 24 4])) (tS 0 [125] <| .ret [.v 2] [jD 2 0])
def Z22:Tree:=tO 1 <| .ite 3 Z23 (tS 0 [125] <| .ret [.v 2] [jD 2 0])
def TBlock:Tree:=tS 0 [123] <| .loop 0 0 [.v 0,.v 1,jN] [jP 9] Z22
theorem TBlock_eq:fnS Tryz.prog cfBlock [.one,.one] 46=some TBlock:=by kernel_rfl
theorem rblock_step (F:Nat) (ihs:∀ f,f≤F→RStmtOk f):RBlockOk (F + 1):=by
 intro d s s' x g gv fv w hx hd hr
 obtain ⟨hd0,hr⟩:=hr.rr
 refine sts_of g gv fv (fn_ok (cf:=cfBlock) [(conMust g gv fv).x,(conOk g gv fv).x,(conIs g gv fv).x,(conFail g gv fv).x,(conStmt ihs).x] rfl mixed RR.stable TBlock_eq
  (W:=fun args ds σ K=>args=[ptrV g,.int .i64 d]∧ds=[]∧σ=⟨s,hd0⟩∧∀ vs ds σ',((∃ A c,vs=[.slice A x.length c])∧ds=[stsD x]∧σ'.s=s')→K vs ds σ')
  (fun args ds σ K hW=>by obtain ⟨rfl,_⟩:=hW;exact ⟨rfl,rfl,trivial⟩) ?_ [ptrV g,.int .i64 d] [] ⟨s,hd0⟩ w _ _ hr.rd.lt hr (fun k h=>h.elim) (daOk_nil _ _ _) (by simp [Sx.flat,Value.cells,Value.oneCell']) ⟨rfl,rfl,rfl,fun vs ds σ' h=>h⟩)
 rintro args ds σ K ⟨rfl,rfl,rfl,hK⟩ _
 have hp0:=hr.1
 have hd1:=hd.1
 have hd2:=hd.2
 have hdd:=deeper hd
 rw [rblock] at hx
 show Tree.holds _ _ _ _ (⟨[ptrV g,.int .i64 d],[],[],⟨s,hd0⟩⟩:Env RH)
 refine kc (h:=w_must fun h1 p1=>?_)
 try simp only [bS,↓reduceIte] at hx
 obtain ⟨⟨ks,s9⟩,e9,hfin⟩:=Option.bind_eq_some_iff.1 hx
 refine h_loop (fun k vs ds σ=>∃ (acc:List St) (A:Option Addr) (c:Nat),vs=[ptrV g,.int .i64 d,.slice A acc.length c]∧ds=[stsD acc]∧0<σ.s.ts.length∧acc.length + k≤F∧k≤F∧rblkloop k d acc σ.s=some (ks,s9)) F (by simp only [rowsD,ldens,dens,dens2,T2.den,L.den,CD.den,leafD,rowD,List.getElem?_cons_zero,List.getElem?_cons_succ] <;> rfl) (by simp only [rowsD,ldens,dens,dens2,T2.den,L.den,CD.den,leafD,rowD,List.getElem?_cons_zero,List.getElem?_cons_succ] <;> rfl) (fun vs ds σ ⟨a,A,c,_,_,_,_,_,h⟩=>by cases h) ⟨[],none,0,rfl,rfl,p1,by simp,Nat.le_refl _,e9⟩ ?_
 clear hx e9
 rintro k vs ds bl ⟨s,h0⟩ hbl ⟨acc,A,c,rfl,rfl,hp0,hacc,hk,hx⟩
 rw [rblkloop] at hx
 simp only at hx hp0
 try simp only [aS,hdd.2]
 refine kc (h:=w_ok ?_)
 try simp only [aS,hdd.2]
 refine h_ite rfl (fun q3=>?_) (fun q3=>?_)
 ·skip
  try simp only [q3,bS,↓reduceIte] at hx
  refine kc (h:=w_is ?_)
  try simp only [aS,hdd.2]
  refine h_pv rfl rfl ?_
  try simp only [aS,hdd.2]
  refine h_ite rfl (fun q6=>?_) (fun q6=>?_)
  ·skip
   simp only [nS] at q6
   try simp only [q3,q6,bS,↓reduceIte] at hx
   refine h_pv rfl rfl ?_
   try simp only [aS,hdd.2]
   refine h_pv rfl rfl ?_
   try simp only [aS,hdd.2]
   refine h_ld rfl RR.ld0 rfl (hdV_one _ _) ?_
   try simp only [aS,hdd.2]
   refine h_pv rfl (sem_ia 0 hp0) ?_
   try simp only [aS,hdd.2]
   refine h_pv rfl rfl ?_
   try simp only [aS,hdd.2]
   refine h_ld rfl (RR.ldF0 hp0) rfl (by simp [strV8,Value.oneCell']) ?_
   try simp only [aS,hdd.2]
   refine h_pv rfl rfl ?_
   try simp only [aS,hdd.2]
   refine h_ite rfl (fun q14=>?_) (fun q14=>?_)
   ·skip
    try simp only [q3,q6,q14,bS,↓reduceIte] at hx
    refine kc (h:=w_fail fun h15 p15=>?_)
    refine kc (h:=w_must fun h16 p16=>?_)
    try simp only [q3,q6,q14,bS,↓reduceIte] at hx
    obtain ⟨rfl,rfl⟩:=sP hx
    injection hfin with hfin
    injection hfin with i1 i2
    subst i1 i2
    refine kr (h:=?_)
    exact hK _ _ _ ⟨⟨_,_,rfl⟩,rfl,rfl⟩
   ·skip
    try simp only [q3,q6,q14,bS,↓reduceIte] at hx
    refine h_pv rfl rfl ?_
    try simp only [aS,hdd.2]
    try simp only [q3,q6,q14,bS,↓reduceIte] at hx
    obtain ⟨⟨x18,s18⟩,e18,hx⟩:=Option.bind_eq_some_iff.1 hx
    simp only at hx
    refine kc (h:=w_stmt (f:=k) (by omega) e18 ⟨by omega,by omega⟩ fun A18 c18 B18 d18 h18 p18=>?_)
    try simp only [aS,hdd.2]
    refine kb (h:=fun g19=>?_)
    try simp only [aS,hdd.2]
    refine h_app rfl rfl (by simp only [List.length_map,List.length_cons,List.length_nil];omega) fun A20 c20=>?_
    try simp only [aS,hdd.2]
    try simp only [q3,q6,q14,bS,↓reduceIte] at hx
    refine ka (h:=?_)
    show (ite ((0:Nat)=0) _ _:List Value→List D→RH→Prop) _ _ _
    rw [if_pos rfl]
    refine ⟨_,A20,c20,?_,?_,p18,?_,by omega,hx⟩
    ·simp only [List.length_append,List.length_map];rfl
    ·simp [stsD,encSt_eq]
    ·simp only [List.length_append,List.length_cons,List.length_nil];omega
  ·skip
   simp only [nS] at q6
   try simp only [q3,q6,bS,↓reduceIte] at hx
   refine kc (h:=w_must fun h21 p21=>?_)
   try simp only [q3,q6,bS,↓reduceIte] at hx
   obtain ⟨rfl,rfl⟩:=sP hx
   injection hfin with hfin
   injection hfin with i1 i2
   subst i1 i2
   refine kr (h:=?_)
   exact hK _ _ _ ⟨⟨_,_,rfl⟩,rfl,rfl⟩
 ·skip
  try simp only [q3,bS,↓reduceIte] at hx
  refine kc (h:=w_must fun h22 p22=>?_)
  try simp only [q3,bS,↓reduceIte] at hx
  obtain ⟨rfl,rfl⟩:=sP hx
  injection hfin with hfin
  injection hfin with i1 i2
  subst i1 i2
  refine kr (h:=?_)
  exact hK _ _ _ ⟨⟨_,_,rfl⟩,rfl,rfl⟩
end Go.Proofs.YtdmacgoeikjdbaaGreatDoor

/- The reference's parser: parameters (symbolic execution). Printed by wi -/
import Derived.Test.YtdmacgoeikjdbaaGreatDoorK25
set_option linter.unusedSimpArgs false
set_option linter.unusedVariables false
set_option maxHeartbeats 16000000
namespace Go.Proofs.YtdmacgoeikjdbaaGreatDoor
open Go.RowKit Sx
def cfParams:Cfg:=⟨[(47,sOne),(41,sOne),(43,sTok),(40,sOne),(45,sUnit),(38,sTy),(39,sName),(50,sUnit)],[(100 * 100 + 6,8),(100 * 89 + 1,8),(100 * 89 + 2,9),(100 * 56 + 4,1),(100 * 60 + 4,6),(100 * 60 + 5,9),(100 * 60 + 6,6)],[(0,⟨[(0,.el (.one (.v 0))),(3,.el (.one (.v 1)))],[],[⟨1,0,some (56,6)⟩],2,0,1,68,[],[]⟩)],sDes,[],[]⟩
def Z81:Tree:=tO 3 <| .ite 2 (.nd (.pv .len [.v 1]) <| tQ 3 4 <| .ite 4 (tI 4 2 <| tS 7 [41] <| .ret [.v 1] [jD 1 0]) (tO 5 <| tW <| tO 6 <| tB 6 1 [[jL 8,jL 5,jL 6,jL 7,jP 1,jL 9]] <| tU 6 0 1 <| tS 0 [44] <| tT 12 <| .ite 13 (tS 7 [41] <| .ret [.v 11] [jD 11 2]) (.again 0 [.v 0,.v 11] [jD 11 2]))) (tS 7 [41] <| .ret [.v 1] [jD 1 0])
def Z80:Tree:=.loop 0 0 [.v 0,jN] [jP 6] Z81
def Z79:Tree:=tN 0 <| tF 0 15 <| tL 16 1 <| tX 4 17 1 <| tF 1 18 <| tL 19 1 <| .nd (.pv (.bin .eql) [.v 20,.c (.string ⟨#[41]⟩)]) <| .ite 21 (tO 2 <| tO 2 <| .ret [jN] [jP 6]) Z80
def Z83:Tree:=tO 3 <| .ite 2 (.nd (.pv .len [.v 1]) <| tQ 3 4 <| .ite 4 (tI 4 2 <| tS 7 [41] <| .ret [.v 1] [jD 1 0]) (tO 5 <| tW <| tO 6 <| tB 6 1 [[jL 8,jL 5,jL 6,jL 7,jP 1,jL 9]] <| tU 6 0 1 <| tS 0 [44] <| tT 12 <| .ite 13 (tS 7 [41] <| .ret [.v 11] [jD 11 2]) (.again 0 [.v 0,.v 11] [jD 11 2]))) (tS 7 [41] <| .ret [.v 1] [jD 1 0])
def Z82:Tree:=.loop 0 0 [.v 0,jN] [jP 6] Z83
def Z78:Tree:=tN 0 <| tF 0 8 <| tL 9 1 <| tX 4 10 1 <| tF 0 11 <| tL 12 1 <| tQ 13 3 <| .ite 14 Z79 Z82
def Z85:Tree:=tO 3 <| .ite 2 (.nd (.pv .len [.v 1]) <| tQ 3 4 <| .ite 4 (tI 4 2 <| tS 7 [41] <| .ret [.v 1] [jD 1 0]) (tO 5 <| tW <| tO 6 <| tB 6 1 [[jL 8,jL 5,jL 6,jL 7,jP 1,jL 9]] <| tU 6 0 1 <| tS 0 [44] <| tT 12 <| .ite 13 (tS 7 [41] <| .ret [.v 11] [jD 11 2]) (.again 0 [.v 0,.v 11] [jD 11 2]))) (tS 7 [41] <| .ret [.v 1] [jD 1 0])
def Z84:Tree:=.loop 0 0 [.v 0,jN] [jP 6] Z85
def Z77:Tree:=tN 0 <| tF 0 3 <| tL 4 1 <| .nd (.pv .len [.v 5]) <| .nd (.pv (.bin .gtr) [.v 6,jI 1]) <| .ite 7 Z78 Z84
def Z87:Tree:=tO 3 <| .ite 2 (.nd (.pv .len [.v 1]) <| tQ 3 4 <| .ite 4 (tI 4 2 <| tS 7 [41] <| .ret [.v 1] [jD 1 0]) (tO 5 <| tW <| tO 6 <| tB 6 1 [[jL 8,jL 5,jL 6,jL 7,jP 1,jL 9]] <| tU 6 0 1 <| tS 0 [44] <| tT 12 <| .ite 13 (tS 7 [41] <| .ret [.v 11] [jD 11 2]) (.again 0 [.v 0,.v 11] [jD 11 2]))) (tS 7 [41] <| .ret [.v 1] [jD 1 0])
def Z86:Tree:=.loop 0 0 [.v 0,jN] [jP 6] Z87
def Z76:Tree:=tS 1 [118,111,105,100] <| .ite 2 Z77 Z86
def TParams:Tree:=tS 0 [41] <| .ite 1 (.ret [jN] [jP 6]) Z76
theorem TParams_eq:fnS Tryz.prog cfParams [.one] 44=some TParams:=by kernel_rfl
theorem rparams_any (F:Nat) (s s':RS) (x:List De) (g:Nat) (gv fv:Value) (w:World) (hx:rparams F s=some (x,s')) (hr:RdQ w g gv fv s):Calls Tryz.prog 44 #[ptrV g] w (DesQ x g gv fv s' w):=by
 obtain ⟨hd0,hr⟩:=hr.rr
 refine des_of g gv fv (fn_ok (cf:=cfParams) [(conTake g gv fv).x,(conIs g gv fv).x,(conNext g gv fv).x,(conOk g gv fv).x,(conFail g gv fv).x,(conTyp g gv fv).x,(conName g gv fv).x,(conMust g gv fv).x] rfl mixed RR.stable TParams_eq
  (W:=fun args ds σ K=>args=[ptrV g]∧ds=[]∧σ=⟨s,hd0⟩∧∀ vs ds σ',((∃ A c,vs=[.slice A x.length c])∧ds=[desD x]∧σ'.s=s')→K vs ds σ')
  (fun args ds σ K hW=>by obtain ⟨rfl,_⟩:=hW;exact ⟨rfl,trivial⟩) ?_ [ptrV g] [] ⟨s,hd0⟩ w _ _ hr.rd.lt hr (fun k h=>h.elim) (daOk_nil _ _ _) (by simp [Sx.flat,Value.cells,Value.oneCell']) ⟨rfl,rfl,rfl,fun vs ds σ' h=>h⟩)
 rintro args ds σ K ⟨rfl,rfl,rfl,hK⟩ _
 have hp0:=hr.1
 rw [rparams] at hx
 simp only at hx
 show Tree.holds _ _ _ _ (⟨[ptrV g],[],[],⟨s,hd0⟩⟩:Env RH)
 refine kc (h:=w_take fun h1 p1=>?_)
 try simp only [aS,List.length_nil]
 refine h_ite rfl (fun q2=>?_) (fun q2=>?_)
 ·skip
  try simp only [q2,bVoid,bS,↓reduceIte] at hx
  try simp only [q2,bVoid,bS,↓reduceIte] at hx
  obtain ⟨rfl,rfl⟩:=sP hx
  refine kr (h:=?_)
  exact hK _ _ _ ⟨⟨_,_,rfl⟩,rfl,rfl⟩
 ·skip
  have z2:=rtake_no q2
  rw [z2] at p1
  rw [z2]
  try simp only [z2] at hx
  try simp only [q2,bVoid,bS,↓reduceIte] at hx
  refine kc (h:=w_is ?_)
  try simp only [aS,List.length_nil]
  refine h_ite rfl (fun q4=>?_) (fun q4=>?_)
  ·skip
   try simp only [q2,q4,bVoid,bS,↓reduceIte] at hx
   refine h_pv rfl rfl ?_
   try simp only [aS,List.length_nil]
   refine h_pv rfl rfl ?_
   try simp only [aS,List.length_nil]
   refine h_ld rfl RR.ld0 rfl (hdV_one _ _) ?_
   try simp only [aS,List.length_nil]
   refine h_pv rfl rfl ?_
   try simp only [aS,List.length_nil]
   refine h_pv rfl rfl ?_
   try simp only [aS,List.length_nil]
   refine h_ite rfl (fun q10=>?_) (fun q10=>?_)
   ·skip
    have qd:decide (1<s.ts.length)=true:=by have:=q10;simp at this ⊢;omega
    simp only [qd] at hx
    have hp1:1<s.ts.length:=of_decide_eq_true qd
    try simp only [q2,q4,q10,bVoid,bS,↓reduceIte] at hx
    refine h_pv rfl rfl ?_
    try simp only [aS,List.length_nil]
    refine h_pv rfl rfl ?_
    try simp only [aS,List.length_nil]
    refine h_ld rfl RR.ld0 rfl (hdV_one _ _) ?_
    try simp only [aS,List.length_nil]
    refine h_pv rfl (sem_ia 1 hp1) ?_
    try simp only [aS,List.length_nil]
    refine h_pv rfl rfl ?_
    try simp only [aS,List.length_nil]
    refine h_ld rfl (RR.ldG0 1 hp1) rfl (by simp [strV8,Value.oneCell']) ?_
    try simp only [aS,List.length_nil]
    refine h_pv rfl rfl ?_
    try simp only [aS,List.length_nil]
    refine h_ite rfl (fun q18=>?_) (fun q18=>?_)
    ·skip
     try simp only [q2,q4,q10,q18,bVoid,bS,↓reduceIte] at hx
     refine h_pv rfl rfl ?_
     try simp only [aS,List.length_nil]
     refine h_pv rfl rfl ?_
     try simp only [aS,List.length_nil]
     refine h_ld rfl RR.ld0 rfl (hdV_one _ _) ?_
     try simp only [aS,List.length_nil]
     refine h_pv rfl (sem_ia 1 hp1) ?_
     try simp only [aS,List.length_nil]
     refine h_pv rfl rfl ?_
     try simp only [aS,List.length_nil]
     refine h_ld rfl (RR.ldG1 1 hp1) rfl (by simp [strV8,Value.oneCell']) ?_
     try simp only [aS,List.length_nil]
     refine h_pv rfl rfl ?_
     try simp only [aS,List.length_nil]
     refine h_ite rfl (fun q26=>?_) (fun q26=>?_)
     ·skip
      try simp only [List.toList_toArray] at q26
      try simp only [q2,q4,q10,q18,q26,bVoid,bS,↓reduceIte] at hx
      refine kc (h:=w_next fun h27 p27=>?_)
      try simp only [aS,List.length_nil]
      refine kc (h:=w_next fun h28 p28=>?_)
      try simp only [aS,List.length_nil]
      try simp only [q2,q4,q10,q18,q26,bVoid,bS,↓reduceIte] at hx
      obtain ⟨rfl,rfl⟩:=sP hx
      refine kr (h:=?_)
      exact hK _ _ _ ⟨⟨_,_,rfl⟩,rfl,rfl⟩
     ·skip
      try simp only [List.toList_toArray] at q26
      try simp only [q2,q4,q10,q18,q26,bVoid,bS,↓reduceIte] at hx
      try simp only [q2,q4,q10,q18,q26,bVoid,bS,↓reduceIte] at hx
      obtain ⟨⟨ks,s9⟩,e9,hfin⟩:=Option.bind_eq_some_iff.1 hx
      refine h_loop (fun k vs ds σ=>∃ (acc:List De) (A:Option Addr) (c:Nat),vs=[ptrV g,.slice A acc.length c]∧ds=[desD acc]∧0<σ.s.ts.length∧acc.length≤4∧rparams1 k acc σ.s=some (ks,s9)) F (by simp only [rowsD,ldens,dens,dens2,T2.den,L.den,CD.den,leafD,rowD,List.getElem?_cons_zero,List.getElem?_cons_succ] <;> rfl) (by simp only [rowsD,ldens,dens,dens2,T2.den,L.den,CD.den,leafD,rowD,List.getElem?_cons_zero,List.getElem?_cons_succ] <;> rfl) (fun vs ds σ ⟨a,A,c,_,_,_,_,h⟩=>by cases h) ⟨[],none,0,rfl,rfl,p1,by simp,e9⟩ ?_
      clear hx e9
      rintro k vs ds bl ⟨s,h0⟩ hbl ⟨acc,A,c,rfl,rfl,hp0,hacc,hx⟩
      rw [rparams1] at hx
      simp only at hx hp0
      try simp only [aS,List.length_nil]
      refine kc (h:=w_ok ?_)
      try simp only [aS,List.length_nil]
      refine h_ite rfl (fun q30=>?_) (fun q30=>?_)
      ·skip
       try simp only [q30,bVoid,bS,↓reduceIte] at hx
       refine h_pv rfl rfl ?_
       try simp only [aS,List.length_nil]
       refine h_pv rfl rfl ?_
       try simp only [aS,List.length_nil]
       refine h_ite rfl (fun q33=>?_) (fun q33=>?_)
       ·skip
        have qn:acc.length=4:=by have:=q33;simp at this;omega
        rw [if_pos qn] at hx
        try simp only [q30,q33,bVoid,bS,↓reduceIte] at hx
        refine kc (h:=w_fail fun h34 p34=>?_)
        refine kc (h:=w_must fun h35 p35=>?_)
        try simp only [q30,q33,bVoid,bS,↓reduceIte] at hx
        obtain ⟨rfl,rfl⟩:=sP hx
        injection hfin with hfin
        injection hfin with i1 i2
        subst i1 i2
        refine kr (h:=?_)
        refine hK _ _ _ ⟨⟨A,c,?_⟩,?_,rfl⟩
        ·first | rfl | (simp only [List.length_append,List.length_map];rfl)
        ·first | rfl | (simp [desD,encDe];done)
       ·skip
        have qn:¬ acc.length=4:=by have:=q33;simp at this;omega
        rw [if_neg qn] at hx
        try simp only [q30,q33,bVoid,bS,↓reduceIte] at hx
        refine kc (h:=w_typ fun h36 p36=>?_)
        try simp only [aS,List.length_nil]
        refine h_new fun g37=>?_
        refine kc (h:=w_name fun h38 p38=>?_)
        try simp only [aS,List.length_nil]
        refine kb (h:=fun g39=>?_)
        try simp only [aS,List.length_nil]
        refine h_app rfl rfl (by simp only [List.length_map,List.length_cons,List.length_nil];omega) fun A40 c40=>?_
        try simp only [aS,List.length_nil]
        refine kc (h:=w_take fun h41 p41=>?_)
        try simp only [aS,List.length_nil]
        refine h_pv rfl rfl ?_
        try simp only [aS,List.length_nil]
        refine h_ite rfl (fun q43=>?_) (fun q43=>?_)
        ·skip
         simp only [nS] at q43
         have z43:=rtake_no q43
         rw [z43] at p41
         rw [z43]
         try simp only [z43] at hx
         try simp only [q30,q33,q43,bVoid,bS,↓reduceIte] at hx
         refine kc (h:=w_must fun h44 p44=>?_)
         try simp only [q30,q33,q43,bVoid,bS,↓reduceIte] at hx
         obtain ⟨rfl,rfl⟩:=sP hx
         injection hfin with hfin
         injection hfin with i1 i2
         subst i1 i2
         refine kr (h:=?_)
         refine hK _ _ _ ⟨⟨A40,c40,?_⟩,?_,rfl⟩
         ·first | rfl | (simp only [List.length_append,List.length_map];rfl)
         ·first | rfl | (simp [desD,encDe];done)
        ·skip
         simp only [nS] at q43
         try simp only [q30,q33,q43,bVoid,bS,↓reduceIte] at hx
         try simp only [q30,q33,q43,bVoid,bS,↓reduceIte] at hx
         refine ka (h:=?_)
         show (ite ((0:Nat)=0) _ _:List Value→List D→RH→Prop) _ _ _
         rw [if_pos rfl]
         refine ⟨_,A40,c40,?_,?_,p41,?_,hx⟩
         ·simp only [List.length_append,List.length_map];rfl
         ·simp [desD,encDe]
         ·simp only [List.length_append,List.length_cons,List.length_nil];omega
      ·skip
       try simp only [q30,bVoid,bS,↓reduceIte] at hx
       refine kc (h:=w_must fun h45 p45=>?_)
       try simp only [q30,bVoid,bS,↓reduceIte] at hx
       obtain ⟨rfl,rfl⟩:=sP hx
       injection hfin with hfin
       injection hfin with i1 i2
       subst i1 i2
       refine kr (h:=?_)
       refine hK _ _ _ ⟨⟨A,c,?_⟩,?_,rfl⟩
       ·first | rfl | (simp only [List.length_append,List.length_map];rfl)
       ·first | rfl | (simp [desD,encDe];done)
    ·skip
     try simp only [q2,q4,q10,q18,bVoid,bS,↓reduceIte] at hx
     try simp only [q2,q4,q10,q18,bVoid,bS,↓reduceIte] at hx
     obtain ⟨⟨ks,s9⟩,e9,hfin⟩:=Option.bind_eq_some_iff.1 hx
     refine h_loop (fun k vs ds σ=>∃ (acc:List De) (A:Option Addr) (c:Nat),vs=[ptrV g,.slice A acc.length c]∧ds=[desD acc]∧0<σ.s.ts.length∧acc.length≤4∧rparams1 k acc σ.s=some (ks,s9)) F (by simp only [rowsD,ldens,dens,dens2,T2.den,L.den,CD.den,leafD,rowD,List.getElem?_cons_zero,List.getElem?_cons_succ] <;> rfl) (by simp only [rowsD,ldens,dens,dens2,T2.den,L.den,CD.den,leafD,rowD,List.getElem?_cons_zero,List.getElem?_cons_succ] <;> rfl) (fun vs ds σ ⟨a,A,c,_,_,_,_,h⟩=>by cases h) ⟨[],none,0,rfl,rfl,p1,by simp,e9⟩ ?_
     clear hx e9
     rintro k vs ds bl ⟨s,h0⟩ hbl ⟨acc,A,c,rfl,rfl,hp0,hacc,hx⟩
     rw [rparams1] at hx
     simp only at hx hp0
     try simp only [aS,List.length_nil]
     refine kc (h:=w_ok ?_)
     try simp only [aS,List.length_nil]
     refine h_ite rfl (fun q47=>?_) (fun q47=>?_)
     ·skip
      try simp only [q47,bVoid,bS,↓reduceIte] at hx
      refine h_pv rfl rfl ?_
      try simp only [aS,List.length_nil]
      refine h_pv rfl rfl ?_
      try simp only [aS,List.length_nil]
      refine h_ite rfl (fun q50=>?_) (fun q50=>?_)
      ·skip
       have qn:acc.length=4:=by have:=q50;simp at this;omega
       rw [if_pos qn] at hx
       try simp only [q47,q50,bVoid,bS,↓reduceIte] at hx
       refine kc (h:=w_fail fun h51 p51=>?_)
       refine kc (h:=w_must fun h52 p52=>?_)
       try simp only [q47,q50,bVoid,bS,↓reduceIte] at hx
       obtain ⟨rfl,rfl⟩:=sP hx
       injection hfin with hfin
       injection hfin with i1 i2
       subst i1 i2
       refine kr (h:=?_)
       refine hK _ _ _ ⟨⟨A,c,?_⟩,?_,rfl⟩
       ·first | rfl | (simp only [List.length_append,List.length_map];rfl)
       ·first | rfl | (simp [desD,encDe];done)
      ·skip
       have qn:¬ acc.length=4:=by have:=q50;simp at this;omega
       rw [if_neg qn] at hx
       try simp only [q47,q50,bVoid,bS,↓reduceIte] at hx
       refine kc (h:=w_typ fun h53 p53=>?_)
       try simp only [aS,List.length_nil]
       refine h_new fun g54=>?_
       refine kc (h:=w_name fun h55 p55=>?_)
       try simp only [aS,List.length_nil]
       refine kb (h:=fun g56=>?_)
       try simp only [aS,List.length_nil]
       refine h_app rfl rfl (by simp only [List.length_map,List.length_cons,List.length_nil];omega) fun A57 c57=>?_
       try simp only [aS,List.length_nil]
       refine kc (h:=w_take fun h58 p58=>?_)
       try simp only [aS,List.length_nil]
       refine h_pv rfl rfl ?_
       try simp only [aS,List.length_nil]
       refine h_ite rfl (fun q60=>?_) (fun q60=>?_)
       ·skip
        simp only [nS] at q60
        have z60:=rtake_no q60
        rw [z60] at p58
        rw [z60]
        try simp only [z60] at hx
        try simp only [q47,q50,q60,bVoid,bS,↓reduceIte] at hx
        refine kc (h:=w_must fun h61 p61=>?_)
        try simp only [q47,q50,q60,bVoid,bS,↓reduceIte] at hx
        obtain ⟨rfl,rfl⟩:=sP hx
        injection hfin with hfin
        injection hfin with i1 i2
        subst i1 i2
        refine kr (h:=?_)
        refine hK _ _ _ ⟨⟨A57,c57,?_⟩,?_,rfl⟩
        ·first | rfl | (simp only [List.length_append,List.length_map];rfl)
        ·first | rfl | (simp [desD,encDe];done)
       ·skip
        simp only [nS] at q60
        try simp only [q47,q50,q60,bVoid,bS,↓reduceIte] at hx
        try simp only [q47,q50,q60,bVoid,bS,↓reduceIte] at hx
        refine ka (h:=?_)
        show (ite ((0:Nat)=0) _ _:List Value→List D→RH→Prop) _ _ _
        rw [if_pos rfl]
        refine ⟨_,A57,c57,?_,?_,p58,?_,hx⟩
        ·simp only [List.length_append,List.length_map];rfl
        ·simp [desD,encDe]
        ·simp only [List.length_append,List.length_cons,List.length_nil];omega
     ·skip
      try simp only [q47,bVoid,bS,↓reduceIte] at hx
      refine kc (h:=w_must fun h62 p62=>?_)
      try simp only [q47,bVoid,bS,↓reduceIte] at hx
      obtain ⟨rfl,rfl⟩:=sP hx
      injection hfin with hfin
      injection hfin with i1 i2
      subst i1 i2
      refine kr (h:=?_)
      refine hK _ _ _ ⟨⟨A,c,?_⟩,?_,rfl⟩
      ·first | rfl | (simp only [List.length_append,List.length_map];rfl)
      ·first | rfl | (simp [desD,encDe];done)
   ·skip
    have qd:decide (1<s.ts.length)=false:=by have:=q10;simp at this ⊢;omega
    simp only [qd] at hx
    try simp only [q2,q4,q10,bVoid,bS,↓reduceIte] at hx
    try simp only [q2,q4,q10,bVoid,bS,↓reduceIte] at hx
    obtain ⟨⟨ks,s9⟩,e9,hfin⟩:=Option.bind_eq_some_iff.1 hx
    refine h_loop (fun k vs ds σ=>∃ (acc:List De) (A:Option Addr) (c:Nat),vs=[ptrV g,.slice A acc.length c]∧ds=[desD acc]∧0<σ.s.ts.length∧acc.length≤4∧rparams1 k acc σ.s=some (ks,s9)) F (by simp only [rowsD,ldens,dens,dens2,T2.den,L.den,CD.den,leafD,rowD,List.getElem?_cons_zero,List.getElem?_cons_succ] <;> rfl) (by simp only [rowsD,ldens,dens,dens2,T2.den,L.den,CD.den,leafD,rowD,List.getElem?_cons_zero,List.getElem?_cons_succ] <;> rfl) (fun vs ds σ ⟨a,A,c,_,_,_,_,h⟩=>by cases h) ⟨[],none,0,rfl,rfl,p1,by simp,e9⟩ ?_
    clear hx e9
    rintro k vs ds bl ⟨s,h0⟩ hbl ⟨acc,A,c,rfl,rfl,hp0,hacc,hx⟩
    rw [rparams1] at hx
    simp only at hx hp0
    try simp only [aS,List.length_nil]
    refine kc (h:=w_ok ?_)
    try simp only [aS,List.length_nil]
    refine h_ite rfl (fun q64=>?_) (fun q64=>?_)
    ·skip
     try simp only [q64,bVoid,bS,↓reduceIte] at hx
     refine h_pv rfl rfl ?_
     try simp only [aS,List.length_nil]
     refine h_pv rfl rfl ?_
     try simp only [aS,List.length_nil]
     refine h_ite rfl (fun q67=>?_) (fun q67=>?_)
     ·skip
      have qn:acc.length=4:=by have:=q67;simp at this;omega
      rw [if_pos qn] at hx
      try simp only [q64,q67,bVoid,bS,↓reduceIte] at hx
      refine kc (h:=w_fail fun h68 p68=>?_)
      refine kc (h:=w_must fun h69 p69=>?_)
      try simp only [q64,q67,bVoid,bS,↓reduceIte] at hx
      obtain ⟨rfl,rfl⟩:=sP hx
      injection hfin with hfin
      injection hfin with i1 i2
      subst i1 i2
      refine kr (h:=?_)
      refine hK _ _ _ ⟨⟨A,c,?_⟩,?_,rfl⟩
      ·first | rfl | (simp only [List.length_append,List.length_map];rfl)
      ·first | rfl | (simp [desD,encDe];done)
     ·skip
      have qn:¬ acc.length=4:=by have:=q67;simp at this;omega
      rw [if_neg qn] at hx
      try simp only [q64,q67,bVoid,bS,↓reduceIte] at hx
      refine kc (h:=w_typ fun h70 p70=>?_)
      try simp only [aS,List.length_nil]
      refine h_new fun g71=>?_
      refine kc (h:=w_name fun h72 p72=>?_)
      try simp only [aS,List.length_nil]
      refine kb (h:=fun g73=>?_)
      try simp only [aS,List.length_nil]
      refine h_app rfl rfl (by simp only [List.length_map,List.length_cons,List.length_nil];omega) fun A74 c74=>?_
      try simp only [aS,List.length_nil]
      refine kc (h:=w_take fun h75 p75=>?_)
      try simp only [aS,List.length_nil]
      refine h_pv rfl rfl ?_
      try simp only [aS,List.length_nil]
      refine h_ite rfl (fun q77=>?_) (fun q77=>?_)
      ·skip
       simp only [nS] at q77
       have z77:=rtake_no q77
       rw [z77] at p75
       rw [z77]
       try simp only [z77] at hx
       try simp only [q64,q67,q77,bVoid,bS,↓reduceIte] at hx
       refine kc (h:=w_must fun h78 p78=>?_)
       try simp only [q64,q67,q77,bVoid,bS,↓reduceIte] at hx
       obtain ⟨rfl,rfl⟩:=sP hx
       injection hfin with hfin
       injection hfin with i1 i2
       subst i1 i2
       refine kr (h:=?_)
       refine hK _ _ _ ⟨⟨A74,c74,?_⟩,?_,rfl⟩
       ·first | rfl | (simp only [List.length_append,List.length_map];rfl)
       ·first | rfl | (simp [desD,encDe];done)
      ·skip
       simp only [nS] at q77
       try simp only [q64,q67,q77,bVoid,bS,↓reduceIte] at hx
       try simp only [q64,q67,q77,bVoid,bS,↓reduceIte] at hx
       refine ka (h:=?_)
       show (ite ((0:Nat)=0) _ _:List Value→List D→RH→Prop) _ _ _
       rw [if_pos rfl]
       refine ⟨_,A74,c74,?_,?_,p75,?_,hx⟩
       ·simp only [List.length_append,List.length_map];rfl
       ·simp [desD,encDe]
       ·simp only [List.length_append,List.length_cons,List.length_nil];omega
    ·skip
     try simp only [q64,bVoid,bS,↓reduceIte] at hx
     refine kc (h:=w_must fun h79 p79=>?_)
     try simp only [q64,bVoid,bS,↓reduceIte] at hx
     obtain ⟨rfl,rfl⟩:=sP hx
     injection hfin with hfin
     injection hfin with i1 i2
     subst i1 i2
     refine kr (h:=?_)
     refine hK _ _ _ ⟨⟨A,c,?_⟩,?_,rfl⟩
     ·first | rfl | (simp only [List.length_append,List.length_map];rfl)
     ·first | rfl | (simp [desD,encDe];done)
  ·skip
   try simp only [q2,q4,bVoid,bS,↓reduceIte] at hx
   try simp only [q2,q4,bVoid,bS,↓reduceIte] at hx
   obtain ⟨⟨ks,s9⟩,e9,hfin⟩:=Option.bind_eq_some_iff.1 hx
   refine h_loop (fun k vs ds σ=>∃ (acc:List De) (A:Option Addr) (c:Nat),vs=[ptrV g,.slice A acc.length c]∧ds=[desD acc]∧0<σ.s.ts.length∧acc.length≤4∧rparams1 k acc σ.s=some (ks,s9)) F (by simp only [rowsD,ldens,dens,dens2,T2.den,L.den,CD.den,leafD,rowD,List.getElem?_cons_zero,List.getElem?_cons_succ] <;> rfl) (by simp only [rowsD,ldens,dens,dens2,T2.den,L.den,CD.den,leafD,rowD,List.getElem?_cons_zero,List.getElem?_cons_succ] <;> rfl) (fun vs ds σ ⟨a,A,c,_,_,_,_,h⟩=>by cases h) ⟨[],none,0,rfl,rfl,p1,by simp,e9⟩ ?_
   clear hx e9
   rintro k vs ds bl ⟨s,h0⟩ hbl ⟨acc,A,c,rfl,rfl,hp0,hacc,hx⟩
   rw [rparams1] at hx
   simp only at hx hp0
   try simp only [aS,List.length_nil]
   refine kc (h:=w_ok ?_)
   try simp only [aS,List.length_nil]
   refine h_ite rfl (fun q81=>?_) (fun q81=>?_)
   ·skip
    try simp only [q81,bVoid,bS,↓reduceIte] at hx
    refine h_pv rfl rfl ?_
    try simp only [aS,List.length_nil]
    refine h_pv rfl rfl ?_
    try simp only [aS,List.length_nil]
    refine h_ite rfl (fun q84=>?_) (fun q84=>?_)
    ·skip
     have qn:acc.length=4:=by have:=q84;simp at this;omega
     rw [if_pos qn] at hx
     try simp only [q81,q84,bVoid,bS,↓reduceIte] at hx
     refine kc (h:=w_fail fun h85 p85=>?_)
     refine kc (h:=w_must fun h86 p86=>?_)
     try simp only [q81,q84,bVoid,bS,↓reduceIte] at hx
     obtain ⟨rfl,rfl⟩:=sP hx
     injection hfin with hfin
     injection hfin with i1 i2
     subst i1 i2
     refine kr (h:=?_)
     refine hK _ _ _ ⟨⟨A,c,?_⟩,?_,rfl⟩
     ·first | rfl | (simp only [List.length_append,List.length_map];rfl)
     ·first | rfl | (simp [desD,encDe];done)
    ·skip
     have qn:¬ acc.length=4:=by have:=q84;simp at this;omega
     rw [if_neg qn] at hx
     try simp only [q81,q84,bVoid,bS,↓reduceIte] at hx
     refine kc (h:=w_typ fun h87 p87=>?_)
     try simp only [aS,List.length_nil]
     refine h_new fun g88=>?_
     refine kc (h:=w_name fun h89 p89=>?_)
     try simp only [aS,List.length_nil]
     refine kb (h:=fun g90=>?_)
     try simp only [aS,List.length_nil]
     refine h_app rfl rfl (by simp only [List.length_map,List.length_cons,List.length_nil];omega) fun A91 c91=>?_
     try simp only [aS,List.length_nil]
     refine kc (h:=w_take fun h92 p92=>?_)
     try simp only [aS,List.length_nil]
     refine h_pv rfl rfl ?_
     try simp only [aS,List.length_nil]
     refine h_ite rfl (fun q94=>?_) (fun q94=>?_)
     ·skip
      simp only [nS] at q94
      have z94:=rtake_no q94
      rw [z94] at p92
      rw [z94]
      try simp only [z94] at hx
      try simp only [q81,q84,q94,bVoid,bS,↓reduceIte] at hx
      refine kc (h:=w_must fun h95 p95=>?_)
      try simp only [q81,q84,q94,bVoid,bS,↓reduceIte] at hx
      obtain ⟨rfl,rfl⟩:=sP hx
      injection hfin with hfin
      injection hfin with i1 i2
      subst i1 i2
      refine kr (h:=?_)
      refine hK _ _ _ ⟨⟨A91,c91,?_⟩,?_,rfl⟩
      ·first | rfl | (simp only [List.length_append,List.length_map];rfl)
      ·first | rfl | (simp [desD,encDe];done)
     ·skip
      simp only [nS] at q94
      try simp only [q81,q84,q94,bVoid,bS,↓reduceIte] at hx
      try simp only [q81,q84,q94,bVoid,bS,↓reduceIte] at hx
      refine ka (h:=?_)
      show (ite ((0:Nat)=0) _ _:List Value→List D→RH→Prop) _ _ _
      rw [if_pos rfl]
      refine ⟨_,A91,c91,?_,?_,p92,?_,hx⟩
      ·simp only [List.length_append,List.length_map];rfl
      ·simp [desD,encDe]
      ·simp only [List.length_append,List.length_cons,List.length_nil];omega
   ·skip
    try simp only [q81,bVoid,bS,↓reduceIte] at hx
    refine kc (h:=w_must fun h96 p96=>?_)
    try simp only [q81,bVoid,bS,↓reduceIte] at hx
    obtain ⟨rfl,rfl⟩:=sP hx
    injection hfin with hfin
    injection hfin with i1 i2
    subst i1 i2
    refine kr (h:=?_)
    refine hK _ _ _ ⟨⟨A,c,?_⟩,?_,rfl⟩
    ·first | rfl | (simp only [List.length_append,List.length_map];rfl)
    ·first | rfl | (simp [desD,encDe];done)
end Go.Proofs.YtdmacgoeikjdbaaGreatDoor

/- The reference's parser: an item (symbolic execution). Printed by wip/s -/
import Derived.Test.YtdmacgoeikjdbaaGreatDoorK27
set_option linter.unusedSimpArgs false
set_option linter.unusedVariables false
set_option maxHeartbeats 16000000
namespace Go.Proofs.YtdmacgoeikjdbaaGreatDoor
open Go.RowKit Sx
theorem RR.ldU0 {g:Nat} {gv fv:Value} {σ:RH}:∀ w,RR g gv fv σ w→LoadsAt w (.pointer (some ⟨g,0 + 1 + 0,none⟩)) [gv]:=fun w h=>⟨g,1,rfl,fun j u hj=>by
 cases j with
 | zero=>
  simp at hj
  subst hj
  exact h.2.2.1.cell 1
 | succ j=>simp at hj⟩
theorem RR.ldU1 {g:Nat} {gv fv:Value} {σ:RH}:∀ w,RR g gv fv σ w→LoadsAt w (.pointer (some ⟨g,0 + 1 + 1,none⟩)) [fv]:=fun w h=>⟨g,2,rfl,fun j u hj=>by
 cases j with
 | zero=>
  simp at hj
  subst hj
  exact h.2.2.1.cell 2
 | succ j=>simp at hj⟩
def V13 (g:Nat) (u u':Un) (s':RS) (va:List Value) (dd:List D) (σ:RH):Prop:=∃ (name:List UInt8) (ty:Ty) (params:List De) (body:List St) (pos:Int) (A:Option Addr) (c:Nat) (bv:Value) (bd:D),
 va=[ptrV g,strB name,.int .i64 ty.kind,.int .i64 ty.ptr,.int .i64 ty.len,.slice A params.length c,bv,.int .i64 pos]∧dd=[desD params,bd]∧((∃ B d,bv=.slice B body.length d∧bd=stsD body) ∨ (body=[]∧bv=.slice none 0 0∧bd=.lst 0 []))∧u'=⟨u.globals,u.funcs ++ [⟨name,ty,params,body,[],pos⟩]⟩∧σ.s=s'
def V31 (g:Nat) (u u':Un) (s':RS) (va:List Value) (dd:List D) (σ:RH):Prop:=∃ (name:List UInt8) (k p l:Int) (init:List Int) (pos:Int) (A:Option Addr) (c:Nat),
 va=[ptrV g,strB name,.int .i64 k,.int .i64 p,.int .i64 l,.slice A init.length c,.int .i64 pos]∧dd=[.lst 1 (init.map (.int .i64))]∧u'=⟨u.globals ++ [⟨name,⟨k,p,l⟩,init,pos⟩],u.funcs⟩∧σ.s=s'
def VIt (g:Nat) (u u':Un) (s':RS) (i:Nat):List Value→List D→RH→Prop:=if i=1000013 then V13 g u u' s' else if i=1000031 then V31 g u u' s' else fun _ _ _=>False
theorem vIt13 {g:Nat} {u u':Un} {s':RS} {va:List Value} {dd:List D} {σ:RH} (h:V13 g u u' s' va dd σ):VIt g u u' s' 1000013 va dd σ:=by
 unfold VIt
 rw [if_pos rfl]
 exact h
theorem vIt31 {g:Nat} {u u':Un} {s':RS} {va:List Value} {dd:List D} {σ:RH} (h:V31 g u u' s' va dd σ):VIt g u u' s' 1000031 va dd σ:=by
 unfold VIt
 rw [if_neg (by decide),if_pos rfl]
 exact h
def cfItem:Cfg:=⟨[(38,sTy),(39,sName),(40,sOne),(41,sOne),(42,sUnit),(43,sTok),(44,sDes),(45,sUnit),(46,sSts),(47,sOne),(48,sOne),(49,sOne),(50,sUnit)],[(100 * 100 + 6,8),(100 * 89 + 1,8),(100 * 89 + 2,9),(100 * 56 + 4,1),(100 * 60 + 4,6),(100 * 60 + 5,9),(100 * 60 + 6,6)],[(0,⟨[(0,.el (.one (.v 0))),(6,.el (.one (.p 0 0)))],[⟨0,56,[.v 1,.v 2,.v 3,.v 4,.v 5,.v 6]⟩],[⟨5,0,some (2,1)⟩],7,1,1,149,[],[]⟩)],sUnit,[],[(13,⟨[(0,.el (.one (.v 0))),(5,.el (.one (.p 0 0)))],[⟨0,60,[.v 1,.v 2,.v 3,.v 4,.v 5,.v 6,.c (.slice none 0 0),.v 7]⟩],[⟨5,0,none⟩,⟨6,1,none⟩],8,1,2,149,[],[]⟩),(31,⟨[(0,.el (.one (.v 0))),(6,.el (.one (.p 0 0)))],[⟨0,56,[.v 1,.v 2,.v 3,.v 4,.v 5,.v 6]⟩],[⟨5,0,some (2,1)⟩],7,1,1,149,[],[]⟩)]⟩
def Z90:Tree:=tO 5 <| tW <| tO 6 <| tO 2 <| .ite 20 (tS 3 [123] <| tT 21 <| .ite 22 (tI 7 4 <| tO 2 <| .ite 23 (tI 8 1 <| .again 1000013 [.v 0,.v 4,.v 1,.v 2,.v 3,.v 19,.v 24,.v 5] [jD 19 0,jD 24 1]) (.again 1000013 [.v 0,.v 4,.v 1,.v 2,.v 3,.v 19,jN,.v 5] [jD 19 0,jP 0])) (tO 2 <| .ite 23 (tI 8 1 <| .again 1000013 [.v 0,.v 4,.v 1,.v 2,.v 3,.v 19,.v 24,.v 5] [jD 19 0,jD 24 1]) (.again 1000013 [.v 0,.v 4,.v 1,.v 2,.v 3,.v 19,jN,.v 5] [jD 19 0,jP 0]))) (tO 2 <| .ite 21 (tI 8 1 <| .again 1000013 [.v 0,.v 4,.v 1,.v 2,.v 3,.v 19,.v 22,.v 5] [jD 19 0,jD 22 1]) (.again 1000013 [.v 0,.v 4,.v 1,.v 2,.v 3,.v 19,jN,.v 5] [jD 19 0,jP 0]))
def Z89:Tree:=tN 0 <| tF 1 9 <| tF 1 10 <| tL 11 1 <| .nd (.pv .len [.v 12]) <| tQ 13 8 <| .ite 14 (.nd (.call 4 [.one (.v 0),.one (jI 2),.one (.v 5)] []) <| .ret [] []) Z90
def Z99:Tree:=tN 0 <| tF 0 11 <| tL 12 1 <| tX 4 13 0 <| tF 0 14 <| tL 15 1 <| tQ 16 2 <| .ite 17 (tI 7 10 <| tO 11 <| .nd (.bs 1 1 false [[jL 18]]) <| tU 1 0 1 <| tS 9 [44] <| tT 21 <| .ite 22 (tS 12 [125] <| tS 12 [59] <| .again 1000031 [.v 0,.v 1,.v 2,.v 3,.v 4,.v 20,.v 6] [jD 20 2]) (.again 0 [.v 0,.v 1,.v 2,.v 3,.v 4,.v 20,.v 6] [jD 20 2])) (tO 11 <| .nd (.bs 1 1 false [[jL 18]]) <| tU 1 0 1 <| tS 9 [44] <| tT 21 <| .ite 22 (tS 12 [125] <| tS 12 [59] <| .again 1000031 [.v 0,.v 1,.v 2,.v 3,.v 4,.v 20,.v 6] [jD 20 2]) (.again 0 [.v 0,.v 1,.v 2,.v 3,.v 4,.v 20,.v 6] [jD 20 2]))
def Z98:Tree:=tS 3 [45] <| .ite 10 (tI 7 10 <| tO 11 <| .nd (.bs 1 1 false [[jL 11]]) <| tU 1 0 1 <| tS 9 [44] <| tT 14 <| .ite 15 (tS 12 [125] <| tS 12 [59] <| .again 1000031 [.v 0,.v 1,.v 2,.v 3,.v 4,.v 13,.v 6] [jD 13 2]) (.again 0 [.v 0,.v 1,.v 2,.v 3,.v 4,.v 13,.v 6] [jD 13 2])) Z99
def Z97:Tree:=.nd (.pv .len [.v 5]) <| .nd (.pv (.bin .eql) [.v 8,.v 4]) <| .ite 9 Z98 (tO 11 <| .nd (.bs 1 1 false [[jL 10]]) <| tU 1 0 1 <| tS 9 [44] <| tT 13 <| .ite 14 (tS 12 [125] <| tS 12 [59] <| .again 1000031 [.v 0,.v 1,.v 2,.v 3,.v 4,.v 12,.v 6] [jD 12 2]) (.again 0 [.v 0,.v 1,.v 2,.v 3,.v 4,.v 12,.v 6] [jD 12 2]))
def Z96:Tree:=tO 2 <| .ite 7 Z97 (tS 12 [125] <| tS 12 [59] <| .again 1000031 [.v 0,.v 1,.v 2,.v 3,.v 4,.v 5,.v 6] [jD 5 0])
def Z95:Tree:=tS 12 [123] <| .loop 0 1 [.v 0,.v 4,.v 1,.v 2,.v 16,jN,.v 5] [jP 1] Z96
def Z94:Tree:=tQ 16 0 <| .ite 18 (tO 11 <| .nd (.bs 1 1 false [[jL 19]]) <| tS 12 [59] <| .again 1000031 [.v 0,.v 4,.v 1,.v 2,.v 16,.v 20,.v 5] [jD 20 0]) Z95
def Z93:Tree:=tO 10 <| tS 9 [61] <| .ite 17 Z94 (tS 12 [59] <| .again 1000031 [.v 0,.v 4,.v 1,.v 2,.v 16,jN,.v 5] [jP 1])
def Z106:Tree:=tN 0 <| tF 0 11 <| tL 12 1 <| tX 4 13 0 <| tF 0 14 <| tL 15 1 <| tQ 16 2 <| .ite 17 (tI 7 10 <| tO 11 <| .nd (.bs 1 1 false [[jL 18]]) <| tU 1 0 1 <| tS 9 [44] <| tT 21 <| .ite 22 (tS 12 [125] <| tS 12 [59] <| .again 1000031 [.v 0,.v 1,.v 2,.v 3,.v 4,.v 20,.v 6] [jD 20 2]) (.again 0 [.v 0,.v 1,.v 2,.v 3,.v 4,.v 20,.v 6] [jD 20 2])) (tO 11 <| .nd (.bs 1 1 false [[jL 18]]) <| tU 1 0 1 <| tS 9 [44] <| tT 21 <| .ite 22 (tS 12 [125] <| tS 12 [59] <| .again 1000031 [.v 0,.v 1,.v 2,.v 3,.v 4,.v 20,.v 6] [jD 20 2]) (.again 0 [.v 0,.v 1,.v 2,.v 3,.v 4,.v 20,.v 6] [jD 20 2]))
def Z105:Tree:=tS 3 [45] <| .ite 10 (tI 7 10 <| tO 11 <| .nd (.bs 1 1 false [[jL 11]]) <| tU 1 0 1 <| tS 9 [44] <| tT 14 <| .ite 15 (tS 12 [125] <| tS 12 [59] <| .again 1000031 [.v 0,.v 1,.v 2,.v 3,.v 4,.v 13,.v 6] [jD 13 2]) (.again 0 [.v 0,.v 1,.v 2,.v 3,.v 4,.v 13,.v 6] [jD 13 2])) Z106
def Z104:Tree:=.nd (.pv .len [.v 5]) <| .nd (.pv (.bin .eql) [.v 8,.v 4]) <| .ite 9 Z105 (tO 11 <| .nd (.bs 1 1 false [[jL 10]]) <| tU 1 0 1 <| tS 9 [44] <| tT 13 <| .ite 14 (tS 12 [125] <| tS 12 [59] <| .again 1000031 [.v 0,.v 1,.v 2,.v 3,.v 4,.v 12,.v 6] [jD 12 2]) (.again 0 [.v 0,.v 1,.v 2,.v 3,.v 4,.v 12,.v 6] [jD 12 2]))
def Z103:Tree:=tO 2 <| .ite 7 Z104 (tS 12 [125] <| tS 12 [59] <| .again 1000031 [.v 0,.v 1,.v 2,.v 3,.v 4,.v 5,.v 6] [jD 5 0])
def Z102:Tree:=tS 12 [123] <| .loop 0 1 [.v 0,.v 4,.v 1,.v 2,.v 3,jN,.v 5] [jP 1] Z103
def Z101:Tree:=tQ 3 0 <| .ite 17 (tO 11 <| .nd (.bs 1 1 false [[jL 18]]) <| tS 12 [59] <| .again 1000031 [.v 0,.v 4,.v 1,.v 2,.v 3,.v 19,.v 5] [jD 19 0]) Z102
def Z100:Tree:=tS 9 [61] <| .ite 16 Z101 (tS 12 [59] <| .again 1000031 [.v 0,.v 4,.v 1,.v 2,.v 3,jN,.v 5] [jP 1])
def Z92:Tree:=tW <| tS 9 [91] <| .ite 15 Z93 Z100
def Z91:Tree:=tN 0 <| tF 1 9 <| tF 0 10 <| tL 11 1 <| .nd (.pv .len [.v 12]) <| tQ 13 16 <| .ite 14 (.nd (.call 4 [.one (.v 0),.one (jI 2),.one (.v 5)] []) <| .ret [] []) Z92
def Z88:Tree:=tS 3 [40] <| .ite 8 Z89 Z91
def TItem:Tree:=tO 0 <| tW <| tO 1 <| tO 2 <| tT 6 <| .ite 7 (.ret [] []) Z88
theorem TItem_eq:fnS Tryz.prog cfItem [.one] 17=some TItem:=by kernel_rfl
theorem ritem_tree (f:Nat) (hf:f≤900000) (u u':Un) (s s':RS) (g:Nat) (Ag Af:Option Addr) (cg cf:Nat) (hd0:Hd) (w:World) (hx:ritem f u s=some (u',s')) (hr:RR g (.slice Ag u.globals.length cg) (.slice Af u.funcs.length cf) ⟨s,hd0⟩ w) :
  TItem.holds [(conTyp g (.slice Ag u.globals.length cg) (.slice Af u.funcs.length cf)).x,(conName g (.slice Ag u.globals.length cg) (.slice Af u.funcs.length cf)).x,(conOk g (.slice Ag u.globals.length cg) (.slice Af u.funcs.length cf)).x,(conIs g (.slice Ag u.globals.length cg) (.slice Af u.funcs.length cf)).x,(conFailAt g (.slice Ag u.globals.length cg) (.slice Af u.funcs.length cf)).x,(conNext g (.slice Ag u.globals.length cg) (.slice Af u.funcs.length cf)).x,(conParams g (.slice Ag u.globals.length cg) (.slice Af u.funcs.length cf)).x,(conFail g (.slice Ag u.globals.length cg) (.slice Af u.funcs.length cf)).x,(conBlock1 g (.slice Ag u.globals.length cg) (.slice Af u.funcs.length cf)).x,(conTake g (.slice Ag u.globals.length cg) (.slice Af u.funcs.length cf)).x,(conLength g (.slice Ag u.globals.length cg) (.slice Af u.funcs.length cf)).x,(conValue g (.slice Ag u.globals.length cg) (.slice Af u.funcs.length cf)).x,(conMust g (.slice Ag u.globals.length cg) (.slice Af u.funcs.length cf)).x] (fun vs ds σ=>vs=[]∧u=u'∧σ.s=s') (VIt g u u' s') (⟨[ptrV g],[],[],⟨s,hd0⟩⟩:Env RH):=by
 have hp0:=hr.1
 clear hr
 rw [ritem] at hx
 simp only at hx
 refine kc (h:=w_typ fun h1 p1=>?_)
 try simp only [aS,List.length_nil]
 refine h_new fun g2=>?_
 refine kc (h:=w_name fun h3 p3=>?_)
 try simp only [aS,List.length_nil]
 refine kc (h:=w_ok ?_)
 try simp only [aS,List.length_nil]
 refine h_pv rfl rfl ?_
 try simp only [aS,List.length_nil]
 refine h_ite rfl (fun q6=>?_) (fun q6=>?_)
 ·skip
  simp only [nS] at q6
  try simp only [q6,rinit,rfull,Option.bind_some,bS,↓reduceIte] at hx
  try simp only [q6,rinit,rfull,Option.bind_some,bS,↓reduceIte] at hx
  obtain ⟨rfl,rfl⟩:=sP hx
  exact kr (h:=⟨rfl,rfl,rfl⟩)
 ·skip
  simp only [nS] at q6
  try simp only [q6,rinit,rfull,Option.bind_some,bS,↓reduceIte] at hx
  refine kc (h:=w_is ?_)
  try simp only [aS,List.length_nil]
  refine h_ite rfl (fun q8=>?_) (fun q8=>?_)
  ·skip
   try simp only [q6,q8,rinit,rfull,Option.bind_some,bS,↓reduceIte] at hx
   refine h_pv rfl rfl ?_
   try simp only [aS,List.length_nil]
   refine h_pv rfl rfl ?_
   try simp only [aS,List.length_nil]
   refine h_pv rfl rfl ?_
   try simp only [aS,List.length_nil]
   refine h_ld rfl RR.ldU1 rfl (by simp [Value.oneCell']) ?_
   try simp only [aS,List.length_nil]
   refine h_pv rfl rfl ?_
   try simp only [aS,List.length_nil]
   refine h_pv rfl rfl ?_
   try simp only [aS,List.length_nil]
   refine h_ite rfl (fun q15=>?_) (fun q15=>?_)
   ·skip
    have qn:u.funcs.length=8:=by have:=q15;simp at this;omega
    rw [if_pos qn] at hx
    try simp only [q6,q8,q15,rinit,rfull,Option.bind_some,bS,↓reduceIte] at hx
    refine kc (h:=w_failat fun h16 p16=>?_)
    try simp only [q6,q8,q15,rinit,rfull,Option.bind_some,bS,↓reduceIte] at hx
    obtain ⟨rfl,rfl⟩:=sP hx
    exact kr (h:=⟨rfl,rfl,rfl⟩)
   ·skip
    have qn:¬ u.funcs.length=8:=by have:=q15;simp at this;omega
    rw [if_neg qn] at hx
    try simp only [q6,q8,q15,rinit,rfull,Option.bind_some,bS,↓reduceIte] at hx
    refine kc (h:=w_next fun h17 p17=>?_)
    try simp only [aS,List.length_nil]
    refine h_new fun g18=>?_
    try simp only [q6,q8,q15,rinit,rfull,Option.bind_some,bS,↓reduceIte] at hx
    obtain ⟨⟨x19,s19⟩,e19,hx⟩:=Option.bind_eq_some_iff.1 hx
    simp only at hx
    refine kc (h:=w_params (f:=f) e19 fun A19 c19 h19 p19=>?_)
    try simp only [aS,List.length_nil]
    refine kc (h:=w_ok ?_)
    try simp only [aS,List.length_nil]
    refine h_ite rfl (fun q21=>?_) (fun q21=>?_)
    ·skip
     try simp only [q6,q8,q15,q21,rinit,rfull,Option.bind_some,bS,↓reduceIte] at hx
     refine kc (h:=w_is ?_)
     try simp only [aS,List.length_nil]
     refine h_pv rfl rfl ?_
     try simp only [aS,List.length_nil]
     refine h_ite rfl (fun q24=>?_) (fun q24=>?_)
     ·skip
      simp only [nS] at q24
      try simp only [q6,q8,q15,q21,q24,rinit,rfull,Option.bind_some,bS,↓reduceIte] at hx
      refine kc (h:=w_fail fun h25 p25=>?_)
      refine kc (h:=w_ok ?_)
      try simp only [aS,List.length_nil]
      refine h_ite rfl (fun q27=>?_) (fun q27=>?_)
      ·skip
       try simp only [q6,q8,q15,q21,q24,q27,rinit,rfull,Option.bind_some,bS,↓reduceIte] at hx
       try simp only [q6,q8,q15,q21,q24,q27,rinit,rfull,Option.bind_some,bS,↓reduceIte] at hx
       obtain ⟨⟨x28,s28⟩,e28,hx⟩:=Option.bind_eq_some_iff.1 hx
       simp only at hx
       refine kc (h:=w_block1 (f:=f) e28 ⟨by omega,by omega⟩ fun A28 c28 h28 p28=>?_)
       try simp only [aS,List.length_nil]
       try simp only [q6,q8,q15,q21,q24,q27,rinit,rfull,Option.bind_some,bS,↓reduceIte] at hx
       obtain ⟨rfl,rfl⟩:=sP hx
       refine ka (h:=?_)
       exact vIt13 ⟨_,_,_,_,_,_,_,_,_,rfl,rfl,.inl ⟨_,_,rfl,rfl⟩,rfl,rfl⟩
      ·skip
       try simp only [q6,q8,q15,q21,q24,q27,rinit,rfull,Option.bind_some,bS,↓reduceIte] at hx
       try simp only [q6,q8,q15,q21,q24,q27,rinit,rfull,Option.bind_some,bS,↓reduceIte] at hx
       obtain ⟨rfl,rfl⟩:=sP hx
       refine ka (h:=?_)
       exact vIt13 ⟨_,_,_,_,_,_,_,_,_,rfl,rfl,.inr ⟨rfl,rfl,rfl⟩,rfl,rfl⟩
     ·skip
      simp only [nS] at q24
      try simp only [q6,q8,q15,q21,q24,rinit,rfull,Option.bind_some,bS,↓reduceIte] at hx
      refine kc (h:=w_ok ?_)
      try simp only [aS,List.length_nil]
      refine h_ite rfl (fun q30=>?_) (fun q30=>?_)
      ·skip
       try simp only [q6,q8,q15,q21,q24,q30,rinit,rfull,Option.bind_some,bS,↓reduceIte] at hx
       try simp only [q6,q8,q15,q21,q24,q30,rinit,rfull,Option.bind_some,bS,↓reduceIte] at hx
       obtain ⟨⟨x31,s31⟩,e31,hx⟩:=Option.bind_eq_some_iff.1 hx
       simp only at hx
       refine kc (h:=w_block1 (f:=f) e31 ⟨by omega,by omega⟩ fun A31 c31 h31 p31=>?_)
       try simp only [aS,List.length_nil]
       try simp only [q6,q8,q15,q21,q24,q30,rinit,rfull,Option.bind_some,bS,↓reduceIte] at hx
       obtain ⟨rfl,rfl⟩:=sP hx
       refine ka (h:=?_)
       exact vIt13 ⟨_,_,_,_,_,_,_,_,_,rfl,rfl,.inl ⟨_,_,rfl,rfl⟩,rfl,rfl⟩
      ·skip
       try simp only [q6,q8,q15,q21,q24,q30,rinit,rfull,Option.bind_some,bS,↓reduceIte] at hx
       rw [q21] at q30
       cases q30
    ·skip
     try simp only [q6,q8,q15,q21,rinit,rfull,Option.bind_some,bS,↓reduceIte] at hx
     refine kc (h:=w_ok ?_)
     try simp only [aS,List.length_nil]
     refine h_ite rfl (fun q33=>?_) (fun q33=>?_)
     ·skip
      try simp only [q6,q8,q15,q21,q33,rinit,rfull,Option.bind_some,bS,↓reduceIte] at hx
      rw [q21] at q33
      cases q33
     ·skip
      try simp only [q6,q8,q15,q21,q33,rinit,rfull,Option.bind_some,bS,↓reduceIte] at hx
      try simp only [q6,q8,q15,q21,q33,rinit,rfull,Option.bind_some,bS,↓reduceIte] at hx
      obtain ⟨rfl,rfl⟩:=sP hx
      refine ka (h:=?_)
      exact vIt13 ⟨_,_,_,_,_,_,_,_,_,rfl,rfl,.inr ⟨rfl,rfl,rfl⟩,rfl,rfl⟩
  ·skip
   try simp only [q6,q8,rinit,rfull,Option.bind_some,bS,↓reduceIte] at hx
   refine h_pv rfl rfl ?_
   try simp only [aS,List.length_nil]
   refine h_pv rfl rfl ?_
   try simp only [aS,List.length_nil]
   refine h_pv rfl rfl ?_
   try simp only [aS,List.length_nil]
   refine h_ld rfl RR.ldU0 rfl (by simp [Value.oneCell']) ?_
   try simp only [aS,List.length_nil]
   refine h_pv rfl rfl ?_
   try simp only [aS,List.length_nil]
   refine h_pv rfl rfl ?_
   try simp only [aS,List.length_nil]
   refine h_ite rfl (fun q40=>?_) (fun q40=>?_)
   ·skip
    have qn:u.globals.length=16:=by have:=q40;simp at this;omega
    rw [if_pos qn] at hx
    try simp only [q6,q8,q40,rinit,rfull,Option.bind_some,bS,↓reduceIte] at hx
    refine kc (h:=w_failat fun h41 p41=>?_)
    try simp only [q6,q8,q40,rinit,rfull,Option.bind_some,bS,↓reduceIte] at hx
    obtain ⟨rfl,rfl⟩:=sP hx
    exact kr (h:=⟨rfl,rfl,rfl⟩)
   ·skip
    have qn:¬ u.globals.length=16:=by have:=q40;simp at this;omega
    rw [if_neg qn] at hx
    try simp only [q6,q8,q40,rinit,rfull,Option.bind_some,bS,↓reduceIte] at hx
    refine h_new fun g42=>?_
    refine kc (h:=w_take fun h43 p43=>?_)
    try simp only [aS,List.length_nil]
    refine h_ite rfl (fun q44=>?_) (fun q44=>?_)
    ·skip
     try simp only [q6,q8,q40,q44,rinit,rfull,Option.bind_some,bS,↓reduceIte] at hx
     refine kc (h:=w_length fun h45 p45=>?_)
     try simp only [aS,List.length_nil]
     refine kc (h:=w_take fun h46 p46=>?_)
     try simp only [aS,List.length_nil]
     refine h_ite rfl (fun q47=>?_) (fun q47=>?_)
     ·skip
      try simp only [q6,q8,q40,q44,q47,rinit,rfull,Option.bind_some,bS,↓reduceIte] at hx
      refine h_pv rfl rfl ?_
      try simp only [aS,List.length_nil]
      refine h_ite rfl (fun q49=>?_) (fun q49=>?_)
      ·skip
       try simp only [q6,q8,q40,q44,q47,q49,rinit,rfull,Option.bind_some,bS,↓reduceIte] at hx
       refine kc (h:=w_value fun h50 p50=>?_)
       try simp only [aS,List.length_nil]
       refine kb (h:=fun g51=>?_)
       try simp only [aS,List.length_nil]
       refine kc (h:=w_must fun h52 p52=>?_)
       try simp only [q6,q8,q40,q44,q47,q49,rinit,rfull,Option.bind_some,bS,↓reduceIte] at hx
       obtain ⟨rfl,rfl⟩:=sP hx
       refine ka (h:=?_)
       exact vIt31 ⟨_,_,_,_,_,_,_,_,rfl,rfl,rfl,rfl⟩
      ·skip
       try simp only [q6,q8,q40,q44,q47,q49,rinit,rfull,Option.bind_some,bS,↓reduceIte] at hx
       refine kc (h:=w_must fun h53 p53=>?_)
       try simp only [q6,q8,q40,q44,q47,q49,rinit,rfull,Option.bind_some,bS,↓reduceIte] at hx
       obtain ⟨v9,e8,hfin⟩:=Option.bind_eq_some_iff.1 hx
       obtain ⟨⟨ks,s9⟩,e9,e7⟩:=Option.bind_eq_some_iff.1 e8
       injection e7 with e7
       subst e7
       simp only at hfin
       obtain ⟨ln,hln⟩:∃ x,(rlength (rtake [91] (rname (rtyp s).2).2).2).1=x:=⟨_,rfl⟩
       obtain ⟨nm,hnm⟩:∃ x,(rname (rtyp s).2).1=x:=⟨_,rfl⟩
       obtain ⟨ty,hty⟩:∃ x,(rtyp s).1=x:=⟨_,rfl⟩
       simp only [hln,hnm,hty] at hfin e9 ⊢
       refine h_loop (fun k vs ds σ=>∃ (acc:List Int) (A:Option Addr) (c:Nat),vs=[ptrV g,strB nm.1,.int .i64 ty.kind,.int .i64 ty.ptr,.int .i64 ln,.slice A acc.length c,.int .i64 nm.2]∧ds=[.lst 1 (acc.map (.int .i64))]∧0<σ.s.ts.length∧acc.length + k≤900000∧rvals k ln acc σ.s=some (ks,s9)) f (by simp only [rowsD,ldens,dens,dens2,T2.den,L.den,CD.den,leafD,rowD,List.getElem?_cons_zero,List.getElem?_cons_succ] <;> rfl) (by simp only [rowsD,ldens,dens,dens2,T2.den,L.den,CD.den,leafD,rowD,List.getElem?_cons_zero,List.getElem?_cons_succ] <;> rfl) (fun vs ds σ ⟨a,A,c,_,_,_,_,h⟩=>by cases h) ⟨[],none,0,rfl,rfl,p53,by simpa using hf,e9⟩ ?_
       clear hx e9 hln hnm hty
       rintro k vs ds bl ⟨s,h0⟩ hbl ⟨acc,A,c,rfl,rfl,hp0,hacc,hx⟩
       rw [rvals] at hx
       simp only at hx hp0
       try simp only [aS,List.length_nil]
       refine kc (h:=w_ok ?_)
       try simp only [aS,List.length_nil]
       refine h_ite rfl (fun q55=>?_) (fun q55=>?_)
       ·skip
        try simp only [q55,rinit,rfull,Option.bind_some,bS,↓reduceIte] at hx
        refine h_pv rfl rfl ?_
        try simp only [aS,List.length_nil]
        refine h_pv rfl rfl ?_
        try simp only [aS,List.length_nil]
        refine h_ite rfl (fun q58=>?_) (fun q58=>?_)
        ·skip
         try simp only [q55,q58,rinit,rfull,Option.bind_some,bS,↓reduceIte] at hx
         refine kc (h:=w_is ?_)
         try simp only [aS,List.length_nil]
         refine h_ite rfl (fun q60=>?_) (fun q60=>?_)
         ·skip
          try simp only [q55,q58,q60,rinit,rfull,Option.bind_some,bS,↓reduceIte] at hx
          refine kc (h:=w_fail fun h61 p61=>?_)
          refine kc (h:=w_value fun h62 p62=>?_)
          try simp only [aS,List.length_nil]
          refine kb (h:=fun g63=>?_)
          try simp only [aS,List.length_nil]
          refine h_app rfl rfl (by simp only [List.length_map,List.length_cons,List.length_nil];omega) fun A64 c64=>?_
          try simp only [aS,List.length_nil]
          refine kc (h:=w_take fun h65 p65=>?_)
          try simp only [aS,List.length_nil]
          refine h_pv rfl rfl ?_
          try simp only [aS,List.length_nil]
          refine h_ite rfl (fun q67=>?_) (fun q67=>?_)
          ·skip
           simp only [nS] at q67
           have z67:=rtake_no q67
           rw [z67] at p65
           rw [z67]
           try simp only [z67] at hx
           try simp only [q55,q58,q60,q67,rinit,rfull,Option.bind_some,bS,↓reduceIte] at hx
           refine kc (h:=w_must fun h68 p68=>?_)
           refine kc (h:=w_must fun h69 p69=>?_)
           try simp only [q55,q58,q60,q67,rinit,rfull,Option.bind_some,bS,↓reduceIte] at hx
           obtain ⟨rfl,rfl⟩:=sP hx
           injection hfin with hfin
           injection hfin with i1 i2
           subst i1 i2
           refine ka (h:=?_)
           show (ite ((1000031:Nat)=0) _ _:List Value→List D→RH→Prop) _ _ _
           rw [if_neg (by decide)]
           refine vIt31 ⟨_,ty.kind,ty.ptr,ln,_,_,A64,c64,?_,?_,rfl,rfl⟩
           ·first | rfl | (simp only [List.length_append,List.length_map];rfl)
           ·first | rfl | (simp;done)
          ·skip
           simp only [nS] at q67
           try simp only [q55,q58,q60,q67,rinit,rfull,Option.bind_some,bS,↓reduceIte] at hx
           try simp only [q55,q58,q60,q67,rinit,rfull,Option.bind_some,bS,↓reduceIte] at hx
           refine ka (h:=?_)
           show (ite ((0:Nat)=0) _ _:List Value→List D→RH→Prop) _ _ _
           rw [if_pos rfl]
           refine ⟨_,A64,c64,?_,?_,p65,?_,hx⟩
           ·simp only [List.length_append,List.length_map];rfl
           ·simp
           ·simp only [List.length_append,List.length_cons,List.length_nil];omega
         ·skip
          try simp only [q55,q58,q60,rinit,rfull,Option.bind_some,bS,↓reduceIte] at hx
          refine h_pv rfl rfl ?_
          try simp only [aS,List.length_nil]
          refine h_pv rfl rfl ?_
          try simp only [aS,List.length_nil]
          refine h_ld rfl RR.ld0 rfl (hdV_one _ _) ?_
          try simp only [aS,List.length_nil]
          refine h_pv rfl (sem_ia 0 hp0) ?_
          try simp only [aS,List.length_nil]
          refine h_pv rfl rfl ?_
          try simp only [aS,List.length_nil]
          refine h_ld rfl (RR.ldF0 hp0) rfl (by simp [strV8,Value.oneCell']) ?_
          try simp only [aS,List.length_nil]
          refine h_pv rfl rfl ?_
          try simp only [aS,List.length_nil]
          refine h_ite rfl (fun q77=>?_) (fun q77=>?_)
          ·skip
           try simp only [q55,q58,q60,q77,rinit,rfull,Option.bind_some,bS,↓reduceIte] at hx
           refine kc (h:=w_fail fun h78 p78=>?_)
           refine kc (h:=w_value fun h79 p79=>?_)
           try simp only [aS,List.length_nil]
           refine kb (h:=fun g80=>?_)
           try simp only [aS,List.length_nil]
           refine h_app rfl rfl (by simp only [List.length_map,List.length_cons,List.length_nil];omega) fun A81 c81=>?_
           try simp only [aS,List.length_nil]
           refine kc (h:=w_take fun h82 p82=>?_)
           try simp only [aS,List.length_nil]
           refine h_pv rfl rfl ?_
           try simp only [aS,List.length_nil]
           refine h_ite rfl (fun q84=>?_) (fun q84=>?_)
           ·skip
            simp only [nS] at q84
            have z84:=rtake_no q84
            rw [z84] at p82
            rw [z84]
            try simp only [z84] at hx
            try simp only [q55,q58,q60,q77,q84,rinit,rfull,Option.bind_some,bS,↓reduceIte] at hx
            refine kc (h:=w_must fun h85 p85=>?_)
            refine kc (h:=w_must fun h86 p86=>?_)
            try simp only [q55,q58,q60,q77,q84,rinit,rfull,Option.bind_some,bS,↓reduceIte] at hx
            obtain ⟨rfl,rfl⟩:=sP hx
            injection hfin with hfin
            injection hfin with i1 i2
            subst i1 i2
            refine ka (h:=?_)
            show (ite ((1000031:Nat)=0) _ _:List Value→List D→RH→Prop) _ _ _
            rw [if_neg (by decide)]
            refine vIt31 ⟨_,ty.kind,ty.ptr,ln,_,_,A81,c81,?_,?_,rfl,rfl⟩
            ·first | rfl | (simp only [List.length_append,List.length_map];rfl)
            ·first | rfl | (simp;done)
           ·skip
            simp only [nS] at q84
            try simp only [q55,q58,q60,q77,q84,rinit,rfull,Option.bind_some,bS,↓reduceIte] at hx
            try simp only [q55,q58,q60,q77,q84,rinit,rfull,Option.bind_some,bS,↓reduceIte] at hx
            refine ka (h:=?_)
            show (ite ((0:Nat)=0) _ _:List Value→List D→RH→Prop) _ _ _
            rw [if_pos rfl]
            refine ⟨_,A81,c81,?_,?_,p82,?_,hx⟩
            ·simp only [List.length_append,List.length_map];rfl
            ·simp
            ·simp only [List.length_append,List.length_cons,List.length_nil];omega
          ·skip
           try simp only [q55,q58,q60,q77,rinit,rfull,Option.bind_some,bS,↓reduceIte] at hx
           refine kc (h:=w_value fun h87 p87=>?_)
           try simp only [aS,List.length_nil]
           refine kb (h:=fun g88=>?_)
           try simp only [aS,List.length_nil]
           refine h_app rfl rfl (by simp only [List.length_map,List.length_cons,List.length_nil];omega) fun A89 c89=>?_
           try simp only [aS,List.length_nil]
           refine kc (h:=w_take fun h90 p90=>?_)
           try simp only [aS,List.length_nil]
           refine h_pv rfl rfl ?_
           try simp only [aS,List.length_nil]
           refine h_ite rfl (fun q92=>?_) (fun q92=>?_)
           ·skip
            simp only [nS] at q92
            have z92:=rtake_no q92
            rw [z92] at p90
            rw [z92]
            try simp only [z92] at hx
            try simp only [q55,q58,q60,q77,q92,rinit,rfull,Option.bind_some,bS,↓reduceIte] at hx
            refine kc (h:=w_must fun h93 p93=>?_)
            refine kc (h:=w_must fun h94 p94=>?_)
            try simp only [q55,q58,q60,q77,q92,rinit,rfull,Option.bind_some,bS,↓reduceIte] at hx
            obtain ⟨rfl,rfl⟩:=sP hx
            injection hfin with hfin
            injection hfin with i1 i2
            subst i1 i2
            refine ka (h:=?_)
            show (ite ((1000031:Nat)=0) _ _:List Value→List D→RH→Prop) _ _ _
            rw [if_neg (by decide)]
            refine vIt31 ⟨_,ty.kind,ty.ptr,ln,_,_,A89,c89,?_,?_,rfl,rfl⟩
            ·first | rfl | (simp only [List.length_append,List.length_map];rfl)
            ·first | rfl | (simp;done)
           ·skip
            simp only [nS] at q92
            try simp only [q55,q58,q60,q77,q92,rinit,rfull,Option.bind_some,bS,↓reduceIte] at hx
            try simp only [q55,q58,q60,q77,q92,rinit,rfull,Option.bind_some,bS,↓reduceIte] at hx
            refine ka (h:=?_)
            show (ite ((0:Nat)=0) _ _:List Value→List D→RH→Prop) _ _ _
            rw [if_pos rfl]
            refine ⟨_,A89,c89,?_,?_,p90,?_,hx⟩
            ·simp only [List.length_append,List.length_map];rfl
            ·simp
            ·simp only [List.length_append,List.length_cons,List.length_nil];omega
        ·skip
         try simp only [q55,q58,rinit,rfull,Option.bind_some,bS,↓reduceIte] at hx
         refine kc (h:=w_value fun h95 p95=>?_)
         try simp only [aS,List.length_nil]
         refine kb (h:=fun g96=>?_)
         try simp only [aS,List.length_nil]
         refine h_app rfl rfl (by simp only [List.length_map,List.length_cons,List.length_nil];omega) fun A97 c97=>?_
         try simp only [aS,List.length_nil]
         refine kc (h:=w_take fun h98 p98=>?_)
         try simp only [aS,List.length_nil]
         refine h_pv rfl rfl ?_
         try simp only [aS,List.length_nil]
         refine h_ite rfl (fun q100=>?_) (fun q100=>?_)
         ·skip
          simp only [nS] at q100
          have z100:=rtake_no q100
          rw [z100] at p98
          rw [z100]
          try simp only [z100] at hx
          try simp only [q55,q58,q100,rinit,rfull,Option.bind_some,bS,↓reduceIte] at hx
          refine kc (h:=w_must fun h101 p101=>?_)
          refine kc (h:=w_must fun h102 p102=>?_)
          try simp only [q55,q58,q100,rinit,rfull,Option.bind_some,bS,↓reduceIte] at hx
          obtain ⟨rfl,rfl⟩:=sP hx
          injection hfin with hfin
          injection hfin with i1 i2
          subst i1 i2
          refine ka (h:=?_)
          show (ite ((1000031:Nat)=0) _ _:List Value→List D→RH→Prop) _ _ _
          rw [if_neg (by decide)]
          refine vIt31 ⟨_,ty.kind,ty.ptr,ln,_,_,A97,c97,?_,?_,rfl,rfl⟩
          ·first | rfl | (simp only [List.length_append,List.length_map];rfl)
          ·first | rfl | (simp;done)
         ·skip
          simp only [nS] at q100
          try simp only [q55,q58,q100,rinit,rfull,Option.bind_some,bS,↓reduceIte] at hx
          try simp only [q55,q58,q100,rinit,rfull,Option.bind_some,bS,↓reduceIte] at hx
          refine ka (h:=?_)
          show (ite ((0:Nat)=0) _ _:List Value→List D→RH→Prop) _ _ _
          rw [if_pos rfl]
          refine ⟨_,A97,c97,?_,?_,p98,?_,hx⟩
          ·simp only [List.length_append,List.length_map];rfl
          ·simp
          ·simp only [List.length_append,List.length_cons,List.length_nil];omega
       ·skip
        try simp only [q55,rinit,rfull,Option.bind_some,bS,↓reduceIte] at hx
        refine kc (h:=w_must fun h103 p103=>?_)
        refine kc (h:=w_must fun h104 p104=>?_)
        try simp only [q55,rinit,rfull,Option.bind_some,bS,↓reduceIte] at hx
        obtain ⟨rfl,rfl⟩:=sP hx
        injection hfin with hfin
        injection hfin with i1 i2
        subst i1 i2
        refine ka (h:=?_)
        show (ite ((1000031:Nat)=0) _ _:List Value→List D→RH→Prop) _ _ _
        rw [if_neg (by decide)]
        refine vIt31 ⟨_,ty.kind,ty.ptr,ln,_,_,A,c,?_,?_,rfl,rfl⟩
        ·first | rfl | (simp only [List.length_append,List.length_map];rfl)
        ·first | rfl | (simp;done)
     ·skip
      have z47:=rtake_no q47
      rw [z47] at p46
      rw [z47]
      try simp only [z47] at hx
      try simp only [q6,q8,q40,q44,q47,rinit,rfull,Option.bind_some,bS,↓reduceIte] at hx
      refine kc (h:=w_must fun h105 p105=>?_)
      try simp only [q6,q8,q40,q44,q47,rinit,rfull,Option.bind_some,bS,↓reduceIte] at hx
      obtain ⟨rfl,rfl⟩:=sP hx
      refine ka (h:=?_)
      exact vIt31 ⟨_,_,_,_,_,_,_,_,rfl,rfl,rfl,rfl⟩
    ·skip
     have z44:=rtake_no q44
     rw [z44] at p43
     rw [z44]
     try simp only [z44] at hx
     try simp only [q6,q8,q40,q44,rinit,rfull,Option.bind_some,bS,↓reduceIte] at hx
     refine kc (h:=w_take fun h106 p106=>?_)
     try simp only [aS,List.length_nil]
     refine h_ite rfl (fun q107=>?_) (fun q107=>?_)
     ·skip
      try simp only [q6,q8,q40,q44,q107,rinit,rfull,Option.bind_some,bS,↓reduceIte] at hx
      refine h_pv rfl rfl ?_
      try simp only [aS,List.length_nil]
      refine h_ite rfl (fun q109=>?_) (fun q109=>?_)
      ·skip
       try simp only [q6,q8,q40,q44,q107,q109,rinit,rfull,Option.bind_some,bS,↓reduceIte] at hx
       refine kc (h:=w_value fun h110 p110=>?_)
       try simp only [aS,List.length_nil]
       refine kb (h:=fun g111=>?_)
       try simp only [aS,List.length_nil]
       refine kc (h:=w_must fun h112 p112=>?_)
       try simp only [q6,q8,q40,q44,q107,q109,rinit,rfull,Option.bind_some,bS,↓reduceIte] at hx
       obtain ⟨rfl,rfl⟩:=sP hx
       refine ka (h:=?_)
       exact vIt31 ⟨_,_,_,_,_,_,_,_,rfl,rfl,rfl,rfl⟩
      ·skip
       try simp only [q6,q8,q40,q44,q107,q109,rinit,rfull,Option.bind_some,bS,↓reduceIte] at hx
       simp [rtyp] at q109
     ·skip
      have z107:=rtake_no q107
      rw [z107] at p106
      rw [z107]
      try simp only [z107] at hx
      try simp only [q6,q8,q40,q44,q107,rinit,rfull,Option.bind_some,bS,↓reduceIte] at hx
      refine kc (h:=w_must fun h113 p113=>?_)
      try simp only [q6,q8,q40,q44,q107,rinit,rfull,Option.bind_some,bS,↓reduceIte] at hx
      obtain ⟨rfl,rfl⟩:=sP hx
      refine ka (h:=?_)
      exact vIt31 ⟨_,_,_,_,_,_,_,_,rfl,rfl,rfl,rfl⟩
end Go.Proofs.YtdmacgoeikjdbaaGreatDoor

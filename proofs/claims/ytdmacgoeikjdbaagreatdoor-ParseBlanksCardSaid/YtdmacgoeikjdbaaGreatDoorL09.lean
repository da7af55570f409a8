/- Symbolic execution: calls that are known. -/
import Derived.Test.YtdmacgoeikjdbaaGreatDoorL08
set_option linter.unusedSimpArgs false
set_option linter.unusedVariables false
namespace Go.Proofs.YtdmacgoeikjdbaaGreatDoor.Sx
open Go.RowKit
section
variable {S:Type} {P:Program} {R:S→World→Prop} {C:Ctx R} {E:Env S} {st st':St} {a:Act} {o:Oper} {cf:Cfg} {w:World}
theorem callable_spec {f:FuncId} (hf:callable P f=true) (vs:Array Value) (w:World):(callFunc f vs).run P w=.ok (.enter f vs) w:=by
 unfold callable at hf
 split at hf
 case h_2=>cases hf
 rename_i fn hfn
 simp only [Bool.and_eq_true,Bool.not_eq_true',Option.isSome_iff_exists] at hf
 obtain ⟨h1,b,h2⟩:=hf
 unfold callFunc
 have h1':fn.name ≠ "runtime.NumGoroutine":=by simpa using h1
 simp [run_program,hfn,h1',h2]
def Al (E:Env S):List T2→List Value→Prop
 | [],[]=>True
 | t :: ts,v :: vs=>(t.den E.vals E.blks=some v∧dens E.vals E.blks t.cells=some v.cells.toList∧∀ u ∈ v.cells.toList,u.oneCell'=true)∧Al E ts vs
 | _,_=>False
theorem Al.den:∀ {ts:List T2} {vs:List Value},Al E ts vs→dens2 E.vals E.blks ts=some vs∧dens E.vals E.blks (T2s.cells ts)=some (flat vs)∧(∀ u ∈ flat vs,u.oneCell'=true)∧ts.length=vs.length
 | [],[],_=>⟨rfl,rfl,fun u hu=>(by cases hu),rfl⟩
 | [],_ :: _,h=>h.elim
 | _ :: _,[],h=>h.elim
 | t :: ts,v :: vs,h=>by
  obtain ⟨⟨h1,h2,h3⟩,h4⟩:=h
  obtain ⟨i1,i2,i3,i4⟩:=Al.den h4
  refine ⟨by simp only [dens2,h1,i1],?_,fun u hu=>?_,by simp [i4]⟩
  ·simp only [T2s.cells,flat,List.flatMap_cons]
   exact dens_app h2 i2
  ·simp only [flat,List.flatMap_cons] at hu
   rcases List.mem_append.1 hu with hu | hu
   ·exact h3 u hu
   ·exact i3 u hu
theorem Al.set:∀ {ts:List T2} {vs:List Value} {t:T2} {v:Value} (i:Nat),Al E ts vs→t.den E.vals E.blks=some v→dens E.vals E.blks t.cells=some v.cells.toList→(∀ u ∈ v.cells.toList,u.oneCell'=true)→Al E (ts.set i t) (vs.set i v)
 | [],[],_,_,_,h,_,_,_=>by simpa using h
 | [],_ :: _,_,_,_,h,_,_,_=>h.elim
 | _ :: _,[],_,_,_,h,_,_,_=>h.elim
 | _ :: ts,_ :: vs,t,v,0,h,h1,h2,h3=>⟨⟨h1,h2,h3⟩,h.2⟩
 | _ :: ts,_ :: vs,t,v,i + 1,h,h1,h2,h3=>⟨h.1,Al.set i h.2 h1 h2 h3⟩
theorem Al.get:∀ {ts:List T2} {vs:List Value},Al E ts vs→∀ (i:Nat) t,ts[i]?=some t→∃ v,vs[i]?=some v∧t.den E.vals E.blks=some v
 | [],_,_,i,t,h=>by simp at h
 | _ :: _,[],h,_,_,_=>h.elim
 | t' :: ts,v' :: vs,h,i,t,hi=>by
  cases i with
  | zero=>
   simp at hi
   subst hi
   exact ⟨v',rfl,h.1.1⟩
  | succ i=>exact Al.get h.2 i t (by simpa using hi)
theorem evals2_den (hT:Tms E st a) (h1:∀ v ∈ E.vals,v.oneCell'=true):∀ {xs:List Operand} {ts:List T2},evals2 st xs=some ts→Al E ts (xs.map a.eval)
 | [],ts,h=>by
  simp only [evals2,Option.some.injEq] at h
  subst h
  exact trivial
 | x :: xs,ts,h=>by
  simp only [evals2] at h
  split at h
  case h_2=>cases h
  rename_i ls t r hc h2 hr
  injection h with h
  subst h
  obtain ⟨j1,j2⟩:=hT.evalC h1 hc
  have e:=hT.eval2 h2
  have hcells:ls=t.cells:=by
   unfold evalC at hc
   rw [h2] at hc
   simp only at hc
   split at hc
   ·injection hc with hc;exact hc.symm
   ·cases hc
  subst hcells
  exact ⟨⟨e,j2,okLs_one h1 j1 j2⟩,evals2_den hT h1 hr⟩
theorem ldens_get:∀ {ls:List (L × CD)} {dd:List D},ldens E ls=some dd→ls.length=dd.length∧∀ (i:Nat) (x:L × CD) d,ls[i]?=some x→dd[i]?=some d→∃ v,x.1.den E.vals E.blks=some v∧x.2.den E.dats v=some d
 | [],dd,h=>by
  simp only [ldens,Option.some.injEq] at h
  subst h
  exact ⟨rfl,fun i x d hx=>by simp at hx⟩
 | (l,c) :: ls,dd,h=>by
  simp only [ldens] at h
  split at h
  case h_2=>cases h
  rename_i v hv
  split at h
  case h_2=>cases h
  rename_i d ds hd hds
  injection h with h
  subst h
  obtain ⟨h1,h2⟩:=ldens_get hds
  refine ⟨by simp [h1],fun i x d' hx hd'=>?_⟩
  cases i with
  | zero=>
   simp at hx hd'
   subst hx hd'
   exact ⟨v,hv,hd⟩
  | succ i=>exact h2 i x d' (by simpa using hx) (by simpa using hd')
theorem ownOf_spec {e:TypeId} {z:Nat} {l:L} {cd:CD} {n:Option Nat} (ho:ownOf st e z l=some (cd,n)):(cd=.nil z∧n=none∧l=.c (.slice none 0 0)) ∨ (∃ m f,l=.v m∧n=some m∧f ∈ st.fs∧f.l=m∧cd=.dat f.d∧f.own=some (e,z)):=by
 unfold ownOf at ho
 split at ho
 ·injection ho with ho
  injection ho with h1 h2
  exact .inl ⟨h1.symm,h2.symm,rfl⟩
 ·rename_i m
  split at ho
  ·rename_i lf d e' z' hf
   split at ho
   ·rename_i hc
    simp only [Bool.and_eq_true,Nat.beq_eq] at hc
    obtain ⟨h1,h2⟩:=hc
    injection ho with ho
    injection ho with h3 h4
    obtain ⟨h5,h6⟩:=factOf_spec hf
    refine .inr ⟨m,_,rfl,h4.symm,h5,h6,h3.symm,?_⟩
    rw [h1,h2]
   ·cases ho
  ·cases ho
 ·cases ho
theorem dropF_mem {n:Nat} {fs:List Fc} {f:Fc} (h:f ∈ dropF n fs):f ∈ fs∧f.l ≠ n:=by
 unfold dropF at h
 obtain ⟨h1,h2⟩:=List.mem_filter.1 h
 refine ⟨h1,fun e=>?_⟩
 rw [e] at h2
 simp at h2
theorem dropFs_mem {f:Fc} {fs:List Fc}:∀ {l:List Nat},f ∈ dropFs l fs→f ∈ fs∧f.l ∉ l
 | [],h=>⟨h,List.not_mem_nil⟩
 | n :: l,h=>by
  obtain ⟨h1,h2⟩:=dropF_mem h
  obtain ⟨h3,h4⟩:=dropFs_mem h1
  exact ⟨h3,fun hm=>(List.mem_cons.1 hm).elim h2 h4⟩
def OwnIx (st:St) (cells:List L) (ow:List (Nat × TypeId)) (j:Nat) (da:List (Nat × Nat)) (i n:Nat):Prop:=
 ∃ x e l cd,da[i]?=some x∧lookN (j + i) ow=some e∧cells[x.1]?=some l∧ownOf st e x.2 l=some (cd,some n)
theorem daOw_spec {cells:List L} {ow:List (Nat × TypeId)}:∀ {da:List (Nat × Nat)} {j:Nat} {ls mn:List (L × CD)} {os:List Nat},daOw st cells ow j da=some (ls,mn,os)→da.length=ls.length ∧
  (∀ (i:Nat) (x:Nat × Nat),da[i]?=some x→∃ l cd,cells[x.1]?=some l∧ls[i]?=some (l,cd)∧((lookN (j + i) ow=none∧cd=cdOf st [(0,x.2)] 0 l∧(l,cd) ∈ mn) ∨ ∃ e n,lookN (j + i) ow=some e∧ownOf st e x.2 l=some (cd,n)∧∀ m,n=some m→m ∈ os)) ∧
  (nodupB os=true→∀ i i' n,OwnIx st cells ow j da i n→OwnIx st cells ow j da i' n→i=i')∧(∀ n ∈ os,∃ i,OwnIx st cells ow j da i n)∧(∀ i n,OwnIx st cells ow j da i n→n ∈ os)
 | [],j,ls,mn,os,h=>by
  simp only [daOw,Option.some.injEq,Prod.mk.injEq] at h
  obtain ⟨rfl,rfl,rfl⟩:=h
  have hno:∀ i n,¬ OwnIx st cells ow j [] i n:=fun i n ⟨x,_,_,_,h,_⟩=>by simp at h
  exact ⟨rfl,fun i x hx=>by simp at hx,fun _ i i' n q=>(hno _ _ q).elim,fun n hn=>(by cases hn),fun i n q=>(hno _ _ q).elim⟩
 | (i0,z0) :: da,j,ls,mn,os,h=>by
  simp only [daOw] at h
  split at h
  case h_2=>cases h
  rename_i l m mn0 os0 hl hm
  obtain ⟨h1,h2,h3,h4,h5⟩:=daOw_spec hm
  have ej:∀ i,j + 1 + i=j + (i + 1):=fun i=>by omega
  have hup:∀ i n,OwnIx st cells ow (j + 1) da i n→OwnIx st cells ow j ((i0,z0) :: da) (i + 1) n:=fun i n ⟨x,e,l,cd,q1,q2,q3,q4⟩=>⟨x,e,l,cd,by simpa using q1,by rw [← ej];exact q2,q3,q4⟩
  have hdn:∀ i n,OwnIx st cells ow j ((i0,z0) :: da) (i + 1) n→OwnIx st cells ow (j + 1) da i n:=fun i n ⟨x,e,l,cd,q1,q2,q3,q4⟩=>⟨x,e,l,cd,by simpa using q1,by rw [ej];exact q2,q3,q4⟩
  have h2':∀ (m':List (L × CD)) (os':List Nat),(∀ y ∈ mn0,y ∈ m')→(∀ y ∈ os0,y ∈ os')→∀ (i:Nat) (x:Nat × Nat),da[i]?=some x→∃ l cd,cells[x.1]?=some l∧m[i]?=some (l,cd)∧((lookN (j + (i + 1)) ow=none∧cd=cdOf st [(0,x.2)] 0 l∧(l,cd) ∈ m') ∨ ∃ e n,lookN (j + (i + 1)) ow=some e∧ownOf st e x.2 l=some (cd,n)∧∀ m,n=some m→m ∈ os'):=fun m' os' g1 g2 i x hx=>by
   obtain ⟨l,cd,q1,q2,q3⟩:=h2 i x hx
   rw [ej] at q3
   refine ⟨l,cd,q1,q2,q3.imp (fun ⟨a,b,c⟩=>⟨a,b,g1 _ c⟩) (fun ⟨e,n,a,b,c⟩=>⟨e,n,a,b,fun k hk=>g2 _ (c k hk)⟩)⟩
  split at h
  ·rename_i hlk
   simp only [Option.some.injEq,Prod.mk.injEq] at h
   obtain ⟨rfl,rfl,rfl⟩:=h
   have hno:∀ n,¬ OwnIx st cells ow j ((i0,z0) :: da) 0 n:=fun n ⟨x,e,_,_,_,q2,_⟩=>by
    rw [Nat.add_zero,hlk] at q2
    cases q2
   refine ⟨by simp [h1],fun i x hx=>?_,fun hnd i i' n q q'=>?_,fun n hn=>?_,fun i n q=>?_⟩
   ·cases i with
    | zero=>
     simp at hx
     subst hx
     exact ⟨l,_,hl,rfl,.inl ⟨hlk,rfl,List.mem_cons_self⟩⟩
    | succ i=>
     obtain ⟨l',cd',q1,q2,q3⟩:=h2' _ _ (fun y hy=>List.mem_cons_of_mem _ hy) (fun y hy=>hy) i x (by simpa using hx)
     exact ⟨l',cd',q1,by simpa using q2,q3⟩
   ·cases i with
    | zero=>exact (hno _ q).elim
    | succ i=>cases i' with
     | zero=>exact (hno _ q').elim
     | succ i'=>rw [h3 hnd i i' n (hdn _ _ q) (hdn _ _ q')]
   ·obtain ⟨i,q⟩:=h4 n hn
    exact ⟨i + 1,hup _ _ q⟩
   ·cases i with
    | zero=>exact (hno _ q).elim
    | succ i=>exact h5 i n (hdn _ _ q)
  ·rename_i e hlk
   split at h
   ·rename_i cd n hon
    simp only [Option.some.injEq,Prod.mk.injEq] at h
    obtain ⟨rfl,rfl,rfl⟩:=h
    have h0:∀ n',OwnIx st cells ow j ((i0,z0) :: da) 0 n'→n'=n:=fun n' ⟨x,e',l',cd',q1,q2,q3,q4⟩=>by
     simp at q1
     subst q1
     rw [Nat.add_zero,hlk] at q2
     injection q2 with q2
     subst q2
     rw [hl] at q3
     injection q3 with q3
     subst q3
     rw [hon] at q4
     injection q4 with q4
     injection q4 with _ q4
     injection q4 with q4
     exact q4.symm
    have hnn:nodupB (n :: os0)=true→n ∉ os0:=fun hnd hm=>by
     simp only [nodupB,Bool.and_eq_true] at hnd
     have:=List.all_eq_true.1 hnd.1 n hm
     simp at this
    refine ⟨by simp [h1],fun i x hx=>?_,fun hnd i i' n' q q'=>?_,fun n' hn=>?_,fun i n' q=>?_⟩
    ·cases i with
     | zero=>
      simp at hx
      subst hx
      exact ⟨l,_,hl,rfl,.inr ⟨e,some n,hlk,hon,fun m hm=>by injection hm with hm;exact hm ▸ List.mem_cons_self⟩⟩
     | succ i=>
      obtain ⟨l',cd',q1,q2,q3⟩:=h2' _ _ (fun y hy=>hy) (fun y hy=>List.mem_cons_of_mem _ hy) i x (by simpa using hx)
      exact ⟨l',cd',q1,by simpa using q2,q3⟩
    ·have hnd':nodupB os0=true:=by simp only [nodupB,Bool.and_eq_true] at hnd;exact hnd.2
     cases i with
     | zero=>cases i' with
      | zero=>rfl
      | succ i'=>
       have:=h0 _ q
       subst this
       exact (hnn hnd (h5 _ _ (hdn _ _ q'))).elim
     | succ i=>cases i' with
      | zero=>
       have:=h0 _ q'
       subst this
       exact (hnn hnd (h5 _ _ (hdn _ _ q))).elim
      | succ i'=>rw [h3 hnd' i i' n' (hdn _ _ q) (hdn _ _ q')]
    ·rcases List.mem_cons.1 hn with rfl | hn
     ·exact ⟨0,(i0,z0),e,l,cd,rfl,hlk,hl,hon⟩
     ·obtain ⟨i,q⟩:=h4 n' hn
      exact ⟨i + 1,hup _ _ q⟩
    ·cases i with
     | zero=>rw [h0 _ q];exact List.mem_cons_self
     | succ i=>exact List.mem_cons_of_mem _ (h5 i n' (hdn _ _ q))
   ·rename_i cd hon
    simp only [Option.some.injEq,Prod.mk.injEq] at h
    obtain ⟨rfl,rfl,rfl⟩:=h
    have hno:∀ n,¬ OwnIx st cells ow j ((i0,z0) :: da) 0 n:=fun n ⟨x,e',l',cd',q1,q2,q3,q4⟩=>by
     simp at q1
     subst q1
     rw [Nat.add_zero,hlk] at q2
     injection q2 with q2
     subst q2
     rw [hl] at q3
     injection q3 with q3
     subst q3
     rw [hon] at q4
     injection q4 with q4
     injection q4 with _ q4
     cases q4
    refine ⟨by simp [h1],fun i x hx=>?_,fun hnd i i' n q q'=>?_,fun n hn=>?_,fun i n q=>?_⟩
    ·cases i with
     | zero=>
      simp at hx
      subst hx
      exact ⟨l,_,hl,rfl,.inr ⟨e,none,hlk,hon,fun m hm=>by cases hm⟩⟩
     | succ i=>
      obtain ⟨l',cd',q1,q2,q3⟩:=h2' _ _ (fun y hy=>hy) (fun y hy=>hy) i x (by simpa using hx)
      exact ⟨l',cd',q1,by simpa using q2,q3⟩
    ·cases i with
     | zero=>exact (hno _ q).elim
     | succ i=>cases i' with
      | zero=>exact (hno _ q').elim
      | succ i'=>rw [h3 hnd i i' n (hdn _ _ q) (hdn _ _ q')]
    ·obtain ⟨i,q⟩:=h4 n hn
     exact ⟨i + 1,hup _ _ q⟩
    ·cases i with
     | zero=>exact (hno _ q).elim
     | succ i=>exact h5 i n (hdn _ _ q)
   ·cases h
theorem newFs_mem {nv nd:Nat} {ow:List (Nat × TypeId)}:∀ {fs:List (Nat × Nat)} {j:Nat} {f:Fc},f ∈ newFs nv nd ow j fs→∃ (i:Nat) (x:Nat × Nat),fs[i]?=some x∧f=⟨nv + x.1,nd + (j + i),ownT ow (j + i) x.2⟩
 | [],j,f,h=>by cases h
 | (i,z) :: fs,j,f,h=>by
  simp only [newFs] at h
  rcases List.mem_cons.1 h with rfl | h
  ·exact ⟨0,(i,z),rfl,rfl⟩
  ·obtain ⟨i,x,h1,h2⟩:=newFs_mem h
   refine ⟨i + 1,x,by simpa using h1,?_⟩
   rw [h2,show j + 1 + i=j + (i + 1) by omega]
theorem shift_den {pre vs:List Value} {blks:List Nat}:∀ {l:L} {v:Value},l.den vs []=some v→(l.shift pre.length).den (pre ++ vs) blks=some v
 | .v n,v,h=>by
  simp only [L.den,L.shift] at h ⊢
  rw [List.getElem?_append_right (by omega),← h]
  congr 1
  omega
 | .c x,v,h=>h
 | .p b off,v,h=>by simp [L.den] at h
 | .s b off,v,h=>by simp [L.den] at h
theorem shift_dens {pre vs:List Value} {blks:List Nat}:∀ {ls:List L} {us:List Value},dens vs [] ls=some us→dens (pre ++ vs) blks (ls.map (L.shift pre.length))=some us
 | [],us,h=>h
 | l :: ls,us,h=>by
  simp only [dens,List.map_cons] at h ⊢
  split at h
  case h_2=>cases h
  rename_i v us' h1 h2
  rw [shift_den h1,shift_dens h2]
  exact h
theorem shift_den2 {pre vs:List Value} {blks:List Nat} {t:T2} {v:Value} (h:t.den vs []=some v):(t.shift pre.length).den (pre ++ vs) blks=some v:=by
 cases t with
 | one l=>exact shift_den h
 | agg ls=>
  simp only [T2.den,T2.shift] at h ⊢
  split at h
  case h_2=>cases h
  rename_i us hus
  rw [shift_dens hus]
  exact h
theorem shift_dens2 {pre vs:List Value} {blks:List Nat}:∀ {ls:List T2} {us:List Value},dens2 vs [] ls=some us→dens2 (pre ++ vs) blks (ls.map (T2.shift pre.length))=some us
 | [],us,h=>h
 | l :: ls,us,h=>by
  simp only [dens2,List.map_cons] at h ⊢
  split at h
  case h_2=>cases h
  rename_i v us' h1 h2
  rw [shift_den2 h1,shift_dens2 h2]
  exact h
theorem shift_denS {pre vs:List Value} {blks:List Nat} {t:SV} {v:Value} (h:t.den vs []=some v):(t.shift pre.length).den (pre ++ vs) blks=some v:=by
 cases t with
 | el t=>exact shift_den2 h
 | tup ls=>
  simp only [SV.den,SV.shift] at h ⊢
  split at h
  case h_2=>cases h
  rename_i us hus
  rw [shift_dens2 hus]
  exact h
theorem own_le {E E':Env S} (hl:Le E E') {f:Fc} (hf:∃ v,E.vals[f.l]?=some v) {k:Nat} (h:ownAt E' f k):ownAt E f k:=by
 obtain ⟨ho,v,hv,hvk⟩:=h
 obtain ⟨u,hu⟩:=hf
 have:=hl.v _ _ hu
 rw [hv] at this
 injection this with this
 subst this
 exact ⟨ho,v,hu,hvk⟩
theorem Mm.fv (h:Mm C E st w) {f:Fc} (hf:f ∈ st.fs):∃ v,E.vals[f.l]?=some v:=by
 obtain ⟨v,_,h1,_⟩:=h.fs f hf
 exact ⟨v,h1⟩
def Align (E:Env S) (st:St):List (Nat × TypeId × Nat)→List (Nat × Bk)→List Nat→Prop
 | [],[],[]=>True
 | (i,t,n) :: pt,(i',B) :: bs,g :: bl=>(i=i'∧B.t=t∧B.cs.length=n∧B ∈ st.mem∧E.blks[B.b]?=some g)∧Align E st pt bs bl
 | _,_,_=>False
theorem Align.mem:∀ {pt:List (Nat × TypeId × Nat)} {bs:List (Nat × Bk)} {bl:List Nat},Align E st pt bs bl→∀ g,g ∈ bl ↔ ∃ x ∈ bs,E.blks[x.2.b]?=some g
 | [],[],[],_,g=>by simp
 | [],[],_ :: _,h,_=>h.elim
 | [],_ :: _,_,h,_=>h.elim
 | _ :: _,[],_,h,_=>h.elim
 | _ :: _,_ :: _,[],h,_=>h.elim
 | (i,t,n) :: pt,(i',B) :: bs,g0 :: bl,h,g=>by
  obtain ⟨⟨_,_,_,_,h2⟩,h3⟩:=h
  have ih:=Align.mem h3 g
  constructor
  ·intro hm
   rcases List.mem_cons.1 hm with rfl | hm
   ·exact ⟨(i',B),List.mem_cons_self,h2⟩
   ·obtain ⟨x,h4,h5⟩:=ih.1 hm
    exact ⟨x,List.mem_cons_of_mem _ h4,h5⟩
  ·rintro ⟨x,h4,h5⟩
   rcases List.mem_cons.1 h4 with rfl | h4
   ·rw [h2] at h5
    injection h5 with h5
    exact h5 ▸ List.mem_cons_self
   ·exact List.mem_cons_of_mem _ (ih.2 ⟨x,h4,h5⟩)
theorem putIo_ok {m:List Bk} {w':World}:∀ {pt:List (Nat × TypeId × Nat)} {bs:List (Nat × Bk)} {bl:List Nat} {vs:List Value} {base:Nat},Align E st pt bs bl→IoOut w' pt bl vs→∀ A ∈ putIo base bs m,(A ∈ m∧∀ x ∈ bs,x.2.b ≠ A.b) ∨
   ∃ x g off,∃ A0 ∈ m,x ∈ bs∧x.2 ∈ st.mem∧x.2.b=A.b∧A0.b=A.b∧A0.t=A.t∧E.blks[A.b]?=some g∧A.cs=vsFrom (base + off) x.2.cs.length∧BlkIs w' g x.2.t ((vs.drop off).take x.2.cs.length).toArray∧off + x.2.cs.length≤ioN pt
 | [],[],[],vs,base,_,_,A,hA=>.inl ⟨hA,fun x hx=>by cases hx⟩
 | [],[],_ :: _,_,_,h,_,_,_=>h.elim
 | [],_ :: _,_,_,_,h,_,_,_=>h.elim
 | _ :: _,[],_,_,_,h,_,_,_=>h.elim
 | _ :: _,_ :: _,[],_,_,h,_,_,_=>h.elim
 | (i,t,n) :: pt,(i',B) :: bs,g :: bl,vs,base,h,ho,A,hA=>by
  obtain ⟨⟨_,h1,h2,h3,h4⟩,h5⟩:=h
  obtain ⟨ho1,ho2⟩:=ho
  simp only [putIo] at hA
  obtain ⟨A1,hA1,rfl⟩:=List.mem_map.1 hA
  have ih:=putIo_ok (base:=base + B.cs.length) h5 ho2 A1 hA1
  cases he:Nat.beq A1.b B.b
  ·have hne:B.b ≠ A1.b:=fun e=>by rw [e] at he;simp at he
   rcases ih with ⟨i1,i2⟩ | ⟨x,g',off,A0,i1,i2,i3,i4,i5,i6,i7,i8,i9,i10⟩
   ·refine .inl ⟨i1,fun x hx=>?_⟩
    rcases List.mem_cons.1 hx with rfl | hx
    ·exact hne
    ·exact i2 x hx
   ·refine .inr ⟨x,g',n + off,A0,i1,List.mem_cons_of_mem _ i2,i3,i4,i5,i6,i7,?_,?_,?_⟩
    ·show A1.cs=_
     rw [i8]
     congr 1
     omega
    ·rw [List.drop_drop] at i9
     exact i9
    ·simp only [ioN]
     omega
  ·have he:A1.b=B.b:=by simpa using he
   obtain ⟨A0,j1,j2,j3⟩:∃ A0 ∈ m,A0.b=A1.b∧A0.t=A1.t:=by
    rcases ih with ⟨i1,_⟩ | ⟨_,_,_,A0,i1,_,_,_,i5,i6,_⟩
    ·exact ⟨A1,i1,rfl,rfl⟩
    ·exact ⟨A0,i1,i5,i6⟩
   refine .inr ⟨(i',B),g,0,A0,j1,List.mem_cons_self,h3,he.symm,j2,j3,by rw [← h4,← he],rfl,?_,?_⟩
   ·rw [List.drop_zero]
    show BlkIs w' g B.t (vs.take B.cs.length).toArray
    rw [h1,h2]
    exact ho1
   ·simp only [ioN]
    omega
theorem BlkIs.same {w:World} {g:Nat} {t t':TypeId} {cs cs':Array Value} (h:BlkIs w g t cs) (h':BlkIs w g t' cs'):t=t'∧cs=cs':=by
 have:some (Obj.cells cs t (0,0))=some (.cells cs' t' (0,0)):=h.symm.trans h'
 injection this with this
 injection this with a b
 exact ⟨b,a⟩
theorem Mm.call (h:Mm C E st w) {mn:List (L × CD)} {os:List Nat} {sh:Shp} {w':World} {vs:List Value} {ds:List D} {σ:S} {bs:List (Nat × Bk)} {bl:List Nat} {X X':Nat→Prop} (hv:vs.length=sh.nv) (hd:ds.length=sh.fs.length) (h1:∀ u ∈ vs,u.oneCell'=true) (hR:R σ w')
  (hal:Align E st sh.pt bs bl) (hn:ioN sh.pt≤sh.nv) (hon:∀ x ∈ mn,∀ n ∈ os,x.1 ≠ L.v n) (hX:∀ k,X k ↔ k ∈ bl ∨ ∃ f ∈ st.fs,f.l ∈ os∧ownAt E f k) (hGx:C.Gx C.G) (hk:KeepX (fun k=>k=C.G ∨ X k) w w') (hio:IoOut w' sh.pt bl (vs.drop (sh.nv - ioN sh.pt)))
  (hX':∀ k,X' k→(X k ∨ w.heap.size≤k)∧k ∉ bl) (hfs:DaOw w' (fun k=>((okE C E (shut mn st.fs) k∧¬ X k) ∨ X k ∨ w.heap.size≤k)∧¬ X' k∧k ∉ bl) X' vs sh.fs sh.fo ds) :
  Mm C { E with vals:=E.vals ++ vs,dats:=E.dats ++ ds,st:=σ } { st with nv:=st.nv + sh.nv,nd:=st.nd + sh.fs.length,fs:=newFs st.nv st.nd sh.fo 0 sh.fs ++ dropFs os (shut mn st.fs),mem:=putIo (st.nv + (sh.nv - ioN sh.pt)) bs st.mem } w':=by
 have hl:Le E { E with vals:=E.vals ++ vs,dats:=E.dats ++ ds,st:=σ }:=⟨fun _ _ h=>app_get h,fun _ _ h=>h,fun _ _ h=>app_get h⟩
 have hblk:∀ g ∈ bl,g ∈ E.blks:=fun g hg=>by
  obtain ⟨x,_,hx⟩:=(hal.mem g).1 hg
  exact List.mem_of_getElem? hx
 have hXb:∀ k,X k→C.nw k∧k<w.heap.size:=fun k hx=>by
  rcases (hX k).1 hx with hx | ⟨f,hf,_,ho⟩
  ·exact h.lt k (hblk k hx)
  ·exact h.own_lt hf ho
 have hnew:∀ k,(X k ∨ w.heap.size≤k)→C.nw k:=fun k hx=>hx.elim (fun hx=>(hXb k hx).1) fun hx=>.inr (Nat.le_trans h.keep.size hx)
 have hoa:∀ f' ∈ newFs st.nv st.nd sh.fo 0 sh.fs ++ dropFs os (shut mn st.fs),∀ k,ownAt { E with vals:=E.vals ++ vs,dats:=E.dats ++ ds,st:=σ } f' k →
   (∃ (j:Nat) (x:Nat × Nat) (v:Value),sh.fs[j]?=some x∧f'=⟨st.nv + x.1,st.nd + (0 + j),ownT sh.fo (0 + j) x.2⟩∧(ownT sh.fo j x.2).isSome=true∧vs[x.1]?=some v∧v.ownBlock=some k∧X' k) ∨ (f' ∈ st.fs∧ownAt E f' k∧f'.l ∉ os∧∀ x ∈ mn,x.1 ≠ L.v f'.l):=fun f' hf' k ho=>by
  rcases List.mem_append.1 hf' with hf' | hf'
  ·obtain ⟨j,x,hx,rfl⟩:=newFs_mem hf'
   obtain ⟨h2,v,h3,h4⟩:=ho
   have hjl:j<ds.length:=by
    rw [hd]
    exact (List.getElem?_eq_some_iff.1 hx).1
   obtain ⟨v',h5,h6⟩:=hfs.2.1 j x ds[j] hx (List.getElem?_eq_getElem hjl)
   have h3:(E.vals ++ vs)[st.nv + x.1]?=some v:=h3
   rw [← h.nv,List.getElem?_append_right (by omega),show E.vals.length + x.1 - E.vals.length=x.1 by omega,h5] at h3
   injection h3 with h3
   subst h3
   have h2:(ownT sh.fo (0 + j) x.2).isSome=true:=h2
   rw [Nat.zero_add] at h2
   obtain ⟨⟨e,z⟩,he⟩:=Option.isSome_iff_exists.1 h2
   rw [he] at h6
   obtain ⟨_,_,_,h7⟩:=h6
   exact .inl ⟨j,x,v',hx,rfl,h2,h5,h4,h7 k h4⟩
  ·obtain ⟨h2,h3⟩:=dropFs_mem hf'
   obtain ⟨h4,h5⟩:=shut_own h2 ho
   exact .inr ⟨h4,own_le hl (h.fv h4) ho,h3,h5⟩
 have hnX:∀ f ∈ st.fs,f.l ∉ os→∀ k,ownAt E f k→¬ X k:=fun f hf hos k ho hx=>by
  rcases (hX k).1 hx with hx | ⟨f2,hf2,ho2,ho3⟩
  ·exact h.own f hf k ho (hblk k hx)
  ·exact hos ((h.ownd f hf f2 hf2 k ho ho3) ▸ ho2)
 have hshl:∀ f ∈ st.fs,(∀ x ∈ mn,x.1 ≠ L.v f.l)→f ∈ shut mn st.fs:=fun f' i1 i3=>by
  unfold shut
  refine List.mem_map.2 ⟨f',i1,?_⟩
  split
  ·rename_i hany
   obtain ⟨x,hx1,hx2⟩:=List.any_eq_true.1 hany
   split at hx2
   ·rename_i n hn
    have:n=f'.l:=by simpa using hx2
    exact absurd (by rw [hn,this]) (i3 x hx1)
   ·cases hx2
  ·rfl
 have hokX:∀ k,okE C E (shut mn st.fs) k→¬ X k:=fun k hk2 hx=>by
  rcases (hX k).1 hx with hx | ⟨f2,hf2,ho2,ho3⟩
  ·exact hk2.2.1 (hblk k hx)
  ·exact hk2.2.2 f2 (hshl f2 hf2 fun x hx e=>hon x hx f2.l ho2 e) ho3
 have hok:∀ k,okE C E (shut mn st.fs) k→k<w.heap.size→okE C { E with vals:=E.vals ++ vs,dats:=E.dats ++ ds,st:=σ } (newFs st.nv st.nd sh.fo 0 sh.fs ++ dropFs os (shut mn st.fs)) k:=fun k hk2 hlt=>by
  refine ⟨hk2.1,hk2.2.1,fun f' hf' ho=>?_⟩
  rcases hoa f' hf' k ho with ⟨_,_,_,_,_,_,_,_,i1⟩ | ⟨i1,i2,_,i3⟩
  ·rcases (hX' k i1).1 with hx | hx
   ·exact hokX k hk2 hx
   ·omega
  ·exact hk2.2.2 f' (hshl f' i1 i3) i2
 have hGk:∀ k,okE C E (shut mn st.fs) k→k<w.heap.size→w'.heap[k]?=w.heap[k]?:=fun k hk2 hlt=>hk.block k (fun hx=>by
  rcases hx with hx | hx
  ·have:=C.hg k hk2.1
   omega
  ·exact hokX k hk2 hx) hlt
 have hown:∀ f ∈ st.fs,f.l ∉ os→∀ k,ownAt E f k→w'.heap[k]?=w.heap[k]?:=fun f hf hos k ho=>hk.block k (fun hx=>by
  rcases hx with hx | hx
  ·have:=C.nw_lt (h.own_lt hf ho).1
   omega
  ·exact hnX f hf hos k ho hx) (h.own_lt hf ho).2
 have hokn:∀ k,(((okE C E (shut mn st.fs) k∧¬ X k) ∨ X k ∨ w.heap.size≤k)∧¬ X' k∧k ∉ bl)→okE C { E with vals:=E.vals ++ vs,dats:=E.dats ++ ds,st:=σ } (newFs st.nv st.nd sh.fo 0 sh.fs ++ dropFs os (shut mn st.fs)) k:=fun k ⟨hk1,hk2,hk3⟩=>by
  refine ⟨hk1.elim (fun hk1=>hk1.1.1) fun hk1=>C.hb k (hnew k hk1),fun hm=>?_,fun f' hf' ho=>?_⟩
  ·have hm:k ∈ E.blks:=hm
   rcases hk1 with hk1 | hk1 | hk1
   ·exact hk1.1.2.1 hm
   ·rcases (hX k).1 hk1 with hx | ⟨f,hf,_,ho⟩
    ·exact hk3 hx
    ·exact h.own f hf k ho hm
   ·have:=(h.lt k hm).2
    omega
  ·rcases hoa f' hf' k ho with ⟨_,_,_,_,_,_,_,_,i1⟩ | ⟨i1,i2,i4,i3⟩
   ·exact hk2 i1
   ·rcases hk1 with hk1 | hk1 | hk1
    ·exact hk1.1.2.2 f' (hshl f' i1 i3) i2
    ·exact hnX f' i1 i4 k i2 hk1
    ·have:=(h.own_lt i1 i2).2
     omega
 refine ⟨by simp [h.nv,hv],h.nb,by simp [h.nd,hd],fun v hv=>(List.mem_append.1 hv).elim (h.one v) (h1 v),h.dis,fun g hg=>⟨(h.lt g hg).1,Nat.lt_of_lt_of_le (h.lt g hg).2 hk.size⟩,fun B hB=>?_,fun f' hf'=>?_,fun f' hf' k ho hm=>?_,fun f' hf' f2 hf2 k ho ho2=>?_,hR,?_,fun x hx=>hl.v _ _ (h.kn x hx),h.io⟩
 ·rcases putIo_ok hal hio B hB with ⟨i1,i2⟩ | ⟨x,g,off,A0,i1,i2,i3,i4,i5,i6,i7,i8,i9,i10⟩
  ·obtain ⟨g,cs,h2,h3,h4,h5⟩:=h.mem B i1
   have hgm:=List.mem_of_getElem? h2
   refine ⟨g,cs,h2,dens_le hl h3,(hk.block g (fun hx=>?_) h4.lt).trans h4,h5⟩
   rcases hx with hx | hx
   ·have:=C.nw_lt (h.lt g hgm).1
    omega
   ·rcases (hX g).1 hx with hx | ⟨f,hf,_,ho⟩
    ·obtain ⟨x,hx1,hx2⟩:=(hal.mem g).1 hx
     obtain ⟨q1,e1⟩:=List.getElem?_eq_some_iff.1 h2
     obtain ⟨q2,e2⟩:=List.getElem?_eq_some_iff.1 hx2
     exact i2 x hx1 ((List.getElem_inj h.dis).1 (e2.trans e1.symm))
    ·exact h.own f hf g ho hgm
  ·obtain ⟨g0,cs0,j1,_,j2,_⟩:=h.mem A0 i1
   obtain ⟨g1,cs1,k1,_,k2,_⟩:=h.mem x.2 i3
   rw [i5,i7] at j1
   rw [i4,i7] at k1
   injection j1 with j1
   injection k1 with k1
   subst j1 k1
   have et:=(BlkIs.same j2 k2).1
   have hlen:((vs.drop (sh.nv - ioN sh.pt)).drop off).length ≥ x.2.cs.length:=by simp;omega
   refine ⟨g,((vs.drop (sh.nv - ioN sh.pt)).drop off).take x.2.cs.length,i7,?_,by rw [← i6,et];exact i9,fun u hu=>h1 u (List.mem_of_mem_drop (List.mem_of_mem_drop (List.mem_of_mem_take hu)))⟩
   rw [i8]
   refine dens_vs _ _ _ (fun i hi=>?_) (by rw [List.length_take];omega)
   show (E.vals ++ vs)[st.nv + (sh.nv - ioN sh.pt) + off + i]?=_
   rw [← h.nv,List.getElem?_append_right (by omega),List.getElem?_take_of_lt hi,List.getElem?_drop,List.getElem?_drop]
   congr 1
   omega
 ·rcases List.mem_append.1 hf' with hf' | hf'
  ·obtain ⟨j,x,hx,rfl⟩:=newFs_mem hf'
   have hjl:j<ds.length:=by
    rw [hd]
    exact (List.getElem?_eq_some_iff.1 hx).1
   obtain ⟨v,h2,h4⟩:=hfs.2.1 j x ds[j] hx (List.getElem?_eq_getElem hjl)
   have h3:ds[j]?=some ds[j]:=List.getElem?_eq_getElem hjl
   obtain ⟨d,hdj⟩:∃ d,ds[j]=d:=⟨_,rfl⟩
   rw [hdj] at h3 h4
   refine ⟨v,d,?_,?_,?_⟩
   ·show (E.vals ++ vs)[st.nv + x.1]?=some v
    rw [← h.nv,List.getElem?_append_right (by omega),← h2]
    congr 1
    omega
   ·show (E.dats ++ ds)[st.nd + (0 + j)]?=some d
    rw [← h.nd,List.getElem?_append_right (by omega),← h3]
    congr 1
    omega
   ·simp only [Nat.zero_add]
    cases ho:ownT sh.fo j x.2 with
    | none=>
     rw [ho] at h4
     exact h4.imp fun k hk2 _=>by
      have:=hokn k hk2
      simpa only [Nat.zero_add] using this
    | some ez=>
     obtain ⟨e,z⟩:=ez
     rw [ho] at h4
     obtain ⟨l,i1,i2,i3⟩:=h4
     exact ⟨l,i1,i2.imp fun k hk2 _=>by
      have:=hokn k hk2
      simpa only [Nat.zero_add] using this,fun k hk2=>hnew k (hX' k (i3 k hk2)).1⟩
  ·obtain ⟨hf2,hos⟩:=dropFs_mem hf'
   obtain ⟨f,hf,e1,_,h2 | h2⟩:=shut_mem hf2
   ·rw [h2.2]
    obtain ⟨x,hx1,hx2⟩:=h2.1.2
    have hsh:=(h.fs f hf).shut (fs':=shut mn st.fs) (fun k hk=>okE_shut hk) (fun k hko=>h.own_ok hf hx1 hx2 hko)
    exact hsh.keep hl (fun k hk2 hlt=>hok k hk2 hlt) (fun k hk2 hlt=>hGk k hk2 hlt) (fun k hko=>by cases hko.1)
   ·rw [h2.1]
    rw [h2.1] at hos
    exact (h.fs f hf).keep hl (fun k hk2 hlt=>hok k (okE_shut hk2) hlt) (fun k hk2 hlt=>hGk k (okE_shut hk2) hlt) (fun k hko=>hown f hf hos k hko)
 ·have hm:k ∈ E.blks:=hm
  rcases hoa f' hf' k ho with ⟨_,_,_,_,_,_,_,_,i1⟩ | ⟨i1,i2,_⟩
  ·obtain ⟨i2,i3⟩:=hX' k i1
   rcases i2 with i2 | i2
   ·rcases (hX k).1 i2 with hx | ⟨f,hf,_,ho⟩
    ·exact i3 hx
    ·exact h.own f hf k ho hm
   ·have:=(h.lt k hm).2
    omega
  ·exact h.own f' i1 k i2 hm
 ·have hmix:∀ f ∈ st.fs,f.l ∉ os→ownAt E f k→X' k→False:=fun f hf hos ho hx=>by
   rcases (hX' k hx).1 with hx | hx
   ·exact hnX f hf hos k ho hx
   ·have:=(h.own_lt hf ho).2
    omega
  rcases hoa f' hf' k ho with ⟨j,x,v,i1,rfl,i2,i3,i4,i5⟩ | ⟨i1,i2,i3,_⟩
  ·rcases hoa f2 hf2 k ho2 with ⟨j',x',v',j1,rfl,j2,j3,j4,j5⟩ | ⟨j1,j2,j3,_⟩
   ·have e:=hfs.2.2 j j' x x' v v' k i1 j1 i2 j2 i3 j3 i4 j4
    subst e
    rw [i1] at j1
    injection j1 with j1
    rw [j1]
   ·exact (hmix f2 j1 j3 j2 i5).elim
  ·rcases hoa f2 hf2 k ho2 with ⟨j',x',v',j1,rfl,j2,j3,j4,j5⟩ | ⟨j1,j2,j3,_⟩
   ·exact (hmix f' i1 i3 i2 j5).elim
   ·exact h.ownd f' i1 f2 j1 k i2 j2
 ·refine ⟨hk.os.trans h.keep.os,hk.tape.trans h.keep.tape,hk.output.trans h.keep.output,Nat.le_trans h.keep.size hk.size,fun k hk2 hlt=>(hk.block k (fun hx=>?_) (Nat.lt_of_lt_of_le hlt h.keep.size)).trans (h.keep.block k hk2 hlt)⟩
  rcases hx with hx | hx
  ·exact hk2 (.inl (hx ▸ hGx))
  ·rcases (hXb k hx).1 with hx | hx
   ·exact hk2 (.inr hx)
   ·omega
theorem setP_length {bs:List (Nat × Bk)} {ts:List T2}:(setP bs ts).length=ts.length:=by
 induction bs with
 | nil=>rfl
 | cons x bs ih=>obtain ⟨i,B⟩:=x;simp only [setP,List.length_set,ih]
theorem ptrB_spec (h:Mm C E st w) {ts:List T2} {args:List Value} (hA:Al E ts args):∀ {pt:List (Nat × TypeId × Nat)} {bs:List (Nat × Bk)},ptrB st ts pt=some bs→∃ (bl:List Nat) (largs:List Value),Align E st pt bs bl∧Al E (setP bs ts) largs∧∀ X:Nat→Prop,(∀ g ∈ bl,X g)→IoIn w X pt bl args largs
 | [],bs,hp=>by
  simp only [ptrB,Option.some.injEq] at hp
  subst hp
  exact ⟨[],args,trivial,hA,fun X _=>rfl⟩
 | (i,t,n) :: pt,bs,hp=>by
  simp only [ptrB] at hp
  split at hp
  case h_2=>cases hp
  rename_i b m hi hm
  split at hp
  case h_2=>cases hp
  rename_i B hB
  split at hp
  case h_2=>cases hp
  rename_i hc
  injection hp with hp
  subst hp
  simp only [Bool.and_eq_true,Nat.beq_eq] at hc
  obtain ⟨bl,mid,h1,h2,h3⟩:=ptrB_spec h hA hm
  obtain ⟨hBm,rfl⟩:=memOf_spec hB
  obtain ⟨g,cs,h4,h5,h6,h7⟩:=h.mem B hBm
  obtain ⟨v,h8,h9⟩:=hA.get i _ hi
  simp only [T2.den,L.den,h4,Option.some.injEq] at h9
  subst h9
  have hlen:mid.length=ts.length:=by rw [← h2.den.2.2.2,setP_length]
  refine ⟨g :: bl,mid.set i (.agg cs.toArray),⟨⟨rfl,hc.1,hc.2,hBm,h4⟩,h1⟩,?_,fun X hX=>?_⟩
  ·refine h2.set i ?_ h5 (fun u hu=>h7 u (by simpa [Value.cells] using hu))
   simp only [T2.den,h5]
  ·refine ⟨hX g List.mem_cons_self,h8,cs,by rw [dens_length h5];exact hc.2,by rw [← hc.1];exact h6,mid,h3 X fun g hg=>hX g (List.mem_cons_of_mem _ hg),?_,rfl⟩
   rw [hlen]
   exact (List.getElem?_eq_some_iff.1 hi).1
theorem nodupB_spec:∀ {l:List Nat},nodupB l=true→l.Nodup
 | [],_=>List.nodup_nil
 | a :: l,h=>by
  simp only [nodupB,Bool.and_eq_true] at h
  refine List.nodup_cons.2 ⟨fun hm=>?_,nodupB_spec h.2⟩
  have:=List.all_eq_true.1 h.1 a hm
  simp at this
theorem Align.nodup (hd:E.blks.Nodup):∀ {pt:List (Nat × TypeId × Nat)} {bs:List (Nat × Bk)} {bl:List Nat},Align E st pt bs bl→(bs.map fun x=>x.2.b).Nodup→bl.Nodup
 | [],[],[],_,_=>List.nodup_nil
 | [],[],_ :: _,h,_=>h.elim
 | [],_ :: _,_,h,_=>h.elim
 | _ :: _,[],_,h,_=>h.elim
 | _ :: _,_ :: _,[],h,_=>h.elim
 | (i,t,n) :: pt,(i',B) :: bs,g :: bl,h,hn=>by
  obtain ⟨⟨_,_,_,_,h2⟩,h3⟩:=h
  simp only [List.map_cons] at hn
  obtain ⟨h4,h5⟩:=List.nodup_cons.1 hn
  refine List.nodup_cons.2 ⟨fun hm=>?_,Align.nodup hd h3 h5⟩
  obtain ⟨x,hx,h6⟩:=(h3.mem g).1 hm
  obtain ⟨q1,e1⟩:=List.getElem?_eq_some_iff.1 h2
  obtain ⟨q2,e2⟩:=List.getElem?_eq_some_iff.1 h6
  exact h4 (List.mem_map.2 ⟨x,hx,(List.getElem_inj hd).1 (e2.trans e1.symm)⟩)
theorem Mm.daOw (h:Mm C E st w) {cells:List L} {vs:List Value} (hcs:dens E.vals E.blks cells=some vs) {ow:List (Nat × TypeId)} {da:List (Nat × Nat)} {ls mn:List (L × CD)} {os:List Nat} (hd:Sx.daOw st cells ow 0 da=some (ls,mn,os)) (ho:onceO mn os=true) {dd:List D} (hdd:ldens E ls=some dd)
  {bl:List Nat} (hbl:∀ g ∈ bl,g ∈ E.blks):(∀ x ∈ mn,∀ n ∈ os,x.1 ≠ L.v n)∧DaOw w (fun k=>okE C E (shut mn st.fs) k∧¬ (k ∈ bl ∨ ∃ f ∈ st.fs,f.l ∈ os∧ownAt E f k)) (fun k=>(k ∈ bl ∨ ∃ f ∈ st.fs,f.l ∈ os∧ownAt E f k)∧k ∉ bl) vs da ow dd:=by
 simp only [onceO,Bool.and_eq_true] at ho
 obtain ⟨ho1,ho2⟩:=ho
 have hon:∀ x ∈ mn,∀ n ∈ os,x.1 ≠ L.v n:=fun x hx n hn e=>by
  have:=List.all_eq_true.1 ho2 x hx
  rw [e] at this
  have:=List.all_eq_true.1 this n hn
  simp at this
 obtain ⟨s1,s2,s3,s4,s5⟩:=daOw_spec hd
 obtain ⟨l1,l2⟩:=ldens_get hdd
 have hnot:∀ k,okE C E (shut mn st.fs) k→¬ (k ∈ bl ∨ ∃ f ∈ st.fs,f.l ∈ os∧ownAt E f k):=fun k hk hx=>by
  rcases hx with hx | ⟨f,hf,hfo,ho⟩
  ·exact hk.2.1 (hbl k hx)
  ·refine hk.2.2 f ?_ ho
   unfold shut
   refine List.mem_map.2 ⟨f,hf,?_⟩
   split
   ·rename_i hany
    obtain ⟨x,hx1,hx2⟩:=List.any_eq_true.1 hany
    split at hx2
    ·rename_i n hn
     have:n=f.l:=by simpa using hx2
     exact absurd (by rw [hn,this]) (hon x hx1 f.l hfo)
    ·cases hx2
   ·rfl
 refine ⟨hon,by omega,fun j x d hj hdj=>?_,fun j j' x x' v v' k hj hj' h1 h2 hv hv' hk hk'=>?_⟩
 ·obtain ⟨l,cd,h2,h3,h4⟩:=s2 j x hj
  obtain ⟨v,h5,h6⟩:=l2 j _ d h3 hdj
  obtain ⟨q,h7,h8⟩:=dens_get hcs x.1 l h2
  rw [h8] at h5
  injection h5 with h5
  subst h5
  rw [Nat.zero_add] at h4
  refine ⟨q,h7,?_⟩
  rcases h4 with ⟨h4,h9,h10⟩ | ⟨e,n,h4,h9,h10⟩
  ·simp only [ownT,h4]
   subst h9
   exact (h.rep_cd h10 h8 h6).imp fun k hk _=>⟨hk,hnot k hk⟩
  ·simp only [ownT,h4]
   rcases ownOf_spec h9 with ⟨rfl,rfl,rfl⟩ | ⟨m,f,rfl,rfl,hf,hfl,rfl,hfo⟩
   ·simp only [L.den,Option.some.injEq] at h8
    subst h8
    simp only [CD.den,Option.some.injEq] at h6
    exact ⟨[],h6.symm,Own.nil _ _ _ _ _,fun k hk=>by cases hk⟩
   ·obtain ⟨v0,d0,g1,g2,g3⟩:=h.fs f hf
    rw [hfo] at g3
    obtain ⟨l,g4,g5,_⟩:=g3
    have h8:E.vals[m]?=some q:=h8
    rw [← hfl,g1] at h8
    injection h8 with h8
    subst h8
    have h6:E.dats[f.d]?=some d:=h6
    rw [g2] at h6
    injection h6 with h6
    subst h6
    have hoa:∀ k,v0.ownBlock=some k→ownAt E f k:=fun k hk=>⟨by rw [hfo];rfl,v0,g1,hk⟩
    refine ⟨l,g4,g5.imp fun k hk _=>⟨okE_shut hk,fun hx=>?_⟩,fun k hk=>⟨.inr ⟨f,hf,by rw [hfl];exact h10 m rfl,hoa k hk⟩,fun hm=>h.own f hf k (hoa k hk) (hbl k hm)⟩⟩
    rcases hx with hx | ⟨f2,hf2,_,ho⟩
    ·exact hk.2.1 (hbl k hx)
    ·exact hk.2.2 f2 hf2 ho
 ·
  have key:∀ (j:Nat) (x:Nat × Nat) (v:Value),da[j]?=some x→(ownT ow j x.2).isSome=true→vs[x.1]?=some v→v.ownBlock=some k→∃ f ∈ st.fs,ownAt E f k∧OwnIx st cells ow 0 da j f.l:=fun j x v hj h1 hv hk=>by
   obtain ⟨l,cd,g2,g3,g4⟩:=s2 j x hj
   obtain ⟨q,g7,g8⟩:=dens_get hcs x.1 l g2
   rw [hv] at g7
   injection g7 with g7
   subst g7
   rw [Nat.zero_add] at g4
   rcases g4 with ⟨g4,_⟩ | ⟨e,n,g4,g9,g10⟩
   ·rw [ownT,g4] at h1
    cases h1
   ·rcases ownOf_spec g9 with ⟨rfl,rfl,rfl⟩ | ⟨m,f,rfl,rfl,hf,hfl,rfl,hfo⟩
    ·simp only [L.den,Option.some.injEq] at g8
     subst g8
     cases hk
    ·have g8:E.vals[m]?=some v:=g8
     refine ⟨f,hf,⟨by rw [hfo];rfl,v,by rw [hfl];exact g8,hk⟩,x,e,_,.dat f.d,hj,by rw [Nat.zero_add];exact g4,g2,?_⟩
     rw [hfl]
     exact g9
  obtain ⟨f,hf,ho,hi⟩:=key j x v hj h1 hv hk
  obtain ⟨f',hf',ho',hi'⟩:=key j' x' v' hj' h2 hv' hk'
  rw [h.ownd f hf f' hf' k ho ho'] at hi
  exact s3 ho1 j j' _ hi hi'
theorem call_ok (T:List (Con P R C.G)) (hT:Tms E st a) (h:Mm C E st w) {v:SV} {c:Call} {f:FuncId} {k:Nat} {args:List T2} {dl:List (L × CD)} (ho:o.op=.call c) (hc:c.callee=.value (.func f)) (hcf:TabOk C cf T)
  (hr:callF P cf st f c.args.toList=some (.nd (.call k args dl) v st')) {K:Act→World→Prop} {Q:Exit→Act→World→Prop} {K2:Env S→Prop} (hw:wpN T (.call k args dl) E K2)
  (hK:∀ E' u w',Le E E'→K2 E'→v.den E'.vals E'.blks=some u→Mm C E' st' w'→K (a.put o.dst u) w'):o.wp P a w K Q:=by
 unfold callF at hr
 split at hr
 case h_2=>cases hr
 rename_i k' sh ts hk hts hcal
 split at hr
 case h_2=>cases hr
 rename_i bs hbs
 split at hr
 case h_2=>cases hr
 rename_i dl' mn os hdl
 split at hr
 case h_2=>cases hr
 rename_i hchk
 simp only [Option.some.injEq,SR.nd.injEq,Nd.call.injEq] at hr
 obtain ⟨⟨rfl,rfl,rfl⟩,rfl,rfl⟩:=hr
 simp only [Bool.and_eq_true,Nat.ble_eq] at hchk
 obtain ⟨⟨hch1,hch2⟩,hch3⟩:=hchk
 have htab:∀ (cs:List (Con P R C.G)) (i n:Nat) (sh:Shp),idxF f i (cs.map fun x=>(x.f,x.sh))=some (n,sh)→∃ x,cs[n - i]?=some x∧i≤n∧x.f=f∧x.sh=sh:=fun cs=>by
  induction cs with
  | nil=>intro i n sh h;cases h
  | cons x cs ih=>
   intro i n sh h
   simp only [List.map_cons,idxF] at h
   split at h
   ·rename_i he
    injection h with h
    injection h with h1 h2
    subst h1
    exact ⟨x,by simp,Nat.le_refl _,by simpa using he,h2⟩
   ·obtain ⟨y,h1,h2,h3,h4⟩:=ih (i + 1) n sh h
    refine ⟨y,?_,by omega,h3,h4⟩
    rw [show n - i=(n - (i + 1)) + 1 by omega]
    simpa using h1
 rw [hcf.1] at hk
 obtain ⟨x,hx,_,rfl,rfl⟩:=htab T 0 k' sh hk
 simp only [Nat.sub_zero] at hx
 simp only [wpN,hx] at hw
 obtain ⟨vs,dd,hvs,hdd,hW⟩:=hw
 have hAl:=evals2_den hT h.one hts
 obtain ⟨bl,largs,b1,b2,b3⟩:=ptrB_spec h hAl hbs
 obtain ⟨e1,e2,e3,_⟩:=b2.den
 rw [e1] at hvs
 injection hvs with hvs
 subst hvs
 have hblk:∀ g ∈ bl,g ∈ E.blks:=fun g hg=>by
  obtain ⟨y,_,hy⟩:=(b1.mem g).1 hg
  exact List.mem_of_getElem? hy
 obtain ⟨hon,hda⟩:=h.daOw e2 hdl hch1 hdd hblk
 have hcall:=x.ok (c.args.toList.map a.eval) largs bl dd E.st w (fun k=>okE C E (shut mn st.fs) k∧¬ (k ∈ bl ∨ ∃ f ∈ st.fs,f.l ∈ os∧ownAt E f k)) (fun k=>k ∈ bl ∨ ∃ f ∈ st.fs,f.l ∈ os∧ownAt E f k) _ h.G h.rs (fun k hk=>⟨C.hg k hk.1.1,hk.2⟩)
  (fun k hk=>by
   rcases hk with hk | ⟨f,hf,_,ho⟩
   ·exact ⟨C.nw_lt (h.lt k (hblk k hk)).1,(h.lt k (hblk k hk)).2⟩
   ·exact ⟨C.nw_lt (h.own_lt hf ho).1,(h.own_lt hf ho).2⟩) (b1.nodup h.dis (nodupB_spec hch2)) (b3 _ fun g hg=>.inl hg) hda e3 hW
 have hargs:(c.args.toList.map a.eval).toArray=c.args.map a.eval:=by
  apply Array.ext'
  simp
 rw [hargs] at hcall
 unfold Oper.wp
 have hrun:(execOp a.eval o).run P w=.ok (.enter x.f (c.args.map a.eval)) w:=by
  unfold execOp
  rw [ho]
  simp only [resolve,hc,Act.eval,Deferred.ofValue,Sem.run_bind,Sem.run_pure,Result.andThen_ok,invoke,Array.append_empty,Array.empty_append]
  exact callable_spec hcal _ w
 rw [hrun]
 simp only [Oper.upon]
 refine hcall.mono fun e w' he=>?_
 obtain ⟨vs',ds',σ',r,X',hK2,hret,rfl,hn1,hn2,h1,hR',hkm,hio,hX',hfs⟩:=he
 have hM:=h.call (sh:=x.sh) hn1 hn2 h1 hR' b1 hch3 hon (fun _=>Iff.rfl) (hcf.2.resolve_left fun e=>by rw [e] at hx;simp at hx) hkm hio hX' hfs
 refine hK { E with vals:=E.vals ++ vs',dats:=E.dats ++ ds',st:=σ' } r w' ⟨fun _ _ h=>app_get h,fun _ _ h=>h,fun _ _ h=>app_get h⟩ hK2 ?_ hM
 have:=shift_denS (pre:=E.vals) (blks:=E.blks) hret
 rw [h.nv] at this
 exact this
end
end Go.Proofs.YtdmacgoeikjdbaaGreatDoor.Sx

/- Symbolic execution: functions. -/
import Derived.Test.YtdmacgoeikjdbaaGreatDoorL13
set_option linter.unusedSimpArgs false
set_option linter.unusedVariables false
namespace Go.Proofs.YtdmacgoeikjdbaaGreatDoor.Sx
open Go.RowKit
section
variable {S:Type} {P:Program} {R:S→World→Prop} {G:Nat} {cf:Cfg}
def ArgsOk:List SA→List Value→Prop
 | [],[]=>True
 | .one :: l,v :: m=>v.oneCell'=true∧ArgsOk l m
 | .agg k :: l,v :: m=>(∃ cs:Array Value,v=.agg cs∧cs.size=k)∧ArgsOk l m
 | .con c :: l,v :: m=>(v=c∧v.oneCell'=true)∧ArgsOk l m
 | .ptr _ k :: l,v :: m=>(∃ cs:Array Value,v=.agg cs∧cs.size=k)∧ArgsOk l m
 | _,_=>False
theorem flat_one {v:Value} (h:v.oneCell'=true) (m:List Value):flat (v :: m)=v :: flat m:=by
 show v.cells.toList ++ flat m=_
 rw [cells_one h]
 rfl
theorem ArgsOk.length:∀ {sa:List SA} {args:List Value},ArgsOk sa args→args.length=sa.length∧(flat args).length=argN sa
 | [],[],_=>⟨rfl,rfl⟩
 | .one :: l,v :: m,h=>by
  obtain ⟨h1,h2⟩:=h
  obtain ⟨i1,i2⟩:=ArgsOk.length h2
  exact ⟨by simp [i1],by rw [flat_one h1,List.length_cons,i2];rfl⟩
 | .con c :: l,v :: m,h=>by
  obtain ⟨⟨_,h1⟩,h2⟩:=h
  obtain ⟨i1,i2⟩:=ArgsOk.length h2
  exact ⟨by simp [i1],by rw [flat_one h1,List.length_cons,i2];rfl⟩
 | .agg k :: l,v :: m,h=>by
  obtain ⟨⟨cs,rfl,h1⟩,h2⟩:=h
  obtain ⟨i1,i2⟩:=ArgsOk.length h2
  refine ⟨by simp [i1],?_⟩
  have e:flat (.agg cs :: m)=cs.toList ++ flat m:=rfl
  rw [e,List.length_append,i2,Array.length_toList,h1]
  simp only [argN]
  omega
 | .ptr _ k :: l,v :: m,h=>by
  obtain ⟨⟨cs,rfl,h1⟩,h2⟩:=h
  obtain ⟨i1,i2⟩:=ArgsOk.length h2
  refine ⟨by simp [i1],?_⟩
  have e:flat (.agg cs :: m)=cs.toList ++ flat m:=rfl
  rw [e,List.length_append,i2,Array.length_toList,h1]
  simp only [argN]
  omega
 | [],_ :: _,h=>h.elim
 | .one :: _,[],h=>h.elim
 | .con _ :: _,[],h=>h.elim
 | .ptr _ _ :: _,[],h=>h.elim
 | .agg _ :: _,[],h=>h.elim
theorem ptOf_ge:∀ {sa:List SA} {i:Nat} {x:Nat × TypeId × Nat},x ∈ ptOf i sa→i≤x.1
 | [],_,_,h=>by cases h
 | .one :: l,i,x,h=>Nat.le_trans (Nat.le_succ i) (ptOf_ge (sa:=l) h)
 | .agg _ :: l,i,x,h=>Nat.le_trans (Nat.le_succ i) (ptOf_ge (sa:=l) h)
 | .con _ :: l,i,x,h=>Nat.le_trans (Nat.le_succ i) (ptOf_ge (sa:=l) h)
 | .ptr t k :: l,i,x,h=>by
  rcases List.mem_cons.1 h with rfl | h
  ·exact Nat.le_refl _
  ·exact Nat.le_trans (Nat.le_succ i) (ptOf_ge (sa:=l) h)
theorem argT_spec {vals:List Value} {blks:List Nat}:∀ {sa:List SA} {args:List Value} {n i q:Nat},ArgsOk sa args→vals.drop n=flat args→∀ t sv,(t,sv) ∈ argT n i q sa →
  ∃ j,t=i + j∧j<sa.length∧((∃ v,args[j]?=some v∧sv.den vals blks=some v∧∀ x ∈ ptOf i sa,x.1 ≠ i + j) ∨ ∃ m ty k,(ptOf i sa)[m]?=some (i + j,ty,k)∧sv=.el (.one (.p (q + m) 0)))
 | [],_,_,_,_,_,_,t,sv,ht=>by cases ht
 | .one :: l,v :: m,n,i,q,h,hd,t,sv,ht=>by
  obtain ⟨h1,h2⟩:=h
  rw [flat_one h1] at hd
  simp only [argT] at ht
  rcases List.mem_cons.1 ht with ht | ht
  ·injection ht with e1 e2
   subst e1 e2
   refine ⟨0,rfl,by simp,.inl ⟨v,rfl,?_,fun x hx=>by have:=ptOf_ge (sa:=l) (i:=_ + 1) hx;omega⟩⟩
   show vals[n]?=some v
   have:(vals.drop n)[0]?=some v:=by rw [hd];rfl
   simpa using this
  ·have hd2:vals.drop (n + 1)=flat m:=by
    rw [← List.drop_drop,hd]
    rfl
   obtain ⟨j,h3,hj,h4⟩:=argT_spec h2 hd2 t sv ht
   refine ⟨j + 1,by omega,by simp;omega,?_⟩
   rw [show i + (j + 1)=i + 1 + j by omega]
   exact h4.imp (fun ⟨u,a,b,c⟩=>⟨u,by simpa using a,b,c⟩) id
 | .con c :: l,v :: m,n,i,q,h,hd,t,sv,ht=>by
  obtain ⟨⟨rfl,h1⟩,h2⟩:=h
  rw [flat_one h1] at hd
  simp only [argT] at ht
  rcases List.mem_cons.1 ht with ht | ht
  ·injection ht with e1 e2
   subst e1 e2
   exact ⟨0,rfl,by simp,.inl ⟨v,rfl,rfl,fun x hx=>by have:=ptOf_ge (sa:=l) (i:=_ + 1) hx;omega⟩⟩
  ·have hd2:vals.drop (n + 1)=flat m:=by
    rw [← List.drop_drop,hd]
    rfl
   obtain ⟨j,h3,hj,h4⟩:=argT_spec h2 hd2 t sv ht
   refine ⟨j + 1,by omega,by simp;omega,?_⟩
   rw [show i + (j + 1)=i + 1 + j by omega]
   exact h4.imp (fun ⟨u,a,b,c⟩=>⟨u,by simpa using a,b,c⟩) id
 | .agg k :: l,v :: m,n,i,q,h,hd,t,sv,ht=>by
  obtain ⟨⟨cs,rfl,h1⟩,h2⟩:=h
  have e:flat (.agg cs :: m)=cs.toList ++ flat m:=rfl
  rw [e] at hd
  simp only [argT] at ht
  rcases List.mem_cons.1 ht with ht | ht
  ·injection ht with e1 e2
   subst e1 e2
   refine ⟨0,rfl,by simp,.inl ⟨.agg cs,rfl,?_,fun x hx=>by have:=ptOf_ge (sa:=l) (i:=_ + 1) hx;omega⟩⟩
   have:=dens_vs (vals:=vals) (blks:=blks) k n cs.toList (fun j hj=>by
    have:(vals.drop n)[j]?=cs.toList[j]?:=by
     rw [hd,List.getElem?_append_left (by simp;omega)]
    simpa using this) (by simpa using h1)
   simp only [SV.den,T2.den,this]
  ·have hd2:vals.drop (n + k)=flat m:=by
    rw [← List.drop_drop,hd,← h1]
    simp
   obtain ⟨j,h3,hj,h4⟩:=argT_spec h2 hd2 t sv ht
   refine ⟨j + 1,by omega,by simp;omega,?_⟩
   rw [show i + (j + 1)=i + 1 + j by omega]
   exact h4.imp (fun ⟨u,a,b,c⟩=>⟨u,by simpa using a,b,c⟩) id
 | .ptr ty k :: l,v :: m,n,i,q,h,hd,t,sv,ht=>by
  obtain ⟨⟨cs,rfl,h1⟩,h2⟩:=h
  have e:flat (.agg cs :: m)=cs.toList ++ flat m:=rfl
  rw [e] at hd
  simp only [argT] at ht
  rcases List.mem_cons.1 ht with ht | ht
  ·injection ht with e1 e2
   subst e1 e2
   exact ⟨0,rfl,by simp,.inr ⟨0,ty,k,rfl,rfl⟩⟩
  ·have hd2:vals.drop (n + k)=flat m:=by
    rw [← List.drop_drop,hd,← h1]
    simp
   obtain ⟨j,h3,hj,h4⟩:=argT_spec h2 hd2 t sv ht
   refine ⟨j + 1,by omega,by simp;omega,?_⟩
   rw [show i + (j + 1)=i + 1 + j by omega]
   refine h4.imp (fun ⟨u,a,b,c⟩=>⟨u,by simpa using a,b,fun x hx=>?_⟩) (fun ⟨m',ty',k',a,b⟩=>⟨m' + 1,ty',k',a,by rw [b];congr 3;omega⟩)
   rcases List.mem_cons.1 hx with rfl | hx
   ·show i ≠ i + 1 + j
    omega
   ·exact c x hx
 | .one :: _,[],_,_,_,h,_,_,_,_=>h.elim
 | .con _ :: _,[],_,_,_,h,_,_,_,_=>h.elim
 | .agg _ :: _,[],_,_,_,h,_,_,_,_=>h.elim
 | .ptr _ _ :: _,[],_,_,_,h,_,_,_,_=>h.elim
theorem argM_spec {vals:List Value} {blks:List Nat}:∀ {sa:List SA} {args:List Value} {n i q:Nat},ArgsOk sa args→vals.drop n=flat args→∀ B ∈ argM n q sa,
  ∃ m j k,∃ cs:Array Value,(ptOf i sa)[m]?=some (i + j,B.t,k)∧B.b=q + m∧args[j]?=some (.agg cs)∧cs.size=k∧dens vals blks B.cs=some cs.toList
 | [],_,_,_,_,_,_,B,hB=>by cases hB
 | .one :: l,v :: m,n,i,q,h,hd,B,hB=>by
  obtain ⟨h1,h2⟩:=h
  rw [flat_one h1] at hd
  have hd2:vals.drop (n + 1)=flat m:=by
   rw [← List.drop_drop,hd]
   rfl
  obtain ⟨m',j,k,cs,a,b,c,d⟩:=argM_spec (i:=i + 1) h2 hd2 B hB
  exact ⟨m',j + 1,k,cs,by rw [show i + (j + 1)=i + 1 + j by omega];exact a,b,by simpa using c,d⟩
 | .con _ :: l,v :: m,n,i,q,h,hd,B,hB=>by
  obtain ⟨⟨rfl,h1⟩,h2⟩:=h
  rw [flat_one h1] at hd
  have hd2:vals.drop (n + 1)=flat m:=by
   rw [← List.drop_drop,hd]
   rfl
  obtain ⟨m',j,k,cs,a,b,c,d⟩:=argM_spec (i:=i + 1) h2 hd2 B hB
  exact ⟨m',j + 1,k,cs,by rw [show i + (j + 1)=i + 1 + j by omega];exact a,b,by simpa using c,d⟩
 | .agg k0 :: l,v :: m,n,i,q,h,hd,B,hB=>by
  obtain ⟨⟨cs0,rfl,h1⟩,h2⟩:=h
  have e:flat (.agg cs0 :: m)=cs0.toList ++ flat m:=rfl
  rw [e] at hd
  have hd2:vals.drop (n + k0)=flat m:=by
   rw [← List.drop_drop,hd,← h1]
   simp
  obtain ⟨m',j,k,cs,a,b,c,d⟩:=argM_spec (i:=i + 1) h2 hd2 B hB
  exact ⟨m',j + 1,k,cs,by rw [show i + (j + 1)=i + 1 + j by omega];exact a,b,by simpa using c,d⟩
 | .ptr ty k0 :: l,v :: m,n,i,q,h,hd,B,hB=>by
  obtain ⟨⟨cs0,rfl,h1⟩,h2⟩:=h
  have e:flat (.agg cs0 :: m)=cs0.toList ++ flat m:=rfl
  rw [e] at hd
  simp only [argM] at hB
  rcases List.mem_cons.1 hB with rfl | hB
  ·refine ⟨0,0,k0,cs0,rfl,rfl,rfl,h1,?_⟩
   exact dens_vs (vals:=vals) (blks:=blks) k0 n cs0.toList (fun j hj=>by
    have:(vals.drop n)[j]?=cs0.toList[j]?:=by
     rw [hd,List.getElem?_append_left (by simp;omega)]
    simpa using this) (by simpa using h1)
  ·have hd2:vals.drop (n + k0)=flat m:=by
    rw [← List.drop_drop,hd,← h1]
    simp
   obtain ⟨m',j,k,cs,a,b,c,d⟩:=argM_spec (i:=i + 1) h2 hd2 B hB
   exact ⟨m' + 1,j + 1,k,cs,by rw [show i + (j + 1)=i + 1 + j by omega];exact a,by omega,by simpa using c,d⟩
 | .one :: _,[],_,_,_,h,_,_,_=>h.elim
 | .con _ :: _,[],_,_,_,h,_,_,_=>h.elim
 | .agg _ :: _,[],_,_,_,h,_,_,_=>h.elim
 | .ptr _ _ :: _,[],_,_,_,h,_,_,_=>h.elim
theorem ptEq_eq:∀ {l m:List (Nat × TypeId × Nat)},ptEq l m=true→l=m
 | [],[],_=>rfl
 | (i,t,k) :: l,(j,u,n) :: m,h=>by
  simp only [ptEq,Bool.and_eq_true,Nat.beq_eq] at h
  obtain ⟨⟨⟨h1,h2⟩,h3⟩,h4⟩:=h
  have h2:t=u:=by simpa using h2
  rw [h1,h2,h3,ptEq_eq h4]
 | [],_ :: _,h=>by cases h
 | _ :: _,[],h=>by cases h
theorem ptOf_lt:∀ {sa:List SA} {i:Nat},(ptOf i sa).Pairwise fun x y=>x.1<y.1
 | [],_=>List.Pairwise.nil
 | .one :: l,i=>ptOf_lt (sa:=l)
 | .agg _ :: l,i=>ptOf_lt (sa:=l)
 | .con _ :: l,i=>ptOf_lt (sa:=l)
 | .ptr t k :: l,i=>List.Pairwise.cons (fun y hy=>Nat.lt_of_lt_of_le (Nat.lt_succ_self i) (ptOf_ge (sa:=l) hy)) (ptOf_lt (sa:=l))
theorem IoIn.get {w:World} {X:Nat→Prop}:∀ {pt:List (Nat × TypeId × Nat)} {bl:List Nat} {args largs:List Value},pt.Pairwise (fun x y=>x.1<y.1)→IoIn w X pt bl args largs →
  args.length=largs.length∧bl.length=pt.length∧(∀ j,(∀ x ∈ pt,x.1 ≠ j)→args[j]?=largs[j]?)∧∀ (m i:Nat) t n,pt[m]?=some (i,t,n)→∃ g,bl[m]?=some g∧X g∧args[i]?=some (.pointer (some ⟨g,0,none⟩))∧∃ cs:List Value,cs.length=n∧BlkIs w g t cs.toArray∧largs[i]?=some (.agg cs.toArray)
 | [],[],args,largs,_,h=>by
  have h:args=largs:=h
  subst h
  exact ⟨rfl,rfl,fun _ _=>rfl,fun m i t n h=>by simp at h⟩
 | [],_ :: _,_,_,_,h=>h.elim
 | _ :: _,[],_,_,_,h=>h.elim
 | (i0,t0,n0) :: pt,g0 :: bl,args,largs,hp,h=>by
  obtain ⟨h1,h2,cs,h3,h4,mid,h5,h6,rfl⟩:=h
  obtain ⟨hp1,hp2⟩:=List.pairwise_cons.1 hp
  obtain ⟨i1,i2,i3,i4⟩:=IoIn.get hp2 h5
  refine ⟨by simp [i1],by simp [i2],fun j hj=>?_,fun m i t n hm=>?_⟩
  ·have:=hj _ List.mem_cons_self
   rw [List.getElem?_set_ne this]
   exact i3 j fun x hx=>hj x (List.mem_cons_of_mem _ hx)
  ·cases m with
   | zero=>
    simp at hm
    obtain ⟨rfl,rfl,rfl⟩:=hm
    exact ⟨g0,rfl,h1,h2,cs,h3,h4,by rw [List.getElem?_set_self h6]⟩
   | succ m=>
    obtain ⟨g,j1,j2,j3,cs',j4,j5,j6⟩:=i4 m i t n (by simpa using hm)
    have:=hp1 _ (List.mem_of_getElem? (show pt[m]?=some (i,t,n) by simpa using hm))
    refine ⟨g,by simpa using j1,j2,j3,cs',j4,j5,?_⟩
    rw [List.getElem?_set_ne (by simp at this;omega)]
    exact j6
theorem eqVs_eq:∀ {l m:List L},eqVs l m=true→l=m
 | [],[],_=>rfl
 | .v a :: l,.v b :: m,h=>by
  simp only [eqVs,Bool.and_eq_true,Nat.beq_eq] at h
  rw [h.1,eqVs_eq h.2]
 | [],_ :: _,h=>by cases h
 | .v _ :: _,[],h=>by cases h
 | .v _ :: _,.c _ :: _,h=>by cases h
 | .v _ :: _,.p _ _ :: _,h=>by cases h
 | .c _ :: _,_,h=>by cases h
 | .p _ _ :: _,_,h=>by cases h
theorem eqT2_eq {x y:T2} (h:eqT2 x y=true):x=y:=by
 unfold eqT2 at h
 split at h
 ·simp only [Nat.beq_eq] at h
  rw [h]
 ·rw [eqVs_eq h]
 ·cases h
theorem eqT2s_eq:∀ {l m:List T2},eqT2s l m=true→l=m
 | [],[],_=>rfl
 | a :: l,b :: m,h=>by
  simp only [eqT2s,Bool.and_eq_true] at h
  rw [eqT2_eq h.1,eqT2s_eq h.2]
 | [],_ :: _,h=>by cases h
 | _ :: _,[],h=>by cases h
theorem eqSV_eq {x y:SV} (h:eqSV x y=true):x=y:=by
 cases x <;> cases y <;> simp only [eqSV] at h
 ·rw [eqT2_eq h]
 ·cases h
 ·cases h
 ·rw [eqT2s_eq h]
theorem patT_den {E:Env S} (h1:∀ v ∈ E.vals,v.oneCell'=true) {t:T2} (hok:t.cells.all okL=true) {u:Value} (hu:t.den E.vals E.blks=some u) {n:Nat} {vs:List Value} (hv:∀ i,i<t.cells.length→vs[n + i]?=u.cells.toList[i]?):(patT n t).den vs []=some u:=by
 have hc:=T2.cells_den h1 hok hu
 have hl:=dens_length hc
 cases t with
 | one l=>
  simp only [T2.cells,List.all_cons,List.all_nil,Bool.and_true] at hok
  have:=okL_one h1 hok hu
  rw [cells_one this] at hv
  have:=hv 0 (by simp [T2.cells])
  simpa [patT,T2.den,L.den] using this
 | agg ls=>
  simp only [T2.den] at hu
  split at hu
  ·rename_i us hus
   injection hu with hu
   subst hu
   have hlu:=dens_length hus
   have:=dens_vs (vals:=vs) (blks:=[]) ls.length n us (fun i hi=>by simpa [Value.cells] using hv i hi) hlu
   simp only [patT,T2.den,this]
  ·cases hu
def resV (tmps:Array Value):ResultVar→Sem Value
 | .tmp t=>pure (tmps.getD t undef)
 | .cell a t=>do loadVar t (← asAddr (tmps.getD a undef))
theorem resV_run {C:Ctx R} {E:Env S} {st:St} {a:Act} {w:World} (hT:Tms E st a) (h:Mm C E st w):∀ {rs:List ResultVar} {ts:List T2},resS P st rs=some ts →
  rs.length=ts.length∧(∀ t ∈ ts,t.cells.all okL=true)∧∀ (i:Nat) r,rs[i]?=some r→∃ t u,ts[i]?=some t∧t.den E.vals E.blks=some u∧(resV a.tmps r).run P w=.ok u w
 | [],ts,hr=>by
  simp only [resS,Option.some.injEq] at hr
  subst hr
  exact ⟨rfl,fun t ht=>absurd ht List.not_mem_nil,fun i r hi=>by simp at hi⟩
 | .tmp q :: rs,ts,hr=>by
  simp only [resS] at hr
  split at hr
  case h_2=>cases hr
  rename_i ls x r hc h2 hrr
  injection hr with hr
  subst hr
  obtain ⟨i1,i2,i3⟩:=resV_run hT h hrr
  have hx:=hT.eval2 h2
  have hok:x.cells.all okL=true:=by
   unfold evalC at hc
   rw [h2] at hc
   simp only at hc
   split at hc
   ·assumption
   ·cases hc
  refine ⟨by simp [i1],fun t ht=>?_,fun i y hi=>?_⟩
  ·rcases List.mem_cons.1 ht with rfl | ht
   ·exact hok
   ·exact i2 t ht
  ·cases i with
   | zero=>
    simp at hi
    subst hi
    exact ⟨x,_,rfl,hx,rfl⟩
   | succ i=>simpa using i3 i y (by simpa using hi)
 | .cell q ty :: rs,ts,hr=>by
  simp only [resS] at hr
  split at hr
  case h_2=>cases hr
  rename_i x st' r hl hrr
  split at hr
  case h_2=>cases hr
  rename_i hok
  injection hr with hr
  subst hr
  obtain ⟨i1,i2,i3⟩:=resV_run hT h hrr
  have had:∃ ad,a.eval (.tmp q)=.pointer (some ad):=by
   unfold loadS at hl
   have hp:∀ b off,eval2 st (.tmp q)=some (.one (.p b off))→∃ ad,a.eval (.tmp q)=.pointer (some ad):=fun b off he=>by
    have:=hT.eval2 he
    simp only [T2.den,L.den] at this
    split at this
    ·injection this with this
     exact ⟨_,this.symm⟩
    ·cases this
   split at hl
   ·rename_i he _;exact hp _ _ he
   ·rename_i he _;exact hp _ _ he
   ·cases hl
   ·cases hl
   ·cases hl
  obtain ⟨ad,had⟩:=had
  have hlo:stepO P (⟨[],[],[],⟨0,.tup [],[],[],[],[],[]⟩,[],[]⟩:Cfg) st (.load ty (.tmp q))=some (.val (.el x) st'):=hl
  obtain ⟨_,u,hu,hrun⟩:=pure_val (o:=⟨none,.load ty (.tmp q),0, "",#[],none⟩) hT h.one h.kn rfl ⟨w,h.memR⟩ hlo
  refine ⟨by simp [i1],fun t ht=>?_,fun i y hi=>?_⟩
  ·rcases List.mem_cons.1 ht with rfl | ht
   ·exact hok
   ·exact i2 t ht
  ·cases i with
   | zero=>
    simp at hi
    subst hi
    refine ⟨x,u,rfl,hu,?_⟩
    have:=hrun w h.memR
    unfold execOp at this
    have had':a.tmps.getD q undef=.pointer (some ad):=had
    have hlv:(loadVar ty ad).run P w=.ok u w:=by
     simp only [Instr.loadAt,had,Instr.sureAddr,Sem.run_bind,Sem.run_pure,Result.andThen_ok] at this
     revert this
     cases (loadVar ty ad).run P w <;> simp [Result.andThen]
    unfold resV
    simp only [had',asAddr,Sem.run_bind,Sem.run_pure,Result.andThen_ok,hlv]
   | succ i=>simpa using i3 i y (by simpa using hi)
theorem results_run {C:Ctx R} {E:Env S} {st:St} {a:Act} {w:World} (hT:Tms E st a) (h:Mm C E st w) {fn:Func} {ts:List T2} (hr:resS P st fn.results.toList=some ts) (hl:fn.results.toList.length≤2) {vs:List Value} (hvs:dens E.vals E.blks (T2s.cells ts)=some vs) :
  ∃ v,(results fn a.tmps).run P w=.ok v w∧(patOf ts).den vs []=some v:=by
 obtain ⟨h1,h2,h3⟩:=resV_run hT h hr
 have hg:∀ r,(match r with
  | .tmp t=>pure (a.tmps.getD t undef)
  | .cell p t=>do loadVar t (← asAddr (a.tmps.getD p undef)):Sem Value)=resV a.tmps r:=fun r=>by cases r <;> rfl
 have hres:results fn a.tmps=(do
   let vs ← fn.results.mapM (resV a.tmps)
   pure (if h:vs.size=1 then vs[0] else .tuple vs)):=by
  unfold results
  congr 1
 rw [hres]
 obtain ⟨rl,hrl⟩:∃ rl,fn.results.toList=rl:=⟨_,rfl⟩
 have hra:fn.results=rl.toArray:=by rw [← hrl]
 rw [hrl] at h1 h3 hl
 rw [hra]
 match rl,ts,h1,h3,hl,h2,hvs with
 | [],[],_,_,_,_,hvs=>
  simp only [T2s.cells,dens,Option.some.injEq] at hvs
  subst hvs
  exact ⟨.tuple #[],by simp,rfl⟩
 | [r],[t],_,h3,_,h2,hvs=>
  obtain ⟨t',u,i1,i2,i3⟩:=h3 0 r rfl
  simp at i1
  subst i1
  refine ⟨u,by simp [i3],?_⟩
  have hc:=T2.cells_den h.one (h2 t (by simp)) i2
  simp only [T2s.cells,List.append_nil] at hvs
  rw [hc] at hvs
  injection hvs with hvs
  exact patT_den h.one (h2 t (by simp)) i2 (fun i hi=>by rw [← hvs];simp)
 | [r,q],[t,t2],_,h3,_,h2,hvs=>
  obtain ⟨t',u,i1,i2,i3⟩:=h3 0 r rfl
  simp at i1
  subst i1
  obtain ⟨t',u2,j1,j2,j3⟩:=h3 1 q rfl
  simp at j1
  subst j1
  refine ⟨.tuple #[u,u2],by simp [i3,j3],?_⟩
  have hc:=T2.cells_den h.one (h2 t (by simp)) i2
  have hc2:=T2.cells_den h.one (h2 t2 (by simp)) j2
  have hl1:=dens_length hc
  simp only [T2s.cells,List.append_nil] at hvs
  rw [dens_app hc hc2] at hvs
  injection hvs with hvs
  have e1:(patT 0 t).den vs []=some u:=patT_den h.one (h2 t (by simp)) i2 (fun i hi=>by
   rw [← hvs,Nat.zero_add,List.getElem?_append_left (by omega)])
  have e2:(patT (0 + t.cells.length) t2).den vs []=some u2:=patT_den h.one (h2 t2 (by simp)) j2 (fun i hi=>by
   rw [← hvs,List.getElem?_append_right (by omega)]
   congr 1
   omega)
  simp only [patOf,patTs,SV.den,dens2,e1,e2]
 | [],_ :: _,h1,_,_,_,_=>exact absurd h1 (by simp)
 | _ :: _,[],h1,_,_,_,_=>exact absurd h1 (by simp)
 | [_],_ :: _ :: _,h1,_,_,_,_=>exact absurd h1 (by simp)
 | _ :: _ :: _,[_],h1,_,_,_,_=>exact absurd h1 (by simp)
 | _ :: _ :: _ :: _,_,_,_,hl,_,_=>exact absurd hl (by simp)
 | [_,_],_ :: _ :: _ :: _,h1,_,_,_,_=>exact absurd h1 (by simp)
theorem dens_split {vals:List Value} {blks:List Nat}:∀ {x y:List L} {vs:List Value},dens vals blks (x ++ y)=some vs→∃ vs1 vs2,dens vals blks x=some vs1∧dens vals blks y=some vs2∧vs=vs1 ++ vs2
 | [],y,vs,h=>⟨[],vs,rfl,h,rfl⟩
 | l :: x,y,vs,h=>by
  simp only [List.cons_append,dens] at h
  split at h
  case h_2=>cases h
  rename_i v us hv hus
  injection h with h
  subst h
  obtain ⟨vs1,vs2,h1,h2,rfl⟩:=dens_split hus
  exact ⟨v :: vs1,vs2,by simp only [dens,hv,h1],h2,rfl⟩
theorem ioCells_ok {C:Ctx R} {E:Env S} {st:St} {w:World} (h:Mm C E st w):∀ {l:List Nat} {pt:List (Nat × TypeId × Nat)} {bl:List Nat} {ic:List L} {vs:List Value},ioCells st l pt=some ic→dens E.vals E.blks ic=some vs→bl.length=pt.length→(∀ (i b:Nat),l[i]?=some b→∃ g,bl[i]?=some g∧E.blks[b]?=some g) →
  IoOut w pt bl vs∧vs.length=ioN pt∧(∀ u ∈ vs,u.oneCell'=true)∧∀ g ∈ bl,g ∈ E.blks
 | [],[],bl,ic,vs,hi,hv,hl,hb=>by
  simp only [ioCells,Option.some.injEq] at hi
  subst hi
  simp only [dens,Option.some.injEq] at hv
  subst hv
  have:bl=[]:=List.eq_nil_of_length_eq_zero hl
  subst this
  exact ⟨trivial,rfl,fun u hu=>(by cases hu),fun g hg=>(by cases hg)⟩
 | [],_ :: _,_,_,_,hi,_,_,_=>by cases hi
 | _ :: _,[],_,_,_,hi,_,_,_=>by cases hi
 | b :: l,(i,t,n) :: pt,bl,ic,vs,hi,hv,hl,hb=>by
  simp only [ioCells] at hi
  split at hi
  case h_2=>cases hi
  rename_i B m hB hm
  split at hi
  case h_2=>cases hi
  rename_i hc
  injection hi with hi
  subst hi
  simp only [Bool.and_eq_true,Nat.beq_eq] at hc
  obtain ⟨hBm,rfl⟩:=memOf_spec hB
  obtain ⟨g,cs,h4,h5,h6,h7⟩:=h.mem B hBm
  cases bl with
  | nil=>cases hl
  | cons g0 bl=>
   obtain ⟨g',j1,j2⟩:=hb 0 B.b rfl
   simp at j1
   subst j1
   rw [h4] at j2
   injection j2 with j2
   subst j2
   obtain ⟨cs2,vs2,k0,k1,rfl⟩:=dens_split hv
   rw [h5] at k0
   injection k0 with k0
   subst k0
   obtain ⟨k2,k3,k4,k5⟩:=ioCells_ok h hm k1 (by simpa using hl) (fun i b hi=>by simpa using hb (i + 1) b (by simpa using hi))
   have hn:cs.length=n:=by rw [dens_length h5];exact hc.2
   refine ⟨⟨?_,?_⟩,?_,fun u hu=>?_,fun g' hg'=>?_⟩
   ·rw [← hn,List.take_left']
    ·rw [← hc.1];exact h6
    ·rfl
   ·rw [← hn,List.drop_left']
    ·exact k2
    ·rfl
   ·simp only [List.length_append,ioN,k3,hn]
   ·rcases List.mem_append.1 hu with hu | hu
    ·exact h7 u hu
    ·exact k4 u hu
   ·rcases List.mem_cons.1 hg' with rfl | hg'
    ·exact List.mem_of_getElem? h4
    ·exact k5 g' hg'
theorem DaOw.imp {w:World} {ok ok' X:Nat→Prop} {cells:List Value} {da:List (Nat × Nat)} {ow:List (Nat × TypeId)} {ds:List D} (h:DaOw w ok X cells da ow ds) (hk:∀ k,ok k→ok' k):DaOw w ok' X cells da ow ds:=by
 refine ⟨h.1,fun j x d h1 h2=>?_,h.2.2⟩
 obtain ⟨v,h3,h4⟩:=h.2.1 j x d h1 h2
 refine ⟨v,h3,?_⟩
 cases ho:ownT ow j x.2 with
 | none=>
  rw [ho] at h4
  exact h4.imp fun k hk2 _=>hk k hk2
 | some ez=>
  obtain ⟨e,z⟩:=ez
  rw [ho] at h4
  obtain ⟨l,i1,i2,i3⟩:=h4
  exact ⟨l,i1,i2.imp fun k hk2 _=>hk k hk2,i3⟩
def ctxOf {R:S→World→Prop} {G:Nat} (w:World) (okk X:Nat→Prop) (bl:List Nat) (hG:G<w.heap.size) (hokk:∀ k,okk k→G<k∧¬ X k) (hX:∀ k,X k→G<k∧k<w.heap.size) (hR:∀ σ w w',R σ w→w.heap.size≤w'.heap.size→(∀ k,k≤G→w'.heap[k]?=w.heap[k]?)→R σ w'):Ctx R:=
 { G:=G,w0:=w,okb:=fun k=>okk k ∨ X k ∨ w.heap.size≤k,X:=X,Gx:=fun k=>k=G,io:=bl,hG:=hG,hb:=fun k hk=>.inr hk,hg:=fun k hk=>hk.elim (fun h=>(hokk k h).1) (fun h=>h.elim (fun h=>(hX k h).1) (fun h=>by omega)),hR:=hR }
def EndsAs (cf:Cfg) (R:S→World→Prop) (G:Nat) (bl:List Nat) (w:World) (okk X:Nat→Prop) (K:List Value→List D→S→Prop) (r:Value) (w':World):Prop:=
 ∃ vs ds' σ',∃ X':Nat→Prop,K vs ds' σ'∧cf.self.ret.den vs []=some r∧vs.length=cf.self.nv∧ds'.length=cf.self.fs.length∧(∀ u ∈ vs,u.oneCell'=true) ∧
   R σ' w'∧KeepX (fun k=>k=G ∨ X k) w w'∧IoOut w' cf.self.pt bl (vs.drop (cf.self.nv - ioN cf.self.pt))∧(∀ k,X' k→(X k ∨ w.heap.size≤k)∧k ∉ bl)∧DaOw w' (fun k=>(okk k ∨ X k ∨ w.heap.size≤k)∧¬ X' k∧k ∉ bl) X' vs cf.self.fs cf.self.fo ds'
theorem fn_good (T:List (Con P R G)) (w:World) (okk X:Nat→Prop) (bl:List Nat) (hR:∀ σ w w',R σ w→w.heap.size≤w'.heap.size→(∀ k,k≤G→w'.heap[k]?=w.heap[k]?)→R σ w') (hG:G<w.heap.size) (hokk:∀ k,okk k→G<k∧¬ X k) (hX:∀ k,X k→G<k∧k<w.heap.size)
  (K:List Value→List D→S→Prop) (V:Nat→List Value→List D→S→Prop) (F:Value→World→Prop) (fn:Func) (hbll:bl.length=cf.self.pt.length) (hend:∀ r w',EndsAs cf R G bl w okk X K r w'→F r w') :
  GoodC (ctxOf w okk X bl hG hokk hX hR) T K (fun a w''=>a.defers=[]∧∃ v,(results fn a.tmps).run P w''=.ok v w''∧F v w'') true (cf.tails.map fun x=>tailN x.1) (fun j Y=>∀ va dd σ,Y va dd σ→V j va dd σ) (retS P cf fn.results.toList) (fun _ _=>none) (retS P cf fn.results.toList) (bodyPost P fn fun e w'=>∃ r,e=.returned r∧F r w'):=by
 let C:Ctx R:=ctxOf w okk X bl hG hokk hX hR
 have hret:∀ A:Lk S,Next C T K A (retS P cf fn.results.toList) fun a w'=>a.defers=[]∧∃ v,(results fn a.tmps).run P w'=.ok v w'∧F v w':=by
  intro A E' st' a' w' T' g1 g2 g3 g4
  unfold retS at g1
  split at g1
  case h_2=>cases g1
  rename_i ts ic hts hic
  split at g1
  case h_2=>cases g1
  rename_i dl mn os hdl
  split at g1
  case h_2=>cases g1
  rename_i hc
  split at g1
  case h_2=>cases g1
  rename_i hl2
  injection g1 with g1
  subst g1
  simp only [Bool.and_eq_true,Nat.beq_eq] at hc
  obtain ⟨hcr,hcn,hco⟩:=hc
  obtain ⟨vs,dd,i1,i2,i3⟩:=g2
  obtain ⟨_,o2,o3⟩:=resV_run g3 g4 hts
  have hall:∀ {ts:List T2},(∀ t ∈ ts,t.cells.all okL=true)→(T2s.cells ts).all okL=true:=fun {ts} h=>by
   induction ts with
   | nil=>rfl
   | cons t ts ih=>
    simp only [T2s.cells,List.all_append,Bool.and_eq_true]
    exact ⟨h t List.mem_cons_self,ih fun u hu=>h u (List.mem_cons_of_mem _ hu)⟩
  obtain ⟨vs1,vs2,k1,k2,rfl⟩:∃ vs1 vs2,dens E'.vals E'.blks (T2s.cells ts)=some vs1∧dens E'.vals E'.blks ic=some vs2∧vs=vs1 ++ vs2:=dens_split i1
  obtain ⟨v,r1,r2⟩:=results_run g3 g4 hts (by simpa using hl2) k1
  obtain ⟨b1,b2,b3,b4⟩:=ioCells_ok g4 hic k2 hbll g4.io
  have hnv:(vs1 ++ vs2).length=cf.self.nv:=by
   rw [dens_length i1]
   exact hcn.symm
  obtain ⟨hon,hdo⟩:=g4.daOw i1 hdl hco i2 b4
  obtain ⟨l1,_⟩:=ldens_get i2
  obtain ⟨s1,_⟩:=daOw_spec hdl
  refine ⟨g3.df,v,r1,hend v w' ⟨vs1 ++ vs2,dd,E'.st,fun k=>(k ∈ bl ∨ ∃ f ∈ st'.fs,f.l ∈ os∧ownAt E' f k)∧k ∉ bl,i3,?_,hnv,by omega,fun u hu=>?_,g4.rs,g4.keep,?_,fun k hk=>⟨?_,hk.2⟩,hdo.imp fun k hk=>⟨hk.1.1,fun hx=>hk.2 hx.1,fun hm=>hk.2 (.inl hm)⟩⟩⟩
  ·rw [eqSV_eq hcr]
   exact SV.den_le (E:=(⟨vs1,[],[],E'.st⟩:Env S)) (E':=⟨vs1 ++ vs2,[],[],E'.st⟩) ⟨fun _ _ h=>app_get h,fun _ _ h=>h,fun _ _ h=>h⟩ r2
  ·rcases List.mem_append.1 hu with hu | hu
   ·exact okLs_one g4.one (hall o2) k1 u hu
   ·exact b3 u hu
  ·have e:cf.self.nv - ioN cf.self.pt=vs1.length:=by
    rw [← hnv,← b2]
    simp
   rw [e,List.drop_left']
   ·exact b1
   ·rfl
  ·rcases hk.1 with hm | ⟨f,hf,_,ho⟩
   ·exact (hk.2 hm).elim
   ·exact (g4.own_lt hf ho).1
 show GoodC C T K (fun a w''=>a.defers=[]∧∃ v,(results fn a.tmps).run P w''=.ok v w''∧F v w'') true (cf.tails.map fun x=>tailN x.1) (fun j Y=>∀ va dd σ,Y va dd σ→V j va dd σ) (retS P cf fn.results.toList) (fun _ _=>none) (retS P cf fn.results.toList) (bodyPost P fn fun e w'=>∃ r,e=.returned r∧F r w')
 refine ⟨fun A _=>?_,fun A _ id=>?_,fun A _=>?_,fun c a w d v h=>?_,fun a w hf=>?_⟩
 ·intro E' st' a' w' T' g1 g2 g3 g4
  obtain ⟨q1,v,q2,q3⟩:=hret A E' st' a' w' T' g1 g2 g3 g4
  exact ⟨q1,v,q2,v,rfl,q3⟩
 ·intro E' st' a' w' T' g1
  cases g1
 ·intro E' st' a' w' T' g1 g2 g3 g4
  obtain ⟨q1,v,q2,q3⟩:=hret A E' st' a' w' T' g1 g2 g3 g4
  exact ⟨q1,v,q2,v,rfl,q3⟩
 ·cases d <;> exact h
 ·obtain ⟨q1,v,q2,q3⟩:=hf
  exact ⟨⟨q1,v,q2,v,rfl,q3⟩,fun _=>⟨q1,v,q2,v,rfl,q3⟩⟩
theorem fn_core (T:List (Con P R G)) (hcf:cf.cs=T.map fun x=>(x.f,x.sh)) (hm:P.follows .mixedOrders=true) (hR:∀ σ w w',R σ w→w.heap.size≤w'.heap.size→(∀ k,k≤G→w'.heap[k]?=w.heap[k]?)→R σ w')
  {sa:List SA} {f:FuncId} {Tr:Tree} (hTr:fnS P cf sa f=some Tr)
  (args largs:List Value) (bl:List Nat) (ds:List D) (σ:S) (w:World) (okk X:Nat→Prop) (K:List Value→List D→S→Prop) (V:Nat→List Value→List D→S→Prop) (F:Value→World→Prop) (hargs:ArgsOk sa largs) (hT0:bl.length=cf.self.pt.length→Tr.holds T K V ⟨flat largs,bl,ds,σ⟩) (hG:G<w.heap.size) (hRσ:R σ w) (hokk:∀ k,okk k→G<k∧¬ X k) (hX:∀ k,X k→G<k∧k<w.heap.size) (hbl:bl.Nodup) (hio:IoIn w X cf.self.pt bl args largs)
  (hda:DaOw w okk (fun k=>X k∧k ∉ bl) (flat largs) cf.self.da cf.self.ao ds) (h1:∀ u ∈ flat largs,u.oneCell'=true)
  (hend:∀ r w',EndsAs cf R G bl w okk X K r w'→F r w')
  (htail:∀ fn body,P.funcs[f]?=some fn→fn.body=some body→regsP (fun id ops b=>match lookN id cf.tails with
   | none=>True
   | some tp=>∀ va dd bl' σ' a w',bl'.length=tp.nb→V (tailN id) va dd σ'→Tms (⟨va,bl',dd,σ'⟩:Env S) tp a→Mm (ctxOf w okk X bl hG hokk hX hR) (⟨va,bl',dd,σ'⟩:Env S) tp w'→(Code.region id ops b).wp P (fun e a w''=>e=.normal∧a.defers=[]∧∃ v,(results fn a.tmps).run P w''=.ok v w''∧F v w'') a w') body) :
  Calls P f args.toArray w fun e w'=>∃ r,e=.returned r∧F r w':=by
 obtain ⟨hlen,hflat⟩:=hargs.length
 unfold fnS at hTr
 split at hTr
 case h_2=>cases hTr
 rename_i fn hfn
 split at hTr
 case h_2=>cases hTr
 rename_i body hbody
 split at hTr
 case h_2=>cases hTr
 rename_i hchk
 simp only [Bool.and_eq_true,Nat.ble_eq] at hchk
 obtain ⟨hc1,hc2,hc3⟩:=hchk
 have hpt:=ptEq_eq hc3
 obtain ⟨hlen2,hbll,hsame,hptr⟩:=IoIn.get (by rw [hpt];exact ptOf_lt) hio
 have hT0:=hT0 hbll
 let C:Ctx R:=ctxOf w okk X bl hG hokk hX hR
 refine calls_of_wp hfn hbody ?_
 have hsz:(args.toArray ++ Array.replicate (fn.ntmps - args.toArray.size) undef).size=fn.ntmps:=by simp;omega
 have hT:Tms (⟨flat largs,bl,ds,σ⟩:Env S) (st0 cf.self sa fn.ntmps) { tmps:=args.toArray ++ Array.replicate (fn.ntmps - args.toArray.size) undef,defers:=[] }:=by
  refine ⟨hsz,rfl,fun t sv ht=>?_⟩
  obtain ⟨j,h2,hj,h3⟩:=argT_spec (vals:=flat largs) (blks:=bl) (n:=0) (i:=0) (q:=0) hargs rfl t sv (lookN_mem ht)
  rw [Nat.zero_add] at h2
  subst h2
  have hin:∀ v,args[t]?=some v→(args.toArray ++ Array.replicate (fn.ntmps - args.toArray.size) undef)[t]?=some v:=fun v hv=>by
   rw [Array.getElem?_append_left (by simpa using (List.getElem?_eq_some_iff.1 hv).1)]
   simpa using hv
  rcases h3 with ⟨v,h3,h4,h5⟩ | ⟨m,ty,k,h3,rfl⟩
  ·refine ⟨v,h4,hin v ?_⟩
   rw [hsame t fun x hx=>by have:=h5 x (hpt ▸ hx);omega]
   exact h3
  ·rw [← hpt,Nat.zero_add] at h3
   obtain ⟨g,i1,i2,i3,_⟩:=hptr m t ty k h3
   refine ⟨_,?_,hin _ i3⟩
   show (match bl[0 + m]? with
    | some g=>some (Value.pointer (some ⟨g,0,none⟩))
    | none=>none)=_
   rw [Nat.zero_add,i1]
 have hfo:∀ f ∈ (st0 cf.self sa fn.ntmps).fs,∀ k,ownAt (⟨flat largs,bl,ds,σ⟩:Env S) f k→∃ (i:Nat) (x:Nat × Nat) (v:Value),cf.self.da[i]?=some x∧f=⟨0 + x.1,0 + (0 + i),ownT cf.self.ao (0 + i) x.2⟩∧(ownT cf.self.ao i x.2).isSome=true∧(flat largs)[x.1]?=some v∧v.ownBlock=some k∧X k∧k ∉ bl:=fun f hf k ho=>by
  obtain ⟨i,x,h2,rfl⟩:=newFs_mem hf
  obtain ⟨h3,v,h4,h5⟩:=ho
  have h4:(flat largs)[0 + x.1]?=some v:=h4
  have h3:(ownT cf.self.ao (0 + i) x.2).isSome=true:=h3
  rw [Nat.zero_add] at h3 h4
  have hi:i<ds.length:=by
   rw [← hda.1]
   exact (List.getElem?_eq_some_iff.1 h2).1
  obtain ⟨v',h6,h7⟩:=hda.2.1 i x ds[i] h2 (List.getElem?_eq_getElem hi)
  rw [h4] at h6
  injection h6 with h6
  subst h6
  obtain ⟨⟨e,z⟩,he⟩:=Option.isSome_iff_exists.1 h3
  rw [he] at h7
  obtain ⟨_,_,_,h8⟩:=h7
  exact ⟨i,x,v,h2,rfl,h3,h4,h5,(h8 k h5).1,(h8 k h5).2⟩
 have hM:Mm C (⟨flat largs,bl,ds,σ⟩:Env S) (st0 cf.self sa fn.ntmps) w:=by
  have hXb:∀ (m g:Nat),bl[m]?=some g→X g:=fun m g hg=>by
   have hlt:m<cf.self.pt.length:=by
    rw [← hbll]
    exact (List.getElem?_eq_some_iff.1 hg).1
   obtain ⟨g',i1,i2,_⟩:=hptr m cf.self.pt[m].1 cf.self.pt[m].2.1 cf.self.pt[m].2.2 (List.getElem?_eq_getElem hlt)
   rw [hg] at i1
   injection i1 with i1
   exact i1 ▸ i2
  have hoke:∀ k,okk k→okE C (⟨flat largs,bl,ds,σ⟩:Env S) (st0 cf.self sa fn.ntmps).fs k:=fun k hk=>by
   refine ⟨.inl hk,fun hm=>?_,fun f hf ho=>?_⟩
   ·obtain ⟨m,hm2,e⟩:=List.mem_iff_getElem.1 hm
    exact (hokk k hk).2 (hXb m k (by rw [← e];exact List.getElem?_eq_getElem hm2))
   ·obtain ⟨_,_,_,_,_,_,_,_,hx,_⟩:=hfo f hf k ho
    exact (hokk k hk).2 hx
  refine ⟨hflat,hbll,hda.1.symm,h1,hbl,fun g hg=>?_,fun B hB=>?_,fun f hf=>?_,fun f hf k ho=>?_,fun f hf f' hf' k ho ho'=>?_,hRσ,KeepX.refl _ _,fun x hx=>(by cases hx),fun i b hi=>?_⟩
  ·obtain ⟨m,hm,rfl⟩:=List.mem_iff_getElem.1 hg
   have:=hXb m _ (List.getElem?_eq_getElem hm)
   exact ⟨.inl this,(hX _ this).2⟩
  ·obtain ⟨m,j,k,cs,g1,g2,g3,g4,g5⟩:=argM_spec (vals:=flat largs) (blks:=bl) (n:=0) (i:=0) (q:=0) hargs rfl B hB
   rw [← hpt,Nat.zero_add] at g1
   obtain ⟨g,i1,i2,i3,cs',i4,i5,i6⟩:=hptr m j B.t k g1
   rw [g3] at i6
   injection i6 with i6
   injection i6 with i6
   subst i6
   refine ⟨g,cs',?_,by simpa using g5,i5,fun u hu=>?_⟩
   ·show bl[B.b]?=some g
    rw [g2,Nat.zero_add]
    exact i1
   ·refine h1 u (List.mem_flatMap.2 ⟨_,List.mem_of_getElem? g3,?_⟩)
    simpa [Value.cells] using hu
  ·obtain ⟨i,x,h2,rfl⟩:=newFs_mem hf
   have hi:i<ds.length:=by
    rw [← hda.1]
    exact (List.getElem?_eq_some_iff.1 h2).1
   obtain ⟨v,h3,h4⟩:=hda.2.1 i x ds[i] h2 (List.getElem?_eq_getElem hi)
   refine ⟨v,ds[i],by simpa using h3,by simp,?_⟩
   simp only [Nat.zero_add]
   cases ho:ownT cf.self.ao i x.2 with
   | none=>
    rw [ho] at h4
    exact h4.imp fun k hk _=>hoke k hk
   | some ez=>
    obtain ⟨e,z⟩:=ez
    rw [ho] at h4
    obtain ⟨l,i1,i2,i3⟩:=h4
    exact ⟨l,i1,i2.imp fun k hk _=>hoke k hk,fun k hk=>.inl (i3 k hk).1⟩
  ·obtain ⟨_,_,_,_,_,_,_,_,_,hx⟩:=hfo f hf k ho
   exact hx
  ·obtain ⟨i,x,v,q1,rfl,q2,q3,q4,_⟩:=hfo f hf k ho
   obtain ⟨i',x',v',p1,rfl,p2,p3,p4,_⟩:=hfo f' hf' k ho'
   have e:=hda.2.2 i i' x x' v v' k q1 p1 q2 p2 q3 p3 q4 p4
   subst e
   rw [q1] at p1
   injection p1 with p1
   rw [p1]
  ·have hi:(List.range cf.self.pt.length)[i]?=some b:=hi
   obtain ⟨hlt,e⟩:=List.getElem?_eq_some_iff.1 hi
   simp at hlt e
   subst e
   have hlt':i<bl.length:=by omega
   exact ⟨bl[i],List.getElem?_eq_getElem hlt',List.getElem?_eq_getElem hlt'⟩
 have hgood:=fn_good T w okk X bl hR hG hokk hX K V F fn hbll hend
 refine code_ok (C:=C) (cf:=cf) (T:=T) (K:=K) (Sd:=fun j Y=>∀ va dd σ,Y va dd σ→V j va dd σ) ⟨hcf,.inr rfl⟩ hm body none _ (fun j Y=>∀ va dd σ,Y va dd σ→V j va dd σ) true V _ _ _ w Tr _ _ _ _ hTr hT0 (fun j hj va dd σ h=>h) hT hM hgood (fun x hx=>⟨List.mem_map.2 ⟨x,hx,rfl⟩,rfl⟩) ?_
 refine regsP_imp (fun id ops b h=>?_) body (htail fn body hfn hbody)
 unfold TailOk
 split
 ·trivial
 ·rename_i tp htp
  rw [htp] at h
  exact fun Y hY va dd bl' σ' a w' hbl' hy h1 h2=>h va dd bl' σ' a w' hbl' (hY va dd σ' hy) h1 h2
theorem fn_okX (T:List (Con P R G)) (hcf:cf.cs=T.map fun x=>(x.f,x.sh)) (hm:P.follows .mixedOrders=true) (hR:∀ σ w w',R σ w→w.heap.size≤w'.heap.size→(∀ k,k≤G→w'.heap[k]?=w.heap[k]?)→R σ w')
  {sa:List SA} {f:FuncId} {Tr:Tree} (hTr:fnS P cf sa f=some Tr) {W:List Value→List D→S→(List Value→List D→S→Prop)→Prop} (hWa:∀ args ds σ K,W args ds σ K→ArgsOk sa args)
  (hVC:∀ args ds σ K bl,W args ds σ K→ds.length=cf.self.da.length→bl.length=cf.self.pt.length→Tr.holds T K (fun _ _ _ _=>False) ⟨flat args,bl,ds,σ⟩)
  (args largs:List Value) (bl:List Nat) (ds:List D) (σ:S) (w:World) (okk X:Nat→Prop) (K:List Value→List D→S→Prop) (hG:G<w.heap.size) (hRσ:R σ w) (hokk:∀ k,okk k→G<k∧¬ X k) (hX:∀ k,X k→G<k∧k<w.heap.size) (hbl:bl.Nodup) (hio:IoIn w X cf.self.pt bl args largs)
  (hda:DaOw w okk (fun k=>X k∧k ∉ bl) (flat largs) cf.self.da cf.self.ao ds) (h1:∀ u ∈ flat largs,u.oneCell'=true) (hW:W largs ds σ K) (hnt:cf.tails=[]:=by exact rfl) :
  Calls P f args.toArray w fun e w'=>∃ vs ds' σ' r,∃ X':Nat→Prop,K vs ds' σ'∧cf.self.ret.den vs []=some r∧e=.returned r∧vs.length=cf.self.nv∧ds'.length=cf.self.fs.length∧(∀ u ∈ vs,u.oneCell'=true) ∧
   R σ' w'∧KeepX (fun k=>k=G ∨ X k) w w'∧IoOut w' cf.self.pt bl (vs.drop (cf.self.nv - ioN cf.self.pt))∧(∀ k,X' k→(X k ∨ w.heap.size≤k)∧k ∉ bl)∧DaOw w' (fun k=>(okk k ∨ X k ∨ w.heap.size≤k)∧¬ X' k∧k ∉ bl) X' vs cf.self.fs cf.self.fo ds':=by
 refine (fn_core T hcf hm hR hTr args largs bl ds σ w okk X K (fun _ _ _ _=>False) (EndsAs cf R G bl w okk X K) (hWa largs ds σ K hW) (fun hb=>hVC largs ds σ K bl hW hda.1.symm hb) hG hRσ hokk hX hbl hio hda h1 (fun _ _ h=>h) (fun fn body _ _=>regsP_all (fun id ops b=>by rw [hnt];trivial) body)).mono fun e w' ⟨r,he,vs,ds',σ',X',a1,a2,a3,a4,a5,a6,a7,a8,a9,a10⟩=>⟨vs,ds',σ',r,X',a1,a2,he,a3,a4,a5,a6,a7,a8,a9,a10⟩
theorem fn_ok (T:List (Con P R G)) (hcf:cf.cs=T.map fun x=>(x.f,x.sh)) (hm:P.follows .mixedOrders=true) (hR:∀ σ w w',R σ w→w.heap.size≤w'.heap.size→(∀ k,k≤G→w'.heap[k]?=w.heap[k]?)→R σ w')
  {sa:List SA} {f:FuncId} {Tr:Tree} (hTr:fnS P cf sa f=some Tr) {W:List Value→List D→S→(List Value→List D→S→Prop)→Prop} (hWa:∀ args ds σ K,W args ds σ K→ArgsOk sa args)
  (hVC:∀ args ds σ K,W args ds σ K→ds.length=cf.self.da.length→Tr.holds T K (fun _ _ _ _=>False) ⟨flat args,[],ds,σ⟩)
  (args:List Value) (ds:List D) (σ:S) (w:World) (okk:Nat→Prop) (K:List Value→List D→S→Prop) (hG:G<w.heap.size) (hRσ:R σ w) (hokk:∀ k,okk k→G<k) (hda:DaOk w okk (flat args) cf.self.da ds) (h1:∀ u ∈ flat args,u.oneCell'=true) (hW:W args ds σ K)
  (h0:cf.self.pt=[]∧cf.self.fo=[]∧cf.self.ao=[]:=by exact ⟨rfl,rfl,rfl⟩) (hnt:cf.tails=[]:=by exact rfl) :
  Calls P f args.toArray w fun e w'=>∃ vs ds' σ' r,K vs ds' σ'∧cf.self.ret.den vs []=some r∧e=.returned r∧vs.length=cf.self.nv∧ds'.length=cf.self.fs.length∧(∀ u ∈ vs,u.oneCell'=true) ∧
   R σ' w'∧KeepM G w w'∧DaOk w' (fun k=>okk k ∨ w.heap.size≤k) vs cf.self.fs ds':=by
 obtain ⟨z1,z2,z3⟩:=h0
 have hc:=fn_okX T hcf hm hR hTr hWa (fun args ds σ K bl hW hd hb=>by
  rw [z1] at hb
  have:bl=[]:=List.eq_nil_of_length_eq_zero hb
  subst this
  exact hVC args ds σ K hW hd) args args [] ds σ w okk (fun _=>False) K hG hRσ (fun k hk=>⟨hokk k hk,id⟩) (fun k hk=>hk.elim) List.nodup_nil (by rw [z1];exact rfl) (by rw [z3];exact DaOw.none.2 hda) h1 hW hnt
 refine hc.mono fun e w' ⟨vs,ds',σ',r,X',a1,a2,a3,a4,a5,a6,a7,a8,_,_,a9⟩=>⟨vs,ds',σ',r,a1,a2,a3,a4,a5,a6,a7,a8.toM fun k hk _=>hk.elim id False.elim,?_⟩
 rw [z2] at a9
 have:=DaOw.none.1 a9
 exact ⟨this.1,fun j x d h1 h2=>by obtain ⟨v,h3,h4⟩:=this.2 j x d h1 h2;exact ⟨v,h3,h4.imp fun k hk _=>hk.1.imp id fun h=>h.elim False.elim id⟩⟩
end
end Go.Proofs.YtdmacgoeikjdbaaGreatDoor.Sx

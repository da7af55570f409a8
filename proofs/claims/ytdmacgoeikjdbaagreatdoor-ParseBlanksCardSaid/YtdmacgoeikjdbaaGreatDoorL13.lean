/- Symbolic execution: code, loops, functions. Symbolic execution: code, -/
import Derived.Test.YtdmacgoeikjdbaaGreatDoorL12
import Derived.LoopN
set_option linter.unusedSimpArgs false
set_option linter.unusedVariables false
namespace Go.Proofs.YtdmacgoeikjdbaaGreatDoor.Sx
open Go.RowKit
section
variable {S:Type} {P:Program} {R:S→World→Prop} {C:Ctx R} {E:Env S} {st st':St} {a:Act} {cf:Cfg} {w:World} {T:List (Con P R C.G)} {K:List Value→List D→S→Prop} {A:Nat→List Value→List D→S→Prop}
structure SbOk (E E':Env S) (s:Sb):Prop where
 v:∀ x ∈ s.vs,∃ v,E'.vals[x.1]?=some v∧x.2.den E.vals E.blks=some v
 b:∀ x ∈ s.bs,∃ g,E'.blks[x.1]?=some g∧E.blks[x.2]?=some g
 d:∀ x ∈ s.ds,∃ v d,x.2.1.den E.vals E.blks=some v∧E'.dats[x.1]?=some d∧x.2.2.den E.dats v=some d
structure Sub (s s':Sb):Prop where
 v:∀ x ∈ s.vs,x ∈ s'.vs
 b:∀ x ∈ s.bs,x ∈ s'.bs
 d:∀ x ∈ s.ds,x ∈ s'.ds
theorem Sub.refl (s:Sb):Sub s s:=⟨fun _ h=>h,fun _ h=>h,fun _ h=>h⟩
theorem Sub.trans {s t u:Sb} (h:Sub s t) (k:Sub t u):Sub s u:=⟨fun x hx=>k.v x (h.v x hx),fun x hx=>k.b x (h.b x hx),fun x hx=>k.d x (h.d x hx)⟩
variable {E':Env S}
theorem SbOk.sub {s s':Sb} (h:SbOk E E' s') (k:Sub s s'):SbOk E E' s:=⟨fun x hx=>h.v x (k.v x hx),fun x hx=>h.b x (k.b x hx),fun x hx=>h.d x (k.d x hx)⟩
theorem mtL_spec {s s':Sb} {p l:L} (h:mtL s p l=some s'):Sub s s'∧(SbOk E E' s'→∀ v,l.den E.vals E.blks=some v→p.den E'.vals E'.blks=some v):=by
 cases p with
 | v n=>
  simp only [mtL] at h
  split at h
  ·rename_i l' hl'
   split at h
   ·rename_i he
    injection h with h
    subst h
    have:=eqL_eq he
    subst this
    refine ⟨Sub.refl _,fun hs v hv=>?_⟩
    obtain ⟨u,h1,h2⟩:=hs.v _ (lookN_mem hl')
    rw [hv] at h2
    injection h2 with h2
    subst h2
    exact h1
   ·cases h
  ·injection h with h
   subst h
   refine ⟨⟨fun x hx=>List.mem_append_left _ hx,fun _ h=>h,fun _ h=>h⟩,fun hs v hv=>?_⟩
   obtain ⟨u,h1,h2⟩:=hs.v (n,l) (by simp)
   rw [hv] at h2
   injection h2 with h2
   subst h2
   exact h1
 | c x=>
  cases l with
  | c y=>
   simp only [mtL] at h
   split at h
   ·rename_i he
    injection h with h
    subst h
    have:=eqC_eq he
    subst this
    exact ⟨Sub.refl _,fun _ v hv=>hv⟩
   ·cases h
  | v n=>simp only [mtL] at h;cases h
  | p b o=>simp only [mtL] at h;cases h
  | s b o=>simp only [mtL] at h;cases h
 | s b n=>simp only [mtL] at h;cases h
 | p b o=>
  cases l with
  | v n=>simp only [mtL] at h;cases h
  | c x=>simp only [mtL] at h;cases h
  | s b n=>simp only [mtL] at h;cases h
  | p b' o'=>
   have hden:∀ s',(b,b') ∈ s'.bs→o=o'→SbOk E E' s'→∀ v,(L.p b' o').den E.vals E.blks=some v→(L.p b o).den E'.vals E'.blks=some v:=fun s' hm ho hs v hv=>by
    obtain ⟨g,h1,h2⟩:=hs.b _ hm
    simp only [L.den,h2] at hv
    simp only [L.den,h1,ho]
    exact hv
   simp only [mtL] at h
   split at h
   ·rename_i b2 ho hb
    split at h
    ·rename_i he
     injection h with h
     subst h
     have he:b2=b':=by simpa using he
     subst he
     exact ⟨Sub.refl _,hden _ (lookN_mem hb) (by simpa using ho)⟩
    ·cases h
   ·rename_i ho hb
    injection h with h
    subst h
    exact ⟨⟨fun _ h=>h,fun x hx=>List.mem_append_left _ hx,fun _ h=>h⟩,hden _ (by simp) (by simpa using ho)⟩
   ·cases h
theorem mtLs_spec:∀ {ps ls:List L} {s s':Sb},mtLs s ps ls=some s'→Sub s s'∧(SbOk E E' s'→∀ vs,dens E.vals E.blks ls=some vs→dens E'.vals E'.blks ps=some vs)
 | [],[],s,s',h=>by
  simp only [mtLs,Option.some.injEq] at h
  subst h
  exact ⟨Sub.refl _,fun _ vs hv=>hv⟩
 | [],_ :: _,s,s',h=>by simp only [mtLs] at h;cases h
 | _ :: _,[],s,s',h=>by simp only [mtLs] at h;cases h
 | p :: ps,l :: ls,s,s',h=>by
  simp only [mtLs] at h
  split at h
  ·rename_i s1 h1
   obtain ⟨i1,i2⟩:=mtL_spec (E:=E) (E':=E') h1
   obtain ⟨j1,j2⟩:=mtLs_spec h
   refine ⟨i1.trans j1,fun hs vs hv=>?_⟩
   simp only [dens] at hv ⊢
   split at hv
   ·rename_i v vs' g1 g2
    rw [i2 (hs.sub j1) v g1,j2 hs vs' g2]
    exact hv
   ·cases hv
  ·cases h
theorem mtT_spec {p t:T2} {s s':Sb} (h:mtT s p t=some s'):Sub s s'∧(SbOk E E' s'→∀ v,t.den E.vals E.blks=some v→p.den E'.vals E'.blks=some v):=by
 cases p <;> cases t <;> simp only [mtT] at h
 ·exact mtL_spec h
 ·cases h
 ·cases h
 ·obtain ⟨h1,h2⟩:=mtLs_spec (E:=E) (E':=E') h
  refine ⟨h1,fun hs v hv=>?_⟩
  simp only [T2.den] at hv ⊢
  split at hv
  ·rename_i vs hvs
   rw [h2 hs vs hvs]
   exact hv
  ·cases hv
theorem mtTm_spec {st:St}:∀ {l:List (Nat × SV)} {s s':Sb},mtTm st s l=some s'→Sub s s'∧∀ i x,(i,x) ∈ l→∃ y,lookN i st.tm=some y∧(SbOk E E' s'→∀ v,y.den E.vals E.blks=some v→x.den E'.vals E'.blks=some v)
 | [],s,s',h=>by
  simp only [mtTm,Option.some.injEq] at h
  subst h
  exact ⟨Sub.refl _,fun i x hx=>by cases hx⟩
 | (i,.el x) :: l,s,s',h=>by
  simp only [mtTm] at h
  split at h
  case h_2=>cases h
  rename_i y hy
  split at h
  case h_2=>cases h
  rename_i s1 h1
  obtain ⟨i1,i2⟩:=mtT_spec (E:=E) (E':=E') h1
  obtain ⟨j1,j2⟩:=mtTm_spec h
  refine ⟨i1.trans j1,fun k z hk=>?_⟩
  rcases List.mem_cons.1 hk with hk | hk
  ·injection hk with hk1 hk2
   subst hk1 hk2
   exact ⟨_,hy,fun hs v hv=>i2 (hs.sub j1) v hv⟩
  ·exact j2 k z hk
 | (i,.tup x) :: l,s,s',h=>by simp only [mtTm] at h;cases h
theorem mtMem_spec {st:St}:∀ {l:List Bk} {s s':Sb},mtMem st s l=some s'→Sub s s'∧∀ B ∈ l,∃ B' ∈ st.mem,(B.b,B'.b) ∈ s'.bs∧B.t=B'.t∧(SbOk E E' s'→∀ vs,dens E.vals E.blks B'.cs=some vs→dens E'.vals E'.blks B.cs=some vs)
 | [],s,s',h=>by
  simp only [mtMem,Option.some.injEq] at h
  subst h
  exact ⟨Sub.refl _,fun B hB=>by cases hB⟩
 | B :: l,s,s',h=>by
  simp only [mtMem] at h
  split at h
  case h_2=>cases h
  rename_i b hb
  split at h
  case h_2=>cases h
  rename_i B' hB'
  split at h
  case h_2=>cases h
  rename_i s1 ht h1
  obtain ⟨i1,i2⟩:=mtLs_spec (E:=E) (E':=E') h1
  obtain ⟨j1,j2⟩:=mtMem_spec h
  refine ⟨i1.trans j1,fun B2 hB2=>?_⟩
  rcases List.mem_cons.1 hB2 with rfl | hB2
  ·obtain ⟨g1,g2⟩:=memOf_spec hB'
   refine ⟨B',g1,?_,by simpa using ht,fun hs vs hv=>i2 (hs.sub j1) vs hv⟩
   rw [g2]
   exact (i1.trans j1).b _ (lookN_mem hb)
  ·exact j2 B2 hB2
theorem mtFs_spec {st:St}:∀ {l:List Fc} {s s':Sb},mtFs st s l=some s'→Sub s s'∧s'.vs=s.vs∧s'.bs=s.bs∧∀ f ∈ l,(∃ n g,lookN f.l s.vs=some (L.v n)∧g ∈ st.fs∧g.l=n∧f.own=g.own∧(f.d,(L.v n,CD.dat g.d)) ∈ s'.ds) ∨ (lookN f.l s.vs=some (L.c (.slice none 0 0))∧(f.d,(L.c (.slice none 0 0),CD.nil (zOf f))) ∈ s'.ds)
 | [],s,s',h=>by
  simp only [mtFs,Option.some.injEq] at h
  subst h
  exact ⟨Sub.refl _,rfl,rfl,fun f hf=>by cases hf⟩
 | f :: l,s,s',h=>by
  have step:∀ (x:Nat × (L × CD)),mtFs st { s with ds:=s.ds ++ [x] } l=some s'→Sub s s'∧s'.vs=s.vs∧s'.bs=s.bs∧x ∈ s'.ds∧∀ f ∈ l,(∃ n g,lookN f.l s.vs=some (L.v n)∧g ∈ st.fs∧g.l=n∧f.own=g.own∧(f.d,(L.v n,CD.dat g.d)) ∈ s'.ds) ∨ (lookN f.l s.vs=some (L.c (.slice none 0 0))∧(f.d,(L.c (.slice none 0 0),CD.nil (zOf f))) ∈ s'.ds):=fun x hx=>by
   obtain ⟨h1,h2,h3,h4⟩:=mtFs_spec hx
   refine ⟨⟨fun y hy=>h1.v y hy,fun y hy=>h1.b y hy,fun y hy=>h1.d y (List.mem_append_left _ hy)⟩,h2,h3,h1.d x (by simp),h4⟩
  simp only [mtFs] at h
  split at h
  ·rename_i n hn
   split at h
   case h_2=>cases h
   rename_i g hg
   obtain ⟨g1,g2⟩:=factOf_spec hg
   split at h
   ·rename_i ho hgo
    obtain ⟨h1,h2,h3,h4,h5⟩:=step _ h
    refine ⟨h1,h2,h3,fun f' hf'=>?_⟩
    rcases List.mem_cons.1 hf' with rfl | hf'
    ·exact .inl ⟨n,g,hn,g1,g2,by rw [ho,hgo],h4⟩
    ·exact h5 f' hf'
   ·rename_i e z e' z' ho hgo
    split at h
    ·rename_i hc
     simp only [Bool.and_eq_true,Nat.beq_eq] at hc
     obtain ⟨h1,h2,h3,h4,h5⟩:=step _ h
     refine ⟨h1,h2,h3,fun f' hf'=>?_⟩
     rcases List.mem_cons.1 hf' with rfl | hf'
     ·exact .inl ⟨n,g,hn,g1,g2,by rw [ho,hgo,hc.1,hc.2],h4⟩
     ·exact h5 f' hf'
    ·cases h
   ·cases h
  ·rename_i hn
   obtain ⟨h1,h2,h3,h4,h5⟩:=step _ h
   refine ⟨h1,h2,h3,fun f' hf'=>?_⟩
   rcases List.mem_cons.1 hf' with rfl | hf'
   ·exact .inr ⟨hn,h4⟩
   ·exact h5 f' hf'
  ·cases h
theorem inOrd_spec {α:Type}:∀ {l:List (Nat × α)} {k:Nat} {r:List α},inOrd k l=some r→l.length=r.length∧∀ i x,(i,x) ∈ l→k≤i∧r[i - k]?=some x
 | [],k,r,h=>by
  simp only [inOrd,Option.some.injEq] at h
  subst h
  exact ⟨rfl,fun i x hx=>by cases hx⟩
 | (i,x) :: l,k,r,h=>by
  simp only [inOrd] at h
  split at h
  ·rename_i r' hi hr
   have hi:i=k:=by simpa using hi
   injection h with h
   subst h hi
   obtain ⟨h1,h2⟩:=inOrd_spec hr
   refine ⟨by simp [h1],fun j y hy=>?_⟩
   rcases List.mem_cons.1 hy with hy | hy
   ·injection hy with hy1 hy2
    subst hy1 hy2
    exact ⟨Nat.le_refl _,by simp⟩
   ·obtain ⟨h3,h4⟩:=h2 j y hy
    refine ⟨by omega,?_⟩
    rw [show j - i=(j - (i + 1)) + 1 by omega]
    simpa using h4
  ·cases h
theorem Mm.shut (h:Mm C E st w) (ls:List (L × CD)):Mm C E { st with fs:=Sx.shut ls st.fs } w:=by
 refine ⟨h.nv,h.nb,h.nd,h.one,h.dis,h.lt,h.mem,fun f' hf'=>?_,fun f' hf' k ho=>h.own f' (shut_own hf' ho).1 k ho,fun f hf f' hf' k ho ho'=>h.ownd f (shut_own hf ho).1 f' (shut_own hf' ho').1 k ho ho',h.rs,h.keep,h.kn,h.io⟩
 obtain ⟨f,hf,_,_,h2 | h2⟩:=shut_mem hf'
 ·rw [h2.2]
  obtain ⟨x,hx1,hx2⟩:=h2.1.2
  exact (h.fs f hf).shut (fun k hk=>okE_shut hk) (fun k hko=>h.own_ok hf hx1 hx2 hko)
 ·rw [h2.1]
  exact (h.fs f hf).keep (Le.refl E) (fun k hk _=>okE_shut hk) (fun _ _ _=>rfl) (fun _ _=>rfl)
theorem blks_of {bs:List Nat} (h:Mm C E st w) (hb:bs.all (fun b=>Nat.blt b st.nb)=true):∃ bl:List Nat,bl.length=bs.length∧∀ (i:Nat) b,bs[i]?=some b→∃ g,bl[i]?=some g∧E.blks[b]?=some g:=by
 refine ⟨bs.map fun b=>E.blks.getD b 0,by simp,fun i b hi=>?_⟩
 have hm:=List.all_eq_true.1 hb b (List.mem_of_getElem? hi)
 have hlt:b<E.blks.length:=by rw [h.nb];simpa using hm
 refine ⟨E.blks[b],?_,List.getElem?_eq_getElem hlt⟩
 rw [List.getElem?_map,hi]
 simp [List.getElem?_eq_getElem hlt]
theorem mtIo_spec {bs:List (Nat × Nat)}:∀ {l m:List Nat},mtIo bs l m=true→∀ (i:Nat) b,l[i]?=some b→∃ c,m[i]?=some c∧lookN b bs=some c
 | [],[],_,i,b,h=>by simp at h
 | [],_ :: _,h,_,_,_=>by cases h
 | _ :: _,[],h,_,_,_=>by cases h
 | a :: l,c :: m,h,i,b,hi=>by
  simp only [mtIo,Bool.and_eq_true] at h
  obtain ⟨h1,h2⟩:=h
  cases i with
  | zero=>
   simp at hi
   subst hi
   split at h1
   ·rename_i d hd
    have:d=c:=by simpa using h1
    exact ⟨c,rfl,by rw [hd,this]⟩
   ·cases h1
  | succ i=>simpa using mtIo_spec h2 i b (by simpa using hi)
theorem mtSt_ok {tp:St} {vs:List L} {ds:List (L × CD)} {bs:List Nat} (hm:mtSt st tp=some (vs,ds,bs)) (hT:Tms E st a) (h:Mm C E st w) {va:List Value} {dd:List D} (hva:dens E.vals E.blks vs=some va) (hdd:ldens E ds=some dd) :
  ∃ bl:List Nat,bl.length=tp.nb∧Tms ⟨va,bl,dd,E.st⟩ tp a∧Mm C ⟨va,bl,dd,E.st⟩ tp w:=by
 unfold mtSt at hm
 split at hm
 case h_2=>cases hm
 rename_i s1 h1
 split at hm
 case h_2=>cases hm
 rename_i s2 h2
 split at hm
 case h_2=>cases hm
 rename_i s3 h3
 split at hm
 case h_2=>cases hm
 rename_i a' b' c' o1 o2 o3
 split at hm
 case h_2=>cases hm
 rename_i hok
 split at hm
 case h_2=>cases hm
 rename_i hmio
 injection hm with hm
 injection hm with e1 hm
 injection hm with e2 e3
 subst e1 e2 e3
 simp only [mtOk,Bool.and_eq_true,Nat.beq_eq] at hok
 obtain ⟨⟨k1,k2,k3,k4,k5,k6,k7,k8⟩,k9⟩:=hok
 have hkn:tp.kn=[]:=List.eq_nil_of_length_eq_zero k5
 obtain ⟨bl,b1,b2⟩:=blks_of h k8
 obtain ⟨p1,p2⟩:=inOrd_spec o1
 obtain ⟨p3,p4⟩:=inOrd_spec o2
 obtain ⟨p5,p6⟩:=inOrd_spec o3
 have hlva:=dens_length hva
 obtain ⟨hldd,hgdd⟩:=ldens_get hdd
 have hs:SbOk E (⟨va,bl,dd,E.st⟩:Env S) s3:=by
  refine ⟨fun x hx=>?_,fun x hx=>?_,fun x hx=>?_⟩
  ·obtain ⟨_,q⟩:=p2 x.1 x.2 hx
   exact dens_get hva x.1 x.2 (by simpa using q)
  ·obtain ⟨_,q⟩:=p6 x.1 x.2 hx
   exact b2 x.1 x.2 (by simpa using q)
  ·obtain ⟨_,q⟩:=p4 x.1 x.2 hx
   have q:b'[x.1]?=some x.2:=by simpa using q
   have hlt:x.1<dd.length:=by
    rw [← hldd]
    exact (List.getElem?_eq_some_iff.1 q).1
   obtain ⟨v,q1,q2⟩:=hgdd x.1 x.2 dd[x.1] q (List.getElem?_eq_getElem hlt)
   exact ⟨v,_,q1,List.getElem?_eq_getElem hlt,q2⟩
 obtain ⟨t1,t2⟩:=mtTm_spec (E:=E) (E':=(⟨va,bl,dd,E.st⟩:Env S)) h1
 obtain ⟨m1,m2⟩:=mtMem_spec (E:=E) (E':=(⟨va,bl,dd,E.st⟩:Env S)) h2
 obtain ⟨f1,f2,f3,f4⟩:=mtFs_spec h3
 have hsh:=h.shut (shutL s2.vs tp.fs)
 have hbl:∀ g ∈ bl,g ∈ E.blks:=fun g hg=>by
  obtain ⟨i,hi,rfl⟩:=List.mem_iff_getElem.1 hg
  have hi':i<c'.length:=by omega
  obtain ⟨g',q1,q2⟩:=b2 i c'[i] (List.getElem?_eq_getElem hi')
  rw [List.getElem?_eq_getElem hi] at q1
  injection q1 with q1
  rw [q1]
  exact List.mem_of_getElem? q2
 refine ⟨bl,by omega,⟨by rw [hT.sz,k4],hT.df,fun t sv ht=>?_⟩,?_⟩
 ·obtain ⟨y,q1,q2⟩:=t2 t sv (lookN_mem ht)
  obtain ⟨v,q3,q4⟩:=hT.tm t y q1
  exact ⟨v,q2 (hs.sub (m1.trans f1)) v q3,q4⟩
 have hval:∀ {l:Nat} {x:L},lookN l s2.vs=some x→∃ v,va[l]?=some v∧x.den E.vals E.blks=some v:=fun {l x} hl=>hs.v _ (f1.v _ (lookN_mem hl))
 have hcor:∀ f ∈ tp.fs,(∃ g ∈ Sx.shut (shutL s2.vs tp.fs) st.fs,lookN f.l s2.vs=some (L.v g.l)∧f.own=g.own∧va[f.l]?=E.vals[g.l]?∧dd[f.d]?=E.dats[g.d]?) ∨ (va[f.l]?=some (.slice none 0 0)∧dd[f.d]?=some (.lst (zOf f) [])):=fun f hf=>by
  rcases f4 f hf with ⟨n,g,q1,q2,rfl,q4,q5⟩ | ⟨q2,q3⟩
  ·refine .inl ⟨g,q2,q1,q4,?_,?_⟩
   ·obtain ⟨v,i1,i2⟩:=hval q1
    have i2:E.vals[g.l]?=some v:=i2
    rw [i1,i2]
   ·obtain ⟨v,d,i1,i2,i3⟩:=hs.d _ q5
    have i3:E.dats[g.d]?=some d:=i3
    rw [i3]
    exact i2
  ·refine .inr ⟨?_,?_⟩
   ·obtain ⟨v,i1,i2⟩:=hval q2
    simp only [L.den,Option.some.injEq] at i2
    rw [i1,← i2]
   ·obtain ⟨v,d,i1,i2,i3⟩:=hs.d _ q3
    simp only [L.den,Option.some.injEq] at i1
    subst i1
    simp only [CD.den,Option.some.injEq] at i3
    rw [← i3] at i2
    exact i2
 have hown:∀ f ∈ tp.fs,∀ k,ownAt (⟨va,bl,dd,E.st⟩:Env S) f k→∃ g ∈ Sx.shut (shutL s2.vs tp.fs) st.fs,ownAt E g k∧lookN f.l s2.vs=some (L.v g.l):=fun f hf k ho=>by
  obtain ⟨i1,v,i2,i3⟩:=ho
  have i2:va[f.l]?=some v:=i2
  rcases hcor f hf with ⟨g,q1,q2,q3,q4,_⟩ | ⟨q2,_⟩
  ·exact ⟨g,q1,⟨by rw [← q3];exact i1,v,by rw [← q4];exact i2,i3⟩,q2⟩
  ·rw [i2] at q2
   injection q2 with q2
   subst q2
   cases i3
 have hoke:∀ k,okE C E (Sx.shut (shutL s2.vs tp.fs) st.fs) k→okE C (⟨va,bl,dd,E.st⟩:Env S) tp.fs k:=fun k hk=>⟨hk.1,fun hm=>hk.2.1 (hbl k hm),fun f hf ho=>by
  obtain ⟨g,q1,q2,_⟩:=hown f hf k ho
  exact hk.2.2 g q1 q2⟩
 refine ⟨by show va.length=_;omega,by show bl.length=_;omega,by show dd.length=_;omega,fun v hv=>okLs_one h.one k6 hva v hv,?_,fun g hg=>h.lt g (hbl g hg),fun B hB=>?_,fun f hf=>?_,fun f hf k ho=>?_,fun f hf f' hf' k ho ho'=>?_,h.rs,h.keep,fun x hx=>(by rw [hkn] at hx;cases hx),fun i b hi=>?_⟩
 ·
  show bl.Nodup
  rw [List.nodup_iff_pairwise_ne,List.pairwise_iff_getElem]
  intro i j hi hj hij e
  have hi':i<c'.length:=by omega
  have hj':j<c'.length:=by omega
  obtain ⟨g,q1,q2⟩:=b2 i c'[i] (List.getElem?_eq_getElem hi')
  obtain ⟨g',q3,q4⟩:=b2 j c'[j] (List.getElem?_eq_getElem hj')
  rw [List.getElem?_eq_getElem hi] at q1
  rw [List.getElem?_eq_getElem hj] at q3
  injection q1 with q1
  injection q3 with q3
  obtain ⟨i1,e1⟩:=List.getElem?_eq_some_iff.1 q2
  obtain ⟨i2,e2⟩:=List.getElem?_eq_some_iff.1 q4
  have:c'[i]=c'[j]:=(List.getElem_inj h.dis).1 (by rw [e1,e2,← q1,← q3,e])
  have:=(List.getElem_inj (nodupB_spec k7)).1 this
  omega
 ·obtain ⟨B',q1,q2,q3,q4⟩:=m2 B hB
  obtain ⟨g,cs,i1,i2,i3,i4⟩:=h.mem B' q1
  obtain ⟨g',j1,j2⟩:=hs.b _ (f1.b _ q2)
  have j2:E.blks[B'.b]?=some g':=j2
  rw [i1] at j2
  injection j2 with j2
  subst j2
  exact ⟨g,cs,j1,q4 (hs.sub f1) cs i2,by rw [q3];exact i3,i4⟩
 ·rcases hcor f hf with ⟨g,q1,_,q3,q4,q5⟩ | ⟨q2,q3⟩
  ·obtain ⟨v,d,i1,i2,i3⟩:=hsh.fs g q1
   refine ⟨v,d,by show va[f.l]?=_;rw [q4];exact i1,by show dd[f.d]?=_;rw [q5];exact i2,?_⟩
   rw [q3]
   cases hg:g.own with
   | none=>
    rw [hg] at i3
    exact i3.imp fun k hk _=>hoke k hk
   | some ez=>
    rw [hg] at i3
    obtain ⟨ds,j1,j2,j3⟩:=i3
    exact ⟨ds,j1,j2.imp fun k hk _=>hoke k hk,j3⟩
  ·refine ⟨_,_,q2,q3,?_⟩
   cases hfo:f.own with
   | none=>
    show Rep w _ _ _
    unfold Rep
    exact ⟨none,0,rfl,by simp,by simp [maxLen],fun h=>absurd h (by simp)⟩
   | some ez=>exact ⟨[],by unfold zOf;rw [hfo],Own.nil _ _ _ _ _,fun k hk=>by cases hk⟩
 ·obtain ⟨g,q1,q2,_⟩:=hown f hf k ho
  exact fun hm=>hsh.own g q1 k q2 (hbl k hm)
 ·obtain ⟨g,q1,q2,q3⟩:=hown f hf k ho
  obtain ⟨g',q4,q5,q6⟩:=hown f' hf' k ho'
  have e:=hsh.ownd g q1 g' q4 k q2 q5
  have hap:=List.all_eq_true.1 (List.all_eq_true.1 k9 f hf) f' hf'
  obtain ⟨o1',_⟩:=ho
  obtain ⟨o2',_⟩:=ho'
  obtain ⟨x,hx⟩:=Option.isSome_iff_exists.1 o1'
  obtain ⟨y,hy⟩:=Option.isSome_iff_exists.1 o2'
  rw [hx,hy] at hap
  simp only [Bool.or_eq_true,Nat.beq_eq] at hap
  rcases hap with hap | hap
  ·exact hap
  ·rw [f2,q3,q6] at hap
   simp only [e] at hap
   simp at hap
 ·obtain ⟨c,q1,q2⟩:=mtIo_spec hmio i b hi
  obtain ⟨g,j1,j2⟩:=h.io i c q1
  obtain ⟨g',j3,j4⟩:=hs.b _ (lookN_mem q2)
  have j4:E.blks[c]?=some g':=j4
  rw [j2] at j4
  injection j4 with j4
  exact ⟨g,j1,by rw [j4];exact j3⟩
end
end Go.Proofs.YtdmacgoeikjdbaaGreatDoor.Sx
namespace Go.Proofs.YtdmacgoeikjdbaaGreatDoor.Sx
open Go.RowKit
section
variable {S:Type} {P:Program} {R:S→World→Prop} {C:Ctx R} {cf:Cfg} {T:List (Con P R C.G)} {K:List Value→List D→S→Prop}
abbrev Lk (S:Type):=Nat→List Value→List D→S→Prop
structure GoodC (C:Ctx R) (T:List (Con P R C.G)) (K:List Value→List D→S→Prop) (Fin:Act→World→Prop) (last:Bool) (op:List Nat) (Sd:Nat→(List Value→List D→S→Prop)→Prop) (kn:Kn) (ke:Nat→Kn) (kr:Kn) (Q:Exit→Act→World→Prop):Prop where
 n:∀ A:Lk S,(∀ j ∈ op,Sd j (A j))→Next C T K A kn fun a w=>Q .normal a w
 x:∀ A:Lk S,(∀ j ∈ op,Sd j (A j))→∀ id,Next C T K A (ke id) fun a w=>Q (.exit id) a w
 r:∀ A:Lk S,(∀ j ∈ op,Sd j (A j))→Next C T K A kr fun a w=>Q .ret a w
 p:∀ c a w d v,Q (.panic c) (a.put d v) w→Q (.panic c) a w
 t:∀ a w,Fin a w→Q .ret a w∧(last=true→Q .normal a w)
def TailOk (C:Ctx R) (cf:Cfg) (Sd:Nat→(List Value→List D→S→Prop)→Prop) (Fin:Act→World→Prop) (id:Nat) (ops:Array Oper) (b:Bool):Prop:=match lookN id cf.tails with
 | none=>True
 | some tp=>∀ X,Sd (tailN id) X→∀ va dd bl σ a w,bl.length=tp.nb→X va dd σ→Tms (⟨va,bl,dd,σ⟩:Env S) tp a→Mm C (⟨va,bl,dd,σ⟩:Env S) tp w→(Code.region id ops b).wp P (fun e a w=>e=.normal∧Fin a w) a w
def regsP (Pr:Nat→Array Oper→Bool→Prop):Code→Prop
 | .region id ops b=>Pr id ops b
 | .seq x y=>regsP Pr x∧regsP Pr y
 | .cond _ x y=>regsP Pr x∧regsP Pr y
 | .block _ x=>regsP Pr x
 | .loop x=>regsP Pr x
 | _=>True
theorem regsP_all {Pr:Nat→Array Oper→Bool→Prop} (h:∀ id ops b,Pr id ops b):∀ c:Code,regsP Pr c
 | .region id ops b=>h id ops b
 | .seq x y=>⟨regsP_all h x,regsP_all h y⟩
 | .cond _ x y=>⟨regsP_all h x,regsP_all h y⟩
 | .block _ x=>regsP_all h x
 | .loop x=>regsP_all h x
 | .skip=>trivial
 | .exit _=>trivial
 | .ret=>trivial
 | .rangeFunc ..=>trivial
 | .scope _=>trivial
 | .label _=>trivial
 | .goto _=>trivial
 | .refuse _=>trivial
theorem memN_spec {k:Nat}:∀ {l:List Nat},memN k l=false→k ∉ l
 | [],_=>List.not_mem_nil
 | a :: l,h=>by
  simp only [memN] at h
  split at h
  ·cases h
  ·rename_i hk
   have hk:k ≠ a:=Nat.ne_of_beq_eq_false hk
   intro hm
   rcases List.mem_cons.1 hm with rfl | hm
   ·exact hk rfl
   ·exact memN_spec h hm
theorem boolOf_eval {E:Env S} {st:St} {a:Act} {w:World} (h:Mm C E st w) {l:L} {v:Value} (hl:l.den E.vals E.blks=some v) {b:Bool} (hb:boolOf st l=some b):v=.bool b:=by
 cases l with
 | v n=>
  have h1:=h.kn _ (lookN_mem hb)
  have hl:E.vals[n]?=some v:=hl
  rw [hl] at h1
  injection h1
 | c x=>
  simp only [L.den,Option.some.injEq] at hl
  subst hl
  cases x <;> simp only [boolOf] at hb <;> first | (cases hb;done) | (injection hb with hb;rw [hb])
 | p i j=>cases hb
 | s i j=>cases hb
theorem regsP_imp {Pr Pr':Nat→Array Oper→Bool→Prop} (h:∀ id ops b,Pr id ops b→Pr' id ops b):∀ c:Code,regsP Pr c→regsP Pr' c
 | .region id ops b,hc=>h id ops b hc
 | .seq x y,hc=>⟨regsP_imp h x hc.1,regsP_imp h y hc.2⟩
 | .cond _ x y,hc=>⟨regsP_imp h x hc.1,regsP_imp h y hc.2⟩
 | .block _ x,hc=>regsP_imp h x hc
 | .loop x,hc=>regsP_imp h x hc
 | .skip,_=>trivial
 | .exit _,_=>trivial
 | .ret,_=>trivial
 | .rangeFunc ..,_=>trivial
 | .scope _,_=>trivial
 | .label _,_=>trivial
 | .goto _,_=>trivial
 | .refuse _,_=>trivial
theorem wp_mono_region {id:Nat} {ops:Array Oper} {b:Bool} {Q Q':Exit→Act→World→Prop} {a:Act} {w:World} (h:(Code.region id ops b).wp P Q a w) (hQ:∀ e a w,Q e a w→Q' e a w):(Code.region id ops b).wp P Q' a w:=fun b' k cs=>by
 obtain ⟨e,a1,w1,h1,h2⟩:=h b' k cs
 exact ⟨e,a1,w1,hQ _ _ _ h1,h2⟩
theorem code_ok {Fin:Act→World→Prop} {Sd:Nat→(List Value→List D→S→Prop)→Prop} (hcf:TabOk C cf T) (hm:P.follows .mixedOrders=true):∀ (c:Code) (bid:Option Nat) (op:List Nat) (Sd':Nat→(List Value→List D→S→Prop)→Prop) (last:Bool) (A:Lk S) (E:Env S) (st:St) (a:Act) (w:World) (Tr:Tree) (kn:Kn) (ke:Nat→Kn) (kr:Kn) (Q:Exit→Act→World→Prop),
  codeS P cf c bid op last st kn ke kr=some Tr→Tr.holds T K A E→(∀ j ∈ op,Sd' j (A j))→Tms E st a→Mm C E st w→GoodC C T K Fin last op Sd' kn ke kr Q→(∀ x ∈ cf.tails,tailN x.1 ∈ op∧Sd' (tailN x.1)=Sd (tailN x.1))→regsP (TailOk (P:=P) C cf Sd Fin) c→c.wp P Q a w
 | .skip,bid,op,Sd',last,A,E,st,a,w,Tr,kn,ke,kr,Q,hc,hh,hA,hT,h,hg,ht,hr=>Go.wp_skip (hg.n A hA E st a w Tr hc hh hT h)
 | .region id ops b,bid,op,Sd',last,A,E,st,a,w,Tr,kn,ke,kr,Q,hc,hh,hA,hT,h,hg,ht,hr=>by
  simp only [codeS] at hc
  cases htl:tailS cf id last st with
  | some r=>
   rw [htl] at hc
   simp only at hc
   subst hc
   unfold tailS at htl
   split at htl
   case h_2=>cases htl
   rename_i tp hlk
   split at htl
   case h_2=>cases htl
   rename_i vs ds bs hmt
   simp only [Option.some.injEq] at htl
   subst htl
   obtain ⟨va,dd,i1,i2,i3⟩:=hh
   obtain ⟨bl,j1,j2,j3⟩:=mtSt_ok hmt hT h i1 i2
   have hr:TailOk (P:=P) C cf Sd Fin id ops b:=hr
   unfold TailOk at hr
   rw [hlk] at hr
   obtain ⟨k1,k2⟩:=ht _ (lookN_mem hlk)
   refine wp_mono_region (hr (A (tailN id)) ?_ va dd bl E.st a w j1 i3 j2 j3) fun e a w hq=>?_
   ·rw [← k2];exact hA _ k1
   ·obtain ⟨rfl,hf⟩:=hq
    exact (hg.t a w hf).2 rfl
  | none=>
   rw [htl] at hc
   simp only at hc
   cases b with
   | false=>exact wp_region_list (ops_ok hcf (hg.n A hA) ops.toList hc hh hT h)
   | true=>
    have hM:MemR E st.mem w.drew:=h.drew.memR
    have hc:drawA P cf ops st kn=some Tr:=hc
    unfold drawA at hc
    split at hc
    ·rename_i T1 hT1
     injection hc with hc
     subst hc
     exact anyK_begin _ (SR2 (R:=R) E st _) hm (draw_ok hcf hg.p (hg.n A hA) ops.size hT1 hh (Le.refl E) (fun _=>rfl) (fun _ hB=>hB) ⟨hM,fun _=>h.drew.rs⟩ hT h.drew)
    ·exact anyJ_begin 0 (fun _=>True) hm trivial fun _=>drawT_ok hcf (hg.n A hA) ops.size hc hh hT h.drew
 | .seq x y,bid,op,Sd',last,A,E,st,a,w,Tr,kn,ke,kr,Q,hc,hh,hA,hT,h,hg,ht,hr=>by
  refine wp_seq (code_ok hcf hm x none op Sd' (isRet y) A E st a w Tr _ ke kr _ hc hh hA hT h ⟨fun A' hA' E' st' a' w' T' h1 h2 h3 h4=>?_,hg.x,hg.r,hg.p,fun a w hf=>⟨(hg.t a w hf).1,fun hy=>?_⟩⟩ ht hr.1)
  ·exact code_ok hcf hm y none op Sd' last A' E' st' a' w' T' kn ke kr Q h1 h2 hA' h3 h4 hg ht hr.2
  ·show y.wp P Q a w
   cases y <;> first | (cases hy;done) | exact wp_ret (hg.t a w hf).1
 | .cond c x y,bid,op,Sd',last,A,E,st,a,w,Tr,kn,ke,kr,Q,hc,hh,hA,hT,h,hg,ht,hr=>by
  simp only [codeS] at hc
  split at hc
  case h_2=>cases hc
  rename_i l hl
  obtain ⟨e1,_⟩:=hT.eval1 h.one hl
  split at hc
  ·rename_i hb
   exact wp_cond (boolOf_eval (a:=a) h e1 hb) (code_ok hcf hm x none op Sd' last A E st a w Tr kn ke kr Q hc hh hA hT h hg ht hr.1)
  ·rename_i hb
   exact wp_cond (boolOf_eval (a:=a) h e1 hb) (code_ok hcf hm y none op Sd' last A E st a w Tr kn ke kr Q hc hh hA hT h hg ht hr.2)
  ·split at hc
   ·obtain ⟨b,T',h1,h2,h3,h4,h5⟩:=ite_ok hT h hc hh
    simp only [L.den] at e1
    rw [h1] at e1
    injection e1 with e1
    cases b
    ·exact wp_cond e1.symm (code_ok hcf hm y none op Sd' last A E _ a w T' kn ke kr Q h2 h3 hA h4 h5 hg ht hr.2)
    ·exact wp_cond e1.symm (code_ok hcf hm x none op Sd' last A E _ a w T' kn ke kr Q h2 h3 hA h4 h5 hg ht hr.1)
   ·cases hc
 | .block id body,bid,op,Sd',last,A,E,st,a,w,Tr,kn,ke,kr,Q,hc,hh,hA,hT,h,hg,ht,hr=>by
  refine wp_block (code_ok hcf hm body (some id) op Sd' last A E st a w Tr kn _ kr _ hc hh hA hT h ⟨hg.n,fun A' hA' j E' st' a' w' T' h1 h2 h3 h4=>?_,hg.r,hg.p,fun a w hf=>⟨(hg.t a w hf).1,fun hy=>(hg.t a w hf).2 hy⟩⟩ ht hr)
  simp only [Exit.inBlock]
  have h1:(match Nat.beq j id with
   | true=>kn
   | false=>ke j) st'=some T':=h1
  cases he:Nat.beq j id
  ·rw [he] at h1
   rw [if_neg (Nat.ne_of_beq_eq_false he)]
   exact hg.x A' hA' j E' st' a' w' T' h1 h2 h3 h4
  ·rw [he] at h1
   rw [if_pos (by simpa using he)]
   exact hg.n A' hA' E' st' a' w' T' h1 h2 h3 h4
 | .exit id,bid,op,Sd',last,A,E,st,a,w,Tr,kn,ke,kr,Q,hc,hh,hA,hT,h,hg,ht,hr=>wp_exit (hg.x A hA id E st a w Tr hc hh hT h)
 | .ret,bid,op,Sd',last,A,E,st,a,w,Tr,kn,ke,kr,Q,hc,hh,hA,hT,h,hg,ht,hr=>wp_ret (hg.r A hA E st a w Tr hc hh hT h)
 | .loop body,none,op,Sd',last,A,E,st,a,w,Tr,kn,ke,kr,Q,hc,hh,hA,hT,h,hg,ht,hr=>by simp only [codeS] at hc;cases hc
 | .loop body,some id,op,Sd',last,A,E,st,a,w,Tr,kn,ke,kr,Q,hc,hh,hA,hT,h,hg,ht,hr=>by
  have ht0:∀ a w,Fin a w→Q .ret a w∧(false=true→Q .normal a w):=fun a w hf=>⟨(hg.t a w hf).1,fun hy=>by cases hy⟩
  simp only [codeS] at hc
  split at hc
  case h_2=>cases hc
  case h_3=>
   have key:∀ (n:Nat) (A:Lk S) (E:Env S) (st:St) (a:Act) (w:World) (Tr:Tree),(∀ j ∈ op,Sd' j (A j))→unrollN (fun st' k=>codeS P cf body none op false st' k ke kr) n st=some Tr→Tr.holds T K A E→Tms E st a→Mm C E st w→Code.rounds P body Q n a w:=by
    intro n
    induction n with
    | zero=>intro A E st a w Tr _ h1;cases h1
    | succ n ih=>
     intro A E st a w Tr hA h1 h2 h3 h4
     exact code_ok hcf hm body none op Sd' false A E st a w Tr _ ke kr _ h1 h2 hA h3 h4 ⟨fun A2 hA2 E' st' a' w' T' g1 g2 g3 g4=>ih A2 E' st' a' w' T' hA2 g1 g2 g3 g4,hg.x,hg.r,hg.p,fun a w hf=>⟨(ht0 a w hf).1,fun hy=>by cases hy⟩⟩ ht hr
   exact wp_loop_rounds 60 (key 60 A E st a w Tr hA hc hh hT h)
  rename_i tp htp hid
  split at hc
  case h_2=>cases hc
  rename_i vs ds bs hmt
  split at hc
  case h_2=>cases hc
  rename_i Tb hTb
  injection hc with hc
  subst hc
  obtain ⟨Lp,h0,⟨f,va,dd,hva,hdd,hL⟩,hstep⟩:=hh
  have hid:=memN_spec hid
  have hti:∀ x ∈ cf.tails,tailN x.1 ≠ id:=fun x hx e=>hid (e ▸ (ht x hx).1)
  have key:∀ (f:Nat) (va:List Value) (dd:List D) (bl:List Nat) (σ:S) (a:Act) (w:World),bl.length=tp.nb→Lp f va dd σ→Tms ⟨va,bl,dd,σ⟩ tp a→Mm C ⟨va,bl,dd,σ⟩ tp w→Code.rounds P body Q f a w:=by
   intro f
   induction f with
   | zero=>intro va dd bl σ a w _ hL _ _;exact (h0 _ _ _ hL).elim
   | succ f ih=>
    intro va dd bl σ a w hbl hL hT h
    have hb:=hstep f va dd bl σ hbl hL
    have hA':∀ j ∈ id :: op,(fun (j:Nat) (X:List Value→List D→S→Prop)=>if j=id then (∀ va dd σ,X va dd σ→Lp f va dd σ) else Sd' j X) j ((fun j=>if j=id then Lp f else A j) j):=fun j hj=>by
     by_cases hji:j=id
     ·simp [hji]
     ·simp only [hji,if_false]
      exact hA j ((List.mem_cons.1 hj).resolve_left hji)
    refine code_ok hcf hm body none (id :: op) (fun (j:Nat) (X:List Value→List D→S→Prop)=>if j=id then (∀ va dd σ,X va dd σ→Lp f va dd σ) else Sd' j X) false (fun j=>if j=id then Lp f else A j) _ tp a w Tb _ ke kr _ hTb hb hA' hT h ⟨fun A2 hA2 E' st' a' w' T' g1 g2 g3 g4=>?_,fun A2 hA2 j=>hg.x A2 (fun j hj=>?_) j,fun A2 hA2=>hg.r A2 (fun j hj=>?_),hg.p,fun a w hf=>⟨(ht0 a w hf).1,fun hy=>by cases hy⟩⟩ (fun x hx=>⟨List.mem_cons_of_mem _ (ht x hx).1,?_⟩) hr
    ·split at g1
     ·rename_i vs' ds' bs' hmt'
      injection g1 with g1
      subst g1
      obtain ⟨va',dd',i1,i2,i3⟩:=g2
      have hLf:Lp f va' dd' E'.st:=by
       have:=hA2 id List.mem_cons_self
       simp only [if_pos] at this
       exact this _ _ _ i3
      obtain ⟨bl',j1,j2,j3⟩:=mtSt_ok hmt' g3 g4 i1 i2
      exact ih va' dd' bl' E'.st a' w' j1 hLf j2 j3
     ·cases g1
    ·have:=hA2 j (List.mem_cons_of_mem _ hj)
     have hji:j ≠ id:=fun e=>hid (e ▸ hj)
     simpa only [if_neg hji] using this
    ·have:=hA2 j (List.mem_cons_of_mem _ hj)
     have hji:j ≠ id:=fun e=>hid (e ▸ hj)
     simpa only [if_neg hji] using this
    ·funext X
     simp only [if_neg (hti x hx),(ht x hx).2]
  obtain ⟨bl,j1,j2,j3⟩:=mtSt_ok hmt hT h hva hdd
  exact wp_loop_rounds f (key f va dd bl E.st a w j1 hL j2 j3)
 | .rangeFunc ..,bid,op,Sd',last,A,E,st,a,w,Tr,kn,ke,kr,Q,hc,hh,hA,hT,h,hg,ht,hr=>by simp only [codeS] at hc;cases hc
 | .scope _,bid,op,Sd',last,A,E,st,a,w,Tr,kn,ke,kr,Q,hc,hh,hA,hT,h,hg,ht,hr=>by simp only [codeS] at hc;cases hc
 | .label _,bid,op,Sd',last,A,E,st,a,w,Tr,kn,ke,kr,Q,hc,hh,hA,hT,h,hg,ht,hr=>by simp only [codeS] at hc;cases hc
 | .goto _,bid,op,Sd',last,A,E,st,a,w,Tr,kn,ke,kr,Q,hc,hh,hA,hT,h,hg,ht,hr=>by simp only [codeS] at hc;cases hc
 | .refuse _,bid,op,Sd',last,A,E,st,a,w,Tr,kn,ke,kr,Q,hc,hh,hA,hT,h,hg,ht,hr=>by simp only [codeS] at hc;cases hc
termination_by c=>c
end
end Go.Proofs.YtdmacgoeikjdbaaGreatDoor.Sx

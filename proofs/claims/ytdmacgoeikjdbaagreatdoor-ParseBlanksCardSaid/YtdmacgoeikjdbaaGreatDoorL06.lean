/- Symbolic execution: what a tree asks; values, memory, a state that fit -/
import Derived.Test.YtdmacgoeikjdbaaGreatDoorL05
set_option linter.unusedSimpArgs false
set_option linter.unusedVariables false
namespace Go.Proofs.YtdmacgoeikjdbaaGreatDoor.Sx
open Go.RowKit
def lenV:Value→Option Value
 | .slice _ n _=>some (.int .i64 n)
 | _=>none
def nilcV:Value→Option Value
 | .pointer (some a)=>some (.pointer (some a))
 | _=>none
def faV (o:Nat):Value→Option Value
 | .pointer (some ⟨g,k,none⟩)=>some (.pointer (some ⟨g,k + o,none⟩))
 | _=>none
def iaV (z:Nat) (x i:Value):Option Value:=match x,i with
 | .slice (some ⟨g,k,none⟩) n _,.int .i64 (.ofNat i)=>match Nat.blt i n with
  | true=>some (.pointer (some ⟨g,k + i * z,none⟩))
  | false=>none
 | _,_=>none
def PV.sem:PV→List Value→Option Value
 | .bin op,[x,y]=>binV op x y
 | .un op,[x]=>unV op x
 | .len,[x]=>lenV x
 | .nilc,[x]=>nilcV x
 | .fa o,[x]=>faV o x
 | .ia z,[x,i]=>iaV z x i
 | _,_=>none
def leafD:Value→Option D
 | .int k n=>some (.int k n)
 | .bool b=>some (.bool b)
 | .string s=>some (.str s.data.toList)
 | _=>none
def CD.den (dats:List D) (v:Value):CD→Option D
 | .leaf=>leafD v
 | .dat k=>dats[k]?
 | .nil z=>match v with
  | .slice none 0 0=>some (.lst z [])
  | _=>none
section
variable {S:Type}
def ldens (E:Env S):List (L × CD)→Option (List D)
 | []=>some []
 | (l,c) :: r=>match l.den E.vals E.blks with
  | some v=>match c.den E.dats v,ldens E r with
   | some d,some ds=>some (d :: ds)
   | _,_=>none
  | none=>none
def rowD (row:Bool) (ds:List D):Option D:=match row with
 | true=>some (.st ds)
 | false=>match ds with
  | [d]=>some d
  | _=>none
def rowsD (E:Env S) (row:Bool):List (List (L × CD))→Option (List D)
 | []=>some []
 | r :: l=>match ldens E r with
  | some ds=>match rowD row ds,rowsD E row l with
   | some d,some m=>some (d :: m)
   | _,_=>none
  | none=>none
def LoadsAt (w:World) (p:Value) (vs:List Value):Prop:=∃ g o,p=.pointer (some ⟨g,o,none⟩)∧w.rangeAt g o vs
def DaOk (w:World) (ok:Nat→Prop) (cells:List Value) (da:List (Nat × Nat)) (ds:List D):Prop:=
 da.length=ds.length∧∀ (j:Nat) (x:Nat × Nat) (d:D),da[j]?=some x→ds[j]?=some d→∃ v,cells[x.1]?=some v∧Rep w ok d [v]
def flat (args:List Value):List Value:=args.flatMap (·.cells.toList)
def DaOw (w:World) (ok X:Nat→Prop) (cells:List Value) (da:List (Nat × Nat)) (ow:List (Nat × TypeId)) (ds:List D):Prop:=
 da.length=ds.length∧(∀ (j:Nat) (x:Nat × Nat) (d:D),da[j]?=some x→ds[j]?=some d→∃ v,cells[x.1]?=some v∧match ownT ow j x.2 with
  | none=>Rep w ok d [v]
  | some (e,z)=>∃ l,d=.lst z l∧Own w 0 ok e z v l∧∀ k,v.ownBlock=some k→X k) ∧
 ∀ (j j':Nat) (x x':Nat × Nat) (v v':Value) (k:Nat),da[j]?=some x→da[j']?=some x'→(ownT ow j x.2).isSome=true→(ownT ow j' x'.2).isSome=true→cells[x.1]?=some v→cells[x'.1]?=some v'→v.ownBlock=some k→v'.ownBlock=some k→j=j'
def IoIn (w:World) (X:Nat→Prop):List (Nat × TypeId × Nat)→List Nat→List Value→List Value→Prop
 | [],[],args,largs=>args=largs
 | (i,t,n) :: r,g :: bl,args,largs=>X g∧args[i]?=some (.pointer (some ⟨g,0,none⟩))∧∃ cs:List Value,cs.length=n∧BlkIs w g t cs.toArray∧∃ mid,IoIn w X r bl args mid∧i<mid.length∧largs=mid.set i (.agg cs.toArray)
 | _,_,_,_=>False
def IoOut (w:World):List (Nat × TypeId × Nat)→List Nat→List Value→Prop
 | [],[],_=>True
 | (_,t,n) :: r,g :: bl,vs=>BlkIs w g t (vs.take n).toArray∧IoOut w r bl (vs.drop n)
 | _,_,_=>False
structure KeepX (X:Nat→Prop) (w w':World):Prop where
 os:w'.os=w.os
 tape:w'.tape=w.tape
 output:w'.output=w.output
 size:w.heap.size≤w'.heap.size
 block:∀ g,¬ X g→g<w.heap.size→w'.heap[g]?=w.heap[g]?
theorem KeepX.refl (X:Nat→Prop) (w:World):KeepX X w w:=⟨rfl,rfl,rfl,Nat.le_refl _,fun _ _ _=>rfl⟩
theorem KeepX.trans {X:Nat→Prop} {w w' w2:World} (h:KeepX X w w') (k:KeepX X w' w2):KeepX X w w2:=
 ⟨k.os.trans h.os,k.tape.trans h.tape,k.output.trans h.output,Nat.le_trans h.size k.size,fun g hg hl=>(k.block g hg (Nat.lt_of_lt_of_le hl h.size)).trans (h.block g hg hl)⟩
theorem KeepX.of {X:Nat→Prop} {w w':World} (h:Below w.heap.size w w'):KeepX X w w':=⟨h.os,h.tape,h.output,h.size,fun g _ hl=>h.block g hl⟩
theorem KeepX.alloc {X:Nat→Prop} {w w':World} (h:KeepX X w w') (o:Obj):KeepX X w (w'.alloc o):=h.trans (KeepX.of (below_alloc _ _))
theorem KeepX.drew {X:Nat→Prop} {w w':World} (h:KeepX X w w'):KeepX X w w'.drew:=⟨h.os,h.tape,h.output,h.size,h.block⟩
theorem KeepX.setRow {X:Nat→Prop} {w w':World} (h:KeepX X w w') {g:Nat} (hp:X g ∨ w.heap.size≤g) (cs:Array Value):KeepX X w (w'.setRow g cs):=
 ⟨h.os,h.tape,h.output,by simp;exact h.size,fun k hk hl=>(setRow_other w' g k cs (fun e=>by subst e;exact hp.elim hk (fun h=>by omega))).trans (h.block k hk hl)⟩
theorem KeepX.ofM {X:Nat→Prop} {G:Nat} {w w':World} (h:KeepM G w w') (hG:X G):KeepX X w w':=⟨h.os,h.tape,h.output,h.size,fun g hg hl=>h.block g (fun e=>hg (e ▸ hG)) hl⟩
theorem KeepX.toM {G:Nat} {w w':World} {X:Nat→Prop} (h:KeepX X w w') (hX:∀ k,X k→k<w.heap.size→k=G):KeepM G w w':=⟨h.os,h.tape,h.output,h.size,fun g hg hl=>h.block g (fun hx=>hg (hX g hx hl)) hl⟩
structure Con (P:Program) (R:S→World→Prop) (G:Nat) where
 f:FuncId
 sh:Shp
 W:List Value→List D→S→(List Value→List D→S→Prop)→Prop
 ok:∀ (args largs:List Value) (bl:List Nat) (ds:List D) (σ:S) (w:World) (okk X:Nat→Prop) (K:List Value→List D→S→Prop),
  G<w.heap.size→R σ w→(∀ k,okk k→G<k∧¬ X k)→(∀ k,X k→G<k∧k<w.heap.size)→bl.Nodup→IoIn w X sh.pt bl args largs→DaOw w okk (fun k=>X k∧k ∉ bl) (flat largs) sh.da sh.ao ds→(∀ u ∈ flat largs,u.oneCell'=true)→W largs ds σ K →
  Calls P f args.toArray w fun e w'=>∃ vs ds' σ' r,∃ X':Nat→Prop,K vs ds' σ'∧sh.ret.den vs []=some r∧e=.returned r∧vs.length=sh.nv∧ds'.length=sh.fs.length∧(∀ u ∈ vs,u.oneCell'=true) ∧
   R σ' w'∧KeepX (fun k=>k=G ∨ X k) w w'∧IoOut w' sh.pt bl (vs.drop (sh.nv - ioN sh.pt))∧(∀ k,X' k→(X k ∨ w.heap.size≤k)∧k ∉ bl)∧DaOw w' (fun k=>(okk k ∨ X k ∨ w.heap.size≤k)∧¬ X' k∧k ∉ bl) X' vs sh.fs sh.fo ds'
structure Con0 (P:Program) (R:S→World→Prop) (G:Nat) where
 f:FuncId
 sh:Shp
 W:List Value→List D→S→(List Value→List D→S→Prop)→Prop
 ok:∀ (args:List Value) (ds:List D) (σ:S) (w:World) (okk:Nat→Prop) (K:List Value→List D→S→Prop),
  G<w.heap.size→R σ w→(∀ k,okk k→G<k)→DaOk w okk (flat args) sh.da ds→(∀ u ∈ flat args,u.oneCell'=true)→W args ds σ K →
  Calls P f args.toArray w fun e w'=>∃ vs ds' σ' r,K vs ds' σ'∧sh.ret.den vs []=some r∧e=.returned r∧vs.length=sh.nv∧ds'.length=sh.fs.length∧(∀ u ∈ vs,u.oneCell'=true) ∧
   R σ' w'∧KeepM G w w'∧DaOk w' (fun k=>okk k ∨ w.heap.size≤k) vs sh.fs ds'
 h0:sh.pt=[]∧sh.fo=[]∧sh.ao=[]:=by exact ⟨rfl,rfl,rfl⟩
theorem DaOw.none {w:World} {ok X:Nat→Prop} {cells:List Value} {da:List (Nat × Nat)} {ds:List D}:DaOw w ok X cells da [] ds ↔ DaOk w ok cells da ds:=
 ⟨fun h=>⟨h.1,fun j x d h1 h2=>h.2.1 j x d h1 h2⟩,fun h=>⟨h.1,fun j x d h1 h2=>h.2 j x d h1 h2,fun _ _ _ _ _ _ _ _ _ h1=>by cases h1⟩⟩
@[reducible] def Con0.x {P:Program} {R:S→World→Prop} {G:Nat} (c:Con0 P R G):Con P R G where
 f:=c.f
 sh:=c.sh
 W:=c.W
 ok args largs bl ds σ w okk X K hG hR hok hX hbl hio hda h1 hW:=by
  obtain ⟨i1,i2,i3⟩:=c.h0
  rw [i3] at hda
  rw [i1] at hio ⊢
  cases bl with
  | cons g bl=>exact hio.elim
  | nil=>
   have e:args=largs:=hio
   subst e
   refine (c.ok args ds σ w okk K hG hR (fun k hk=>(hok k hk).1) (DaOw.none.1 hda) h1 hW).mono fun e w' ⟨vs,ds',σ',r,h2,h3,h4,h5,h6,h7,h8,h9,h10⟩=>?_
   refine ⟨vs,ds',σ',r,fun _=>False,h2,h3,h4,h5,h6,h7,h8,KeepX.ofM h9 (.inl rfl),trivial,fun k hk=>hk.elim,?_⟩
   rw [i2,DaOw.none]
   exact ⟨h10.1,fun j x d h11 h12=>by obtain ⟨v,h13,h14⟩:=h10.2 j x d h11 h12;exact ⟨v,h13,h14.imp fun k hk _=>⟨hk.imp id .inr,id,by simp⟩⟩⟩
instance {P:Program} {R:S→World→Prop} {G:Nat}:Coe (Con0 P R G) (Con P R G):=⟨Con0.x⟩
section
variable {P:Program} {R:S→World→Prop} {G:Nat}
def wpN (T:List (Con P R G)):Nd→Env S→(Env S→Prop)→Prop
 | .new,E,K=>∀ g,K { E with blks:=E.blks ++ [g] }
 | .pv p xs,E,K=>∃ vs r,dens E.vals E.blks xs=some vs∧p.sem vs=some r∧K { E with vals:=E.vals ++ [r] }
 | .ld x n,E,K=>∃ p vs,x.den E.vals E.blks=some p∧vs.length=n∧(∀ u ∈ vs,u.oneCell'=true)∧(∀ w,R E.st w→LoadsAt w p vs)∧K { E with vals:=E.vals ++ vs }
 | .call k args ds,E,K=>match T[k]? with
  | some c=>∃ vs dd,dens2 E.vals E.blks args=some vs∧ldens E ds=some dd∧c.W vs dd E.st fun vs' ds' σ'=>K { E with vals:=E.vals ++ vs',dats:=E.dats ++ ds',st:=σ' }
  | none=>False
 | .bs z n row cs,E,K=>∃ ds,rowsD E row cs=some ds∧∀ g,K { E with vals:=E.vals ++ [.slice (some ⟨g,0,none⟩) n n],dats:=E.dats ++ [.lst z ds] }
 | .app z s x,E,K=>∃ ds1 ds2,(match s with
   | .dat k=>E.dats[k]?=some (.lst z ds1)
   | _=>ds1=[])∧E.dats[x]?=some (.lst z ds2)∧ds1.length + ds2.length≤1000000000∧∀ A c,K { E with vals:=E.vals ++ [.slice A (ds1.length + ds2.length) c],dats:=E.dats ++ [.lst z (ds1 ++ ds2)] }
def Tree.holds (T:List (Con P R G)) (K:List Value→List D→S→Prop) (A:Nat→List Value→List D→S→Prop):Tree→Env S→Prop
 | .nd n k,E=>wpN T n E fun E'=>k.holds T K A E'
 | .ite n a b,E=>∃ c:Bool,E.vals[n]?=some (.bool c)∧(c=true→a.holds T K A E)∧(c=false→b.holds T K A E)
 | .both a b,E=>a.holds T K A E∧b.holds T K A E
 | .ret cs ds,E=>∃ vs dd,dens E.vals E.blks cs=some vs∧ldens E ds=some dd∧K vs dd E.st
 | .again id vs ds,E=>∃ a b,dens E.vals E.blks vs=some a∧ldens E ds=some b∧A id a b E.st
 | .loop id nb vs ds body,E=>∃ Lp:Nat→List Value→List D→S→Prop,(∀ a b σ,¬ Lp 0 a b σ)∧(∃ f a b,dens E.vals E.blks vs=some a∧ldens E ds=some b∧Lp f a b E.st) ∧
   ∀ f a b bl σ,bl.length=nb→Lp (f + 1) a b σ→body.holds T K (fun j=>if j=id then Lp f else A j) ⟨a,bl,b,σ⟩
end
structure Le (E E':Env S):Prop where
 v:∀ (i:Nat) v,E.vals[i]?=some v→E'.vals[i]?=some v
 b:∀ (i:Nat) g,E.blks[i]?=some g→E'.blks[i]?=some g
 d:∀ (i:Nat) d,E.dats[i]?=some d→E'.dats[i]?=some d
theorem app_get {α:Type} {l x:List α} {i:Nat} {v:α} (h:l[i]?=some v):(l ++ x)[i]?=some v:=by
 rw [List.getElem?_append_left (by
  rw [List.getElem?_eq_some_iff] at h
  exact h.1)]
 exact h
theorem Le.refl (E:Env S):Le E E:=⟨fun _ _ h=>h,fun _ _ h=>h,fun _ _ h=>h⟩
theorem Le.push (E:Env S) (x:List Value) (y:List Nat) (z:List D) (σ:S):Le E ⟨E.vals ++ x,E.blks ++ y,E.dats ++ z,σ⟩:=⟨fun _ _ h=>app_get h,fun _ _ h=>app_get h,fun _ _ h=>app_get h⟩
theorem L.den_le {E E':Env S} (h:Le E E') {l:L} {v:Value} (hl:l.den E.vals E.blks=some v):l.den E'.vals E'.blks=some v:=by
 cases l with
 | v n=>exact h.v n v hl
 | c x=>exact hl
 | p b off=>
  simp only [L.den] at hl ⊢
  split at hl
  ·rename_i g hg
   rw [h.b b g hg]
   exact hl
  ·cases hl
 | s b n=>
  simp only [L.den] at hl ⊢
  split at hl
  ·rename_i g hg
   rw [h.b b g hg]
   exact hl
  ·cases hl
theorem dens_le {E E':Env S} (h:Le E E'):∀ {l:List L} {vs:List Value},dens E.vals E.blks l=some vs→dens E'.vals E'.blks l=some vs
 | [],_,hl=>hl
 | l :: ls,vs,hl=>by
  simp only [dens] at hl ⊢
  split at hl
  ·rename_i v vs' h1 h2
   rw [L.den_le h h1,dens_le h h2]
   exact hl
  ·cases hl
theorem T2.den_le {E E':Env S} (h:Le E E') {l:T2} {v:Value} (hl:l.den E.vals E.blks=some v):l.den E'.vals E'.blks=some v:=by
 cases l with
 | one l=>exact L.den_le h hl
 | agg ls=>
  simp only [T2.den] at hl ⊢
  split at hl
  ·rename_i vs hvs
   rw [dens_le h hvs]
   exact hl
  ·cases hl
theorem dens2_le {E E':Env S} (h:Le E E'):∀ {l:List T2} {vs:List Value},dens2 E.vals E.blks l=some vs→dens2 E'.vals E'.blks l=some vs
 | [],_,hl=>hl
 | l :: ls,vs,hl=>by
  simp only [dens2] at hl ⊢
  split at hl
  ·rename_i v vs' h1 h2
   rw [T2.den_le h h1,dens2_le h h2]
   exact hl
  ·cases hl
theorem SV.den_le {E E':Env S} (h:Le E E') {l:SV} {v:Value} (hl:l.den E.vals E.blks=some v):l.den E'.vals E'.blks=some v:=by
 cases l with
 | el x=>exact T2.den_le h hl
 | tup ls=>
  simp only [SV.den] at hl ⊢
  split at hl
  ·rename_i vs hvs
   rw [dens2_le h hvs]
   exact hl
  ·cases hl
theorem dens_length {vals:List Value} {blks:List Nat}:∀ {l:List L} {vs:List Value},dens vals blks l=some vs→vs.length=l.length
 | [],_,hl=>by
  simp only [dens,Option.some.injEq] at hl
  subst hl
  rfl
 | l :: ls,vs,hl=>by
  simp only [dens] at hl
  split at hl
  ·rename_i v vs' h1 h2
   injection hl with hl
   subst hl
   simp [dens_length h2]
  ·cases hl
theorem dens_get {vals:List Value} {blks:List Nat}:∀ {l:List L} {vs:List Value},dens vals blks l=some vs→∀ (i:Nat) x,l[i]?=some x→∃ v,vs[i]?=some v∧x.den vals blks=some v
 | [],_,_,i,x,hx=>by simp at hx
 | l :: ls,vs,hl,i,x,hx=>by
  simp only [dens] at hl
  split at hl
  ·rename_i v vs' h1 h2
   injection hl with hl
   subst hl
   cases i with
   | zero=>
    simp at hx
    subst hx
    exact ⟨v,by simp,h1⟩
   | succ i=>simpa using dens_get h2 i x (by simpa using hx)
  ·cases hl
theorem dens_app {vals:List Value} {blks:List Nat}:∀ {l m:List L} {vs us:List Value},dens vals blks l=some vs→dens vals blks m=some us→dens vals blks (l ++ m)=some (vs ++ us)
 | [],m,vs,us,h,k=>by
  simp only [dens,Option.some.injEq] at h
  subst h
  exact k
 | l :: ls,m,vs,us,h,k=>by
  simp only [dens,List.cons_append] at h ⊢
  split at h
  ·rename_i v vs' h1 h2
   injection h with h
   subst h
   rw [h1,dens_app h2 k]
   rfl
  ·cases h
theorem dens_take {vals:List Value} {blks:List Nat}:∀ {l:List L} {vs:List Value} (n:Nat),dens vals blks l=some vs→dens vals blks (l.take n)=some (vs.take n)
 | [],vs,n,h=>by
  simp only [dens,Option.some.injEq] at h
  subst h
  simp [dens]
 | l :: ls,vs,0,h=>by simp [dens]
 | l :: ls,vs,n + 1,h=>by
  simp only [dens,List.take_succ_cons] at h ⊢
  split at h
  ·rename_i v vs' h1 h2
   injection h with h
   subst h
   rw [h1,dens_take n h2]
   rfl
  ·cases h
theorem dens_drop {vals:List Value} {blks:List Nat}:∀ {l:List L} {vs:List Value} (n:Nat),dens vals blks l=some vs→dens vals blks (l.drop n)=some (vs.drop n)
 | [],vs,n,h=>by
  simp only [dens,Option.some.injEq] at h
  subst h
  simp [dens]
 | l :: ls,vs,0,h=>by simpa using h
 | l :: ls,vs,n + 1,h=>by
  simp only [dens,List.drop_succ_cons] at h ⊢
  split at h
  ·rename_i v vs' h1 h2
   injection h with h
   subst h
   simpa using dens_drop n h2
  ·cases h
theorem dens_vs {vals:List Value} {blks:List Nat}:∀ (k n:Nat) (x:List Value),(∀ i,i<k→vals[n + i]?=x[i]?)→x.length=k→dens vals blks (vsFrom n k)=some x
 | 0,n,x,h,hl=>by
  rw [List.length_eq_zero_iff] at hl
  subst hl
  rfl
 | k + 1,n,x,h,hl=>by
  cases x with
  | nil=>cases hl
  | cons v x=>
   have h0:=h 0 (by omega)
   simp only [Nat.add_zero,List.getElem?_cons_zero] at h0
   simp only [vsFrom,dens,L.den,h0]
   rw [dens_vs k (n + 1) x (fun i hi=>by
    have:=h (i + 1) (by omega)
    rw [show n + 1 + i=n + (i + 1) by omega,this]
    simp) (by simpa using hl)]
theorem okL_one {E:Env S} (h1:∀ v ∈ E.vals,v.oneCell'=true) {l:L} (hl:okL l=true) {v:Value} (hv:l.den E.vals E.blks=some v):v.oneCell'=true:=by
 cases l with
 | v n=>exact h1 v (List.mem_of_getElem? hv)
 | c x=>
  simp only [L.den,Option.some.injEq] at hv
  subst hv
  exact hl
 | p b off=>
  simp only [L.den] at hv
  split at hv
  ·injection hv with hv
   subst hv
   rfl
  ·cases hv
 | s b n=>
  simp only [L.den] at hv
  split at hv
  ·injection hv with hv
   subst hv
   rfl
  ·cases hv
theorem okLs_one {E:Env S} (h1:∀ v ∈ E.vals,v.oneCell'=true):∀ {l:List L} {vs:List Value},l.all okL=true→dens E.vals E.blks l=some vs→∀ u ∈ vs,u.oneCell'=true
 | [],vs,_,h,u,hu=>by
  simp only [dens,Option.some.injEq] at h
  subst h
  cases hu
 | l :: ls,vs,hl,h,u,hu=>by
  simp only [List.all_cons,Bool.and_eq_true] at hl
  simp only [dens] at h
  split at h
  ·rename_i v vs' h3 h2
   injection h with h
   subst h
   rcases List.mem_cons.1 hu with rfl | hu
   ·exact okL_one h1 hl.1 h3
   ·exact okLs_one h1 hl.2 h2 u hu
  ·cases h
theorem cells_one {v:Value} (h:v.oneCell'=true):v.cells=#[v]:=by cases v <;> first | rfl | (cases h;done)
theorem T2.cells_den {E:Env S} (h1:∀ v ∈ E.vals,v.oneCell'=true) {t:T2} (hk:t.cells.all okL=true) {v:Value} (h:t.den E.vals E.blks=some v):dens E.vals E.blks t.cells=some v.cells.toList:=by
 cases t with
 | one l=>
  simp only [T2.cells,List.all_cons,List.all_nil,Bool.and_true] at hk
  have:=okL_one h1 hk h
  rw [cells_one this]
  have h':l.den E.vals E.blks=some v:=h
  simp only [T2.cells,dens,h']
 | agg ls=>
  simp only [T2.den] at h
  split at h
  ·rename_i vs hvs
   injection h with h
   subst h
   simpa [T2.cells,Value.cells] using hvs
  ·cases h
structure Tms (E:Env S) (st:St) (a:Act):Prop where
 sz:a.tmps.size=st.nt
 df:a.defers=[]
 tm:∀ t sv,lookN t st.tm=some sv→∃ v,sv.den E.vals E.blks=some v∧a.tmps[t]?=some v
theorem Tms.le {E E':Env S} {st:St} {a:Act} (h:Tms E st a) (hl:Le E E'):Tms E' st a:=
 ⟨h.sz,h.df,fun t sv ht=>by obtain ⟨v,h1,h2⟩:=h.tm t sv ht;exact ⟨v,SV.den_le hl h1,h2⟩⟩
theorem Tms.put {E:Env S} {st:St} {a:Act} (h:Tms E st a) {d:Option Nat} (hd:okD st d=true) {sv:SV} {v:Value} (hv:sv.den E.vals E.blks=some v):Tms E (putT d sv st) (a.put d v):=by
 cases d with
 | none=>exact h
 | some d=>
  refine ⟨by simp [putT,Act.put,h.sz],h.df,fun t sv' ht=>?_⟩
  simp only [putT,lookN] at ht
  have hd':d<st.nt:=by simpa [okD] using hd
  simp only [Act.put]
  split at ht
  ·rename_i he
   have he:d=t:=by simpa using he
   injection ht with ht
   subst ht he
   exact ⟨v,hv,by rw [Array.getElem?_setIfInBounds_self_of_lt (by rw [h.sz];exact hd')]⟩
  ·rename_i he
   have he:d ≠ t:=Nat.ne_of_beq_eq_false he
   obtain ⟨u,h1,h2⟩:=h.tm t sv' ht
   exact ⟨u,h1,by rw [Array.getElem?_setIfInBounds_ne he];exact h2⟩
theorem Tms.eval {E:Env S} {st:St} {a:Act} (h:Tms E st a) {x:Operand} {sv:SV} (hx:evalO st x=some sv):sv.den E.vals E.blks=some (a.eval x):=by
 cases x with
 | tmp t=>
  obtain ⟨v,h1,h2⟩:=h.tm t sv hx
  rw [h1]
  simp only [Act.eval]
  rw [Array.getD_eq_getD_getElem?,h2]
  rfl
 | const v=>
  have hc:∀ cs:List Value,dens E.vals E.blks (cs.map L.c)=some cs:=fun cs=>by
   induction cs with
   | nil=>rfl
   | cons c cs ih=>simp only [List.map_cons,dens,L.den,ih]
  cases v <;> simp only [evalO,Option.some.injEq] at hx <;> subst hx <;> first | rfl | simp [SV.den,T2.den,hc,Act.eval]
 | global g=>cases hx
 | func f=>
  simp only [evalO,Option.some.injEq] at hx
  subst hx
  rfl
theorem Tms.eval2 {E:Env S} {st:St} {a:Act} (h:Tms E st a) {x:Operand} {t:T2} (hx:Sx.eval2 st x=some t):t.den E.vals E.blks=some (a.eval x):=by
 unfold Sx.eval2 at hx
 split at hx
 ·rename_i t' ht
  injection hx with hx
  subst hx
  exact h.eval ht
 ·cases hx
theorem Tms.evalC {E:Env S} {st:St} {a:Act} (h:Tms E st a) (h1:∀ v ∈ E.vals,v.oneCell'=true) {x:Operand} {ls:List L} (hx:Sx.evalC st x=some ls):ls.all okL=true∧dens E.vals E.blks ls=some (a.eval x).cells.toList:=by
 unfold Sx.evalC at hx
 split at hx
 ·rename_i t ht
  split at hx
  ·rename_i hk
   injection hx with hx
   subst hx
   exact ⟨hk,T2.cells_den h1 hk (h.eval2 ht)⟩
  ·cases hx
 ·cases hx
theorem Tms.eval1 {E:Env S} {st:St} {a:Act} (h:Tms E st a) (h1:∀ v ∈ E.vals,v.oneCell'=true) {x:Operand} {l:L} (hx:Sx.eval1 st x=some l):l.den E.vals E.blks=some (a.eval x)∧(a.eval x).oneCell'=true:=by
 unfold Sx.eval1 at hx
 split at hx
 ·rename_i l' hc
  split at hx
  ·rename_i l2 h2
   injection hx with hx
   subst hx
   have e:=h.eval2 h2
   obtain ⟨hk,hd⟩:=h.evalC h1 hc
   refine ⟨e,?_⟩
   unfold Sx.evalC at hc
   rw [h2] at hc
   simp only at hc
   split at hc
   ·rename_i hk2
    simp only [T2.cells,List.all_cons,List.all_nil,Bool.and_true] at hk2
    exact okL_one h1 hk2 e
   ·cases hc
  ·cases hx
 ·cases hx
end
end Go.Proofs.YtdmacgoeikjdbaaGreatDoor.Sx
namespace Go.Proofs.YtdmacgoeikjdbaaGreatDoor.Sx
open Go.RowKit
section
variable {S:Type}
structure Ctx (R:S→World→Prop) where
 G:Nat
 w0:World
 okb:Nat→Prop
 X:Nat→Prop
 Gx:Nat→Prop
 io:List Nat
 hG:G<w0.heap.size
 hb:∀ k,(X k ∨ w0.heap.size≤k)→okb k
 hg:∀ k,okb k→G<k
 hR:∀ σ w w',R σ w→w.heap.size≤w'.heap.size→(∀ k,k≤G→w'.heap[k]?=w.heap[k]?)→R σ w'
def Ctx.nw {R:S→World→Prop} (C:Ctx R) (k:Nat):Prop:=C.X k ∨ C.w0.heap.size≤k
abbrev Ctx.XG {R:S→World→Prop} (C:Ctx R) (k:Nat):Prop:=C.Gx k ∨ C.X k
def TabOk {R:S→World→Prop} {P:Program} (C:Ctx R) (cf:Cfg) (T:List (Con P R C.G)):Prop:=cf.cs=T.map (fun x=>(x.f,x.sh))∧(T=[] ∨ C.Gx C.G)
theorem Ctx.nw_lt {R:S→World→Prop} (C:Ctx R) {k:Nat} (h:C.nw k):C.G<k:=C.hg k (C.hb k h)
def ownAt (E:Env S) (f:Fc) (k:Nat):Prop:=f.own.isSome=true∧∃ v,E.vals[f.l]?=some v∧v.ownBlock=some k
variable {R:S→World→Prop}
def okE (C:Ctx R) (E:Env S) (fs:List Fc) (k:Nat):Prop:=C.okb k∧k ∉ E.blks∧∀ f ∈ fs,¬ ownAt E f k
def FcOk (C:Ctx R) (E:Env S) (fs:List Fc) (w:World) (f:Fc):Prop:=∃ v d,E.vals[f.l]?=some v∧E.dats[f.d]?=some d∧match f.own with
 | none=>Rep w (okE C E fs) d [v]
 | some (e,z)=>∃ ds,d=.lst z ds∧Own w 0 (okE C E fs) e z v ds∧∀ k,v.ownBlock=some k→C.nw k
structure Mm (C:Ctx R) (E:Env S) (st:St) (w:World):Prop where
 nv:E.vals.length=st.nv
 nb:E.blks.length=st.nb
 nd:E.dats.length=st.nd
 one:∀ v ∈ E.vals,v.oneCell'=true
 dis:E.blks.Nodup
 lt:∀ g ∈ E.blks,C.nw g∧g<w.heap.size
 mem:∀ B ∈ st.mem,∃ g cs,E.blks[B.b]?=some g∧dens E.vals E.blks B.cs=some cs∧BlkIs w g B.t cs.toArray∧∀ u ∈ cs,u.oneCell'=true
 fs:∀ f ∈ st.fs,FcOk C E st.fs w f
 own:∀ f ∈ st.fs,∀ k,ownAt E f k→k ∉ E.blks
 ownd:∀ f ∈ st.fs,∀ f' ∈ st.fs,∀ k,ownAt E f k→ownAt E f' k→f.l=f'.l
 rs:R E.st w
 keep:KeepX C.XG C.w0 w
 kn:∀ x ∈ st.kn,E.vals[x.1]?=some (.bool x.2)
 io:∀ (i b:Nat),st.io[i]?=some b→∃ g,C.io[i]?=some g∧E.blks[b]?=some g
variable {C:Ctx R} {E E':Env S} {st st':St} {w w':World}
theorem Mm.G (h:Mm C E st w):C.G<w.heap.size:=Nat.lt_of_lt_of_le C.hG h.keep.size
theorem Mm.own_lt (h:Mm C E st w) {f:Fc} (hf:f ∈ st.fs) {k:Nat} (hk:ownAt E f k):C.nw k∧k<w.heap.size:=by
 obtain ⟨ho,v,hv,hvk⟩:=hk
 obtain ⟨v',d,h1,_,h3⟩:=h.fs f hf
 rw [hv] at h1
 injection h1 with h1
 subst h1
 obtain ⟨⟨e,z⟩,he⟩:=Option.isSome_iff_exists.1 ho
 rw [he] at h3
 obtain ⟨ds,_,⟨xs,h4,_⟩,h6⟩:=h3
 exact ⟨h6 k hvk,(h4.lt k hvk).2⟩
def FsLe (E:Env S) (fs:List Fc) (E':Env S) (fs':List Fc) (B:Nat):Prop:=∀ f' ∈ fs',∀ k,ownAt E' f' k→k<B→∃ f ∈ fs,ownAt E f k
theorem okE_mono {B:Nat} {fs fs':List Fc} (hb:∀ g ∈ E'.blks,g ∈ E.blks ∨ B≤g) (hf:FsLe E fs E' fs' B) {k:Nat} (hk:okE C E fs k) (hlt:k<B):okE C E' fs' k:=
 ⟨hk.1,fun hm=>(hb k hm).elim hk.2.1 (by omega),fun f' hf' ho=>by obtain ⟨f,h1,h2⟩:=hf f' hf' k ho hlt;exact hk.2.2 f h1 h2⟩
theorem FcOk.keep {fs fs':List Fc} {f:Fc} (h:FcOk C E fs w f) (hl:Le E E') (hk:∀ k,okE C E fs k→k<w.heap.size→okE C E' fs' k) (hw:∀ k,okE C E fs k→k<w.heap.size→w'.heap[k]?=w.heap[k]?)
  (ho:∀ k,ownAt E f k→w'.heap[k]?=w.heap[k]?):FcOk C E' fs' w' f:=by
 obtain ⟨v,d,h1,h2,h3⟩:=h
 refine ⟨v,d,hl.v _ _ h1,hl.d _ _ h2,?_⟩
 cases hf:f.own with
 | none=>
  rw [hf] at h3
  exact Rep.keep hk hw d [v] h3
 | some ez=>
  rw [hf] at h3
  obtain ⟨ds,h4,⟨xs,h5,h6⟩,h9⟩:=h3
  have hoo:∀ k,v.ownBlock=some k→w'.heap[k]?=w.heap[k]?:=fun k hvk=>ho k ⟨by rw [hf];rfl,v,h1,hvk⟩
  refine ⟨ds,h4,⟨xs,⟨h5.1,?_⟩,Cells.keep (fun k h7 h8=>⟨hk k h7.1 h8,h7.2⟩) (fun k h7 h8=>hw k h7.1 h8) h6⟩,h9⟩
  rcases h5.2 with h7 | ⟨g,cap,cur,hv,hb,hh,hr⟩
  ·exact .inl h7
  ·exact .inr ⟨g,cap,cur,hv,hb,(hoo g (by rw [hv];rfl)).trans hh,hr⟩
theorem FcOk.shut {fs fs':List Fc} {f:Fc} (h:FcOk C E fs w f) (hk:∀ k,okE C E fs k→okE C E fs' k) (ho:∀ k,ownAt E f k→okE C E fs' k):FcOk C E fs' w { f with own:=none }:=by
 obtain ⟨v,d,h1,h2,h3⟩:=h
 refine ⟨v,d,h1,h2,?_⟩
 show Rep w (okE C E fs') d [v]
 cases hf:f.own with
 | none=>
  rw [hf] at h3
  exact h3.imp fun k h4 _=>hk k h4
 | some ez=>
  rw [hf] at h3
  obtain ⟨ds,h4,⟨xs,h5,h6⟩,_⟩:=h3
  subst h4
  unfold Rep
  rcases h5.2 with ⟨hv,hn⟩ | ⟨g,cap,cur,hv,hb,hh,hc,hm,hsz,ht⟩
  ·exact ⟨none,0,by rw [hv,hn],by omega,by simp,fun h=>absurd h (by omega)⟩
  ·refine ⟨some ⟨g,0,none⟩,cap,by rw [hv],hc,hm,fun _=>⟨g,0,cur,_,thawed,rfl,ho g ⟨by rw [hf];rfl,v,h1,by rw [hv];rfl⟩,hh,?_⟩⟩
   have h7:cur.toList.drop 0=xs ++ cur.toList.drop (ds.length * ez.2):=by
    rw [List.drop_zero,← ht,List.take_append_drop]
   rw [h7]
   exact RepRow.keep (fun k h _=>hk k h.1) (fun _ _ _=>rfl) _ ds _ (h6.row _)
theorem Mm.push (h:Mm C E st w) (vs:List Value) (h1:∀ u ∈ vs,u.oneCell'=true):Mm C { E with vals:=E.vals ++ vs } { st with nv:=st.nv + vs.length } w:=by
 have hl:Le E { E with vals:=E.vals ++ vs }:=⟨fun _ _ h=>app_get h,fun _ _ h=>h,fun _ _ h=>h⟩
 have hoa:∀ f ∈ st.fs,∀ k,ownAt { E with vals:=E.vals ++ vs } f k→ownAt E f k:=fun f hf k ⟨ho,v,hv,hvk⟩=>by
  obtain ⟨v',d,h2,_⟩:=h.fs f hf
  have:=hl.v _ _ h2
  rw [hv] at this
  injection this with this
  subst this
  exact ⟨ho,v,h2,hvk⟩
 refine ⟨by simp [h.nv],h.nb,h.nd,fun v hv=>(List.mem_append.1 hv).elim (h.one v) (h1 v),h.dis,h.lt,fun B hB=>?_,fun f hf=>?_,fun f hf k hk=>h.own f hf k (hoa f hf k hk),fun f hf f' hf' k hk hk'=>h.ownd f hf f' hf' k (hoa f hf k hk) (hoa f' hf' k hk'),h.rs,h.keep,fun x hx=>hl.v _ _ (h.kn x hx),h.io⟩
 ·obtain ⟨g,cs,h2,h3,h4,h5⟩:=h.mem B hB
  exact ⟨g,cs,h2,dens_le hl h3,h4,h5⟩
 ·exact (h.fs f hf).keep hl (fun k hk hlt=>okE_mono (E:=E) (E':={ E with vals:=E.vals ++ vs }) (B:=w.heap.size) (fun g hg=>.inl hg) (fun f' hf' k ho _=>⟨f',hf',hoa f' hf' k ho⟩) hk hlt) (fun _ _ _=>rfl) (fun _ _=>rfl)
theorem Mm.alloc (h:Mm C E st w) (t:TypeId) (ls:List L) (cs:List Value) (hls:dens E.vals E.blks ls=some cs) (h1:∀ u ∈ cs,u.oneCell'=true) :
  Mm C { E with blks:=E.blks ++ [w.heap.size] } { st with mem:=⟨st.nb,t,ls⟩ :: st.mem,nb:=st.nb + 1 } (w.alloc (.cells cs.toArray t)):=by
 have hl:Le E { E with blks:=E.blks ++ [w.heap.size] }:=⟨fun _ _ h=>h,fun _ _ h=>app_get h,fun _ _ h=>h⟩
 have hb:=below_alloc w (.cells cs.toArray t)
 have hnm:w.heap.size ∉ E.blks:=fun hm=>Nat.lt_irrefl _ (h.lt _ hm).2
 refine ⟨h.nv,by simp [h.nb],h.nd,h.one,?_,?_,fun B hB=>?_,fun f hf=>?_,fun f hf k hk=>?_,h.ownd,?_,h.keep.alloc _,h.kn,fun i b hi=>by obtain ⟨g,i1,i2⟩:=h.io i b hi;exact ⟨g,i1,hl.b _ _ i2⟩⟩
 ·rw [List.nodup_append]
  exact ⟨h.dis,by simp,fun a ha b hb=>by simp at hb;subst hb;exact fun e=>hnm (e ▸ ha)⟩
 ·intro g hg
  rcases List.mem_append.1 hg with hg | hg
  ·have:=h.lt g hg
   exact ⟨this.1,Nat.lt_of_lt_of_le this.2 hb.size⟩
  ·simp at hg
   subst hg
   exact ⟨.inr h.keep.size,by simp⟩
 ·rcases List.mem_cons.1 hB with rfl | hB
  ·refine ⟨w.heap.size,cs,?_,dens_le hl hls,BlkIs.fresh _ _ _,h1⟩
   show (E.blks ++ [w.heap.size])[st.nb]?=_
   rw [List.getElem?_append_right (by rw [h.nb];exact Nat.le_refl _),h.nb]
   simp
  ·obtain ⟨g,cs',h2,h3,h4,h5⟩:=h.mem B hB
   exact ⟨g,cs',hl.b _ _ h2,dens_le hl h3,h4.alloc _,h5⟩
 ·refine (h.fs f hf).keep hl (fun k hk hlt=>okE_mono (E:=E) (E':={ E with blks:=E.blks ++ [w.heap.size] }) (B:=w.heap.size) (fun g hg=>?_) (fun f' hf' k ho _=>⟨f',hf',ho⟩) hk hlt) (fun k _ hlt=>hb.block k hlt) (fun k hk=>hb.block k (h.own_lt hf hk).2)
  rcases List.mem_append.1 hg with hg | hg
  ·exact .inl hg
  ·simp at hg
   exact .inr (by omega)
 ·intro hm
  rcases List.mem_append.1 hm with hm | hm
  ·exact h.own f hf k hk hm
  ·simp at hm
   have:=(h.own_lt hf hk).2
   omega
 ·exact C.hR _ _ _ h.rs hb.size fun k hk=>hb.block k (Nat.lt_of_le_of_lt hk h.G)
theorem memOf_spec {b:Nat} {B:Bk}:∀ {m:List Bk},memOf b m=some B→B ∈ m∧B.b=b
 | [],h=>by cases h
 | A :: m,h=>by
  simp only [memOf] at h
  split at h
  ·rename_i hb
   injection h with h
   subst h
   exact ⟨List.mem_cons_self,by simpa using hb⟩
  ·obtain ⟨h1,h2⟩:=memOf_spec h
   exact ⟨List.mem_cons_of_mem _ h1,h2⟩
theorem putB_spec {b off:Nat} {vs:List L}:∀ {m m':List Bk},putB b off vs m=some m' →
  (∀ B' ∈ m',(B' ∈ m∧B'.b ≠ b) ∨ (∃ B ∈ m,B.b=b∧B'={ B with cs:=putL off vs B.cs }∧off + vs.length≤B.cs.length))∧(∀ B ∈ m,B.b=b→off + vs.length≤B.cs.length)
 | [],m',h=>by
  simp only [putB,Option.some.injEq] at h
  subst h
  exact ⟨fun B' h=>absurd h List.not_mem_nil,fun B h=>absurd h List.not_mem_nil⟩
 | B :: m,m',h=>by
  simp only [putB] at h
  split at h
  case h_2=>cases h
  rename_i m1 hm
  obtain ⟨h1,h2⟩:=putB_spec hm
  split at h
  ·rename_i hb
   have hb:B.b=b:=by simpa using hb
   split at h
   case h_2=>cases h
   rename_i hle
   have hle:off + vs.length≤B.cs.length:=by simpa using hle
   injection h with h
   subst h
   refine ⟨fun B' hB'=>?_,fun A hA hAb=>?_⟩
   ·rcases List.mem_cons.1 hB' with rfl | hB'
    ·exact .inr ⟨B,List.mem_cons_self,hb,rfl,hle⟩
    ·rcases h1 B' hB' with ⟨h3,h4⟩ | ⟨A,h3,h4⟩
     ·exact .inl ⟨List.mem_cons_of_mem _ h3,h4⟩
     ·exact .inr ⟨A,List.mem_cons_of_mem _ h3,h4⟩
   ·rcases List.mem_cons.1 hA with rfl | hA
    ·exact hle
    ·exact h2 A hA hAb
  ·rename_i hb
   have hb:B.b ≠ b:=Nat.ne_of_beq_eq_false hb
   injection h with h
   subst h
   refine ⟨fun B' hB'=>?_,fun A hA hAb=>?_⟩
   ·rcases List.mem_cons.1 hB' with rfl | hB'
    ·exact .inl ⟨List.mem_cons_self,hb⟩
    ·rcases h1 B' hB' with ⟨h3,h4⟩ | ⟨A,h3,h4⟩
     ·exact .inl ⟨List.mem_cons_of_mem _ h3,h4⟩
     ·exact .inr ⟨A,List.mem_cons_of_mem _ h3,h4⟩
   ·rcases List.mem_cons.1 hA with rfl | hA
    ·exact absurd hAb hb
    ·exact h2 A hA hAb
theorem Mm.store (h:Mm C E st w) {b off:Nat} {ls:List L} {cs:List Value} {m:List Bk} (hp:putB b off ls st.mem=some m) (hls:dens E.vals E.blks ls=some cs) (h1:∀ u ∈ cs,u.oneCell'=true) {g:Nat} (hg:E.blks[b]?=some g) {old:List Value} {t:TypeId} (hold:BlkIs w g t old.toArray)
  (hfit:off + cs.length≤old.length):Mm C E { st with mem:=m } (w.setRow g (old.take off ++ cs ++ old.drop (off + cs.length)).toArray):=by
 have hlen:=dens_length hls
 obtain ⟨hp1,_⟩:=putB_spec hp
 have hgm:=h.lt g (List.mem_of_getElem? hg)
 have hoth:∀ k,k ≠ g→(w.setRow g (old.take off ++ cs ++ old.drop (off + cs.length)).toArray).heap[k]?=w.heap[k]?:=fun k hk=>setRow_other w g k _ hk
 refine ⟨h.nv,h.nb,h.nd,h.one,h.dis,fun k hk=>⟨(h.lt k hk).1,by simpa using (h.lt k hk).2⟩,fun B hB=>?_,fun f hf=>?_,h.own,h.ownd,?_,h.keep.setRow (hgm.1.imp .inr id) _,h.kn,h.io⟩
 ·rcases hp1 B hB with ⟨h2,h3⟩ | ⟨A,h2,h3,rfl,h5⟩
  ·obtain ⟨g',cs',h4,h5,h6,h7⟩:=h.mem B h2
   refine ⟨g',cs',h4,h5,(hoth g' fun e=>h3 ?_).trans h6,h7⟩
   subst e
   have i1:=(List.getElem?_eq_some_iff.1 h4)
   have i2:=(List.getElem?_eq_some_iff.1 hg)
   obtain ⟨i1,e1⟩:=i1
   obtain ⟨i2,e2⟩:=i2
   exact (List.getElem_inj h.dis).1 (e1.trans e2.symm)
  ·obtain ⟨g',cs',h4,h6,h7,h8⟩:=h.mem A h2
   rw [h3,hg] at h4
   injection h4 with h4
   subst h4
   have e:cs'=old∧A.t=t:=by
    have:some (Obj.cells cs'.toArray A.t (0,0))=some (.cells old.toArray t (0,0)):=h7.symm.trans hold
    injection this with this
    injection this with a b
    exact ⟨by simpa using a,b⟩
   obtain ⟨rfl,rfl⟩:=e
   refine ⟨g,cs'.take off ++ cs ++ cs'.drop (off + cs.length),by rw [← hg,← h3],?_,setRow_heap _ _ _ _ _ _ hold,fun u hu=>?_⟩
   ·show dens E.vals E.blks (putL off ls A.cs)=_
    unfold putL
    rw [← hlen]
    exact dens_app (dens_app (dens_take off h6) hls) (dens_drop _ h6)
   ·rcases List.mem_append.1 hu with hu | hu
    ·rcases List.mem_append.1 hu with hu | hu
     ·exact h8 u (List.mem_of_mem_take hu)
     ·exact h1 u hu
    ·exact h8 u (List.mem_of_mem_drop hu)
 ·refine (h.fs f hf).keep (Le.refl E) (fun k hk _=>hk) (fun k hk _=>hoth k fun e=>hk.2.1 (e ▸ List.mem_of_getElem? hg)) (fun k hk=>hoth k fun e=>h.own f hf k hk (e ▸ List.mem_of_getElem? hg))
 ·exact C.hR _ _ _ h.rs (by simp) fun k hk=>hoth k (by have:=C.nw_lt hgm.1;omega)
theorem Mm.drew (h:Mm C E st w):Mm C E st w.drew:=
 ⟨h.nv,h.nb,h.nd,h.one,h.dis,h.lt,h.mem,fun f hf=>(h.fs f hf).keep (Le.refl E) (fun _ hk _=>hk) (fun _ _ _=>rfl) (fun _ _=>rfl),h.own,h.ownd,C.hR _ _ _ h.rs (Nat.le_refl _) (fun _ _=>rfl),h.keep.drew,h.kn,h.io⟩
end
end Go.Proofs.YtdmacgoeikjdbaaGreatDoor.Sx

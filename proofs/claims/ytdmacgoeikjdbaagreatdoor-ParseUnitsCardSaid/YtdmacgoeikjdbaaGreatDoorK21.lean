/- Symbolic execution: what a tree asks, node by node. Short names for a -/
import Derived.Test.YtdmacgoeikjdbaaGreatDoorK20
import Derived.Test.YtdmacgoeikjdbaaGreatDoorK10
set_option linter.unusedSimpArgs false
set_option linter.unusedVariables false
namespace Go.Proofs.YtdmacgoeikjdbaaGreatDoor.Sx
open Go.RowKit
section
variable {S:Type} {P:Program} {R:S→World→Prop} {G:Nat} {T:List (Con P R G)} {K:List Value→List D→S→Prop} {A:Nat→List Value→List D→S→Prop} {k:Tree} {vals:List Value} {blks:List Nat} {dats:List D} {σ:S}
theorem h_new (h:∀ g,k.holds T K A ⟨vals,blks ++ [g],dats,σ⟩):(Tree.nd .new k).holds T K A ⟨vals,blks,dats,σ⟩:=h
theorem h_pv {p:PV} {xs:List L} {vs:List Value} {r:Value} (h1:dens vals blks xs=some vs) (h2:p.sem vs=some r) (h:k.holds T K A ⟨vals ++ [r],blks,dats,σ⟩):(Tree.nd (.pv p xs) k).holds T K A ⟨vals,blks,dats,σ⟩:=⟨vs,r,h1,h2,h⟩
theorem h_ld {x:L} {n:Nat} {p:Value} {vs:List Value} (h1:x.den vals blks=some p) (h4:∀ w,R σ w→LoadsAt w p vs) (h2:vs.length=n) (h3:∀ u ∈ vs,u.oneCell'=true) (h:k.holds T K A ⟨vals ++ vs,blks,dats,σ⟩):(Tree.nd (.ld x n) k).holds T K A ⟨vals,blks,dats,σ⟩:=⟨p,vs,h1,h2,h3,h4,h⟩
theorem h_call {i:Nat} {args:List T2} {ds:List (L × CD)} {vs:List Value} {dd:List D} {c:Con P R G} (hc:T[i]?=some c) (h1:dens2 vals blks args=some vs) (h2:ldens ⟨vals,blks,dats,σ⟩ ds=some dd) (h:c.W vs dd σ fun vs' ds' σ'=>k.holds T K A ⟨vals ++ vs',blks,dats ++ ds',σ'⟩):(Tree.nd (.call i args ds) k).holds T K A ⟨vals,blks,dats,σ⟩:=by
 show wpN T _ _ _
 simp only [wpN,hc]
 exact ⟨vs,dd,h1,h2,h⟩
theorem h_call0 {i:Nat} {args:List T2} {ds:List (L × CD)} {vs:List Value} {dd:List D} {c:Con0 P R G} (hc:T[i]?=some c.x) (h1:dens2 vals blks args=some vs) (h2:ldens ⟨vals,blks,dats,σ⟩ ds=some dd) (h:c.W vs dd σ fun vs' ds' σ'=>k.holds T K A ⟨vals ++ vs',blks,dats ++ ds',σ'⟩):(Tree.nd (.call i args ds) k).holds T K A ⟨vals,blks,dats,σ⟩:=h_call hc h1 h2 h
theorem h_bs {z n:Nat} {row:Bool} {cs:List (List (L × CD))} {ds:List D} (h1:rowsD ⟨vals,blks,dats,σ⟩ row cs=some ds) (h:∀ g,k.holds T K A ⟨vals ++ [.slice (some ⟨g,0,none⟩) n n],blks,dats ++ [.lst z ds],σ⟩):(Tree.nd (.bs z n row cs) k).holds T K A ⟨vals,blks,dats,σ⟩:=⟨ds,h1,h⟩
theorem h_app {z i x:Nat} {ds1 ds2:List D} (h1:dats[i]?=some (.lst z ds1)) (h2:dats[x]?=some (.lst z ds2)) (h3:ds1.length + ds2.length≤1000000000) (h:∀ A' c,k.holds T K A ⟨vals ++ [.slice A' (ds1.length + ds2.length) c],blks,dats ++ [.lst z (ds1 ++ ds2)],σ⟩):(Tree.nd (.app z (.dat i) x) k).holds T K A ⟨vals,blks,dats,σ⟩:=⟨ds1,ds2,h1,h2,h3,h⟩
theorem h_ite {n:Nat} {a b:Tree} {c:Bool} (h:vals[n]?=some (.bool c)) (h1:c=true→a.holds T K A ⟨vals,blks,dats,σ⟩) (h2:c=false→b.holds T K A ⟨vals,blks,dats,σ⟩):(Tree.ite n a b).holds T K A ⟨vals,blks,dats,σ⟩:=⟨c,h,h1,h2⟩
theorem h_both {a b:Tree} (h1:a.holds T K A ⟨vals,blks,dats,σ⟩) (h2:b.holds T K A ⟨vals,blks,dats,σ⟩):(Tree.both a b).holds T K A ⟨vals,blks,dats,σ⟩:=⟨h1,h2⟩
theorem h_ret {cs:List L} {ds:List (L × CD)} {vs:List Value} {dd:List D} (h1:dens vals blks cs=some vs) (h2:ldens ⟨vals,blks,dats,σ⟩ ds=some dd) (h:K vs dd σ):(Tree.ret cs ds).holds T K A ⟨vals,blks,dats,σ⟩:=⟨vs,dd,h1,h2,h⟩
theorem h_again {id:Nat} {cs:List L} {ds:List (L × CD)} {vs:List Value} {dd:List D} (h1:dens vals blks cs=some vs) (h2:ldens ⟨vals,blks,dats,σ⟩ ds=some dd) (h:A id vs dd σ):(Tree.again id cs ds).holds T K A ⟨vals,blks,dats,σ⟩:=⟨vs,dd,h1,h2,h⟩
theorem h_loop {id nb:Nat} {cs:List L} {ds:List (L × CD)} {body:Tree} {vs:List Value} {dd:List D} (Lp:Nat→List Value→List D→S→Prop) (f:Nat) (h1:dens vals blks cs=some vs) (h2:ldens ⟨vals,blks,dats,σ⟩ ds=some dd) (h0:∀ a b σ,¬ Lp 0 a b σ) (h:Lp f vs dd σ)
  (hs:∀ f a b bl σ,bl.length=nb→Lp (f + 1) a b σ→body.holds T K (fun j=>if j=id then Lp f else A j) ⟨a,bl,b,σ⟩):(Tree.loop id nb cs ds body).holds T K A ⟨vals,blks,dats,σ⟩:=⟨Lp,h0,⟨f,vs,dd,h1,h2,h⟩,hs⟩
theorem h_again0 {id f:Nat} {cs:List L} {ds:List (L × CD)} {vs:List Value} {dd:List D} {Lp:Nat→List Value→List D→S→Prop} (h1:dens vals blks cs=some vs) (h2:ldens ⟨vals,blks,dats,σ⟩ ds=some dd) (h:Lp f vs dd σ):(Tree.again id cs ds).holds T K (fun j=>if j=id then Lp f else A j) ⟨vals,blks,dats,σ⟩:=⟨vs,dd,h1,h2,by simpa using h⟩
theorem kC {i:Nat} {args:List T2} {ds:List (L × CD)} {vs:List Value} {dd:List D} {c:Con P R G} (hc:T[i]?=some c:=by exact rfl) (h1:dens2 vals blks args=some vs:=by simp only [rowsD,ldens,dens,dens2,T2.den,L.den,CD.den,leafD,rowD,List.getElem?_cons_zero,List.getElem?_cons_succ] <;> rfl) (h2:ldens ⟨vals,blks,dats,σ⟩ ds=some dd:=by first | rfl | (simp only [ldens,L.den,CD.den,leafD,List.getElem?_cons_zero,List.getElem?_cons_succ];rfl)) (h:c.W vs dd σ fun vs' ds' σ'=>k.holds T K A ⟨vals ++ vs',blks,dats ++ ds',σ'⟩):(Tree.nd (.call i args ds) k).holds T K A ⟨vals,blks,dats,σ⟩:=h_call hc h1 h2 h
theorem kc {i:Nat} {args:List T2} {ds:List (L × CD)} {vs:List Value} {dd:List D} {c:Con0 P R G} (hc:T[i]?=some c.x:=by exact rfl) (h1:dens2 vals blks args=some vs:=by simp only [rowsD,ldens,dens,dens2,T2.den,L.den,CD.den,leafD,rowD,List.getElem?_cons_zero,List.getElem?_cons_succ] <;> rfl) (h2:ldens ⟨vals,blks,dats,σ⟩ ds=some dd:=by first | rfl | (simp only [ldens,L.den,CD.den,leafD,List.getElem?_cons_zero,List.getElem?_cons_succ];rfl)) (h:c.W vs dd σ fun vs' ds' σ'=>k.holds T K A ⟨vals ++ vs',blks,dats ++ ds',σ'⟩):(Tree.nd (.call i args ds) k).holds T K A ⟨vals,blks,dats,σ⟩:=h_call0 hc h1 h2 h
theorem kb {z n:Nat} {row:Bool} {cs:List (List (L × CD))} {ds:List D} (h1:rowsD ⟨vals,blks,dats,σ⟩ row cs=some ds:=by simp only [rowsD,ldens,dens,dens2,T2.den,L.den,CD.den,leafD,rowD,List.getElem?_cons_zero,List.getElem?_cons_succ] <;> rfl) (h:∀ g,k.holds T K A ⟨vals ++ [.slice (some ⟨g,0,none⟩) n n],blks,dats ++ [.lst z ds],σ⟩):(Tree.nd (.bs z n row cs) k).holds T K A ⟨vals,blks,dats,σ⟩:=h_bs h1 h
theorem kr {cs:List L} {ds:List (L × CD)} {vs:List Value} {dd:List D} (h1:dens vals blks cs=some vs:=by simp only [rowsD,ldens,dens,dens2,T2.den,L.den,CD.den,leafD,rowD,List.getElem?_cons_zero,List.getElem?_cons_succ] <;> rfl) (h2:ldens ⟨vals,blks,dats,σ⟩ ds=some dd:=by simp only [rowsD,ldens,dens,dens2,T2.den,L.den,CD.den,leafD,rowD,List.getElem?_cons_zero,List.getElem?_cons_succ] <;> rfl) (h:K vs dd σ):(Tree.ret cs ds).holds T K A ⟨vals,blks,dats,σ⟩:=h_ret h1 h2 h
theorem ka {id:Nat} {cs:List L} {ds:List (L × CD)} {vs:List Value} {dd:List D} (h1:dens vals blks cs=some vs:=by simp only [rowsD,ldens,dens,dens2,T2.den,L.den,CD.den,leafD,rowD,List.getElem?_cons_zero,List.getElem?_cons_succ] <;> rfl) (h2:ldens ⟨vals,blks,dats,σ⟩ ds=some dd:=by simp only [rowsD,ldens,dens,dens2,T2.den,L.den,CD.den,leafD,rowD,List.getElem?_cons_zero,List.getElem?_cons_succ] <;> rfl) (h:A id vs dd σ):(Tree.again id cs ds).holds T K A ⟨vals,blks,dats,σ⟩:=h_again h1 h2 h
theorem ka0 {id f:Nat} {cs:List L} {ds:List (L × CD)} {vs:List Value} {dd:List D} {Lp:Nat→List Value→List D→S→Prop} (h1:dens vals blks cs=some vs:=by simp only [rowsD,ldens,dens,dens2,T2.den,L.den,CD.den,leafD,rowD,List.getElem?_cons_zero,List.getElem?_cons_succ] <;> rfl) (h2:ldens ⟨vals,blks,dats,σ⟩ ds=some dd:=by simp only [rowsD,ldens,dens,dens2,T2.den,L.den,CD.den,leafD,rowD,List.getElem?_cons_zero,List.getElem?_cons_succ] <;> rfl) (h:Lp f vs dd σ):(Tree.again id cs ds).holds T K (fun j=>if j=id then Lp f else A j) ⟨vals,blks,dats,σ⟩:=h_again0 h1 h2 h
end
end Go.Proofs.YtdmacgoeikjdbaaGreatDoor.Sx
namespace Go.Proofs.YtdmacgoeikjdbaaGreatDoor.Sx
open Go.RowKit
abbrev jI (n:Int):L:=.c (.int .i64 n)
abbrev jN:L:=.c (.slice none 0 0)
abbrev jE:L:=.c (.string ⟨#[]⟩)
abbrev jP (z:Nat):L × CD:=(.c (.slice none 0 0),.nil z)
abbrev jL (n:Nat):L × CD:=(.v n,.leaf)
abbrev jD (n d:Nat):L × CD:=(.v n,.dat d)
abbrev tS (k:Nat) (s:List UInt8) (t:Tree):Tree:=.nd (.call k [.one (.v 0),.one (.c (.string ⟨s.toArray⟩))] []) t
abbrev tV (k n:Nat) (t:Tree):Tree:=.nd (.call k [.one (.v 0),.one (.v n)] []) t
abbrev tO (k:Nat) (t:Tree):Tree:=.nd (.call k [.one (.v 0)] []) t
abbrev tI (k:Nat) (n:Int) (t:Tree):Tree:=.nd (.call k [.one (.v 0),.one (.c (.int .i64 n))] []) t
abbrev tA (n:Nat) (i:Int) (t:Tree):Tree:=.nd (.pv (.bin .add) [.v n,.c (.int .i64 i)]) t
abbrev tQ (n:Nat) (i:Int) (t:Tree):Tree:=.nd (.pv (.bin .eql) [.v n,.c (.int .i64 i)]) t
abbrev tF (o n:Nat) (t:Tree):Tree:=.nd (.pv (.fa o) [.v n]) t
abbrev tN (n:Nat) (t:Tree):Tree:=.nd (.pv .nilc [.v n]) t
abbrev tL (n k:Nat) (t:Tree):Tree:=.nd (.ld (.v n) k) t
abbrev tT (n:Nat) (t:Tree):Tree:=.nd (.pv (.un .not) [.v n]) t
abbrev tW (t:Tree):Tree:=.nd .new t
abbrev tX (z n:Nat) (i:Int) (t:Tree):Tree:=.nd (.pv (.ia z) [.v n,.c (.int .i64 i)]) t
abbrev tB (z n:Nat) (cs:List (List (L × CD))) (t:Tree):Tree:=.nd (.bs z n true cs) t
abbrev tU (z d x:Nat) (t:Tree):Tree:=.nd (.app z (.dat d) x) t
abbrev rX (a d:Nat):List (L × CD):=[jL a,jL (a + 1),jL (a + 2),jL (a + 3),jL (a + 4),jL (a + 5),jD (a + 6) d,jL (a + 7)]
abbrev rS (a d e:Nat):List (L × CD):=[jL a,jD (a + 1) d,jD (a + 2) e,jL (a + 3),jL (a + 4),jL (a + 5),jL (a + 6),jL (a + 7),jL (a + 8)]
abbrev tR (o:Int) (a b p:L) (da db:CD):Tree:=.ret [jI o,a,b,jI 0,jI 0,jI 0,jE,jI 0,p] [(a,da),(b,db)]
end Go.Proofs.YtdmacgoeikjdbaaGreatDoor.Sx
namespace Go.Proofs.YtdmacgoeikjdbaaGreatDoor.Sx
open Go.RowKit
section
variable {S:Type} {P:Program} {R:S→World→Prop} {C:Ctx R} {cf:Cfg}
theorem regsP_find {Pr:Nat→Array Oper→Bool→Prop}:∀ c:Code,(∀ id,∀ x ∈ regsT id c,Pr id x.1 x.2)→regsP Pr c
 | .region id ops b,h=>h id (ops,b) (by simp [regsT])
 | .seq x y,h=>⟨regsP_find x fun id z hz=>h id z (List.mem_append_left _ hz),regsP_find y fun id z hz=>h id z (List.mem_append_right _ hz)⟩
 | .cond _ x y,h=>⟨regsP_find x fun id z hz=>h id z (List.mem_append_left _ hz),regsP_find y fun id z hz=>h id z (List.mem_append_right _ hz)⟩
 | .block _ x,h=>regsP_find x h
 | .loop x,h=>regsP_find x h
 | .skip,_=>trivial
 | .exit _,_=>trivial
 | .ret,_=>trivial
 | .rangeFunc ..,_=>trivial
 | .scope _,_=>trivial
 | .label _,_=>trivial
 | .goto _,_=>trivial
 | .refuse _,_=>trivial
theorem piece_ok (T:List (Con P R C.G)) (hcf:TabOk C cf T) (hm:P.follows .mixedOrders=true) (hnt:cf.tails=[]) {c:Code} {st1 st2:St} {Tr:Tree} (hc:pieceS P cf c st1 st2=some Tr) {V:List Value→List D→S→Prop} {E:Env S} {a:Act} {w:World}
  (hh:Tr.holds T (fun _ _ _=>False) (fun _=>V) E) (hT:Tms E st1 a) (h:Mm C E st1 w) :
  c.wp P (fun e a w'=>e=.normal∧∃ va dd bl σ,bl.length=st2.nb∧V va dd σ∧Tms (⟨va,bl,dd,σ⟩:Env S) st2 a∧Mm C (⟨va,bl,dd,σ⟩:Env S) st2 w') a w:=by
 refine code_ok (C:=C) (cf:=cf) (T:=T) (K:=fun _ _ _=>False) (Fin:=fun _ _=>False) (Sd:=fun _ _=>True) hcf hm c none [tailN 0] (fun _ X=>∀ va dd σ,X va dd σ→V va dd σ) false (fun _=>V) E st1 a w Tr _ _ _ _ hc hh (fun j _ va dd σ hv=>hv) hT h ⟨fun A hA=>?_,fun A _ id=>?_,fun A _=>?_,fun c a w d v hq=>?_,fun a w hf=>hf.elim⟩ (fun x hx=>by rw [hnt] at hx;cases hx) (regsP_all (fun id ops b=>by unfold TailOk;rw [hnt];trivial) c)
 ·intro E' st' a' w' T' g1 g2 g3 g4
  have g1:(match mtSt st' st2 with
   | some (vs,ds,_)=>some (Tree.again (tailN 0) vs ds)
   | none=>none)=some T':=g1
  split at g1
  case h_2=>cases g1
  rename_i vs ds bs hmt
  injection g1 with g1
  subst g1
  obtain ⟨va,dd,i1,i2,i3⟩:=g2
  obtain ⟨bl,j1,j2,j3⟩:=mtSt_ok hmt g3 g4 i1 i2
  exact ⟨rfl,va,dd,bl,E'.st,j1,hA (tailN 0) (by simp) va dd E'.st i3,j2,j3⟩
 ·intro E' st' a' w' T' g1
  cases g1
 ·intro E' st' a' w' T' g1
  cases g1
 ·cases hq.1
end
end Go.Proofs.YtdmacgoeikjdbaaGreatDoor.Sx
namespace Go.Proofs.YtdmacgoeikjdbaaGreatDoor.Sx
open Go.RowKit
theorem bodyPost_mono {P:Program} {fn:Func} {R R':Ending→World→Prop} (h:∀ e w,R e w→R' e w) {e:Exit} {a:Act} {w:World} (hb:bodyPost P fn R e a w):bodyPost P fn R' e a w:=by
 cases e <;> first | exact hb | exact ⟨hb.1,h _ _ hb.2⟩ | exact h _ _ hb | (obtain ⟨h1,v,h2,h3⟩:=hb;exact ⟨h1,v,h2,h _ _ h3⟩)
section
variable {S:Type} {P:Program} {R:S→World→Prop} {G:Nat} {cf:Cfg}
theorem rest_ok (T:List (Con P R G)) (hcf:cf.cs=T.map fun x=>(x.f,x.sh)) (hm:P.follows .mixedOrders=true) (hR:∀ σ w w',R σ w→w.heap.size≤w'.heap.size→(∀ k,k≤G→w'.heap[k]?=w.heap[k]?)→R σ w')
  {fn:Func} {c:Code} {st:St} {Tr:Tree} (hTr:codeS P cf c none [] true st (retS P cf fn.results.toList) (fun _ _=>none) (retS P cf fn.results.toList)=some Tr)
  {w0 w:World} {okk:Nat→Prop} {E:Env S} {a:Act} {K:List Value→List D→S→Prop} (hG:G<w0.heap.size) (hokk:∀ k,okk k→G<k) (hT0:Tr.holds T K (fun _ _ _ _=>False) E)
  (hT:Tms E st a) (hM:Mm (ctxOf w0 okk (fun _=>False) [] hG (fun k hk=>⟨hokk k hk,id⟩) (fun k hk=>hk.elim) hR) E st w)
  (h0:cf.self.pt=[]∧cf.self.fo=[]∧cf.self.ao=[]:=by exact ⟨rfl,rfl,rfl⟩) (hnt:cf.tails=[]:=by exact rfl) :
  c.wp P (bodyPost P fn fun e w'=>∃ vs ds' σ' r,K vs ds' σ'∧cf.self.ret.den vs []=some r∧e=.returned r∧vs.length=cf.self.nv∧ds'.length=cf.self.fs.length∧(∀ u ∈ vs,u.oneCell'=true) ∧
   R σ' w'∧KeepM G w0 w'∧DaOk w' (fun k=>okk k ∨ w0.heap.size≤k) vs cf.self.fs ds') a w:=by
 obtain ⟨z1,z2,z3⟩:=h0
 have hgood:=fn_good (cf:=cf) T w0 okk (fun _=>False) [] hR hG (fun k hk=>⟨hokk k hk,id⟩) (fun k hk=>hk.elim) K (fun _ _ _ _=>False) (fun r w'=>∃ vs ds' σ',K vs ds' σ'∧cf.self.ret.den vs []=some r∧vs.length=cf.self.nv∧ds'.length=cf.self.fs.length∧(∀ u ∈ vs,u.oneCell'=true) ∧
   R σ' w'∧KeepM G w0 w'∧DaOk w' (fun k=>okk k ∨ w0.heap.size≤k) vs cf.self.fs ds') fn (by rw [z1];rfl) (fun r w' ⟨vs,ds',σ',X',a1,a2,a3,a4,a5,a6,a7,_,_,a9⟩=>by
  refine ⟨vs,ds',σ',a1,a2,a3,a4,a5,a6,a7.toM fun k hk _=>hk.elim id False.elim,?_⟩
  rw [z2] at a9
  have:=DaOw.none.1 a9
  exact ⟨this.1,fun j x d h1 h2=>by obtain ⟨v,h3,h4⟩:=this.2 j x d h1 h2;exact ⟨v,h3,h4.imp fun k hk _=>hk.1.imp id fun h=>h.elim False.elim id⟩⟩)
 rw [hnt] at hgood
 refine Code.wp_mono (fun e a w h=>?_) (code_ok (C:=ctxOf w0 okk (fun _=>False) [] hG (fun k hk=>⟨hokk k hk,id⟩) (fun k hk=>hk.elim) hR) (cf:=cf) (T:=T) (K:=K) (Sd:=fun j Y=>∀ va dd σ,Y va dd σ→(fun _ _ _ _=>False:Nat→List Value→List D→S→Prop) j va dd σ) ⟨hcf,.inr rfl⟩ hm c none [] _ true (fun _ _ _ _=>False) E st a w Tr _ _ _ _ hTr hT0 (fun j hj=>by cases hj) hT hM hgood (fun x hx=>by rw [hnt] at hx;cases hx) (regsP_all (fun id ops b=>by unfold TailOk;rw [hnt];trivial) c))
 exact bodyPost_mono (fun e w' ⟨r,he,vs,ds',σ',a1,a2,a3,a4,a5,a6,a7,a8⟩=>⟨vs,ds',σ',r,a1,a2,he,a3,a4,a5,a6,a7,a8⟩) h
end
end Go.Proofs.YtdmacgoeikjdbaaGreatDoor.Sx
namespace Go.Proofs.YtdmacgoeikjdbaaGreatDoor
open Go.RowKit Sx
structure Hd where
 q:Nat
 off:Nat
 c:Nat
structure RH where
 s:RS
 h:Hd
abbrev ptrV (g:Nat):Value:=.pointer (some ⟨g,0,none⟩)
abbrev strB (x:List UInt8):Value:=.string ⟨x.toArray⟩
abbrev hdV (n:Nat) (h:Hd):Value:=.slice (some ⟨h.q,h.off,none⟩) n h.c
def RR (g:Nat) (gv fv:Value) (σ:RH) (w:World):Prop:=0<σ.s.ts.length∧(σ.s.ts.length≤2001∧Wf σ.s.ts)∧BlkIs w g 49 #[hdV σ.s.ts.length σ.h,gv,fv,.int .i64 σ.s.err,.int .i64 σ.s.pos]∧Rep w (fun k=>k<g) (.lst 4 (σ.s.ts.map encTok)) [hdV σ.s.ts.length σ.h]
section
variable {g:Nat} {gv fv:Value} {w w':World}
theorem RR.rd {σ:RH} (h:RR g gv fv σ w):RdQ w g gv fv σ.s:=⟨h.1,h.2.1,_,_,h.2.2.1,h.2.2.2⟩
theorem RdQ.rr {s:RS} (h:RdQ w g gv fv s):∃ hd:Hd,RR g gv fv ⟨s,hd⟩ w:=by
 obtain ⟨A,c,q,off,c0,rfl,_⟩:=h.tok 0 h.1
 obtain ⟨h1,h2,A',c',h3,h4⟩:=h
 have e:=h3.cell 0
 rw [c0] at e
 simp at e
 obtain ⟨rfl,rfl⟩:=e
 exact ⟨⟨q,off,c⟩,h1,h2,h3,h4⟩
theorem RR.stable (σ:RH) (w w':World) (h:RR g gv fv σ w) (_:w.heap.size≤w'.heap.size) (hk:∀ k,k≤g→w'.heap[k]?=w.heap[k]?):RR g gv fv σ w':=
 ⟨h.1,h.2.1,(hk g (Nat.le_refl _)).trans h.2.2.1,Rep.keep (fun _ h _=>h) (fun k hk2 _=>hk k (Nat.le_of_lt hk2)) _ _ h.2.2.2⟩
theorem RR.ld0 {σ:RH}:∀ w,RR g gv fv σ w→LoadsAt w (.pointer (some ⟨g,0 + 0,none⟩)) [hdV σ.s.ts.length σ.h]:=fun w h=>⟨g,0,rfl,fun j u hj=>by
 cases j with
 | zero=>
  simp at hj
  subst hj
  exact h.2.2.1.cell 0
 | succ j=>simp at hj⟩
theorem RR.ldT {σ:RH} (k:Nat) (hk:k<σ.s.ts.length):∀ w,RR g gv fv σ w→LoadsAt w (.pointer (some ⟨σ.h.q,σ.h.off + k * 4,none⟩)) (tokC (σ.s.ts.getD k noTokT)):=fun w h=>by
 refine ⟨_,_,rfl,fun j u hj=>?_⟩
 obtain ⟨q,off,a,hA,_,_,hl,hr,hc⟩:=h.2.2.2.at_ k (by rw [List.length_map];exact hk)
 injection hA with hA
 injection hA with e1 e2
 subst e1 e2
 rw [List.getElem_map,rep_tok] at hr
 subst hr
 have e:σ.s.ts.getD k noTokT=σ.s.ts[k]:=by rw [List.getD_eq_getElem?_getD,List.getElem?_eq_getElem hk];rfl
 rw [e] at hj
 have hj4:j<4:=by
  have:=(List.getElem?_eq_some_iff.1 hj).1
  simpa [tokC] using this
 have:=hc j hj4
 rw [show σ.h.off + k * 4 + j=σ.h.off + (k * 4 + j) by omega,this]
 exact hj
theorem hd_getD (ts:List Tok):hdT ts=ts.getD 0 noTokT:=by cases ts <;> rfl
theorem RR.ldH {σ:RH} (hk:0<σ.s.ts.length):∀ w,RR g gv fv σ w→LoadsAt w (.pointer (some ⟨σ.h.q,σ.h.off + 0 * 4,none⟩)) (tokC (hdT σ.s.ts)):=by
 rw [hd_getD]
 exact RR.ldT 0 hk
theorem loads_at {w:World} {q o:Nat} {vs:List Value} {j:Nat} {v:Value} (h:LoadsAt w (.pointer (some ⟨q,o,none⟩)) vs) (hv:vs[j]?=some v):LoadsAt w (.pointer (some ⟨q,o + j,none⟩)) [v]:=by
 obtain ⟨g,o',e,hr⟩:=h
 injection e with e
 injection e with e
 injection e with e1 e2
 subst e1 e2
 refine ⟨_,_,rfl,fun i u hi=>?_⟩
 cases i with
 | zero=>
  simp at hi
  subst hi
  exact hr j _ hv
 | succ i=>simp at hi
theorem RR.ldF0 {σ:RH} (hk:0<σ.s.ts.length):∀ w,RR g gv fv σ w→LoadsAt w (.pointer (some ⟨σ.h.q,σ.h.off + 0 * 4 + 0,none⟩)) [.int .i64 (hdT σ.s.ts).kind]:=fun w h=>loads_at (j:=0) (RR.ldH hk w h) rfl
theorem RR.ldF1 {σ:RH} (hk:0<σ.s.ts.length):∀ w,RR g gv fv σ w→LoadsAt w (.pointer (some ⟨σ.h.q,σ.h.off + 0 * 4 + 1,none⟩)) [strV8 (hdT σ.s.ts).text]:=fun w h=>loads_at (j:=1) (RR.ldH hk w h) rfl
theorem RR.ldF3 {σ:RH} (hk:0<σ.s.ts.length):∀ w,RR g gv fv σ w→LoadsAt w (.pointer (some ⟨σ.h.q,σ.h.off + 0 * 4 + 3,none⟩)) [.int .i64 (hdT σ.s.ts).pos]:=fun w h=>loads_at (j:=3) (RR.ldH hk w h) rfl
theorem RR.ldG0 {σ:RH} (k:Nat) (hk:k<σ.s.ts.length):∀ w,RR g gv fv σ w→LoadsAt w (.pointer (some ⟨σ.h.q,σ.h.off + k * 4 + 0,none⟩)) [.int .i64 (σ.s.ts.getD k noTokT).kind]:=fun w h=>loads_at (j:=0) (RR.ldT k hk w h) rfl
theorem RR.ldG1 {σ:RH} (k:Nat) (hk:k<σ.s.ts.length):∀ w,RR g gv fv σ w→LoadsAt w (.pointer (some ⟨σ.h.q,σ.h.off + k * 4 + 1,none⟩)) [strV8 (σ.s.ts.getD k noTokT).text]:=fun w h=>loads_at (j:=1) (RR.ldT k hk w h) rfl
end
abbrev PostC (g:Nat) (gv fv:Value) (sh:Shp) (okk:Nat→Prop) (w:World) (K:List Value→List D→RH→Prop) (e:Ending) (w':World):Prop:=
 ∃ vs ds' σ' r,K vs ds' σ'∧sh.ret.den vs []=some r∧e=.returned r∧vs.length=sh.nv∧ds'.length=sh.fs.length∧(∀ u ∈ vs,u.oneCell'=true)∧RR g gv fv σ' w'∧KeepM g w w'∧DaOk w' (fun k=>okk k ∨ w.heap.size≤k) vs sh.fs ds'
theorem daOk_nil (w:World) (ok:Nat→Prop) (vs:List Value):DaOk w ok vs [] []:=⟨rfl,fun j x d h=>by simp at h⟩
theorem do_post {f:FuncId} {args:Array Value} {g:Nat} {gv fv:Value} {w:World} {v:Value} {s':RS} {vs:List Value} {sh:Shp} {okk:Nat→Prop} {K:List Value→List D→RH→Prop} (hc:Calls Tryz.prog f args w (DoQ v g gv fv s' w)) (hK:∀ h,0<s'.ts.length→K vs [] ⟨s',h⟩) (hret:sh.ret.den vs []=some v) (hn:vs.length=sh.nv) (hf:sh.fs=[]) (h1:∀ u ∈ vs,u.oneCell'=true) :
  Calls Tryz.prog f args w (PostC g gv fv sh okk w K):=hc.mono fun e w' ⟨he,hk,hr⟩=>by
 obtain ⟨hd,hr⟩:=hr.rr
 exact ⟨vs,[],_,v,hK hd hr.1,hret,he,hn,by rw [hf];rfl,h1,hr,hk,by rw [hf];exact daOk_nil _ _ _⟩
theorem tell_post {f:FuncId} {args:Array Value} {g:Nat} {gv fv:Value} {w:World} {v:Value} {σ:RH} {vs:List Value} {sh:Shp} {okk:Nat→Prop} {K:List Value→List D→RH→Prop} (hc:Calls Tryz.prog f args w (TellQ v w)) (hr:RR g gv fv σ w) (hg:g<w.heap.size) (hK:K vs [] σ) (hret:sh.ret.den vs []=some v) (hn:vs.length=sh.nv) (hf:sh.fs=[]) (h1:∀ u ∈ vs,u.oneCell'=true) :
  Calls Tryz.prog f args w (PostC g gv fv sh okk w K):=hc.mono fun e w' ⟨he,hb⟩=>
 ⟨vs,[],σ,v,hK,hret,he,hn,by rw [hf];rfl,h1,RR.stable σ w w' hr hb.size (fun k hk=>hb.block k (by omega)),KeepM.of hb,by rw [hf];exact daOk_nil _ _ _⟩
abbrev sUnit:Shp:=⟨0,.tup [],[],[],[],[],[]⟩
abbrev sOne:Shp:=⟨1,.el (.one (.v 0)),[],[],[],[],[]⟩
abbrev sEx:Shp:=⟨8,.el (.agg [.v 0,.v 1,.v 2,.v 3,.v 4,.v 5,.v 6,.v 7]),[(6,8)],[],[],[],[]⟩
abbrev sExs:Shp:=⟨1,.el (.one (.v 0)),[(0,8)],[],[],[],[]⟩
abbrev sTok:Shp:=⟨4,.el (.agg [.v 0,.v 1,.v 2,.v 3]),[],[],[],[],[]⟩
abbrev sTy:Shp:=⟨3,.el (.agg [.v 0,.v 1,.v 2]),[],[],[],[],[]⟩
abbrev sName:Shp:=⟨2,.tup [.one (.v 0),.one (.v 1)],[],[],[],[],[]⟩
section
variable (g:Nat) (gv fv:Value)
def conOk:Con0 Tryz.prog (RR g gv fv) g where
 f:=40
 sh:=sOne
 W args _ σ K:=args=[ptrV g]∧K [.bool (rok σ.s)] [] σ
 ok args ds σ w okk K hg hR _ _ _ hW:=by
  obtain ⟨rfl,hK⟩:=hW
  exact tell_post ((rok_any g gv fv σ.s w hR.rd).mono fun e w' ⟨h1,h2⟩=>⟨h1,h2 ▸ Below.refl _ _⟩) hR hg hK rfl rfl rfl (by simp [Value.oneCell'])
def conIs:Con0 Tryz.prog (RR g gv fv) g where
 f:=41
 sh:=sOne
 W args _ σ K:=∃ x,args=[ptrV g,strB x]∧K [.bool (ris x σ.s)] [] σ
 ok args ds σ w okk K hg hR _ _ _ hW:=by
  obtain ⟨x,rfl,hK⟩:=hW
  exact tell_post (ris_any g gv fv σ.s x w hR.rd) hR hg hK rfl rfl rfl (by simp [Value.oneCell'])
def conFail:Con0 Tryz.prog (RR g gv fv) g where
 f:=45
 sh:=sUnit
 W args _ σ K:=∃ e,args=[ptrV g,.int .i64 e]∧∀ h,0<(rfail e σ.s).ts.length→K [] [] ⟨rfail e σ.s,h⟩
 ok args ds σ w okk K hg hR _ _ _ hW:=by
  obtain ⟨x,rfl,hK⟩:=hW
  exact do_post (rfail_any g gv fv σ.s x w hR.rd) hK rfl rfl rfl (by simp)
def conNext:Con0 Tryz.prog (RR g gv fv) g where
 f:=43
 sh:=sTok
 W args _ σ K:=args=[ptrV g]∧∀ h,0<(rnext σ.s).ts.length→K (tokC (hdT σ.s.ts)) [] ⟨rnext σ.s,h⟩
 ok args ds σ w okk K hg hR _ _ _ hW:=by
  obtain ⟨rfl,hK⟩:=hW
  exact do_post (rnext_any g gv fv σ.s w hR.rd) hK rfl rfl rfl (by simp [tokC,strV8,Value.oneCell'])
def conTake:Con0 Tryz.prog (RR g gv fv) g where
 f:=47
 sh:=sOne
 W args _ σ K:=∃ x,args=[ptrV g,strB x]∧∀ h,0<((rtake x σ.s).2).ts.length→K [.bool (rtake x σ.s).1] [] ⟨(rtake x σ.s).2,h⟩
 ok args ds σ w okk K hg hR _ _ _ hW:=by
  obtain ⟨x,rfl,hK⟩:=hW
  exact do_post (rtake_any g gv fv σ.s x w hR.rd) hK rfl rfl rfl (by simp [Value.oneCell'])
def conMust:Con0 Tryz.prog (RR g gv fv) g where
 f:=50
 sh:=sUnit
 W args _ σ K:=∃ x,args=[ptrV g,strB x]∧∀ h,0<(rmust x σ.s).ts.length→K [] [] ⟨rmust x σ.s,h⟩
 ok args ds σ w okk K hg hR _ _ _ hW:=by
  obtain ⟨x,rfl,hK⟩:=hW
  exact do_post (rmust_any g gv fv σ.s x w hR.rd) hK rfl rfl rfl (by simp)
def conTyp:Con0 Tryz.prog (RR g gv fv) g where
 f:=38
 sh:=sTy
 W args _ σ K:=args=[ptrV g]∧∀ h,0<((rtyp σ.s).2).ts.length→K (tyV (rtyp σ.s).1) [] ⟨(rtyp σ.s).2,h⟩
 ok args ds σ w okk K hg hR _ _ _ hW:=by
  obtain ⟨rfl,hK⟩:=hW
  exact do_post (rtyp_any g gv fv σ.s w hR.rd) hK rfl rfl rfl (by simp [tyV,Value.oneCell'])
def conTyped:Con0 Tryz.prog (RR g gv fv) g where
 f:=89
 sh:=sOne
 W args _ σ K:=∃ k:Nat,k≤1∧args=[ptrV g,.int .i64 k]∧K [.bool (rtyped k σ.s)] [] σ
 ok args ds σ w okk K hg hR _ _ _ hW:=by
  obtain ⟨k,hk,rfl,hK⟩:=hW
  have:k=0 ∨ k=1:=by omega
  rcases this with rfl | rfl
  ·exact tell_post (rtyped0_any g gv fv σ.s w hR.rd) hR hg hK rfl rfl rfl (by simp [Value.oneCell'])
  ·exact tell_post (rtyped1_any g gv fv σ.s w hR.rd) hR hg hK rfl rfl rfl (by simp [Value.oneCell'])
def conName:Con0 Tryz.prog (RR g gv fv) g where
 f:=39
 sh:=sName
 W args _ σ K:=args=[ptrV g]∧∀ h,0<((rname σ.s).2).ts.length→K [strB (rname σ.s).1.1,.int .i64 (rname σ.s).1.2] [] ⟨(rname σ.s).2,h⟩
 ok args ds σ w okk K hg hR _ _ _ hW:=by
  obtain ⟨rfl,hK⟩:=hW
  exact do_post (rname_any g gv fv σ.s w hR.rd) hK rfl rfl rfl (by simp [Value.oneCell'])
def conValue:Con0 Tryz.prog (RR g gv fv) g where
 f:=49
 sh:=sOne
 W args _ σ K:=args=[ptrV g]∧∀ h,0<((rvalue σ.s).2).ts.length→K [.int .i64 (rvalue σ.s).1] [] ⟨(rvalue σ.s).2,h⟩
 ok args ds σ w okk K hg hR _ _ _ hW:=by
  obtain ⟨rfl,hK⟩:=hW
  exact do_post (rvalue_any g gv fv σ.s w hR.rd) hK rfl rfl rfl (by simp [Value.oneCell'])
def conLength:Con0 Tryz.prog (RR g gv fv) g where
 f:=48
 sh:=sOne
 W args _ σ K:=args=[ptrV g]∧∀ h,0<((rlength σ.s).2).ts.length→K [.int .i64 (rlength σ.s).1] [] ⟨(rlength σ.s).2,h⟩
 ok args ds σ w okk K hg hR _ _ _ hW:=by
  obtain ⟨rfl,hK⟩:=hW
  exact do_post (rlength_any g gv fv σ.s w hR.rd) hK rfl rfl rfl (by simp [Value.oneCell'])
abbrev exV (x:Ex) (A:Option Addr) (c:Nat):List Value:=exC x A c
theorem bB:bIf=[105,102]∧bElse=[101,108,115,101]∧bWhile=[119,104,105,108,101]∧bSwitch=[115,119,105,116,99,104]∧bDo=[100,111]∧bFor=[102,111,114]∧bCase=[99,97,115,101]∧bDefault=[100,101,102,97,117,108,116]∧bBreak=[98,114,101,97,107]∧bContinue=[99,111,110,116,105,110,117,101]∧bReturn=[114,101,116,117,114,110]∧bGoto=[103,111,116,111]:=⟨rfl,rfl,rfl,rfl,rfl,rfl,rfl,rfl,rfl,rfl,rfl,rfl⟩
theorem sP {α β:Type} {a c:α} {b d:β} (h:some (a,b)=some (c,d)):a=c∧b=d:=by
 injection h with h
 injection h with i1 i2
 exact ⟨i1,i2⟩
theorem nS:(∀ b:Bool,((!b)=true)=(b=false))∧(∀ b:Bool,((!b)=false)=(b=true))∧(∀ b:Bool,(¬ b=true)=(b=false))∧(∀ b:Bool,(¬ b=false)=(b=true)):=by simp
theorem bS:((!true)=false)∧((!false)=true)∧((false=true)=False)∧(∀ b:Bool,(true && b)=b)∧(∀ b:Bool,(false && b)=false)∧(∀ b:Bool,(true || b)=true)∧(∀ b:Bool,(false || b)=b)∧(∀ b:Bool,(b || false)=b)∧(∀ b:Bool,(b || true)=true)∧(∀ b:Bool,(b && true)=b)∧(∀ b:Bool,(b && false)=false):=by simp
theorem aS:(∀ (a:Value) l m,a :: l ++ m=a :: (l ++ m))∧(∀ l:List Value,[] ++ l=l)∧(∀ l:List Value,l ++ []=l)∧(∀ (a:D) l m,a :: l ++ m=a :: (l ++ m))∧(∀ l:List D,[] ++ l=l)∧(∀ l:List D,l ++ []=l)∧(∀ (a:Nat) l m,a :: l ++ m=a :: (l ++ m))∧(∀ l:List Nat,[] ++ l=l)∧(∀ l:List Nat,l ++ []=l) ∧
  (∀ x A c,exV x A c=[.int .i64 x.op,.int .i64 x.ty.kind,.int .i64 x.ty.ptr,.int .i64 x.ty.len,strV8 x.name,.int .i64 x.n,.slice A x.kids.length c,.int .i64 x.pos])∧(∀ x A c,exC x A c=[.int .i64 x.op,.int .i64 x.ty.kind,.int .i64 x.ty.ptr,.int .i64 x.ty.len,strV8 x.name,.int .i64 x.n,.slice A x.kids.length c,.int .i64 x.pos]) ∧
  (∀ t,tokC t=[.int .i64 t.kind,strV8 t.text,.int .i64 t.n,.int .i64 t.pos])∧(∀ t,tyV t=[.int .i64 t.kind,.int .i64 t.ptr,.int .i64 t.len])∧(∀ x A c B d,stC x A c B d=[.int .i64 x.op,.slice A x.ex.length c,.slice B x.body.length d,.int .i64 x.ty.kind,.int .i64 x.ty.ptr,.int .i64 x.ty.len,strV8 x.name,.int .i64 x.n,.int .i64 x.pos]):=by
 refine ⟨?_,?_,?_,?_,?_,?_,?_,?_,?_,?_,?_,?_,?_,?_⟩ <;> intros <;> first | rfl | simp
abbrev kidsD (x:Ex):D:=.lst 8 (x.kids.map encEx)
theorem exC_one (x:Ex) (A:Option Addr) (c:Nat):∀ u ∈ exC x A c,u.oneCell'=true:=by simp [exC,strV8,Value.oneCell']
theorem ex_post {f:FuncId} {args:Array Value} {x:Ex} {w:World} {s':RS} {okk:Nat→Prop} {K:List Value→List D→RH→Prop} (hc:Calls Tryz.prog f args w (ExQ x g gv fv s' w)) (hK:∀ A c h,0<s'.ts.length→K (exV x A c) [kidsD x] ⟨s',h⟩) :
  Calls Tryz.prog f args w (PostC g gv fv sEx okk w K):=hc.mono fun e w' ⟨V,X,hV,hX,he,hrep,hk,hr⟩=>by
 obtain ⟨hd,hr⟩:=hr.rr
 obtain ⟨A,c,h1,h2⟩:=rep_ex.1 hrep
 refine ⟨exC x A c,[kidsD x],_,V,hK A c hd hr.1,?_,he,rfl,rfl,exC_one x A c,hr,hk,rfl,fun j y d hj hd=>?_⟩
 ·have:X=(exC x A c).toArray:=by rw [← h1]
  rw [hV.out,this]
  rfl
 ·cases j with
  | zero=>
   simp at hj hd
   subst hj hd
   exact ⟨_,rfl,h2.imp fun k hk _=>.inr hk⟩
  | succ j=>simp at hj
theorem ex_of {f:FuncId} {args:Array Value} {x:Ex} {w:World} {s':RS} (hc:Calls Tryz.prog f args w (PostC g gv fv sEx (fun _=>False) w (fun vs ds σ'=>(∃ A c,vs=exV x A c)∧ds=[kidsD x]∧σ'.s=s'))):Calls Tryz.prog f args w (ExQ x g gv fv s' w):=
 hc.mono fun e w' ⟨vs,ds,σ',r,⟨⟨A,c,h1⟩,h2,h3⟩,h4,he,_,_,_,hr,hk,hda⟩=>by
  subst h1 h2
  have h4:some (Value.agg (exC x A c).toArray)=some r:=h4
  injection h4 with h4
  refine ⟨r,(exC x A c).toArray,Lib.hid h4.symm,rfl,he,?_,hk,by rw [← h3];exact hr.rd⟩
  obtain ⟨v,h5,h6⟩:=hda.2 0 (6,8) (kidsD x) rfl rfl
  have h5:some (Value.slice A x.kids.length c)=some v:=h5
  injection h5 with h5
  subst h5
  refine rep_ex.2 ⟨A,c,rfl,h6.imp fun k hk _=>?_⟩
  rcases hk with hk | hk
  ·exact hk.elim
  ·exact hk
abbrev exsD (x:List Ex):D:=.lst 8 (x.map encEx)
theorem exs_post {f:FuncId} {args:Array Value} {x:List Ex} {w:World} {s':RS} {okk:Nat→Prop} {K:List Value→List D→RH→Prop} (hc:Calls Tryz.prog f args w (ExsQ x g gv fv s' w)) (hK:∀ A c h,0<s'.ts.length→K [.slice A x.length c] [exsD x] ⟨s',h⟩) :
  Calls Tryz.prog f args w (PostC g gv fv sExs okk w K):=hc.mono fun e w' ⟨A,c,he,hrep,hk,hr⟩=>by
 obtain ⟨hd,hr⟩:=hr.rr
 refine ⟨[.slice A x.length c],[exsD x],_,_,hK A c hd hr.1,rfl,he,rfl,rfl,by simp [Value.oneCell'],hr,hk,rfl,fun j y d hj hd=>?_⟩
 cases j with
 | zero=>
  simp at hj hd
  subst hj hd
  exact ⟨_,rfl,hrep.imp fun k hk _=>.inr hk⟩
 | succ j=>simp at hj
variable {g gv fv}
def conOperand {F:Nat} (ih:∀ f,f≤F→ROperandOk f):Con0 Tryz.prog (RR g gv fv) g where
 f:=138
 sh:=sExs
 W args _ σ K:=∃ f d x s',f≤F∧args=[ptrV g,.int .i64 d]∧roperand f d σ.s=some (x,s')∧DepthOk d f∧∀ A c h,0<s'.ts.length→K [.slice A x.length c] [exsD x] ⟨s',h⟩
 ok args ds σ w okk K hg hR _ _ _ hW:=by
  obtain ⟨f,d,x,s',hf,rfl,h1,h2,hK⟩:=hW
  exact exs_post g gv fv (ih f hf d σ.s s' x g gv fv w h1 h2 hR.rd) hK
def conExpr {F:Nat} (ih:∀ f,f≤F→RExprOk f):Con0 Tryz.prog (RR g gv fv) g where
 f:=90
 sh:=sEx
 W args _ σ K:=∃ f d x s',f≤F∧args=[ptrV g,.int .i64 d]∧rexpr f d σ.s=some (x,s')∧DepthOk d f∧∀ A c h,0<s'.ts.length→K (exV x A c) [kidsD x] ⟨s',h⟩
 ok args ds σ w okk K hg hR _ _ _ hW:=by
  obtain ⟨f,d,x,s',hf,rfl,h1,h2,hK⟩:=hW
  exact ex_post g gv fv (ih f hf d σ.s s' x g gv fv w h1 h2 hR.rd) hK
def conUnary {F:Nat} (ih:∀ f,f≤F→RUnaryOk f):Con0 Tryz.prog (RR g gv fv) g where
 f:=125
 sh:=sEx
 W args _ σ K:=∃ f d x s',f≤F∧args=[ptrV g,.int .i64 d]∧runary f d σ.s=some (x,s')∧DepthOk d f∧∀ A c h,0<s'.ts.length→K (exV x A c) [kidsD x] ⟨s',h⟩
 ok args ds σ w okk K hg hR _ _ _ hW:=by
  obtain ⟨f,d,x,s',hf,rfl,h1,h2,hK⟩:=hW
  exact ex_post g gv fv (ih f hf d σ.s s' x g gv fv w h1 h2 hR.rd) hK
def conPost {F:Nat} (ih:∀ f,f≤F→RPostOk f):Con0 Tryz.prog (RR g gv fv) g where
 f:=139
 sh:=sEx
 W args _ σ K:=∃ f d x s',f≤F∧args=[ptrV g,.int .i64 d]∧rpostfix f d σ.s=some (x,s')∧DepthOk d f∧∀ A c h,0<s'.ts.length→K (exV x A c) [kidsD x] ⟨s',h⟩
 ok args ds σ w okk K hg hR _ _ _ hW:=by
  obtain ⟨f,d,x,s',hf,rfl,h1,h2,hK⟩:=hW
  exact ex_post g gv fv (ih f hf d σ.s s' x g gv fv w h1 h2 hR.rd) hK
def conPrim {F:Nat} (ih:∀ f,f≤F→RPrimOk f):Con0 Tryz.prog (RR g gv fv) g where
 f:=142
 sh:=sEx
 W args _ σ K:=∃ f d x s',f≤F∧args=[ptrV g,.int .i64 d]∧rprimary f d σ.s=some (x,s')∧DepthOk d f∧∀ A c h,0<s'.ts.length→K (exV x A c) [kidsD x] ⟨s',h⟩
 ok args ds σ w okk K hg hR _ _ _ hW:=by
  obtain ⟨f,d,x,s',hf,rfl,h1,h2,hK⟩:=hW
  exact ex_post g gv fv (ih f hf d σ.s s' x g gv fv w h1 h2 hR.rd) hK
def conBin {F:Nat} (ih:∀ f,f≤F→RBinOk f):Con0 Tryz.prog (RR g gv fv) g where
 f:=115
 sh:=sEx
 W args _ σ K:=∃ (f:Nat) (d:Int) (n:Nat) (x:Ex) (s':RS),f≤F∧args=[ptrV g,.int .i64 d,.int .i64 n]∧n≤10∧rbinary f d n σ.s=some (x,s')∧DepthOk d f∧∀ A c h,0<s'.ts.length→K (exV x A c) [kidsD x] ⟨s',h⟩
 ok args ds σ w okk K hg hR _ _ _ hW:=by
  obtain ⟨f,d,n,x,s',hf,rfl,h0,h1,h2,hK⟩:=hW
  exact ex_post g gv fv (ih f hf d n σ.s s' x g gv fv w h0 h1 h2 hR.rd) hK
end
section
variable {g:Nat} {gv fv:Value} {K:List Value→List D→RH→Prop} {ds:List D} {s:RS} {h0:Hd}
theorem w_ok (h:K [.bool (rok s)] [] ⟨s,h0⟩):(conOk g gv fv).W [ptrV g] ds ⟨s,h0⟩ K:=⟨rfl,h⟩
theorem w_is {x:List UInt8} (h:K [.bool (ris x s)] [] ⟨s,h0⟩):(conIs g gv fv).W [ptrV g,strB x] ds ⟨s,h0⟩ K:=⟨x,rfl,h⟩
theorem w_fail {e:Int} (h:∀ h,0<(rfail e s).ts.length→K [] [] ⟨rfail e s,h⟩):(conFail g gv fv).W [ptrV g,.int .i64 e] ds ⟨s,h0⟩ K:=⟨e,rfl,h⟩
theorem w_next (h:∀ h,0<(rnext s).ts.length→K (tokC (hdT s.ts)) [] ⟨rnext s,h⟩):(conNext g gv fv).W [ptrV g] ds ⟨s,h0⟩ K:=⟨rfl,h⟩
theorem w_take {x:List UInt8} (h:∀ h,0<(rtake x s).2.ts.length→K [.bool (rtake x s).1] [] ⟨(rtake x s).2,h⟩):(conTake g gv fv).W [ptrV g,strB x] ds ⟨s,h0⟩ K:=⟨x,rfl,h⟩
theorem w_must {x:List UInt8} (h:∀ h,0<(rmust x s).ts.length→K [] [] ⟨rmust x s,h⟩):(conMust g gv fv).W [ptrV g,strB x] ds ⟨s,h0⟩ K:=⟨x,rfl,h⟩
theorem w_typ (h:∀ h,0<(rtyp s).2.ts.length→K (tyV (rtyp s).1) [] ⟨(rtyp s).2,h⟩):(conTyp g gv fv).W [ptrV g] ds ⟨s,h0⟩ K:=⟨rfl,h⟩
theorem w_typed0 (h:K [.bool (rtyped 0 s)] [] ⟨s,h0⟩):(conTyped g gv fv).W [ptrV g,.int .i64 0] ds ⟨s,h0⟩ K:=⟨0,by omega,rfl,h⟩
theorem w_typed1 (h:K [.bool (rtyped 1 s)] [] ⟨s,h0⟩):(conTyped g gv fv).W [ptrV g,.int .i64 1] ds ⟨s,h0⟩ K:=⟨1,by omega,rfl,h⟩
theorem w_name (h:∀ h,0<(rname s).2.ts.length→K [strB (rname s).1.1,.int .i64 (rname s).1.2] [] ⟨(rname s).2,h⟩):(conName g gv fv).W [ptrV g] ds ⟨s,h0⟩ K:=⟨rfl,h⟩
theorem w_value (h:∀ h,0<(rvalue s).2.ts.length→K [.int .i64 (rvalue s).1] [] ⟨(rvalue s).2,h⟩):(conValue g gv fv).W [ptrV g] ds ⟨s,h0⟩ K:=⟨rfl,h⟩
theorem w_length (h:∀ h,0<(rlength s).2.ts.length→K [.int .i64 (rlength s).1] [] ⟨(rlength s).2,h⟩):(conLength g gv fv).W [ptrV g] ds ⟨s,h0⟩ K:=⟨rfl,h⟩
theorem w_expr {F f:Nat} {ih:∀ f,f≤F→RExprOk f} {d:Int} {x:Ex} {s':RS} (hf:f≤F) (h1:rexpr f d s=some (x,s')) (h2:DepthOk d f) (h:∀ A c h,0<s'.ts.length→K (exV x A c) [kidsD x] ⟨s',h⟩):(conExpr ih (g:=g) (gv:=gv) (fv:=fv)).W [ptrV g,.int .i64 d] ds ⟨s,h0⟩ K:=⟨f,d,x,s',hf,rfl,h1,h2,h⟩
theorem w_unary {F f:Nat} {ih:∀ f,f≤F→RUnaryOk f} {d:Int} {x:Ex} {s':RS} (hf:f≤F) (h1:runary f d s=some (x,s')) (h2:DepthOk d f) (h:∀ A c h,0<s'.ts.length→K (exV x A c) [kidsD x] ⟨s',h⟩):(conUnary ih (g:=g) (gv:=gv) (fv:=fv)).W [ptrV g,.int .i64 d] ds ⟨s,h0⟩ K:=⟨f,d,x,s',hf,rfl,h1,h2,h⟩
theorem w_post {F f:Nat} {ih:∀ f,f≤F→RPostOk f} {d:Int} {x:Ex} {s':RS} (hf:f≤F) (h1:rpostfix f d s=some (x,s')) (h2:DepthOk d f) (h:∀ A c h,0<s'.ts.length→K (exV x A c) [kidsD x] ⟨s',h⟩):(conPost ih (g:=g) (gv:=gv) (fv:=fv)).W [ptrV g,.int .i64 d] ds ⟨s,h0⟩ K:=⟨f,d,x,s',hf,rfl,h1,h2,h⟩
theorem w_prim {F f:Nat} {ih:∀ f,f≤F→RPrimOk f} {d:Int} {x:Ex} {s':RS} (hf:f≤F) (h1:rprimary f d s=some (x,s')) (h2:DepthOk d f) (h:∀ A c h,0<s'.ts.length→K (exV x A c) [kidsD x] ⟨s',h⟩):(conPrim ih (g:=g) (gv:=gv) (fv:=fv)).W [ptrV g,.int .i64 d] ds ⟨s,h0⟩ K:=⟨f,d,x,s',hf,rfl,h1,h2,h⟩
theorem w_operand {F f:Nat} {ih:∀ f,f≤F→ROperandOk f} {d:Int} {x:List Ex} {s':RS} (hf:f≤F) (h1:roperand f d s=some (x,s')) (h2:DepthOk d f) (h:∀ A c h,0<s'.ts.length→K [.slice A x.length c] [exsD x] ⟨s',h⟩):(conOperand ih (g:=g) (gv:=gv) (fv:=fv)).W [ptrV g,.int .i64 d] ds ⟨s,h0⟩ K:=⟨f,d,x,s',hf,rfl,h1,h2,h⟩
theorem w_bin {F f n:Nat} {ih:∀ f,f≤F→RBinOk f} {d:Int} {x:Ex} {s':RS} (hf:f≤F) (hn:n≤10) (h1:rbinary f d n s=some (x,s')) (h2:DepthOk d f) (h:∀ A c h,0<s'.ts.length→K (exV x A c) [kidsD x] ⟨s',h⟩):(conBin ih (g:=g) (gv:=gv) (fv:=fv)).W [ptrV g,.int .i64 d,.int .i64 n] ds ⟨s,h0⟩ K:=⟨f,d,n,x,s',hf,rfl,hn,h1,h2,h⟩
end
theorem rtake_yes {x:List UInt8} {s:RS} (h:(rtake x s).1=true):(rtake x s).2=rnext s:=by
 unfold rtake at h ⊢
 cases hb:rok s && ris x s
 ·rw [hb] at h;cases h
 ·rfl
theorem sem_ia {n z:Nat} {h:Hd} (k:Nat) (hk:k<n):(PV.ia z).sem [hdV n h,.int .i64 (Int.ofNat k)]=some (.pointer (some ⟨h.q,h.off + k * z,none⟩)):=by
 have:Nat.blt k n=true:=by simpa using hk
 simp only [PV.sem,iaV,this]
theorem tokC_one (t:Tok):∀ u ∈ tokC t,u.oneCell'=true:=by simp [tokC,strV8,Value.oneCell']
theorem hdV_one (n:Nat) (h:Hd):∀ u ∈ [hdV n h],u.oneCell'=true:=by simp [Value.oneCell']
theorem deeper {d:Int} {f:Nat} (h:DepthOk d (f + 1)):DepthOk (IntKind.i64.wrap (d + 1)) f∧IntKind.i64.wrap (d + 1)=d + 1:=by
 have h1:=h.1
 have h2:=h.2
 have e:IntKind.i64.wrap (d + 1)=d + 1:=by
  rw [IntKind.wrap_i64];omega
 exact ⟨by rw [e];exact ⟨by omega,by omega⟩,e⟩
def xZ:List L:=[.c (.int .i64 0),.c (.int .i64 0),.c (.int .i64 0),.c (.int .i64 0),.c (.string ⟨#[]⟩),.c (.int .i64 0),.c (.slice none 0 0),.c (.int .i64 0)]
theorem mixed:Tryz.prog.follows .mixedOrders=true:=by kernel_rfl
end Go.Proofs.YtdmacgoeikjdbaaGreatDoor

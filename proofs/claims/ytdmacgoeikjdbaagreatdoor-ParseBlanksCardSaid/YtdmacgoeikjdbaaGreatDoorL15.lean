/- Symbolic execution: what a tree asks, node by node. Short names for a -/
import Derived.Test.YtdmacgoeikjdbaaGreatDoorL14
import Derived.Test.YtdmacgoeikjdbaaGreatDoorL04
set_option linter.unusedSimpArgs false
set_option linter.unusedVariables false
namespace Go.Proofs.YtdmacgoeikjdbaaGreatDoor.Sx
open Go.RowKit
section
variable {S:Type} {P:Program} {R:S→World→Prop} {G:Nat} {T:List (Con P R G)} {K:List Value→List D→S→Prop} {A:Nat→List Value→List D→S→Prop} {k:Tree} {vals:List Value} {blks:List Nat} {dats:List D} {σ:S}
theorem h_new (h:∀ g,k.holds T K A ⟨vals,blks ++ [g],dats,σ⟩):(Tree.nd .new k).holds T K A ⟨vals,blks,dats,σ⟩:=h
theorem h_pv {p:PV} {xs:List L} {vs:List Value} {r:Value} (h1:dens vals blks xs=some vs) (h2:p.sem vs=some r) (h:k.holds T K A ⟨vals ++ [r],blks,dats,σ⟩):(Tree.nd (.pv p xs) k).holds T K A ⟨vals,blks,dats,σ⟩:=⟨vs,r,h1,h2,h⟩
theorem h_ld {x:L} {n:Nat} {p:Value} {vs:List Value} (h1:x.den vals blks=some p) (h4:∀ w,R σ w→LoadsAt w p vs) (h2:vs.length=n) (h3:∀ u ∈ vs,u.oneCell'=true) (h:k.holds T K A ⟨vals ++ vs,blks,dats,σ⟩):(Tree.nd (.ld x n) k).holds T K A ⟨vals,blks,dats,σ⟩:=⟨p,vs,h1,h2,h3,h4,h⟩
theorem h_call {i:Nat} {args:List T2} {ds:List (L × CD)} {vs:List Value} {dd:List D} {c:Con P R G} (hc:T[i]?=some c) (h1:dens2 vals blks args=some vs) (h2:ldens ⟨vals,blks,dats,σ⟩ ds=some dd) (h:c.W vs dd σ fun vs' ds' σ'=>k.holds T K A ⟨vals ++ vs',blks,dats ++ ds',σ'⟩):(Tree.nd (.call i args ds) k).holds T K A ⟨vals,blks,dats,σ⟩:=by
 show wpN T _ _ _
 simp only [wpN,hc]
 exact ⟨vs,dd,h1,h2,h⟩
theorem h_call0 {i:Nat} {args:List T2} {ds:List (L × CD)} {vs:List Value} {dd:List D} {c:Con0 P R G} (hc:T[i]?=some c.x) (h1:dens2 vals blks args=some vs) (h2:ldens ⟨vals,blks,dats,σ⟩ ds=some dd) (h:c.W vs dd σ fun vs' ds' σ'=>k.holds T K A ⟨vals ++ vs',blks,dats ++ ds',σ'⟩):(Tree.nd (.call i args ds) k).holds T K A ⟨vals,blks,dats,σ⟩:=h_call hc h1 h2 h
theorem h_bs {z n:Nat} {row:Bool} {cs:List (List (L × CD))} {ds:List D} (h1:rowsD ⟨vals,blks,dats,σ⟩ row cs=some ds) (h:∀ g,k.holds T K A ⟨vals ++ [.slice (some ⟨g,0,none⟩) n n],blks,dats ++ [.lst z ds],σ⟩):(Tree.nd (.bs z n row cs) k).holds T K A ⟨vals,blks,dats,σ⟩:=⟨ds,h1,h⟩
theorem h_app {z i x:Nat} {ds1 ds2:List D} (h1:dats[i]?=some (.lst z ds1)) (h2:dats[x]?=some (.lst z ds2)) (h3:ds1.length + ds2.length≤1000000000) (h:∀ A' c,k.holds T K A ⟨vals ++ [.slice A' (ds1.length + ds2.length) c],blks,dats ++ [.lst z (ds1 ++ ds2)],σ⟩):(Tree.nd (.app z (.dat i) x) k).holds T K A ⟨vals,blks,dats,σ⟩:=⟨ds1,ds2,h1,h2,h3,h⟩
theorem h_ite {n:Nat} {a b:Tree} {c:Bool} (h:vals[n]?=some (.bool c)) (h1:c=true→a.holds T K A ⟨vals,blks,dats,σ⟩) (h2:c=false→b.holds T K A ⟨vals,blks,dats,σ⟩):(Tree.ite n a b).holds T K A ⟨vals,blks,dats,σ⟩:=⟨c,h,h1,h2⟩
theorem h_both {a b:Tree} (h1:a.holds T K A ⟨vals,blks,dats,σ⟩) (h2:b.holds T K A ⟨vals,blks,dats,σ⟩):(Tree.both a b).holds T K A ⟨vals,blks,dats,σ⟩:=⟨h1,h2⟩
theorem h_ret {cs:List L} {ds:List (L × CD)} {vs:List Value} {dd:List D} (h1:dens vals blks cs=some vs) (h2:ldens ⟨vals,blks,dats,σ⟩ ds=some dd) (h:K vs dd σ):(Tree.ret cs ds).holds T K A ⟨vals,blks,dats,σ⟩:=⟨vs,dd,h1,h2,h⟩
theorem h_again {id:Nat} {cs:List L} {ds:List (L × CD)} {vs:List Value} {dd:List D} (h1:dens vals blks cs=some vs) (h2:ldens ⟨vals,blks,dats,σ⟩ ds=some dd) (h:A id vs dd σ):(Tree.again id cs ds).holds T K A ⟨vals,blks,dats,σ⟩:=⟨vs,dd,h1,h2,h⟩
theorem h_loop {id nb:Nat} {cs:List L} {ds:List (L × CD)} {body:Tree} {vs:List Value} {dd:List D} (Lp:Nat→List Value→List D→S→Prop) (f:Nat) (h1:dens vals blks cs=some vs) (h2:ldens ⟨vals,blks,dats,σ⟩ ds=some dd) (h0:∀ a b σ,¬ Lp 0 a b σ) (h:Lp f vs dd σ)
  (hs:∀ f a b bl σ,bl.length=nb→Lp (f + 1) a b σ→body.holds T K (fun j=>if j=id then Lp f else A j) ⟨a,bl,b,σ⟩):(Tree.loop id nb cs ds body).holds T K A ⟨vals,blks,dats,σ⟩:=⟨Lp,h0,⟨f,vs,dd,h1,h2,h⟩,hs⟩
theorem h_again0 {id f:Nat} {cs:List L} {ds:List (L × CD)} {vs:List Value} {dd:List D} {Lp:Nat→List Value→List D→S→Prop} (h1:dens vals blks cs=some vs) (h2:ldens ⟨vals,blks,dats,σ⟩ ds=some dd) (h:Lp f vs dd σ):(Tree.again id cs ds).holds T K (fun j=>if j=id then Lp f else A j) ⟨vals,blks,dats,σ⟩:=⟨vs,dd,h1,h2,by simpa using h⟩
theorem kC {i:Nat} {args:List T2} {ds:List (L × CD)} {vs:List Value} {dd:List D} {c:Con P R G} (hc:T[i]?=some c:=by exact rfl) (h1:dens2 vals blks args=some vs:=by simp only [rowsD,ldens,dens,dens2,T2.den,L.den,CD.den,leafD,rowD,List.getElem?_cons_zero,List.getElem?_cons_succ] <;> rfl) (h2:ldens ⟨vals,blks,dats,σ⟩ ds=some dd:=by first | rfl | (simp only [ldens,L.den,CD.den,leafD,List.getElem?_cons_zero,List.getElem?_cons_succ];rfl)) (h:c.W vs dd σ fun vs' ds' σ'=>k.holds T K A ⟨vals ++ vs',blks,dats ++ ds',σ'⟩):(Tree.nd (.call i args ds) k).holds T K A ⟨vals,blks,dats,σ⟩:=h_call hc h1 h2 h
theorem kc {i:Nat} {args:List T2} {ds:List (L × CD)} {vs:List Value} {dd:List D} {c:Con0 P R G} (hc:T[i]?=some c.x:=by exact rfl) (h1:dens2 vals blks args=some vs:=by simp only [rowsD,ldens,dens,dens2,T2.den,L.den,CD.den,leafD,rowD,List.getElem?_cons_zero,List.getElem?_cons_succ] <;> rfl) (h2:ldens ⟨vals,blks,dats,σ⟩ ds=some dd:=by first | rfl | (simp only [ldens,L.den,CD.den,leafD,List.getElem?_cons_zero,List.getElem?_cons_succ];rfl)) (h:c.W vs dd σ fun vs' ds' σ'=>k.holds T K A ⟨vals ++ vs',blks,dats ++ ds',σ'⟩):(Tree.nd (.call i args ds) k).holds T K A ⟨vals,blks,dats,σ⟩:=h_call0 hc h1 h2 h
theorem kb {z n:Nat} {row:Bool} {cs:List (List (L × CD))} {ds:List D} (h1:rowsD ⟨vals,blks,dats,σ⟩ row cs=some ds:=by simp only [rowsD,ldens,dens,dens2,T2.den,L.den,CD.den,leafD,rowD,List.getElem?_cons_zero,List.getElem?_cons_succ] <;> rfl) (h:∀ g,k.holds T K A ⟨vals ++ [.slice (some ⟨g,0,none⟩) n n],blks,dats ++ [.lst z ds],σ⟩):(Tree.nd (.bs z n row cs) k).holds T K A ⟨vals,blks,dats,σ⟩:=h_bs h1 h
theorem kr {cs:List L} {ds:List (L × CD)} {vs:List Value} {dd:List D} (h1:dens vals blks cs=some vs:=by simp only [rowsD,ldens,dens,dens2,T2.den,L.den,CD.den,leafD,rowD,List.getElem?_cons_zero,List.getElem?_cons_succ] <;> rfl) (h2:ldens ⟨vals,blks,dats,σ⟩ ds=some dd:=by simp only [rowsD,ldens,dens,dens2,T2.den,L.den,CD.den,leafD,rowD,List.getElem?_cons_zero,List.getElem?_cons_succ] <;> rfl) (h:K vs dd σ):(Tree.ret cs ds).holds T K A ⟨vals,blks,dats,σ⟩:=h_ret h1 h2 h
theorem ka {id:Nat} {cs:List L} {ds:List (L × CD)} {vs:List Value} {dd:List D} (h1:dens vals blks cs=some vs:=by simp only [rowsD,ldens,dens,dens2,T2.den,L.den,CD.den,leafD,rowD,List.getElem?_cons_zero,List.getElem?_cons_succ] <;> rfl) (h2:ldens ⟨vals,blks,dats,σ⟩ ds=some dd:=by simp only [rowsD,ldens,dens,dens2,T2.den,L.den,CD.den,leafD,rowD,List.getElem?_cons_zero,List.getElem?_cons_succ] <;> rfl) (h:A id vs dd σ):(Tree.again id cs ds).holds T K A ⟨vals,blks,dats,σ⟩:=h_again h1 h2 h
theorem ka0 {id f:Nat} {cs:List L} {ds:List (L × CD)} {vs:List Value} {dd:List D} {Lp:Nat→List Value→List D→S→Prop} (h1:dens vals blks cs=some vs:=by simp only [rowsD,ldens,dens,dens2,T2.den,L.den,CD.den,leafD,rowD,List.getElem?_cons_zero,List.getElem?_cons_succ] <;> rfl) (h2:ldens ⟨vals,blks,dats,σ⟩ ds=some dd:=by simp only [rowsD,ldens,dens,dens2,T2.den,L.den,CD.den,leafD,rowD,List.getElem?_cons_zero,List.getElem?_cons_succ] <;> rfl) (h:Lp f vs dd σ):(Tree.again id cs ds).holds T K (fun j=>if j=id then Lp f else A j) ⟨vals,blks,dats,σ⟩:=h_again0 h1 h2 h
end
end Go.Proofs.YtdmacgoeikjdbaaGreatDoor.Sx
namespace Go.Proofs.YtdmacgoeikjdbaaGreatDoor.Sx
open Go.RowKit
abbrev jI (n:Int):L:=.c (.int .i64 n)
abbrev jN:L:=.c (.slice none 0 0)
abbrev jE:L:=.c (.string ⟨#[]⟩)
abbrev jP (z:Nat):L × CD:=(.c (.slice none 0 0),.nil z)
abbrev jL (n:Nat):L × CD:=(.v n,.leaf)
abbrev jD (n d:Nat):L × CD:=(.v n,.dat d)
abbrev tS (k:Nat) (s:List UInt8) (t:Tree):Tree:=.nd (.call k [.one (.v 0),.one (.c (.string ⟨s.toArray⟩))] []) t
abbrev tV (k n:Nat) (t:Tree):Tree:=.nd (.call k [.one (.v 0),.one (.v n)] []) t
abbrev tO (k:Nat) (t:Tree):Tree:=.nd (.call k [.one (.v 0)] []) t
abbrev tI (k:Nat) (n:Int) (t:Tree):Tree:=.nd (.call k [.one (.v 0),.one (.c (.int .i64 n))] []) t
abbrev tA (n:Nat) (i:Int) (t:Tree):Tree:=.nd (.pv (.bin .add) [.v n,.c (.int .i64 i)]) t
abbrev tQ (n:Nat) (i:Int) (t:Tree):Tree:=.nd (.pv (.bin .eql) [.v n,.c (.int .i64 i)]) t
abbrev tF (o n:Nat) (t:Tree):Tree:=.nd (.pv (.fa o) [.v n]) t
abbrev tN (n:Nat) (t:Tree):Tree:=.nd (.pv .nilc [.v n]) t
abbrev tL (n k:Nat) (t:Tree):Tree:=.nd (.ld (.v n) k) t
abbrev tT (n:Nat) (t:Tree):Tree:=.nd (.pv (.un .not) [.v n]) t
abbrev tW (t:Tree):Tree:=.nd .new t
abbrev tX (z n:Nat) (i:Int) (t:Tree):Tree:=.nd (.pv (.ia z) [.v n,.c (.int .i64 i)]) t
abbrev tB (z n:Nat) (cs:List (List (L × CD))) (t:Tree):Tree:=.nd (.bs z n true cs) t
abbrev tU (z d x:Nat) (t:Tree):Tree:=.nd (.app z (.dat d) x) t
abbrev rX (a d:Nat):List (L × CD):=[jL a,jL (a + 1),jL (a + 2),jL (a + 3),jL (a + 4),jL (a + 5),jD (a + 6) d,jL (a + 7)]
abbrev rS (a d e:Nat):List (L × CD):=[jL a,jD (a + 1) d,jD (a + 2) e,jL (a + 3),jL (a + 4),jL (a + 5),jL (a + 6),jL (a + 7),jL (a + 8)]
abbrev tR (o:Int) (a b p:L) (da db:CD):Tree:=.ret [jI o,a,b,jI 0,jI 0,jI 0,jE,jI 0,p] [(a,da),(b,db)]
end Go.Proofs.YtdmacgoeikjdbaaGreatDoor.Sx
namespace Go.Proofs.YtdmacgoeikjdbaaGreatDoor.Sx
open Go.RowKit
section
variable {S:Type} {P:Program} {R:S→World→Prop} {C:Ctx R} {cf:Cfg}
theorem regsP_find {Pr:Nat→Array Oper→Bool→Prop}:∀ c:Code,(∀ id,∀ x ∈ regsT id c,Pr id x.1 x.2)→regsP Pr c
 | .region id ops b,h=>h id (ops,b) (by simp [regsT])
 | .seq x y,h=>⟨regsP_find x fun id z hz=>h id z (List.mem_append_left _ hz),regsP_find y fun id z hz=>h id z (List.mem_append_right _ hz)⟩
 | .cond _ x y,h=>⟨regsP_find x fun id z hz=>h id z (List.mem_append_left _ hz),regsP_find y fun id z hz=>h id z (List.mem_append_right _ hz)⟩
 | .block _ x,h=>regsP_find x h
 | .loop x,h=>regsP_find x h
 | .skip,_=>trivial
 | .exit _,_=>trivial
 | .ret,_=>trivial
 | .rangeFunc ..,_=>trivial
 | .scope _,_=>trivial
 | .label _,_=>trivial
 | .goto _,_=>trivial
 | .refuse _,_=>trivial
end
end Go.Proofs.YtdmacgoeikjdbaaGreatDoor.Sx
namespace Go.Proofs.YtdmacgoeikjdbaaGreatDoor.Sx
open Go.RowKit
theorem bodyPost_mono {P:Program} {fn:Func} {R R':Ending→World→Prop} (h:∀ e w,R e w→R' e w) {e:Exit} {a:Act} {w:World} (hb:bodyPost P fn R e a w):bodyPost P fn R' e a w:=by
 cases e <;> first | exact hb | exact ⟨hb.1,h _ _ hb.2⟩ | exact h _ _ hb | (obtain ⟨h1,v,h2,h3⟩:=hb;exact ⟨h1,v,h2,h _ _ h3⟩)
section
variable {S:Type} {P:Program} {R:S→World→Prop} {G:Nat} {cf:Cfg}
theorem rest_ok (T:List (Con P R G)) (hcf:cf.cs=T.map fun x=>(x.f,x.sh)) (hm:P.follows .mixedOrders=true) (hR:∀ σ w w',R σ w→w.heap.size≤w'.heap.size→(∀ k,k≤G→w'.heap[k]?=w.heap[k]?)→R σ w')
  {fn:Func} {c:Code} {st:St} {Tr:Tree} (hTr:codeS P cf c none [] true st (retS P cf fn.results.toList) (fun _ _=>none) (retS P cf fn.results.toList)=some Tr)
  {w0 w:World} {okk:Nat→Prop} {E:Env S} {a:Act} {K:List Value→List D→S→Prop} (hG:G<w0.heap.size) (hokk:∀ k,okk k→G<k) (hT0:Tr.holds T K (fun _ _ _ _=>False) E)
  (hT:Tms E st a) (hM:Mm (ctxOf w0 okk (fun _=>False) [] hG (fun k hk=>⟨hokk k hk,id⟩) (fun k hk=>hk.elim) hR) E st w)
  (h0:cf.self.pt=[]∧cf.self.fo=[]∧cf.self.ao=[]:=by exact ⟨rfl,rfl,rfl⟩) (hnt:cf.tails=[]:=by exact rfl) :
  c.wp P (bodyPost P fn fun e w'=>∃ vs ds' σ' r,K vs ds' σ'∧cf.self.ret.den vs []=some r∧e=.returned r∧vs.length=cf.self.nv∧ds'.length=cf.self.fs.length∧(∀ u ∈ vs,u.oneCell'=true) ∧
   R σ' w'∧KeepM G w0 w'∧DaOk w' (fun k=>okk k ∨ w0.heap.size≤k) vs cf.self.fs ds') a w:=by
 obtain ⟨z1,z2,z3⟩:=h0
 have hgood:=fn_good (cf:=cf) T w0 okk (fun _=>False) [] hR hG (fun k hk=>⟨hokk k hk,id⟩) (fun k hk=>hk.elim) K (fun _ _ _ _=>False) (fun r w'=>∃ vs ds' σ',K vs ds' σ'∧cf.self.ret.den vs []=some r∧vs.length=cf.self.nv∧ds'.length=cf.self.fs.length∧(∀ u ∈ vs,u.oneCell'=true) ∧
   R σ' w'∧KeepM G w0 w'∧DaOk w' (fun k=>okk k ∨ w0.heap.size≤k) vs cf.self.fs ds') fn (by rw [z1];rfl) (fun r w' ⟨vs,ds',σ',X',a1,a2,a3,a4,a5,a6,a7,_,_,a9⟩=>by
  refine ⟨vs,ds',σ',a1,a2,a3,a4,a5,a6,a7.toM fun k hk _=>hk.elim id False.elim,?_⟩
  rw [z2] at a9
  have:=DaOw.none.1 a9
  exact ⟨this.1,fun j x d h1 h2=>by obtain ⟨v,h3,h4⟩:=this.2 j x d h1 h2;exact ⟨v,h3,h4.imp fun k hk _=>hk.1.imp id fun h=>h.elim False.elim id⟩⟩)
 rw [hnt] at hgood
 refine Code.wp_mono (fun e a w h=>?_) (code_ok (C:=ctxOf w0 okk (fun _=>False) [] hG (fun k hk=>⟨hokk k hk,id⟩) (fun k hk=>hk.elim) hR) (cf:=cf) (T:=T) (K:=K) (Sd:=fun j Y=>∀ va dd σ,Y va dd σ→(fun _ _ _ _=>False:Nat→List Value→List D→S→Prop) j va dd σ) ⟨hcf,.inr rfl⟩ hm c none [] _ true (fun _ _ _ _=>False) E st a w Tr _ _ _ _ hTr hT0 (fun j hj=>by cases hj) hT hM hgood (fun x hx=>by rw [hnt] at hx;cases hx) (regsP_all (fun id ops b=>by unfold TailOk;rw [hnt];trivial) c))
 exact bodyPost_mono (fun e w' ⟨r,he,vs,ds',σ',a1,a2,a3,a4,a5,a6,a7,a8⟩=>⟨vs,ds',σ',r,a1,a2,he,a3,a4,a5,a6,a7,a8⟩) h
end
end Go.Proofs.YtdmacgoeikjdbaaGreatDoor.Sx
namespace Go.Proofs.YtdmacgoeikjdbaaGreatDoor
open Go.RowKit Sx
structure Hd where
 q:Nat
 off:Nat
 c:Nat
structure RH where
 s:RS
 h:Hd
abbrev ptrV (g:Nat):Value:=.pointer (some ⟨g,0,none⟩)
abbrev strB (x:List UInt8):Value:=.string ⟨x.toArray⟩
section
variable {g:Nat} {gv fv:Value} {w w':World}
theorem hd_getD (ts:List Tok):hdT ts=ts.getD 0 noTokT:=by cases ts <;> rfl
theorem loads_at {w:World} {q o:Nat} {vs:List Value} {j:Nat} {v:Value} (h:LoadsAt w (.pointer (some ⟨q,o,none⟩)) vs) (hv:vs[j]?=some v):LoadsAt w (.pointer (some ⟨q,o + j,none⟩)) [v]:=by
 obtain ⟨g,o',e,hr⟩:=h
 injection e with e
 injection e with e
 injection e with e1 e2
 subst e1 e2
 refine ⟨_,_,rfl,fun i u hi=>?_⟩
 cases i with
 | zero=>
  simp at hi
  subst hi
  exact hr j _ hv
 | succ i=>simp at hi
end
theorem daOk_nil (w:World) (ok:Nat→Prop) (vs:List Value):DaOk w ok vs [] []:=⟨rfl,fun j x d h=>by simp at h⟩
abbrev sUnit:Shp:=⟨0,.tup [],[],[],[],[],[]⟩
abbrev sOne:Shp:=⟨1,.el (.one (.v 0)),[],[],[],[],[]⟩
abbrev sEx:Shp:=⟨8,.el (.agg [.v 0,.v 1,.v 2,.v 3,.v 4,.v 5,.v 6,.v 7]),[(6,8)],[],[],[],[]⟩
abbrev sExs:Shp:=⟨1,.el (.one (.v 0)),[(0,8)],[],[],[],[]⟩
abbrev sTok:Shp:=⟨4,.el (.agg [.v 0,.v 1,.v 2,.v 3]),[],[],[],[],[]⟩
abbrev sTy:Shp:=⟨3,.el (.agg [.v 0,.v 1,.v 2]),[],[],[],[],[]⟩
section
variable (g:Nat) (gv fv:Value)
abbrev exV (x:Ex) (A:Option Addr) (c:Nat):List Value:=exC x A c
theorem bB:bIf=[105,102]∧bElse=[101,108,115,101]∧bWhile=[119,104,105,108,101]∧bSwitch=[115,119,105,116,99,104]∧bDo=[100,111]∧bFor=[102,111,114]∧bCase=[99,97,115,101]∧bDefault=[100,101,102,97,117,108,116]∧bBreak=[98,114,101,97,107]∧bContinue=[99,111,110,116,105,110,117,101]∧bReturn=[114,101,116,117,114,110]∧bGoto=[103,111,116,111]:=⟨rfl,rfl,rfl,rfl,rfl,rfl,rfl,rfl,rfl,rfl,rfl,rfl⟩
theorem sP {α β:Type} {a c:α} {b d:β} (h:some (a,b)=some (c,d)):a=c∧b=d:=by
 injection h with h
 injection h with i1 i2
 exact ⟨i1,i2⟩
theorem nS:(∀ b:Bool,((!b)=true)=(b=false))∧(∀ b:Bool,((!b)=false)=(b=true))∧(∀ b:Bool,(¬ b=true)=(b=false))∧(∀ b:Bool,(¬ b=false)=(b=true)):=by simp
theorem bS:((!true)=false)∧((!false)=true)∧((false=true)=False)∧(∀ b:Bool,(true && b)=b)∧(∀ b:Bool,(false && b)=false)∧(∀ b:Bool,(true || b)=true)∧(∀ b:Bool,(false || b)=b)∧(∀ b:Bool,(b || false)=b)∧(∀ b:Bool,(b || true)=true)∧(∀ b:Bool,(b && true)=b)∧(∀ b:Bool,(b && false)=false):=by simp
theorem aS:(∀ (a:Value) l m,a :: l ++ m=a :: (l ++ m))∧(∀ l:List Value,[] ++ l=l)∧(∀ l:List Value,l ++ []=l)∧(∀ (a:D) l m,a :: l ++ m=a :: (l ++ m))∧(∀ l:List D,[] ++ l=l)∧(∀ l:List D,l ++ []=l)∧(∀ (a:Nat) l m,a :: l ++ m=a :: (l ++ m))∧(∀ l:List Nat,[] ++ l=l)∧(∀ l:List Nat,l ++ []=l) ∧
  (∀ x A c,exV x A c=[.int .i64 x.op,.int .i64 x.ty.kind,.int .i64 x.ty.ptr,.int .i64 x.ty.len,strV8 x.name,.int .i64 x.n,.slice A x.kids.length c,.int .i64 x.pos])∧(∀ x A c,exC x A c=[.int .i64 x.op,.int .i64 x.ty.kind,.int .i64 x.ty.ptr,.int .i64 x.ty.len,strV8 x.name,.int .i64 x.n,.slice A x.kids.length c,.int .i64 x.pos]) ∧
  (∀ t,tokC t=[.int .i64 t.kind,strV8 t.text,.int .i64 t.n,.int .i64 t.pos])∧(∀ t,tyV t=[.int .i64 t.kind,.int .i64 t.ptr,.int .i64 t.len])∧(∀ x A c B d,stC x A c B d=[.int .i64 x.op,.slice A x.ex.length c,.slice B x.body.length d,.int .i64 x.ty.kind,.int .i64 x.ty.ptr,.int .i64 x.ty.len,strV8 x.name,.int .i64 x.n,.int .i64 x.pos]):=by
 refine ⟨?_,?_,?_,?_,?_,?_,?_,?_,?_,?_,?_,?_,?_,?_⟩ <;> intros <;> first | rfl | simp
abbrev kidsD (x:Ex):D:=.lst 8 (x.kids.map encEx)
abbrev exsD (x:List Ex):D:=.lst 8 (x.map encEx)
variable {g gv fv}
end
section
variable {g:Nat} {gv fv:Value} {K:List Value→List D→RH→Prop} {ds:List D} {s:RS} {h0:Hd}
end
theorem tokC_one (t:Tok):∀ u ∈ tokC t,u.oneCell'=true:=by simp [tokC,strV8,Value.oneCell']
theorem deeper {d:Int} {f:Nat} (h:DepthOk d (f + 1)):DepthOk (IntKind.i64.wrap (d + 1)) f∧IntKind.i64.wrap (d + 1)=d + 1:=by
 have h1:=h.1
 have h2:=h.2
 have e:IntKind.i64.wrap (d + 1)=d + 1:=by
  rw [IntKind.wrap_i64];omega
 exact ⟨by rw [e];exact ⟨by omega,by omega⟩,e⟩
def xZ:List L:=[.c (.int .i64 0),.c (.int .i64 0),.c (.int .i64 0),.c (.int .i64 0),.c (.string ⟨#[]⟩),.c (.int .i64 0),.c (.slice none 0 0),.c (.int .i64 0)]
theorem mixed:Tryz.prog.follows .mixedOrders=true:=by kernel_rfl
end Go.Proofs.YtdmacgoeikjdbaaGreatDoor
namespace Go.Proofs.YtdmacgoeikjdbaaGreatDoor
open Go.RowKit Sx
end Go.Proofs.YtdmacgoeikjdbaaGreatDoor
namespace Go.Proofs.YtdmacgoeikjdbaaGreatDoor
open Go.RowKit Sx
end Go.Proofs.YtdmacgoeikjdbaaGreatDoor
namespace Go.Proofs.YtdmacgoeikjdbaaGreatDoor
open Go.RowKit Sx
end Go.Proofs.YtdmacgoeikjdbaaGreatDoor
namespace Go.Proofs.YtdmacgoeikjdbaaGreatDoor
open Go.RowKit Sx
end Go.Proofs.YtdmacgoeikjdbaaGreatDoor
namespace Go.Proofs.YtdmacgoeikjdbaaGreatDoor
open Go.RowKit Sx
end Go.Proofs.YtdmacgoeikjdbaaGreatDoor
namespace Go.Proofs.YtdmacgoeikjdbaaGreatDoor
open Go.RowKit Sx
abbrev sSt:Shp:=⟨9,.el (.agg [.v 0,.v 1,.v 2,.v 3,.v 4,.v 5,.v 6,.v 7,.v 8]),[(1,8),(2,9)],[],[],[],[]⟩
abbrev sSts:Shp:=⟨1,.el (.one (.v 0)),[(0,9)],[],[],[],[]⟩
abbrev sDes:Shp:=⟨1,.el (.one (.v 0)),[(0,6)],[],[],[],[]⟩
section
variable (g:Nat) (gv fv:Value)
abbrev stsD (x:List St):D:=.lst 9 (x.map encSt)
abbrev desD (x:List De):D:=.lst 6 (x.map encDe)
abbrev exsOf (x:St):D:=.lst 8 (x.ex.map encEx)
abbrev bodyOf (x:St):D:=.lst 9 (x.body.map encSt)
theorem stC_one (x:St) (A:Option Addr) (c:Nat) (B:Option Addr) (d:Nat):∀ u ∈ stC x A c B d,u.oneCell'=true:=by simp [stC,strV8,Value.oneCell']
theorem lF {a b:List D} (h:a=b:=by first | rfl | (simp [exsOf,bodyOf,St.ex,St.body,Ex.kids,exsD,kidsD,encEx_eq,encSt_eq];done) | (simp [exsOf,bodyOf,St.ex,St.body,Ex.kids,exsD,kidsD,encEx_eq,encSt_eq];rfl)):a=b:=h
variable {g gv fv}
end
section
variable {g:Nat} {gv fv:Value} {K:List Value→List D→RH→Prop} {ds:List D} {s:RS} {h0:Hd}
end
end Go.Proofs.YtdmacgoeikjdbaaGreatDoor
namespace Go.Proofs.YtdmacgoeikjdbaaGreatDoor
open Go.RowKit Sx
end Go.Proofs.YtdmacgoeikjdbaaGreatDoor
namespace Go.Proofs.YtdmacgoeikjdbaaGreatDoor
open Go.RowKit Sx
end Go.Proofs.YtdmacgoeikjdbaaGreatDoor
namespace Go.Proofs.YtdmacgoeikjdbaaGreatDoor
open Go.RowKit Sx
end Go.Proofs.YtdmacgoeikjdbaaGreatDoor
namespace Go.Proofs.YtdmacgoeikjdbaaGreatDoor
open Go.RowKit Sx
section
variable {g:Nat} {gv fv:Value} {K:List Value→List D→RH→Prop} {ds:List D} {s:RS} {h0:Hd}
end
abbrev gsD (u:Un):D:=.lst 6 (u.globals.map encDe)
abbrev fnsD (u:Un):D:=.lst 8 (u.funcs.map encFn)
structure UOk (w:World) (g:Nat) (gv fv:Value) (u:Un):Prop where
 ga:Own w 0 (fun k=>g<k∧gv.ownBlock ≠ some k∧fv.ownBlock ≠ some k) 56 6 gv (u.globals.map encDe)
 fa:Own w 0 (fun k=>g<k∧gv.ownBlock ≠ some k∧fv.ownBlock ≠ some k) 60 8 fv (u.funcs.map encFn)
 gg:∀ k,gv.ownBlock=some k→g<k
 gf:∀ k,fv.ownBlock=some k→g<k
 ne:∀ k,gv.ownBlock=some k→fv.ownBlock ≠ some k
abbrev UX (g:Nat) (gv fv:Value) (k:Nat):Prop:=k=g ∨ gv.ownBlock=some k ∨ fv.ownBlock=some k
theorem own_lt_size {w:World} {ok:Nat→Prop} {e:TypeId} {z:Nat} {v:Value} {ds:List D} (h:Own w 0 ok e z v ds) {k:Nat} (hk:v.ownBlock=some k):k<w.heap.size:=by
 obtain ⟨xs,h1,_⟩:=h
 exact (h1.lt k hk).2
theorem own_one {w:World} {ok:Nat→Prop} {e:TypeId} {z:Nat} {v:Value} {ds:List D} (h:Own w 0 ok e z v ds):v.oneCell'=true∧∃ A c,v=.slice A ds.length c:=by
 obtain ⟨xs,h1,_⟩:=h
 rcases h1.2 with ⟨rfl,h2⟩ | ⟨g,cap,cur,rfl,_⟩
 ·exact ⟨rfl,none,0,by rw [h2]⟩
 ·exact ⟨rfl,_,_,rfl⟩
end Go.Proofs.YtdmacgoeikjdbaaGreatDoor
namespace Go.Proofs.YtdmacgoeikjdbaaGreatDoor
open Go.RowKit Sx
section
variable {w w':World} {g b:Nat} {gv fv:Value} {u:Un} {s:RS} {hd:Hd} {a:Act}
end
end Go.Proofs.YtdmacgoeikjdbaaGreatDoor
namespace Go.Proofs.YtdmacgoeikjdbaaGreatDoor
open Go.RowKit Sx
end Go.Proofs.YtdmacgoeikjdbaaGreatDoor
namespace Go.Proofs.YtdmacgoeikjdbaaGreatDoor
open Go.RowKit Sx
theorem rep_none {w:World} {ok:Nat→Prop} {z:Nat}:Rep w ok (.lst z []) [.slice none 0 0]:=by
 unfold Rep
 exact ⟨none,0,rfl,Nat.zero_le _,by simp,fun h=>absurd h (by simp)⟩
theorem own_rep_ne {w:World} {B:Nat} {ok P:Nat→Prop} {e:TypeId} {z:Nat} {v:Value} {ds:List D} (h:Own w B ok e z v ds) (hk:∀ k,ok k→P k) (ho:∀ k,v.ownBlock=some k→P k):Rep w P (.lst z ds) [v]:=by
 obtain ⟨xs,h1,h2⟩:=h
 unfold Rep
 rcases h1.2 with ⟨hv,hn⟩ | ⟨g,cap,cur,hv,hb,hh,hc,hm,hsz,ht⟩
 ·exact ⟨none,0,by rw [hv,hn],by omega,by simp,fun h=>absurd h (by omega)⟩
 ·refine ⟨some ⟨g,0,none⟩,cap,by rw [hv],hc,hm,fun _=>⟨g,0,cur,e,thawed,rfl,ho g (by rw [hv];rfl),hh,?_⟩⟩
  have h3:cur.toList.drop 0=xs ++ cur.toList.drop (ds.length * z):=by
   rw [List.drop_zero,← ht,List.take_append_drop]
  rw [h3]
  exact RepRow.keep (fun _ h _=>hk _ h.1) (fun _ _ _=>rfl) z ds _ (h2.row _)
theorem bodyT_of {P:Program} {f:FuncId} {fn:Func} {body:Code} (h1:P.funcs[f]?=some fn) (h2:fn.body=some body):bodyT P f=body:=by
 unfold bodyT
 rw [h1]
 simp only
 rw [h2]
end Go.Proofs.YtdmacgoeikjdbaaGreatDoor

/- The reference's parser: an item. What both parsers make of a list of t -/
import Derived.Test.YtdmacgoeikjdbaaGreatDoorK28
import Derived.Test.YtdmacgoeikjdbaaGreatDoorK06
set_option linter.unusedSimpArgs false
set_option linter.unusedVariables false
set_option maxHeartbeats 4000000
namespace Go.Proofs.YtdmacgoeikjdbaaGreatDoor
open Go.RowKit Sx
theorem rep_none {w:World} {ok:Nat→Prop} {z:Nat}:Rep w ok (.lst z []) [.slice none 0 0]:=by
 unfold Rep
 exact ⟨none,0,rfl,Nat.zero_le _,by simp,fun h=>absurd h (by simp)⟩
theorem own_rep_ne {w:World} {B:Nat} {ok P:Nat→Prop} {e:TypeId} {z:Nat} {v:Value} {ds:List D} (h:Own w B ok e z v ds) (hk:∀ k,ok k→P k) (ho:∀ k,v.ownBlock=some k→P k):Rep w P (.lst z ds) [v]:=by
 obtain ⟨xs,h1,h2⟩:=h
 unfold Rep
 rcases h1.2 with ⟨hv,hn⟩ | ⟨g,cap,cur,hv,hb,hh,hc,hm,hsz,ht⟩
 ·exact ⟨none,0,by rw [hv,hn],by omega,by simp,fun h=>absurd h (by omega)⟩
 ·refine ⟨some ⟨g,0,none⟩,cap,by rw [hv],hc,hm,fun _=>⟨g,0,cur,e,thawed,rfl,ho g (by rw [hv];rfl),hh,?_⟩⟩
  have h3:cur.toList.drop 0=xs ++ cur.toList.drop (ds.length * z):=by
   rw [List.drop_zero,← ht,List.take_append_drop]
  rw [h3]
  exact RepRow.keep (fun _ h _=>hk _ h.1) (fun _ _ _=>rfl) z ds _ (h2.row _)
theorem regs13 {ops:Array Oper} {b:Bool} (h:(ops,b) ∈ regsT 13 (bodyT Tryz.prog 17)):pieceS Tryz.prog cfE (.region 13 ops b) stI13 stE=some TI13:=by
 have:=List.mem_map_of_mem (f:=fun x:Array Oper × Bool=>pieceS Tryz.prog cfE (.region 13 x.1 x.2) stI13 stE) h
 rw [TI13_all] at this
 simpa using this
theorem regs31 {ops:Array Oper} {b:Bool} (h:(ops,b) ∈ regsT 31 (bodyT Tryz.prog 17)):pieceS Tryz.prog cfE (.region 31 ops b) stI31 stE=some TI31:=by
 have:=List.mem_map_of_mem (f:=fun x:Array Oper × Bool=>pieceS Tryz.prog cfE (.region 31 x.1 x.2) stI31 stE) h
 rw [TI31_all] at this
 simpa using this
theorem item_res (t:Array Value) (w:World):(results Tryz.f17 t).run Tryz.prog w=.ok (.tuple #[]) w:=results_none rfl _ _ _
def ItemQ (u':Un) (g:Nat) (gv fv:Value) (s':RS) (w:World) (e:Ending) (w':World):Prop:=e=.returned (.tuple #[])∧∃ gv' fv',RdQ w' g gv' fv' s'∧UOk w' g gv' fv' u'∧KeepX (UX g gv fv) w w'
theorem bodyT_of {P:Program} {f:FuncId} {fn:Func} {body:Code} (h1:P.funcs[f]?=some fn) (h2:fn.body=some body):bodyT P f=body:=by
 unfold bodyT
 rw [h1]
 simp only
 rw [h2]
theorem ritem_any (f:Nat) (hf:f≤900000) (u u':Un) (s s':RS) (g:Nat) (gv fv:Value) (w:World) (hx:ritem f u s=some (u',s')) (hr:RdQ w g gv fv s) (hu:UOk w g gv fv u) (h0:0<g) (hn1:u.funcs.length≤8) (hn2:u.globals.length≤16) :
  Calls Tryz.prog 17 #[ptrV g] w (ItemQ u' g gv fv s' w):=by
 obtain ⟨Ag,cg,rfl⟩:∃ A c,gv=.slice A u.globals.length c:=by
  obtain ⟨_,A,c,h⟩:=own_one hu.ga
  exact ⟨A,c,by rw [h,List.length_map]⟩
 obtain ⟨Af,cf,rfl⟩:∃ A c,fv=.slice A u.funcs.length c:=by
  obtain ⟨_,A,c,h⟩:=own_one hu.fa
  exact ⟨A,c,by rw [h,List.length_map]⟩
 obtain ⟨hd0,hr⟩:=hr.rr
 have hg:=hr.rd.lt
 refine (fn_core (cf:=cfItem) _ rfl mixed RR.stable TItem_eq [ptrV g] [ptrV g] [] [] ⟨s,hd0⟩ w (fun _=>False) (fun _=>False) (fun vs ds σ=>vs=[]∧u=u'∧σ.s=s') (VIt g u u' s')
  (fun r w'=>r=.tuple #[]∧∃ gv' fv',RdQ w' g gv' fv' s'∧UOk w' g gv' fv' u'∧KeepX (UX g (.slice Ag u.globals.length cg) (.slice Af u.funcs.length cf)) w w')
  ⟨rfl,trivial⟩ (fun _=>ritem_tree f hf u u' s s' g Ag Af cg cf hd0 w hx hr) hg hr (fun k h=>h.elim) (fun k h=>h.elim) List.nodup_nil rfl (DaOw.none.2 (daOk_nil _ _ _)) (by simp [Sx.flat,Value.cells,Value.oneCell']) ?_ ?_).mono ?_
 ·rintro r w' ⟨vs,ds',σ',X',⟨rfl,rfl,rfl⟩,hret,_,_,_,hR,hk,_⟩
  have hret:some (Value.tuple #[])=some r:=hret
  injection hret with hret
  have hk2:KeepM g w w':=hk.toM fun k hx _=>hx.elim id False.elim
  exact ⟨hret.symm,_,_,hR.rd,hu.keep hk2,KeepX.ofM hk2 (.inl rfl)⟩
 ·intro fn body hfn hbody
  have hres:∀ (a:Act) (w:World),(results fn a.tmps).run Tryz.prog w=.ok (.tuple #[]) w:=fun a w=>by
   rw [Tryz.func17] at hfn
   injection hfn with hfn
   rw [← hfn]
   exact item_res a.tmps w
  refine regsP_find body fun id x hx=>?_
  rw [← bodyT_of hfn hbody] at hx
  by_cases h13:id=13
  ·subst h13
   have hpc:=regs13 (ops:=x.1) (b:=x.2) hx
   show ∀ va dd bl' σ' a w',_→_→_→_→_
   rintro va dd bl' σ' a w' hbl hV hT hM
   have hV:VIt g u u' s' 1000013 va dd σ':=hV
   unfold VIt at hV
   rw [if_pos rfl] at hV
   obtain ⟨name,ty,params,body2,pos,A,c,bv,bd,rfl,rfl,hb,rfl,rfl⟩:=hV
   obtain ⟨b,rfl⟩:∃ b,bl'=[b]:=by
    rcases bl' with _ | ⟨b,_ | ⟨d,l⟩⟩
    ·cases hbl
    ·exact ⟨b,rfl⟩
    ·cases hbl
   obtain ⟨_,t1,t2⟩:=hT.tm 0 _ rfl
   have t1:some (ptrV g)=some _:=t1
   injection t1 with t1
   subst t1
   obtain ⟨_,t1,t5⟩:=hT.tm 5 _ rfl
   have t1:some (ptrV b)=some _:=t1
   injection t1 with t1
   subst t1
   obtain ⟨b2,cs,m1,m2,m3,_⟩:=hM.mem _ List.mem_cons_self
   have m1:some b=some b2:=m1
   injection m1 with m1
   subst m1
   have m2:some [strB name,.int .i64 ty.kind,.int .i64 ty.ptr,.int .i64 ty.len,.slice A params.length c,bv,.slice none 0 0,.int .i64 pos]=some cs:=m2
   injection m2 with m2
   subst m2
   have hkm:KeepM g w w':=hM.keep.toM fun k hx _=>by
    rcases hx with hx | hx
    ·exact hx
    ·exact hx.elim
   have hbn:w.heap.size≤b:=by
    rcases (hM.lt b List.mem_cons_self).1 with h | h
    ·exact h.elim
    ·exact h
   have hokk:∀ k,okE (ctxOf (R:=RR g (.slice Ag u.globals.length cg) (.slice Af u.funcs.length cf)) w (fun _=>False) (fun _=>False) [] hg (fun k h=>h.elim) (fun k h=>h.elim) RR.stable) (⟨[ptrV g,strB name,.int .i64 ty.kind,.int .i64 ty.ptr,.int .i64 ty.len,.slice A params.length c,bv,.int .i64 pos],[b],[desD params,bd],σ'⟩:Env RH) [⟨5,0,none⟩,⟨6,1,none⟩] k→w.heap.size≤k∧k ≠ b:=fun k hk=>by
    refine ⟨?_,fun e=>hk.2.1 (by rw [e];exact List.mem_cons_self)⟩
    rcases hk.1 with h | h | h
    ·exact h.elim
    ·exact h.elim
    ·exact h
   obtain ⟨v,d,f1,f2,f3⟩:=hM.fs ⟨5,0,none⟩ List.mem_cons_self
   have f1:some (Value.slice A params.length c)=some v:=f1
   have f2:some (desD params)=some d:=f2
   injection f1 with f1
   injection f2 with f2
   subst f1 f2
   have g1:Rep w' (fun k=>w.heap.size≤k∧k ≠ b) (desD params) [.slice A params.length c]:=Rep.imp f3 fun k hk _=>hokk k hk
   obtain ⟨v,d,f1,f2,f3⟩:=hM.fs ⟨6,1,none⟩ (List.mem_cons_of_mem _ List.mem_cons_self)
   have f1:some bv=some v:=f1
   have f2:some bd=some d:=f2
   injection f1 with f1
   injection f2 with f2
   subst f1 f2
   obtain ⟨B,d,g2⟩:∃ B d,bv=.slice B body2.length d∧Rep w' (fun k=>w.heap.size≤k∧k ≠ b) (stsD body2) [.slice B body2.length d]:=by
    rcases hb with ⟨B,d,rfl,rfl⟩ | ⟨rfl,rfl,rfl⟩
    ·exact ⟨B,d,rfl,Rep.imp f3 fun k hk _=>hokk k hk⟩
    ·exact ⟨none,0,rfl,rep_none⟩
   obtain ⟨rfl,g2⟩:=g2
   refine wp_mono_region (tail13 hpc hu hkm hM.rs hbn hg h0 hn1 hT.sz hT.df t2 t5 m3 g1 g2) fun e a2 w2 ⟨h1,h2,gv',fv',h3,h4,h5⟩=>⟨h1,h2,_,hres a2 w2,rfl,gv',fv',h3,h4,h5⟩
  ·by_cases h31:id=31
   ·subst h31
    have hpc:=regs31 (ops:=x.1) (b:=x.2) hx
    show ∀ va dd bl' σ' a w',_→_→_→_→_
    rintro va dd bl' σ' a w' hbl hV hT hM
    have hV:VIt g u u' s' 1000031 va dd σ':=hV
    unfold VIt at hV
    rw [if_neg (by decide),if_pos rfl] at hV
    obtain ⟨name,k0,p0,l0,init,pos,A,c,rfl,rfl,rfl,rfl⟩:=hV
    obtain ⟨b,rfl⟩:∃ b,bl'=[b]:=by
     rcases bl' with _ | ⟨b,_ | ⟨d,l⟩⟩
     ·cases hbl
     ·exact ⟨b,rfl⟩
     ·cases hbl
    obtain ⟨_,t1,t2⟩:=hT.tm 0 _ rfl
    have t1:some (ptrV g)=some _:=t1
    injection t1 with t1
    subst t1
    obtain ⟨_,t1,t5⟩:=hT.tm 6 _ rfl
    have t1:some (ptrV b)=some _:=t1
    injection t1 with t1
    subst t1
    obtain ⟨b2,cs,m1,m2,m3,_⟩:=hM.mem _ List.mem_cons_self
    have m1:some b=some b2:=m1
    injection m1 with m1
    subst m1
    have m2:some [strB name,.int .i64 k0,.int .i64 p0,.int .i64 l0,.slice A init.length c,.int .i64 pos]=some cs:=m2
    injection m2 with m2
    subst m2
    have hkm:KeepM g w w':=hM.keep.toM fun k hx _=>by
     rcases hx with hx | hx
     ·exact hx
     ·exact hx.elim
    have hbn:w.heap.size≤b:=by
     rcases (hM.lt b List.mem_cons_self).1 with h | h
     ·exact h.elim
     ·exact h
    obtain ⟨v,d,f1,f2,l,f3,f4,_⟩:=hM.fs ⟨5,0,some (2,1)⟩ List.mem_cons_self
    have f1:some (Value.slice A init.length c)=some v:=f1
    have f2:some (D.lst 1 (init.map (.int .i64)))=some d:=f2
    injection f1 with f1
    injection f2 with f2
    subst f1 f2
    injection f3 with _ f3
    subst f3
    have g1:Rep w' (fun k=>w.heap.size≤k∧k ≠ b) (.lst 1 (init.map (.int .i64))) [.slice A init.length c]:=own_rep_ne f4 (fun k hk=>by
     refine ⟨?_,fun e=>hk.2.1 (by rw [e];exact List.mem_cons_self)⟩
     rcases hk.1 with h | h | h
     ·exact h.elim
     ·exact h.elim
     ·exact h) fun k hk=>by
     have ho:ownAt (⟨[ptrV g,strB name,.int .i64 k0,.int .i64 p0,.int .i64 l0,.slice A init.length c,.int .i64 pos],[b],[D.lst 1 (init.map (.int .i64))],σ'⟩:Env RH) ⟨5,0,some (2,1)⟩ k:=⟨rfl,_,rfl,hk⟩
     refine ⟨?_,fun e=>hM.own _ List.mem_cons_self k ho (by rw [e];exact List.mem_cons_self)⟩
     rcases (hM.own_lt List.mem_cons_self ho).1 with h | h
     ·exact h.elim
     ·exact h
    refine wp_mono_region (tail31 hpc hu hkm hM.rs hbn hg h0 hn2 hT.sz hT.df t2 t5 (ty:=⟨k0,p0,l0⟩) m3 g1) fun e a2 w2 ⟨h1,h2,gv',fv',h3,h4,h5⟩=>⟨h1,h2,_,hres a2 w2,rfl,gv',fv',h3,h4,h5⟩
   ·have hl:lookN id cfItem.tails=none:=by
     have e1:Nat.beq 13 id=false:=by
      cases h:Nat.beq 13 id with
      | false=>rfl
      | true=>exact (h13 (Nat.eq_of_beq_eq_true h).symm).elim
     have e2:Nat.beq 31 id=false:=by
      cases h:Nat.beq 31 id with
      | false=>rfl
      | true=>exact (h31 (Nat.eq_of_beq_eq_true h).symm).elim
     simp only [cfItem,lookN,e1,e2]
    rw [hl]
    trivial
 ·rintro e w' ⟨r,rfl,rfl,h⟩
  exact ⟨rfl,h⟩
end Go.Proofs.YtdmacgoeikjdbaaGreatDoor
namespace Go.Proofs.YtdmacgoeikjdbaaGreatDoor
open Go.RowKit
structure Flt where
 err:Int
 pos:Int
inductive Rs (α:Type) where
 | out
 | bad (f:Flt)
 | ok (x:α) (ts:List Tok)
def Rs.bind {α β:Type} (r:Rs α) (k:α→List Tok→Rs β):Rs β:=match r with
 | .out=>.out
 | .bad f=>.bad f
 | .ok x ts=>k x ts
def pfail {α:Type} (e:Int) (ts:List Tok):Rs α:=.bad ⟨e,(hdT ts).pos⟩
def nx (ts:List Tok):List Tok:=if 1<ts.length then ts.tail else ts
def pis (x:List UInt8) (ts:List Tok):Bool:=isT x (hdT ts)
def ptake {α:Type} (x:List UInt8) (ts:List Tok) (yes no:List Tok→Rs α):Rs α:=if pis x ts then yes (nx ts) else no ts
def pmust (x:List UInt8) (ts:List Tok):Rs Unit:=if pis x ts then .ok () (nx ts) else pfail 4 ts
def pkindTok (k:Int) (ts:List Tok):Rs Tok:=if (hdT ts).kind == k then .ok (hdT ts) (nx ts) else pfail 4 ts
def pname (ts:List Tok):Rs (List UInt8 × Int):=(pkindTok 1 ts).bind fun t ts=>.ok (t.text,t.pos) ts
def pnumber (ts:List Tok):Rs Int:=(pkindTok 2 ts).bind fun t ts=>.ok t.n ts
def pvalue (ts:List Tok):Rs Int:=ptake [45] ts (fun ts=>(pnumber ts).bind fun n ts=>.ok (wrap64 (-n)) ts) pnumber
def pkindL (u:Int):List (List UInt8)→Int→List Tok→Rs Int
 | [],_,ts=>pfail 4 ts
 | w :: l,k,ts=>ptake w ts (fun ts=>.ok (k + u) ts) (pkindL u l (k + 2))
def pkind (ts:List Tok):Rs Int:=
 ptake bVoid ts (fun ts=>.ok 0 ts) fun ts=>ptake bUnsigned ts (pkindL 1 [bChar,bShort,bInt,bLong] 1) (pkindL 0 [bChar,bShort,bInt,bLong] 1)
def pstars:Nat→Int→List Tok→Rs Int
 | 0,n,ts=>.ok n ts
 | f + 1,n,ts=>if pis [42] ts then (if n == 3 then pfail 2 ts else pstars f (n + 1) (nx ts)) else .ok n ts
def ptyp (ts:List Tok):Rs Ty:=(pkind ts).bind fun k ts=>(pstars 5 0 ts).bind fun n ts=>.ok ⟨k,n,0⟩ ts
def plength (ts:List Tok):Rs Int:=
 (pnumber ts).bind fun n us=>if decide (n<1) || decide (64<n) then .bad ⟨10,(hdT ts).pos⟩ else (pmust [93] us).bind fun _ us=>.ok n us
def ptyped (ts:List Tok):Bool:=isTy (hdT ts)
def pvals:Nat→Int→List Int→List Tok→Rs (List Int)
 | 0,_,_,_=>.out
 | f + 1,len,acc,ts=>
  if (acc.length:Int) == len && (pis [45] ts || (hdT ts).kind == 2) then pfail 10 ts
  else (pvalue ts).bind fun v ts=>ptake [44] ts (pvals f len (acc ++ [v])) fun ts=>.ok (acc ++ [v]) ts
def pparams1:Nat→List De→List Tok→Rs (List De)
 | 0,_,_=>.out
 | f + 1,acc,ts=>
  if acc.length=4 then pfail 2 ts
  else (ptyp ts).bind fun t ts=>(pname ts).bind fun n ts=>
   ptake [44] ts (pparams1 f (acc ++ [⟨n.1,t,[],n.2⟩])) fun ts=>.ok (acc ++ [⟨n.1,t,[],n.2⟩]) ts
def pparams (f:Nat) (ts:List Tok):Rs (List De):=
 ptake [41] ts (fun ts=>.ok [] ts) fun ts=>
  if pis bVoid ts && ((ts.getD 1 noTokT).kind == 3 && (ts.getD 1 noTokT).text == [41]) then .ok [] (nx (nx ts))
  else (pparams1 f [] ts).bind fun l ts=>(pmust [41] ts).bind fun _ ts=>.ok l ts
mutual
def pexpr:Nat→Int→List Tok→Rs Ex
 | 0,_,_=>.out
 | f + 1,d,ts=>
  if 20<d then pfail 2 ts
  else (pcond f d ts).bind fun a ts=>
   if (hdT ts).kind != 3 || ((hdT ts).text != [61] && rassigns (hdT ts).text == 0) then .ok a ts
   else (pexpr f (d + 1) (nx ts)).bind fun b us=>.ok (.mk 34 noTy [] (rassigns (hdT ts).text) [a,b] (hdT ts).pos) us
def pcond:Nat→Int→List Tok→Rs Ex
 | 0,_,_=>.out
 | f + 1,d,ts=>(pbinary f d 0 ts).bind fun a ts=>
  ptake [63] ts (fun us=>(pexpr f (d + 1) us).bind fun b us=>(pmust [58] us).bind fun _ us=>
   if 20<d + 1 then pfail 2 us else (pcond f (d + 1) us).bind fun c us=>.ok (.mk 33 noTy [] 0 [a,b,c] (hdT ts).pos) us) fun ts=>.ok a ts
def pbinary:Nat→Int→Nat→List Tok→Rs Ex
 | 0,_,_,_=>.out
 | f + 1,d,n,ts=>if n=10 then punary f d ts else (pbinary f d (n + 1) ts).bind fun a ts=>pbinloop f d n a ts
def pbinloop:Nat→Int→Nat→Ex→List Tok→Rs Ex
 | 0,_,_,_,_=>.out
 | f + 1,d,n,a,ts=>
  if (hdT ts).kind == 3 && rlevel n (hdT ts).text != 0 then
   (pbinary f d (n + 1) (nx ts)).bind fun b us=>pbinloop f d n (.mk (rlevel n (hdT ts).text) noTy [] 0 [a,b] (hdT ts).pos) us
  else .ok a ts
def poperand:Nat→Int→List Tok→Rs (List Ex)
 | 0,_,_=>.out
 | f + 1,d,ts=>if 20<d then pfail 2 ts else (punary f d ts).bind fun x ts=>.ok [x] ts
def punary:Nat→Int→List Tok→Rs Ex
 | 0,_,_=>.out
 | f + 1,d,ts=>
  if ((hdT ts).kind == 3 || (hdT ts).kind == 4) && lookS (hdT ts).text prefixes != 0 then
   (poperand f (d + 1) (nx ts)).bind fun k us=>.ok (.mk (lookS (hdT ts).text prefixes) noTy [] 0 k (hdT ts).pos) us
  else if pis [40] ts && ptyped (nx ts) then
   (ptyp (nx ts)).bind fun t us=>(pmust [41] us).bind fun _ us=>(poperand f (d + 1) us).bind fun k us=>.ok (.mk 9 t [] 0 k (hdT ts).pos) us
  else ptake bSizeof ts (fun us=>(pmust [40] us).bind fun _ us=>(ptyp us).bind fun t us=>(pmust [41] us).bind fun _ us=>.ok (.mk 10 t [] 0 [] (hdT ts).pos) us) (ppostfix f d)
def ppostfix:Nat→Int→List Tok→Rs Ex
 | 0,_,_=>.out
 | f + 1,d,ts=>(pprimary f d ts).bind fun a ts=>ppostloop f d a ts
def ppostloop:Nat→Int→Ex→List Tok→Rs Ex
 | 0,_,_,_=>.out
 | f + 1,d,a,ts=>
  ptake [91] ts (fun us=>(pexpr f (d + 1) us).bind fun i us=>(pmust [93] us).bind fun _ us=>ppostloop f d (.mk 3 noTy [] 0 [a,i] (hdT ts).pos) us) fun _=>
  ptake [43,43] ts (fun us=>ppostloop f d (.mk 13 noTy [] 0 [a] (hdT ts).pos) us) fun _=>
  ptake [45,45] ts (fun us=>ppostloop f d (.mk 14 noTy [] 0 [a] (hdT ts).pos) us) fun ts=>.ok a ts
def pprimary:Nat→Int→List Tok→Rs Ex
 | 0,_,_=>.out
 | f + 1,d,ts=>
  ptake [40] ts (fun us=>(pexpr f (d + 1) us).bind fun e us=>(pmust [41] us).bind fun _ us=>.ok e us) fun _=>
  if (hdT ts).kind == 2 then .ok (.mk 1 noTy [] (hdT ts).n [] (hdT ts).pos) (nx ts)
  else if (hdT ts).kind == 1 then
   ptake [40] (nx ts) (fun us=>(pargs f (d + 1) us).bind fun k us=>.ok (.mk 35 noTy (hdT ts).text 0 k (hdT ts).pos) us) fun us=>.ok (.mk 2 noTy (hdT ts).text 0 [] (hdT ts).pos) us
  else pfail 4 ts
def pargs:Nat→Int→List Tok→Rs (List Ex)
 | 0,_,_=>.out
 | f + 1,d,ts=>ptake [41] ts (fun us=>.ok [] us) fun ts=>pargloop f d [] ts
def pargloop:Nat→Int→List Ex→List Tok→Rs (List Ex)
 | 0,_,_,_=>.out
 | f + 1,d,acc,ts=>
  if acc.length=4 then pfail 2 ts
  else (pexpr f d ts).bind fun x ts=>ptake [44] ts (pargloop f d (acc ++ [x])) fun ts=>(pmust [41] ts).bind fun _ ts=>.ok (acc ++ [x]) ts
end
def pparen (f:Nat) (d:Int) (ts:List Tok):Rs Ex:=(pmust [40] ts).bind fun _ ts=>(pexpr f d ts).bind fun e ts=>(pmust [41] ts).bind fun _ ts=>.ok e ts
def pmaybe (f:Nat) (d:Int) (x:List UInt8) (ts:List Tok):Rs Ex:=ptake x ts (fun ts=>.ok noEx ts) fun ts=>(pexpr f d ts).bind fun e ts=>(pmust x ts).bind fun _ ts=>.ok e ts
mutual
def pblock:Nat→Int→List Tok→Rs (List St)
 | 0,_,_=>.out
 | f + 1,d,ts=>(pmust [123] ts).bind fun _ ts=>pblkloop f d [] ts
def pblkloop:Nat→Int→List St→List Tok→Rs (List St)
 | 0,_,_,_=>.out
 | f + 1,d,acc,ts=>
  ptake [125] ts (fun ts=>.ok acc ts) fun ts=>
   if (hdT ts).kind == 0 then pfail 4 ts else (pstmt f (d + 1) ts).bind fun x ts=>pblkloop f d (acc ++ [x]) ts
def pstmt:Nat→Int→List Tok→Rs St
 | 0,_,_=>.out
 | f + 1,d,ts=>
  let p:=(hdT ts).pos
  if 20<d then pfail 2 ts
  else if ptyped ts then
   (ptyp ts).bind fun ty us=>(pname us).bind fun n us=>
    ptake [91] us (fun us=>(plength us).bind fun l us=>(pmust [59] us).bind fun _ us=>.ok (.mk 2 [] [] ⟨ty.kind,ty.ptr,l⟩ n.1 0 p) us) fun us=>
    ptake [61] us (fun us=>(pexpr f (d + 1) us).bind fun e us=>(pmust [59] us).bind fun _ us=>.ok (.mk 2 [e] [] ty n.1 0 p) us) fun us=>
    (pmust [59] us).bind fun _ us=>.ok (.mk 2 [] [] ty n.1 0 p) us
  else ptake [59] ts (fun us=>.ok (.mk 16 [] [] noTy [] 0 p) us) fun _=>
  if pis [123] ts then (pblock f d ts).bind fun b us=>.ok (.mk 3 [] b noTy [] 0 p) us
  else ptake bIf ts (fun us=>(pparen f (d + 1) us).bind fun e us=>(pstmt f (d + 1) us).bind fun b us=>
   ptake bElse us (fun us=>(pstmt f (d + 1) us).bind fun c us=>.ok (.mk 4 [e] [b,c] noTy [] 0 p) us) fun us=>.ok (.mk 4 [e] [b] noTy [] 0 p) us) fun _=>
  ptake bWhile ts (fun us=>(pparen f (d + 1) us).bind fun e us=>(pstmt f (d + 1) us).bind fun b us=>.ok (.mk 5 [e] [b] noTy [] 0 p) us) fun _=>
  ptake bSwitch ts (fun us=>(pparen f (d + 1) us).bind fun e us=>(pstmt f (d + 1) us).bind fun b us=>.ok (.mk 8 [e] [b] noTy [] 0 p) us) fun _=>
  ptake bDo ts (fun us=>(pstmt f (d + 1) us).bind fun b us=>(pmust bWhile us).bind fun _ us=>(pparen f (d + 1) us).bind fun e us=>(pmust [59] us).bind fun _ us=>.ok (.mk 6 [e] [b] noTy [] 0 p) us) fun _=>
  ptake bFor ts (fun us=>(pmust [40] us).bind fun _ us=>(pmaybe f (d + 1) [59] us).bind fun a us=>(pmaybe f (d + 1) [59] us).bind fun b us=>(pmaybe f (d + 1) [41] us).bind fun c us=>
   (pstmt f (d + 1) us).bind fun x us=>.ok (.mk 7 [a,b,c] [x] noTy [] 0 p) us) fun _=>
  ptake bCase ts (fun us=>(pvalue us).bind fun v us=>(pmust [58] us).bind fun _ us=>.ok (.mk 9 [] [] noTy [] v p) us) fun _=>
  ptake bDefault ts (fun us=>(pmust [58] us).bind fun _ us=>.ok (.mk 10 [] [] noTy [] 0 p) us) fun _=>
  ptake bBreak ts (fun us=>(pmust [59] us).bind fun _ us=>.ok (.mk 11 [] [] noTy [] 0 p) us) fun _=>
  ptake bContinue ts (fun us=>(pmust [59] us).bind fun _ us=>.ok (.mk 12 [] [] noTy [] 0 p) us) fun _=>
  ptake bReturn ts (fun us=>ptake [59] us (fun us=>.ok (.mk 13 [] [] noTy [] 0 p) us) fun us=>(pexpr f (d + 1) us).bind fun e us=>(pmust [59] us).bind fun _ us=>.ok (.mk 13 [e] [] noTy [] 0 p) us) fun _=>
  ptake bGoto ts (fun us=>(pname us).bind fun n us=>(pmust [59] us).bind fun _ us=>.ok (.mk 14 [] [] noTy n.1 0 p) us) fun _=>
  if (hdT ts).kind == 1 && ((ts.getD 1 noTokT).kind == 3 && (ts.getD 1 noTokT).text == [58]) then .ok (.mk 15 [] [] noTy (hdT ts).text 0 p) (nx (nx ts))
  else (pexpr f (d + 1) ts).bind fun e us=>(pmust [59] us).bind fun _ us=>.ok (.mk 1 [e] [] noTy [] 0 p) us
end
def pinit (f:Nat) (len:Int) (ts:List Tok):Rs (List Int):=
 ptake [61] ts (fun ts=>if len == 0 then (pvalue ts).bind fun v ts=>.ok [v] ts else (pmust [123] ts).bind fun _ ts=>(pvals f len [] ts).bind fun l ts=>(pmust [125] ts).bind fun _ ts=>.ok l ts) fun ts=>.ok [] ts
def pitem (f:Nat) (u:Un) (ts:List Tok):Rs Un:=
 (ptyp ts).bind fun t ts=>(pname ts).bind fun n ts=>
  ptake [40] ts (fun ts=>if u.funcs.length=8 then .bad ⟨2,n.2⟩ else (pparams f ts).bind fun p ts=>(pblock f 1 ts).bind fun b ts=>.ok ⟨u.globals,u.funcs ++ [⟨n.1,t,p,b,[],n.2⟩]⟩ ts) fun ts=>
   if u.globals.length=16 then .bad ⟨2,n.2⟩
   else (ptake [91] ts plength fun ts=>.ok 0 ts).bind fun l ts=>(pinit f l ts).bind fun v ts=>(pmust [59] ts).bind fun _ ts=>.ok ⟨u.globals ++ [⟨n.1,⟨t.kind,t.ptr,l⟩,v,n.2⟩],u.funcs⟩ ts
def ploop (g:Nat):Nat→Un→List Tok→Rs Un
 | 0,_,_=>.out
 | f + 1,u,ts=>if (hdT ts).kind != 0 then (pitem g u ts).bind fun u ts=>ploop g f u ts else .ok u ts
end Go.Proofs.YtdmacgoeikjdbaaGreatDoor

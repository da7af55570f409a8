/- What is parsed is small: no list is longer than 5000. CopyUnit: the sa -/
import Derived.Test.YtdmacgoeikjdbaaGreatDoorL16
import Derived.Test.YtdmacgoeikjdbaaGreatDoorL37
set_option linter.unusedSimpArgs false
set_option linter.unusedVariables false
set_option maxHeartbeats 8000000
namespace Go.Proofs.YtdmacgoeikjdbaaGreatDoor
open Go.RowKit
mutual
def GoodEx:Ex→Prop
 | .mk _ _ _ _ ks _=>ks.length≤5000∧GoodExs ks
def GoodExs:List Ex→Prop
 | []=>True
 | x :: l=>GoodEx x∧GoodExs l
end
theorem goodExs_iff:∀ l:List Ex,GoodExs l ↔ ∀ x ∈ l,GoodEx x
 | []=>by simp [GoodExs]
 | x :: l=>by simp [GoodExs,goodExs_iff l]
mutual
def GoodSt:St→Prop
 | .mk _ e b _ _ _ _=>e.length≤5000∧GoodExs e∧b.length≤5000∧GoodSts b
def GoodSts:List St→Prop
 | []=>True
 | x :: l=>GoodSt x∧GoodSts l
end
theorem goodSts_iff:∀ l:List St,GoodSts l ↔ ∀ x ∈ l,GoodSt x
 | []=>by simp [GoodSts]
 | x :: l=>by simp [GoodSts,goodSts_iff l]
theorem goodExs_app {l m:List Ex} (h:GoodExs l) (h2:GoodExs m):GoodExs (l ++ m):=by
 rw [goodExs_iff] at *
 intro x hx
 rcases List.mem_append.1 hx with hx | hx
 ·exact h x hx
 ·exact h2 x hx
theorem goodSts_app {l m:List St} (h:GoodSts l) (h2:GoodSts m):GoodSts (l ++ m):=by
 rw [goodSts_iff] at *
 intro x hx
 rcases List.mem_append.1 hx with hx | hx
 ·exact h x hx
 ·exact h2 x hx
def GoodDe (d:De):Prop:=d.init.length≤5000
def GoodFn (f:Fn):Prop:=f.params.length≤5000∧(∀ d ∈ f.params,GoodDe d)∧f.body.length≤5000∧GoodSts f.body∧f.locals=[]
structure GoodUn (u:Un):Prop where
 gl:u.globals.length≤5000
 g:∀ d ∈ u.globals,GoodDe d
 fl:u.funcs.length≤5000
 f:∀ d ∈ u.funcs,GoodFn d
def Gd {α:Type} (P:α→Prop) (r:Rs α):Prop:=match r with
 | .ok x _=>P x
 | _=>True
theorem Gd.ok {α:Type} {P:α→Prop} {x:α} {ts:List Tok} (h:P x):Gd P (.ok x ts):=h
theorem Gd.bind {α β:Type} {Q:α→Prop} {P:β→Prop} {r:Rs α} {k:α→List Tok→Rs β} (hr:Gd Q r) (hk:∀ x ts,Q x→Gd P (k x ts)):Gd P (r.bind k):=by
 cases r with
 | out=>trivial
 | bad f=>trivial
 | ok x ts=>exact hk x ts hr
theorem Gd.any {α:Type} (r:Rs α):Gd (fun _=>True) r:=by cases r <;> trivial
theorem Gd.bind0 {α β:Type} {P:β→Prop} {r:Rs α} {k:α→List Tok→Rs β} (hk:∀ x ts,Gd P (k x ts)):Gd P (r.bind k):=(Gd.any r).bind fun x ts _=>hk x ts
theorem Gd.take {α:Type} {P:α→Prop} {x:List UInt8} {ts:List Tok} {yes no:List Tok→Rs α} (hy:∀ ts,Gd P (yes ts)) (hn:∀ ts,Gd P (no ts)):Gd P (ptake x ts yes no):=by
 unfold ptake
 split
 ·exact hy _
 ·exact hn _
theorem goodEx_mk {o:Int} {t:Ty} {s:List UInt8} {n:Int} {ks:List Ex} {p:Int} (h:ks.length≤5000) (hk:GoodExs ks):GoodEx (.mk o t s n ks p):=by
 unfold GoodEx
 exact ⟨h,hk⟩
theorem goodEx0 {o:Int} {t:Ty} {s:List UInt8} {n p:Int}:GoodEx (.mk o t s n [] p):=goodEx_mk (by simp) (by simp [GoodExs])
theorem goodEx1 {o:Int} {t:Ty} {s:List UInt8} {n p:Int} {a:Ex} (ha:GoodEx a):GoodEx (.mk o t s n [a] p):=goodEx_mk (by simp) (by simp [GoodExs,ha])
theorem goodEx2 {o:Int} {t:Ty} {s:List UInt8} {n p:Int} {a b:Ex} (ha:GoodEx a) (hb:GoodEx b):GoodEx (.mk o t s n [a,b] p):=goodEx_mk (by simp) (by simp [GoodExs,ha,hb])
theorem goodEx3 {o:Int} {t:Ty} {s:List UInt8} {n p:Int} {a b c:Ex} (ha:GoodEx a) (hb:GoodEx b) (hc:GoodEx c):GoodEx (.mk o t s n [a,b,c] p):=goodEx_mk (by simp) (by simp [GoodExs,ha,hb,hc])
def GoodL (l:List Ex):Prop:=l.length≤4∧GoodExs l
section
variable {o:Int} {t:Ty} {s:List UInt8} {n p:Int} {ts:List Tok}
theorem gEx0:Gd GoodEx (.ok (.mk o t s n [] p) ts):=Gd.ok (goodEx0)
theorem gEx2 {a b:Ex} (ha:GoodEx a) (hb:GoodEx b):Gd GoodEx (.ok (.mk o t s n [a,b] p) ts):=Gd.ok (goodEx2 ha hb)
theorem gEx3 {a b c:Ex} (ha:GoodEx a) (hb:GoodEx b) (hc:GoodEx c):Gd GoodEx (.ok (.mk o t s n [a,b,c] p) ts):=Gd.ok (goodEx3 ha hb hc)
theorem gExk {k:List Ex} (hk:GoodL k):Gd GoodEx (.ok (.mk o t s n k p) ts):=Gd.ok (goodEx_mk (Nat.le_trans hk.1 (by decide)) hk.2)
end
structure GdE (f:Nat):Prop where
 expr:∀ (d:Int) (ts:List Tok),Gd GoodEx (pexpr f d ts)
 cond:∀ (d:Int) (ts:List Tok),Gd GoodEx (pcond f d ts)
 binary:∀ (d:Int) (n:Nat) (ts:List Tok),Gd GoodEx (pbinary f d n ts)
 binloop:∀ (d:Int) (n:Nat) (a:Ex) (ts:List Tok),GoodEx a→Gd GoodEx (pbinloop f d n a ts)
 operand:∀ (d:Int) (ts:List Tok),Gd GoodL (poperand f d ts)
 unary:∀ (d:Int) (ts:List Tok),Gd GoodEx (punary f d ts)
 postx:∀ (d:Int) (ts:List Tok),Gd GoodEx (ppostfix f d ts)
 postloop:∀ (d:Int) (a:Ex) (ts:List Tok),GoodEx a→Gd GoodEx (ppostloop f d a ts)
 primary:∀ (d:Int) (ts:List Tok),Gd GoodEx (pprimary f d ts)
 args:∀ (d:Int) (ts:List Tok),Gd GoodL (pargs f d ts)
 argloop:∀ (d:Int) (acc:List Ex) (ts:List Tok),GoodL acc→Gd GoodL (pargloop f d acc ts)
theorem gdE:∀ f:Nat,GdE f
 | 0=>by
  constructor <;> intros <;> simp only [pexpr,pcond,pbinary,pbinloop,poperand,punary,ppostfix,pprimary,ppostloop,pargs,pargloop] <;> trivial
 | f + 1=>by
  have ih:=gdE f
  constructor
  ·intro d ts
   rw [pexpr]
   split
   ·trivial
   ·refine (ih.cond d ts).bind fun a us ha=>?_
    split
    ·exact ha
    ·exact (ih.expr _ _).bind fun b vs hb=>gEx2 ha hb
  ·intro d ts
   rw [pcond]
   refine (ih.binary d 0 ts).bind fun a us ha=>Gd.take (fun us=>(ih.expr _ _).bind fun b vs hb=>Gd.bind0 fun _ ws=>?_) fun us=>ha
   split
   ·trivial
   ·exact (ih.cond _ _).bind fun c xs hc=>gEx3 ha hb hc
  ·intro d n ts
   rw [pbinary]
   split
   ·exact ih.unary d ts
   ·exact (ih.binary _ _ _).bind fun a us ha=>ih.binloop _ _ _ _ ha
  ·intro d n a ts ha
   rw [pbinloop]
   split
   ·exact (ih.binary _ _ _).bind fun b us hb=>ih.binloop _ _ _ _ (goodEx2 ha hb)
   ·exact ha
  ·intro d ts
   rw [poperand]
   split
   ·trivial
   ·exact (ih.unary _ _).bind fun a us ha=>⟨by simp,by simp [GoodExs,ha]⟩
  ·intro d ts
   rw [punary]
   split
   ·exact (ih.operand _ _).bind fun k us hk=>gExk hk
   ·split
    ·exact Gd.bind0 fun t us=>Gd.bind0 fun _ vs=>(ih.operand _ _).bind fun k us hk=>gExk hk
    ·exact Gd.take (fun us=>Gd.bind0 fun _ us=>Gd.bind0 fun t us=>Gd.bind0 fun _ us=>gEx0) fun us=>ih.postx _ _
  ·intro d ts
   rw [ppostfix]
   exact (ih.primary _ _).bind fun a us ha=>ih.postloop _ _ _ ha
  ·intro d a ts ha
   rw [ppostloop]
   exact Gd.take (fun us=>(ih.expr _ _).bind fun i us hi=>Gd.bind0 fun _ us=>ih.postloop _ _ _ (goodEx2 ha hi)) fun us=>Gd.take (fun us=>ih.postloop _ _ _ (goodEx1 ha)) fun us=>Gd.take (fun us=>ih.postloop _ _ _ (goodEx1 ha)) fun us=>ha
  ·intro d ts
   rw [pprimary]
   refine Gd.take (fun us=>(ih.expr _ _).bind fun e us he=>Gd.bind0 fun _ us=>he) fun us=>?_
   split
   ·exact gEx0
   ·split
    ·exact Gd.take (fun us=>(ih.args _ _).bind fun k us hk=>gExk hk) fun us=>gEx0
    ·trivial
  ·intro d ts
   rw [pargs]
   exact Gd.take (fun us=>⟨by simp,by simp [GoodExs]⟩) fun us=>ih.argloop _ _ _ ⟨by simp,by simp [GoodExs]⟩
  ·intro d acc ts ha
   rw [pargloop]
   split
   ·trivial
   ·rename_i hne
    refine (ih.expr _ _).bind fun x us hx=>?_
    have h1:GoodL (acc ++ [x]):=⟨by have:=ha.1;simp;omega,goodExs_app ha.2 (by simp [GoodExs,hx])⟩
    exact Gd.take (fun us=>ih.argloop _ _ _ h1) fun us=>Gd.bind0 fun _ us=>h1
theorem pparen_gd (f:Nat) (d:Int) (ts:List Tok):Gd GoodEx (pparen f d ts):=Gd.bind0 fun _ us=>((gdE f).expr d us).bind fun e vs he=>Gd.bind0 fun _ ws=>he
theorem pmaybe_gd (f:Nat) (d:Int) (x:List UInt8) (ts:List Tok):Gd GoodEx (pmaybe f d x ts):=Gd.take (fun us=>(show GoodEx noEx from goodEx0)) fun us=>((gdE f).expr d us).bind fun e vs he=>Gd.bind0 fun _ ws=>he
theorem goodSt_mk {o:Int} {e:List Ex} {b:List St} {t:Ty} {s:List UInt8} {n p:Int} (h1:e.length≤5000) (h2:GoodExs e) (h3:b.length≤5000) (h4:GoodSts b):GoodSt (.mk o e b t s n p):=by
 unfold GoodSt
 exact ⟨h1,h2,h3,h4⟩
theorem goodSt00 {o:Int} {t:Ty} {s:List UInt8} {n p:Int}:GoodSt (.mk o [] [] t s n p):=goodSt_mk (by simp) (by simp [GoodExs]) (by simp) (by simp [GoodSts])
theorem goodSt10 {o:Int} {t:Ty} {s:List UInt8} {n p:Int} {a:Ex} (h:GoodEx a):GoodSt (.mk o [a] [] t s n p):=goodSt_mk (by simp) (by simp [GoodExs,h]) (by simp) (by simp [GoodSts])
theorem goodSt11 {o:Int} {t:Ty} {s:List UInt8} {n p:Int} {a:Ex} {b:St} (h:GoodEx a) (hb:GoodSt b):GoodSt (.mk o [a] [b] t s n p):=goodSt_mk (by simp) (by simp [GoodExs,h]) (by simp) (by simp [GoodSts,hb])
section
variable {o:Int} {t:Ty} {s:List UInt8} {n p:Int} {ts:List Tok}
theorem gSt00:Gd GoodSt (.ok (.mk o [] [] t s n p) ts):=Gd.ok (goodSt00)
theorem gSt10 {a:Ex} (h:GoodEx a):Gd GoodSt (.ok (.mk o [a] [] t s n p) ts):=Gd.ok (goodSt10 h)
theorem gSt11 {a:Ex} {b:St} (h:GoodEx a) (hb:GoodSt b):Gd GoodSt (.ok (.mk o [a] [b] t s n p) ts):=Gd.ok (goodSt11 h hb)
theorem gStk {e:List Ex} {b:List St} (h1:e.length≤5000) (h2:GoodExs e) (h3:b.length≤5000) (h4:GoodSts b):Gd GoodSt (.ok (.mk o e b t s n p) ts):=Gd.ok (goodSt_mk h1 h2 h3 h4)
end
def GoodLS (l:List St):Prop:=l.length≤5000∧GoodSts l
structure GdS (f:Nat):Prop where
 block:∀ (d:Int) (ts:List Tok),Gd GoodLS (pblock f d ts)
 blkloop:∀ (d:Int) (acc:List St) (ts:List Tok),acc.length + f≤5000→GoodSts acc→Gd GoodLS (pblkloop f d acc ts)
 stmt:∀ (d:Int) (ts:List Tok),Gd GoodSt (pstmt f d ts)
theorem gdS:∀ f:Nat,f≤5000→GdS f
 | 0,_=>by
  constructor <;> intros <;> simp only [pblock,pblkloop,pstmt] <;> trivial
 | f + 1,hf=>by
  have ih:=gdS f (by omega)
  have ie:=gdE f
  constructor
  ·intro d ts
   rw [pblock]
   exact Gd.bind0 fun _ us=>ih.blkloop d [] us (by simp;omega) (by simp [GoodSts])
  ·intro d acc ts hl ha
   rw [pblkloop]
   refine Gd.take (fun us=>⟨by omega,ha⟩) fun us=>?_
   split
   ·trivial
   ·exact (ih.stmt _ _).bind fun x vs hx=>ih.blkloop d _ vs (by simp;omega) (goodSts_app ha (by simp [GoodSts,hx]))
  ·intro d ts
   rw [pstmt]
   split
   ·trivial
   split
   ·exact Gd.bind0 fun ty us=>Gd.bind0 fun n us=>Gd.take (fun us=>Gd.bind0 fun l us=>Gd.bind0 fun _ us=>gSt00) fun us=>Gd.take (fun us=>(ie.expr _ _).bind fun e us he=>Gd.bind0 fun _ us=>gSt10 he) fun us=>Gd.bind0 fun _ us=>gSt00
   refine Gd.take (fun us=>gSt00) fun us=>?_
   split
   ·exact (ih.block _ _).bind fun b us hb=>gStk (by simp) (by simp [GoodExs]) hb.1 hb.2
   refine Gd.take (fun us=>(pparen_gd f _ us).bind fun e us he=>(ih.stmt _ _).bind fun b us hb=>Gd.take (fun us=>(ih.stmt _ _).bind fun c us hc=>gStk (by simp) (by simp [GoodExs,he]) (by simp) (by simp [GoodSts,hb,hc])) fun us=>gSt11 he hb) fun us=>?_
   refine Gd.take (fun us=>(pparen_gd f _ us).bind fun e us he=>(ih.stmt _ _).bind fun b us hb=>gSt11 he hb) fun us=>?_
   refine Gd.take (fun us=>(pparen_gd f _ us).bind fun e us he=>(ih.stmt _ _).bind fun b us hb=>gSt11 he hb) fun us=>?_
   refine Gd.take (fun us=>(ih.stmt _ _).bind fun b us hb=>Gd.bind0 fun _ us=>(pparen_gd f _ us).bind fun e us he=>Gd.bind0 fun _ us=>gSt11 he hb) fun us=>?_
   refine Gd.take (fun us=>Gd.bind0 fun _ us=>(pmaybe_gd f _ _ us).bind fun a us ha=>(pmaybe_gd f _ _ us).bind fun b us hb=>(pmaybe_gd f _ _ us).bind fun c us hc=>(ih.stmt _ _).bind fun x us hx=>gStk (by simp) (by simp [GoodExs,ha,hb,hc]) (by simp) (by simp [GoodSts,hx])) fun us=>?_
   refine Gd.take (fun us=>Gd.bind0 fun v us=>Gd.bind0 fun _ us=>gSt00) fun us=>?_
   refine Gd.take (fun us=>Gd.bind0 fun _ us=>gSt00) fun us=>?_
   refine Gd.take (fun us=>Gd.bind0 fun _ us=>gSt00) fun us=>?_
   refine Gd.take (fun us=>Gd.bind0 fun _ us=>gSt00) fun us=>?_
   refine Gd.take (fun us=>Gd.take (fun us=>gSt00) fun us=>(ie.expr _ _).bind fun e us he=>Gd.bind0 fun _ us=>gSt10 he) fun us=>?_
   refine Gd.take (fun us=>Gd.bind0 fun n us=>Gd.bind0 fun _ us=>gSt00) fun us=>?_
   split
   ·exact gSt00
   ·exact (ie.expr _ _).bind fun e us he=>Gd.bind0 fun _ us=>gSt10 he
theorem pvals_gd:∀ (f:Nat) (len:Int) (acc:List Int) (ts:List Tok),acc.length + f≤5000→Gd (fun l:List Int=>l.length≤5000) (pvals f len acc ts)
 | 0,_,_,_,_=>trivial
 | f + 1,len,acc,ts,h=>by
  rw [pvals]
  split
  ·trivial
  ·exact Gd.bind0 fun v us=>Gd.take (fun us=>pvals_gd f _ _ _ (by simp;omega)) fun us=>(by show (acc ++ [v]).length≤5000;simp;omega)
def GoodDs (l:List De):Prop:=l.length≤5000∧∀ d ∈ l,GoodDe d
theorem GoodDs.snoc {l:List De} {d:De} (h:∀ d ∈ l,GoodDe d) (hl:l.length + 1≤5000) (hd:GoodDe d):GoodDs (l ++ [d]):=⟨by simp;omega,fun x hx=>by
 rcases List.mem_append.1 hx with hx | hx
 ·exact h x hx
 ·simp only [List.mem_singleton] at hx
  rw [hx]
  exact hd⟩
theorem pparams1_gd:∀ (f:Nat) (acc:List De) (ts:List Tok),acc.length + f≤5000→(∀ d ∈ acc,GoodDe d)→Gd GoodDs (pparams1 f acc ts)
 | 0,_,_,_,_=>trivial
 | f + 1,acc,ts,h,ha=>by
  rw [pparams1]
  split
  ·trivial
  ·refine Gd.bind0 fun t us=>Gd.bind0 fun n us=>?_
   have h1:GoodDs (acc ++ [⟨n.1,t,[],n.2⟩]):=GoodDs.snoc ha (by omega) (show ([]:List Int).length≤5000 by simp)
   exact Gd.take (fun us=>pparams1_gd f _ _ (by simp;omega) h1.2) fun us=>h1
theorem pparams_gd (f:Nat) (hf:f≤5000) (ts:List Tok):Gd GoodDs (pparams f ts):=by
 unfold pparams
 refine Gd.take (fun us=>⟨by simp,by simp⟩) fun us=>?_
 split
 ·exact ⟨by simp,by simp⟩
 ·exact (pparams1_gd f [] us (by simpa using hf) (by simp)).bind fun l us hl=>Gd.bind0 fun _ us=>hl
theorem pinit_gd (f:Nat) (hf:f≤5000) (len:Int) (ts:List Tok):Gd (fun l:List Int=>l.length≤5000) (pinit f len ts):=by
 unfold pinit
 refine Gd.take (fun us=>?_) fun us=>(by show ([]:List Int).length≤5000;simp)
 split
 ·exact Gd.bind0 fun v us=>(by show [v].length≤5000;simp)
 ·exact Gd.bind0 fun _ us=>(pvals_gd f len [] us (by simpa using hf)).bind fun l us hl=>Gd.bind0 fun _ us=>hl
theorem pitem_gd (f:Nat) (hf:f≤5000) (u:Un) (ts:List Tok) (n:Nat) (hn:n + 1≤5000) (hu:GoodUn u) (h1:u.globals.length≤n) (h2:u.funcs.length≤n):Gd (fun v:Un=>GoodUn v∧v.globals.length≤n + 1∧v.funcs.length≤n + 1) (pitem f u ts):=by
 unfold pitem
 refine Gd.bind0 fun t us=>Gd.bind0 fun nm us=>Gd.take (fun us=>?_) fun us=>?_
 ·split
  ·trivial
  ·refine (pparams_gd f hf us).bind fun p us hp=>((gdS f hf).block 1 us).bind fun b us hb=>?_
   refine ⟨⟨hu.gl,hu.g,by simp;omega,fun x hx=>?_⟩,by simp;omega,by simp;omega⟩
   rcases List.mem_append.1 hx with hx | hx
   ·exact hu.f x hx
   ·simp only [List.mem_singleton] at hx
    rw [hx]
    exact ⟨hp.1,hp.2,hb.1,hb.2,rfl⟩
 ·split
  ·trivial
  ·refine Gd.bind0 fun l us=>(pinit_gd f hf l us).bind fun v us hv=>Gd.bind0 fun _ us=>?_
   have h3:GoodDs (u.globals ++ [⟨nm.1,⟨t.kind,t.ptr,l⟩,v,nm.2⟩]):=GoodDs.snoc hu.g (by omega) hv
   exact ⟨⟨h3.1,h3.2,hu.fl,hu.f⟩,by simp;omega,by simp;omega⟩
theorem ploop_gd (g:Nat) (hg:g≤5000):∀ (f:Nat) (u:Un) (ts:List Tok) (n:Nat),n + f≤5000→GoodUn u→u.globals.length≤n→u.funcs.length≤n→Gd GoodUn (ploop g f u ts)
 | 0,_,_,_,_,_,_,_=>trivial
 | f + 1,u,ts,n,hn,hu,h1,h2=>by
  rw [ploop]
  split
  ·exact (pitem_gd g hg u ts n (by omega) hu h1 h2).bind fun v us hv=>ploop_gd g hg f v us (n + 1) (by omega) hv.1 hv.2.1 hv.2.2
  ·exact hu
end Go.Proofs.YtdmacgoeikjdbaaGreatDoor
namespace Go.Proofs.YtdmacgoeikjdbaaGreatDoor
open Go.RowKit
theorem goodEx_kids {x:Ex} (h:GoodEx x):x.kids.length≤5000∧∀ y ∈ x.kids,GoodEx y:=by
 obtain ⟨o,t,s,n,ks,p⟩:=x
 unfold GoodEx at h
 exact ⟨h.1,(goodExs_iff _).1 h.2⟩
theorem goodSt_parts {x:St} (h:GoodSt x):x.ex.length≤5000∧GoodExs x.ex∧x.body.length≤5000∧∀ y ∈ x.body,GoodSt y:=by
 obtain ⟨o,e,b,t,s,n,p⟩:=x
 unfold GoodSt at h
 exact ⟨h.1,h.2.1,h.2.2.1,(goodSts_iff _).1 h.2.2.2⟩
theorem copyEx_any (x:Ex) (hx:GoodEx x):CopyExOk x:=
 copyEx_of x fun A c w h=>copyExprs_of x.kids (by have:=(goodEx_kids hx).1;omega) (fun y hy=>copyEx_any y ((goodEx_kids hx).2 y hy)) A c w h
termination_by SizeOf.sizeOf x
decreasing_by
 have h1:=List.sizeOf_lt_of_mem hy
 obtain ⟨o,t,s,n,ks,p⟩:=x
 simp only [Ex.kids,Ex.mk.sizeOf_spec] at *
 omega
theorem copyExs_any (l:List Ex) (hl:l.length≤5000) (h:GoodExs l) (A:Option Addr) (c:Nat) (w:World) (hp:RepT w (.lst 8 (l.map encEx)) [.slice A l.length c]):Calls Tryz.prog 117 #[.slice A l.length c] w (CopyRets w 8 (l.map encEx)):=
 copyExprs_of l (by omega) (fun y hy=>copyEx_any y ((goodExs_iff _).1 h y hy)) A c w hp
theorem copySt_any (x:St) (hx:GoodSt x):CopyStOk x:=
 copySt_of x (fun A c w h=>copyExs_any x.ex (goodSt_parts hx).1 (goodSt_parts hx).2.1 A c w h) fun A c w h=>
  copyStmts_of x.body (by have:=(goodSt_parts hx).2.2.1;omega) (fun y hy=>copySt_any y ((goodSt_parts hx).2.2.2 y hy)) A c w h
termination_by SizeOf.sizeOf x
decreasing_by
 have h1:=List.sizeOf_lt_of_mem hy
 obtain ⟨o,e,b,t,s,n,p⟩:=x
 simp only [St.body,St.mk.sizeOf_spec] at *
 omega
theorem copyDe_any (x:De) (hx:GoodDe x):CopyDeOk x:=copyDe_of x fun A c w h=>copyLongs_any _ (by unfold GoodDe at hx;omega) A c w h
theorem copyDes_any (l:List De) (hl:l.length≤5000) (h:∀ d ∈ l,GoodDe d) (A:Option Addr) (c:Nat) (w:World) (hp:RepT w (.lst 6 (l.map encDe)) [.slice A l.length c]):Calls Tryz.prog 54 #[.slice A l.length c] w (CopyRets w 6 (l.map encDe)):=
 copyDecls_of l (by omega) (fun y hy=>copyDe_any y (h y hy)) A c w hp
theorem copyFn_any (x:Fn) (hx:GoodFn x):CopyFnOk x:=copyFn_of x (fun A c w h=>copyDes_any _ hx.1 hx.2.1 A c w h) (fun A c w h=>copyStmts_of _ (by have:=hx.2.2.1;omega) (fun y hy=>copySt_any y ((goodSts_iff _).1 hx.2.2.2.1 y hy)) A c w h) fun A c w h=>copyDes_any _ (by rw [hx.2.2.2.2];simp) (by rw [hx.2.2.2.2];simp) A c w h
theorem copyFns_any (l:List Fn) (hl:l.length≤5000) (h:∀ d ∈ l,GoodFn d) (A:Option Addr) (c:Nat) (w:World) (hp:RepT w (.lst 8 (l.map encFn)) [.slice A l.length c]):Calls Tryz.prog 55 #[.slice A l.length c] w (CopyRets w 8 (l.map encFn)):=
 copyFuncs_of l (by omega) (fun y hy=>copyFn_any y (h y hy)) A c w hp
abbrev unC (u:Un) (A:Option Addr) (c:Nat) (B:Option Addr) (d:Nat):List Value:=[.slice A u.globals.length c,.slice B u.funcs.length d]
theorem rep_un {w:World} {ok:Nat→Prop} {x:Un} {cs:List Value}:Rep w ok (encUn x) cs ↔ ∃ A c B d,cs=unC x A c B d∧Rep w ok (.lst 6 (x.globals.map encDe)) [.slice A x.globals.length c]∧Rep w ok (.lst 8 (x.funcs.map encFn)) [.slice B x.funcs.length d]:=by
 constructor
 ·intro h
  unfold encUn Rep RepAll RepAll RepAll at h
  obtain ⟨c1,c2,rfl,h1,c3,c4,rfl,h2,rfl⟩:=h
  have g1:=h1
  have g2:=h2
  unfold Rep at h1 h2
  obtain ⟨A,c,rfl,_⟩:=h1
  obtain ⟨B,d,rfl,_⟩:=h2
  simp only [List.length_map] at g1 g2 ⊢
  exact ⟨A,c,B,d,rfl,g1,g2⟩
 ·rintro ⟨A,c,B,d,rfl,h1,h2⟩
  unfold encUn Rep RepAll RepAll RepAll
  exact ⟨_,_,rfl,h1,_,[],rfl,h2,rfl⟩
theorem sep_un' {w:World} {a m b:Nat} {x:Un} {A:Option Addr} {c:Nat} {B:Option Addr} {d:Nat} (h1:a≤m) (h2:m≤b) (hg:Sep w a m (.lst 6 (x.globals.map encDe)) [.slice A x.globals.length c]) (hf:Sep w m b (.lst 8 (x.funcs.map encFn)) [.slice B x.funcs.length d]):Sep w a b (encUn x) (unC x A c B d):=by
 unfold encUn Sep
 have e1:=sepAll_lst' (a:=m) (b:=b) (z:=8) (xs:=x.funcs.map encFn) (ds:=[]) (r:=[]) h2 (Nat.le_refl b) (by rw [List.length_map];exact hf) sepAll_nil'
 rw [List.length_map] at e1
 have e2:=sepAll_lst' h1 h2 (by rw [List.length_map];exact hg) e1
 rw [List.length_map] at e2
 exact e2
theorem sep_un {w:World} {a b:Nat} {x:Un} {cs:List Value} (h:Sep w a b (encUn x) cs):∃ m A c B d,a≤m∧m≤b∧cs=unC x A c B d∧Sep w a m (.lst 6 (x.globals.map encDe)) [.slice A x.globals.length c]∧Sep w m b (.lst 8 (x.funcs.map encFn)) [.slice B x.funcs.length d]:=by
 unfold encUn Sep at h
 obtain ⟨m,A,c,r,h1,h2,rfl,h3,h4⟩:=sepAll_lst h
 obtain ⟨m2,B,d,r2,h5,h6,rfl,h7,h8⟩:=sepAll_lst h4
 obtain rfl:=sepAll_nil h8
 simp only [List.length_map] at *
 exact ⟨m,A,c,B,d,h1,h2,rfl,h3,Sep.mono _ _ _ _ _ _ (Nat.le_refl _) h6 h7⟩
def CopyUnOk (x:Un):Prop:=∀ cs W,RepT W (encUn x) cs→Calls Tryz.prog 21 #[.agg cs.toArray] W (CopyRet W (encUn x))
theorem copyUn_of (x:Un) (ih0:∀ A c w,RepT w (.lst 6 (x.globals.map encDe)) [.slice A x.globals.length c]→Calls Tryz.prog 54 #[.slice A x.globals.length c] w (CopyRets w 6 (x.globals.map encDe))) (ih1:∀ A c w,RepT w (.lst 8 (x.funcs.map encFn)) [.slice A x.funcs.length c]→Calls Tryz.prog 55 #[.slice A x.funcs.length c] w (CopyRets w 8 (x.funcs.map encFn))):CopyUnOk x:=by
 intro cs w hp
 obtain ⟨A0,c0,A1,c1,rfl,h0,h1⟩:=rep_un.1 hp
 clear hp
 have h0:=Lib.hid h0
 have h1:=Lib.hid h1
 obtain ⟨globals,funcs⟩:=x
 simp only [unC,strV8] at *
 go_enter Tryz.func21,Tryz.ntmps21
 go_wp2_with fail
 obtain ⟨b1,hb1⟩:∃ b,Hid (w.heap.size + 1=b):=⟨_,Lib.hid rfl⟩
 obtain ⟨bx,hbx⟩:∃ b,Hid (w.heap.size + 1 + 1=b):=⟨_,Lib.hid rfl⟩
 obtain ⟨y1,y2,y3,hB,hz⟩:BlkIs (((w.alloc (.cells #[.slice A0 globals.length c0,.slice A1 funcs.length c1] 27)).alloc (.cells #[.slice none 0 0,.slice none 0 0] 27)).alloc (.cells #[.slice A0 globals.length c0,.slice A1 funcs.length c1] 27)) w.heap.size 27 #[.slice A0 globals.length c0,.slice A1 funcs.length c1]∧BlkIs (((w.alloc (.cells #[.slice A0 globals.length c0,.slice A1 funcs.length c1] 27)).alloc (.cells #[.slice none 0 0,.slice none 0 0] 27)).alloc (.cells #[.slice A0 globals.length c0,.slice A1 funcs.length c1] 27)) b1 27 #[.slice none 0 0,.slice none 0 0]∧BlkIs (((w.alloc (.cells #[.slice A0 globals.length c0,.slice A1 funcs.length c1] 27)).alloc (.cells #[.slice none 0 0,.slice none 0 0] 27)).alloc (.cells #[.slice A0 globals.length c0,.slice A1 funcs.length c1] 27)) bx 27 #[.slice A0 globals.length c0,.slice A1 funcs.length c1]∧Below w.heap.size w (((w.alloc (.cells #[.slice A0 globals.length c0,.slice A1 funcs.length c1] 27)).alloc (.cells #[.slice none 0 0,.slice none 0 0] 27)).alloc (.cells #[.slice A0 globals.length c0,.slice A1 funcs.length c1] 27))∧bx<(((w.alloc (.cells #[.slice A0 globals.length c0,.slice A1 funcs.length c1] 27)).alloc (.cells #[.slice none 0 0,.slice none 0 0] 27)).alloc (.cells #[.slice A0 globals.length c0,.slice A1 funcs.length c1] 27)).heap.size:=⟨((BlkIs.fresh _ _ _).alloc _).alloc _,BlkIs.alloc (BlkIs.fresh_at (by have:=hb1.out;simp;omega)) _,BlkIs.fresh_at (by have:=hbx.out;simp;omega),Below.alloc (Below.alloc (below_alloc _ _) (by simp) _) (by simp;omega) _,by have:=hbx.out;simp;omega⟩
 have hl1:w.heap.size<b1:=by have:=hb1.out;omega
 have hl2:b1<bx:=by have:=hb1.out;have:=hbx.out;omega
 rw [hbx.out,hb1.out]
 generalize ((w.alloc (.cells #[.slice A0 globals.length c0,.slice A1 funcs.length c1] 27)).alloc (.cells #[.slice none 0 0,.slice none 0 0] 27)).alloc (.cells #[.slice A0 globals.length c0,.slice A1 funcs.length c1] 27)=w0 at *
 refine (ih0 _ _ _ (Rep.below h0.out hB)).mono ?_
 rintro e v0 ⟨X0,d0,rfl,s0,hb0⟩
 simp only [List.length_map] at s0 ⊢
 have hB0:=hB.trans (hb0.mono hB.size)
 have z0:=hb0.size
 have y1:=y1.below hb0 (by omega)
 have y2:=y2.below hb0 (by omega)
 have y3:=y3.below hb0 (by omega)
 have s0:=Lib.hid s0
 have p1:=y1.cell 1
 have q0:=y3.cell 0
 have g0:=y3.frozen 0
 simp at p1 q0
 have l3:=y3.lt
 have l2:=y2.lt
 clear hB hb0
 go_wp2_with fail
 clear p1 q0 g0 l3 l2
 have y1:=y1.far (p:=⟨bx,0,none⟩) (by simp;omega) (.slice X0 globals.length d0)
 have y2:=y2.far (p:=⟨bx,0,none⟩) (by simp;omega) (.slice X0 globals.length d0)
 have y3:=y3.put 0 (.slice X0 globals.length d0)
 have hB:=Below.setCell hB0 (p:=⟨bx,0,none⟩) (by simp;omega) (.slice X0 globals.length d0)
 have s0:=Lib.hid (Sep.keep (w':=v0.setCell ⟨bx,0,none⟩ (.slice X0 globals.length d0)) _ _ _ _ (fun q h1 h2=>heap_setCell_other _ _ _ _ (by simp;omega)) s0.out)
 have hz:bx<(v0.setCell ⟨bx,0,none⟩ (.slice X0 globals.length d0)).heap.size:=by simp [World.setCell];omega
 obtain ⟨w1,hw1⟩:∃ W,Hid (v0.setCell ⟨bx,0,none⟩ (.slice X0 globals.length d0)=W):=⟨_,Lib.hid rfl⟩
 have hs1:v0.heap.size=w1.heap.size:=by rw [← hw1.out];simp [World.setCell]
 rw [hw1.out] at y1 y2 y3 hB hz s0 ⊢
 simp at y3
 refine (ih1 _ _ _ (Rep.below h1.out hB)).mono ?_
 rintro e v1 ⟨X1,d1,rfl,s1,hb1⟩
 simp only [List.length_map] at s1 ⊢
 have hB1:=hB.trans (hb1.mono hB.size)
 have z1:=hb1.size
 have y1:=y1.below hb1 (by omega)
 have y2:=y2.below hb1 (by omega)
 have y3:=y3.below hb1 (by omega)
 have s0:=Lib.hid (Sep.keep _ _ _ _ (fun q h1 h2=>hb1.block q (by omega)) s0.out)
 have s1:=Lib.hid s1
 have q0:=y3.cell 0
 have g0:=y3.frozen 0
 have q1:=y3.cell 1
 have g1:=y3.frozen 1
 have r0:=y2.cell 0
 have t0:=y2.frozen 0
 have r1:=y2.cell 1
 have t1:=y2.frozen 1
 simp at q0 q1 r0 r1
 have l3:=y3.lt
 have l2:=y2.lt
 clear hB hb1
 go_wp2_with fail
 have yy:=(((y2.far (p:=⟨bx,1,none⟩) (by simp;omega) (.slice X1 funcs.length d1)).put 0 (.slice X0 globals.length d0)).put 1 (.slice X1 funcs.length d1))
 have z0z:=yy.cell 0
 have z1z:=yy.cell 1
 simp at z0z z1z
 have hk:∀ q,bx<q→q<v1.heap.size→(((v1.setCell ⟨bx,1,none⟩ (.slice X1 funcs.length d1)).setCell ⟨b1,0,none⟩ (.slice X0 globals.length d0)).setCell ⟨b1,1,none⟩ (.slice X1 funcs.length d1)).heap[q]?=v1.heap[q]?:=fun q h1 h2=>(heap_setCell_other _ _ _ _ (by simp;omega)).trans ((heap_setCell_other _ _ _ _ (by simp;omega)).trans (heap_setCell_other _ _ _ _ (by simp;omega)))
 have hBf:Below w.heap.size w (((v1.setCell ⟨bx,1,none⟩ (.slice X1 funcs.length d1)).setCell ⟨b1,0,none⟩ (.slice X0 globals.length d0)).setCell ⟨b1,1,none⟩ (.slice X1 funcs.length d1)):=Below.setCell (Below.setCell (Below.setCell hB1 (by simp;omega) _) (by simp;omega) _) (by simp;omega) _
 have hsz:(((v1.setCell ⟨bx,1,none⟩ (.slice X1 funcs.length d1)).setCell ⟨b1,0,none⟩ (.slice X0 globals.length d0)).setCell ⟨b1,1,none⟩ (.slice X1 funcs.length d1)).heap.size=v1.heap.size:=by simp [World.setCell]
 generalize ((v1.setCell ⟨bx,1,none⟩ (.slice X1 funcs.length d1)).setCell ⟨b1,0,none⟩ (.slice X0 globals.length d0)).setCell ⟨b1,1,none⟩ (.slice X1 funcs.length d1)=wf at *
 refine bodyPost_ret (v:=.agg #[.slice X0 globals.length d0,.slice X1 funcs.length d1]) (by simp [results,Tryz.results21,go_sem,z0z,z1z]) rfl ?_
 refine ⟨[.slice X0 globals.length d0,.slice X1 funcs.length d1],rfl,?_,hBf⟩
 rw [hsz]
 have S0:=Sep.keep (w':=wf) _ _ _ _ (fun q h1 h2=>hk q (by omega) (by omega)) s0.out
 have S1:=Sep.keep (w':=wf) _ _ _ _ (fun q h1 h2=>hk q (by omega) (by omega)) s1.out
 exact sep_un' (x:=⟨globals,funcs⟩) (m:=w1.heap.size) (by omega) (by omega) (Sep.mono _ _ _ _ _ _ (by omega) (by omega) S0) S1
theorem copyUnit_any (u:Un) (hu:GoodUn u):CopyUnOk u:=copyUn_of u (fun A c w h=>copyDes_any _ hu.gl hu.g A c w h) fun A c w h=>copyFns_any _ hu.fl hu.f A c w h
end Go.Proofs.YtdmacgoeikjdbaaGreatDoor

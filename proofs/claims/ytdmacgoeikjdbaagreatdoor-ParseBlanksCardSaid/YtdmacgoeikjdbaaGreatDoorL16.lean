/- What both parsers make of a list of tokens: a program, or the first fa -/
import Derived.Test.YtdmacgoeikjdbaaGreatDoorL04
import Derived.Test.YtdmacgoeikjdbaaGreatDoorL15
import Derived.Test.YtdmacgoeikjdbaaGreatDoorL02
import Derived.Outline
set_option linter.unusedSimpArgs false
set_option linter.unusedVariables false
namespace Go.Proofs.YtdmacgoeikjdbaaGreatDoor
open Go.RowKit
structure Flt where
 err:Int
 pos:Int
inductive Rs (α:Type) where
 | out
 | bad (f:Flt)
 | ok (x:α) (ts:List Tok)
def Rs.bind {α β:Type} (r:Rs α) (k:α→List Tok→Rs β):Rs β:=match r with
 | .out=>.out
 | .bad f=>.bad f
 | .ok x ts=>k x ts
def pfail {α:Type} (e:Int) (ts:List Tok):Rs α:=.bad ⟨e,(hdT ts).pos⟩
def nx (ts:List Tok):List Tok:=if 1<ts.length then ts.tail else ts
def pis (x:List UInt8) (ts:List Tok):Bool:=isT x (hdT ts)
def ptake {α:Type} (x:List UInt8) (ts:List Tok) (yes no:List Tok→Rs α):Rs α:=if pis x ts then yes (nx ts) else no ts
def pmust (x:List UInt8) (ts:List Tok):Rs Unit:=if pis x ts then .ok () (nx ts) else pfail 4 ts
def pkindTok (k:Int) (ts:List Tok):Rs Tok:=if (hdT ts).kind == k then .ok (hdT ts) (nx ts) else pfail 4 ts
def pname (ts:List Tok):Rs (List UInt8 × Int):=(pkindTok 1 ts).bind fun t ts=>.ok (t.text,t.pos) ts
def pnumber (ts:List Tok):Rs Int:=(pkindTok 2 ts).bind fun t ts=>.ok t.n ts
def pvalue (ts:List Tok):Rs Int:=ptake [45] ts (fun ts=>(pnumber ts).bind fun n ts=>.ok (wrap64 (-n)) ts) pnumber
def pkindL (u:Int):List (List UInt8)→Int→List Tok→Rs Int
 | [],_,ts=>pfail 4 ts
 | w :: l,k,ts=>ptake w ts (fun ts=>.ok (k + u) ts) (pkindL u l (k + 2))
def pkind (ts:List Tok):Rs Int:=
 ptake bVoid ts (fun ts=>.ok 0 ts) fun ts=>ptake bUnsigned ts (pkindL 1 [bChar,bShort,bInt,bLong] 1) (pkindL 0 [bChar,bShort,bInt,bLong] 1)
def pstars:Nat→Int→List Tok→Rs Int
 | 0,n,ts=>.ok n ts
 | f + 1,n,ts=>if pis [42] ts then (if n == 3 then pfail 2 ts else pstars f (n + 1) (nx ts)) else .ok n ts
def ptyp (ts:List Tok):Rs Ty:=(pkind ts).bind fun k ts=>(pstars 5 0 ts).bind fun n ts=>.ok ⟨k,n,0⟩ ts
def plength (ts:List Tok):Rs Int:=
 (pnumber ts).bind fun n us=>if decide (n<1) || decide (64<n) then .bad ⟨10,(hdT ts).pos⟩ else (pmust [93] us).bind fun _ us=>.ok n us
def ptyped (ts:List Tok):Bool:=isTy (hdT ts)
def pvals:Nat→Int→List Int→List Tok→Rs (List Int)
 | 0,_,_,_=>.out
 | f + 1,len,acc,ts=>
  if (acc.length:Int) == len && (pis [45] ts || (hdT ts).kind == 2) then pfail 10 ts
  else (pvalue ts).bind fun v ts=>ptake [44] ts (pvals f len (acc ++ [v])) fun ts=>.ok (acc ++ [v]) ts
def pparams1:Nat→List De→List Tok→Rs (List De)
 | 0,_,_=>.out
 | f + 1,acc,ts=>
  if acc.length=4 then pfail 2 ts
  else (ptyp ts).bind fun t ts=>(pname ts).bind fun n ts=>
   ptake [44] ts (pparams1 f (acc ++ [⟨n.1,t,[],n.2⟩])) fun ts=>.ok (acc ++ [⟨n.1,t,[],n.2⟩]) ts
def pparams (f:Nat) (ts:List Tok):Rs (List De):=
 ptake [41] ts (fun ts=>.ok [] ts) fun ts=>
  if pis bVoid ts && ((ts.getD 1 noTokT).kind == 3 && (ts.getD 1 noTokT).text == [41]) then .ok [] (nx (nx ts))
  else (pparams1 f [] ts).bind fun l ts=>(pmust [41] ts).bind fun _ ts=>.ok l ts
mutual
def pexpr:Nat→Int→List Tok→Rs Ex
 | 0,_,_=>.out
 | f + 1,d,ts=>
  if 20<d then pfail 2 ts
  else (pcond f d ts).bind fun a ts=>
   if (hdT ts).kind != 3 || ((hdT ts).text != [61] && rassigns (hdT ts).text == 0) then .ok a ts
   else (pexpr f (d + 1) (nx ts)).bind fun b us=>.ok (.mk 34 noTy [] (rassigns (hdT ts).text) [a,b] (hdT ts).pos) us
def pcond:Nat→Int→List Tok→Rs Ex
 | 0,_,_=>.out
 | f + 1,d,ts=>(pbinary f d 0 ts).bind fun a ts=>
  ptake [63] ts (fun us=>(pexpr f (d + 1) us).bind fun b us=>(pmust [58] us).bind fun _ us=>
   if 20<d + 1 then pfail 2 us else (pcond f (d + 1) us).bind fun c us=>.ok (.mk 33 noTy [] 0 [a,b,c] (hdT ts).pos) us) fun ts=>.ok a ts
def pbinary:Nat→Int→Nat→List Tok→Rs Ex
 | 0,_,_,_=>.out
 | f + 1,d,n,ts=>if n=10 then punary f d ts else (pbinary f d (n + 1) ts).bind fun a ts=>pbinloop f d n a ts
def pbinloop:Nat→Int→Nat→Ex→List Tok→Rs Ex
 | 0,_,_,_,_=>.out
 | f + 1,d,n,a,ts=>
  if (hdT ts).kind == 3 && rlevel n (hdT ts).text != 0 then
   (pbinary f d (n + 1) (nx ts)).bind fun b us=>pbinloop f d n (.mk (rlevel n (hdT ts).text) noTy [] 0 [a,b] (hdT ts).pos) us
  else .ok a ts
def poperand:Nat→Int→List Tok→Rs (List Ex)
 | 0,_,_=>.out
 | f + 1,d,ts=>if 20<d then pfail 2 ts else (punary f d ts).bind fun x ts=>.ok [x] ts
def punary:Nat→Int→List Tok→Rs Ex
 | 0,_,_=>.out
 | f + 1,d,ts=>
  if ((hdT ts).kind == 3 || (hdT ts).kind == 4) && lookS (hdT ts).text prefixes != 0 then
   (poperand f (d + 1) (nx ts)).bind fun k us=>.ok (.mk (lookS (hdT ts).text prefixes) noTy [] 0 k (hdT ts).pos) us
  else if pis [40] ts && ptyped (nx ts) then
   (ptyp (nx ts)).bind fun t us=>(pmust [41] us).bind fun _ us=>(poperand f (d + 1) us).bind fun k us=>.ok (.mk 9 t [] 0 k (hdT ts).pos) us
  else ptake bSizeof ts (fun us=>(pmust [40] us).bind fun _ us=>(ptyp us).bind fun t us=>(pmust [41] us).bind fun _ us=>.ok (.mk 10 t [] 0 [] (hdT ts).pos) us) (ppostfix f d)
def ppostfix:Nat→Int→List Tok→Rs Ex
 | 0,_,_=>.out
 | f + 1,d,ts=>(pprimary f d ts).bind fun a ts=>ppostloop f d a ts
def ppostloop:Nat→Int→Ex→List Tok→Rs Ex
 | 0,_,_,_=>.out
 | f + 1,d,a,ts=>
  ptake [91] ts (fun us=>(pexpr f (d + 1) us).bind fun i us=>(pmust [93] us).bind fun _ us=>ppostloop f d (.mk 3 noTy [] 0 [a,i] (hdT ts).pos) us) fun _=>
  ptake [43,43] ts (fun us=>ppostloop f d (.mk 13 noTy [] 0 [a] (hdT ts).pos) us) fun _=>
  ptake [45,45] ts (fun us=>ppostloop f d (.mk 14 noTy [] 0 [a] (hdT ts).pos) us) fun ts=>.ok a ts
def pprimary:Nat→Int→List Tok→Rs Ex
 | 0,_,_=>.out
 | f + 1,d,ts=>
  ptake [40] ts (fun us=>(pexpr f (d + 1) us).bind fun e us=>(pmust [41] us).bind fun _ us=>.ok e us) fun _=>
  if (hdT ts).kind == 2 then .ok (.mk 1 noTy [] (hdT ts).n [] (hdT ts).pos) (nx ts)
  else if (hdT ts).kind == 1 then
   ptake [40] (nx ts) (fun us=>(pargs f (d + 1) us).bind fun k us=>.ok (.mk 35 noTy (hdT ts).text 0 k (hdT ts).pos) us) fun us=>.ok (.mk 2 noTy (hdT ts).text 0 [] (hdT ts).pos) us
  else pfail 4 ts
def pargs:Nat→Int→List Tok→Rs (List Ex)
 | 0,_,_=>.out
 | f + 1,d,ts=>ptake [41] ts (fun us=>.ok [] us) fun ts=>pargloop f d [] ts
def pargloop:Nat→Int→List Ex→List Tok→Rs (List Ex)
 | 0,_,_,_=>.out
 | f + 1,d,acc,ts=>
  if acc.length=4 then pfail 2 ts
  else (pexpr f d ts).bind fun x ts=>ptake [44] ts (pargloop f d (acc ++ [x])) fun ts=>(pmust [41] ts).bind fun _ ts=>.ok (acc ++ [x]) ts
end
def pparen (f:Nat) (d:Int) (ts:List Tok):Rs Ex:=(pmust [40] ts).bind fun _ ts=>(pexpr f d ts).bind fun e ts=>(pmust [41] ts).bind fun _ ts=>.ok e ts
def pmaybe (f:Nat) (d:Int) (x:List UInt8) (ts:List Tok):Rs Ex:=ptake x ts (fun ts=>.ok noEx ts) fun ts=>(pexpr f d ts).bind fun e ts=>(pmust x ts).bind fun _ ts=>.ok e ts
mutual
def pblock:Nat→Int→List Tok→Rs (List St)
 | 0,_,_=>.out
 | f + 1,d,ts=>(pmust [123] ts).bind fun _ ts=>pblkloop f d [] ts
def pblkloop:Nat→Int→List St→List Tok→Rs (List St)
 | 0,_,_,_=>.out
 | f + 1,d,acc,ts=>
  ptake [125] ts (fun ts=>.ok acc ts) fun ts=>
   if (hdT ts).kind == 0 then pfail 4 ts else (pstmt f (d + 1) ts).bind fun x ts=>pblkloop f d (acc ++ [x]) ts
def pstmt:Nat→Int→List Tok→Rs St
 | 0,_,_=>.out
 | f + 1,d,ts=>
  let p:=(hdT ts).pos
  if 20<d then pfail 2 ts
  else if ptyped ts then
   (ptyp ts).bind fun ty us=>(pname us).bind fun n us=>
    ptake [91] us (fun us=>(plength us).bind fun l us=>(pmust [59] us).bind fun _ us=>.ok (.mk 2 [] [] ⟨ty.kind,ty.ptr,l⟩ n.1 0 p) us) fun us=>
    ptake [61] us (fun us=>(pexpr f (d + 1) us).bind fun e us=>(pmust [59] us).bind fun _ us=>.ok (.mk 2 [e] [] ty n.1 0 p) us) fun us=>
    (pmust [59] us).bind fun _ us=>.ok (.mk 2 [] [] ty n.1 0 p) us
  else ptake [59] ts (fun us=>.ok (.mk 16 [] [] noTy [] 0 p) us) fun _=>
  if pis [123] ts then (pblock f d ts).bind fun b us=>.ok (.mk 3 [] b noTy [] 0 p) us
  else ptake bIf ts (fun us=>(pparen f (d + 1) us).bind fun e us=>(pstmt f (d + 1) us).bind fun b us=>
   ptake bElse us (fun us=>(pstmt f (d + 1) us).bind fun c us=>.ok (.mk 4 [e] [b,c] noTy [] 0 p) us) fun us=>.ok (.mk 4 [e] [b] noTy [] 0 p) us) fun _=>
  ptake bWhile ts (fun us=>(pparen f (d + 1) us).bind fun e us=>(pstmt f (d + 1) us).bind fun b us=>.ok (.mk 5 [e] [b] noTy [] 0 p) us) fun _=>
  ptake bSwitch ts (fun us=>(pparen f (d + 1) us).bind fun e us=>(pstmt f (d + 1) us).bind fun b us=>.ok (.mk 8 [e] [b] noTy [] 0 p) us) fun _=>
  ptake bDo ts (fun us=>(pstmt f (d + 1) us).bind fun b us=>(pmust bWhile us).bind fun _ us=>(pparen f (d + 1) us).bind fun e us=>(pmust [59] us).bind fun _ us=>.ok (.mk 6 [e] [b] noTy [] 0 p) us) fun _=>
  ptake bFor ts (fun us=>(pmust [40] us).bind fun _ us=>(pmaybe f (d + 1) [59] us).bind fun a us=>(pmaybe f (d + 1) [59] us).bind fun b us=>(pmaybe f (d + 1) [41] us).bind fun c us=>
   (pstmt f (d + 1) us).bind fun x us=>.ok (.mk 7 [a,b,c] [x] noTy [] 0 p) us) fun _=>
  ptake bCase ts (fun us=>(pvalue us).bind fun v us=>(pmust [58] us).bind fun _ us=>.ok (.mk 9 [] [] noTy [] v p) us) fun _=>
  ptake bDefault ts (fun us=>(pmust [58] us).bind fun _ us=>.ok (.mk 10 [] [] noTy [] 0 p) us) fun _=>
  ptake bBreak ts (fun us=>(pmust [59] us).bind fun _ us=>.ok (.mk 11 [] [] noTy [] 0 p) us) fun _=>
  ptake bContinue ts (fun us=>(pmust [59] us).bind fun _ us=>.ok (.mk 12 [] [] noTy [] 0 p) us) fun _=>
  ptake bReturn ts (fun us=>ptake [59] us (fun us=>.ok (.mk 13 [] [] noTy [] 0 p) us) fun us=>(pexpr f (d + 1) us).bind fun e us=>(pmust [59] us).bind fun _ us=>.ok (.mk 13 [e] [] noTy [] 0 p) us) fun _=>
  ptake bGoto ts (fun us=>(pname us).bind fun n us=>(pmust [59] us).bind fun _ us=>.ok (.mk 14 [] [] noTy n.1 0 p) us) fun _=>
  if (hdT ts).kind == 1 && ((ts.getD 1 noTokT).kind == 3 && (ts.getD 1 noTokT).text == [58]) then .ok (.mk 15 [] [] noTy (hdT ts).text 0 p) (nx (nx ts))
  else (pexpr f (d + 1) ts).bind fun e us=>(pmust [59] us).bind fun _ us=>.ok (.mk 1 [e] [] noTy [] 0 p) us
end
def pinit (f:Nat) (len:Int) (ts:List Tok):Rs (List Int):=
 ptake [61] ts (fun ts=>if len == 0 then (pvalue ts).bind fun v ts=>.ok [v] ts else (pmust [123] ts).bind fun _ ts=>(pvals f len [] ts).bind fun l ts=>(pmust [125] ts).bind fun _ ts=>.ok l ts) fun ts=>.ok [] ts
def pitem (f:Nat) (u:Un) (ts:List Tok):Rs Un:=
 (ptyp ts).bind fun t ts=>(pname ts).bind fun n ts=>
  ptake [40] ts (fun ts=>if u.funcs.length=8 then .bad ⟨2,n.2⟩ else (pparams f ts).bind fun p ts=>(pblock f 1 ts).bind fun b ts=>.ok ⟨u.globals,u.funcs ++ [⟨n.1,t,p,b,[],n.2⟩]⟩ ts) fun ts=>
   if u.globals.length=16 then .bad ⟨2,n.2⟩
   else (ptake [91] ts plength fun ts=>.ok 0 ts).bind fun l ts=>(pinit f l ts).bind fun v ts=>(pmust [59] ts).bind fun _ ts=>.ok ⟨u.globals ++ [⟨n.1,⟨t.kind,t.ptr,l⟩,v,n.2⟩],u.funcs⟩ ts
def ploop (g:Nat):Nat→Un→List Tok→Rs Un
 | 0,_,_=>.out
 | f + 1,u,ts=>if (hdT ts).kind != 0 then (pitem g u ts).bind fun u ts=>ploop g f u ts else .ok u ts
end Go.Proofs.YtdmacgoeikjdbaaGreatDoor
namespace Go.Proofs.YtdmacgoeikjdbaaGreatDoor
open Go.RowKit
theorem two (p:Int):(⟨2,p⟩:Flt).err ≠ 0:=by show (2:Int) ≠ 0;decide
theorem ten (p:Int):(⟨10,p⟩:Flt).err ≠ 0:=by show (10:Int) ≠ 0;decide
theorem rok_ok (ts:List Tok):rok ⟨ts,0,0⟩=true:=rfl
theorem rok_bad {ts:List Tok} {e p:Int} (h:e ≠ 0):rok ⟨ts,e,p⟩=false:=by simpa [rok] using h
section
variable {s:RS} (h:rok s=false)
include h
end
end Go.Proofs.YtdmacgoeikjdbaaGreatDoor
namespace Go.Proofs.YtdmacgoeikjdbaaGreatDoor
open Go.RowKit
end Go.Proofs.YtdmacgoeikjdbaaGreatDoor
namespace Go.Proofs.YtdmacgoeikjdbaaGreatDoor
open Go.RowKit
theorem Wf.nx {ts:List Tok} (h:Wf ts) (hk:(hdT ts).kind ≠ 0):Wf (nx ts)∧(nx ts).length + 1=ts.length:=by
 rcases ts with _ | ⟨t,_ | ⟨u,l⟩⟩
 ·exact h.elim
 ·exact absurd h hk
 ·refine ⟨h.2,?_⟩
  simp [Go.Proofs.YtdmacgoeikjdbaaGreatDoor.nx]
theorem Wf.pos {ts:List Tok} (h:Wf ts):1≤ts.length:=by
 rcases ts with _ | ⟨t,l⟩
 ·exact h.elim
 ·simp
theorem isT_kind {x:List UInt8} {t:Tok} (h:isT x t=true):t.kind ≠ 0:=by
 unfold isT at h
 intro e
 rw [e] at h
 simp at h
def Fine {α:Type} (m:Nat) (r:Rs α):Prop:=match r with
 | .out=>False
 | .bad _=>True
 | .ok _ ts=>Wf ts∧ts.length≤m
theorem Fine.bind {α β:Type} {m m':Nat} {r:Rs α} {k:α→List Tok→Rs β} (hr:Fine m r) (hk:∀ x us,Wf us→us.length≤m→Fine m' (k x us)):Fine m' (r.bind k):=by
 cases r with
 | out=>exact hr
 | bad f=>trivial
 | ok x ts=>exact hk x ts hr.1 hr.2
theorem Fine.take {α:Type} {m:Nat} {x:List UInt8} {ts:List Tok} (h:Wf ts) {yes no:List Tok→Rs α} (hy:Wf (nx ts)→(nx ts).length + 1=ts.length→Fine m (yes (nx ts))) (hn:Fine m (no ts)):Fine m (ptake x ts yes no):=by
 unfold ptake
 split
 ·rename_i hp
  obtain ⟨h1,h2⟩:=h.nx (isT_kind hp)
  exact hy h1 h2
 ·exact hn
theorem Fine.ite {α:Type} {m:Nat} {c:Prop} [Decidable c] {r s:Rs α} (h1:c→Fine m r) (h2:¬ c→Fine m s):Fine m (if c then r else s):=by
 split
 ·exact h1 ‹_›
 ·exact h2 ‹_›
theorem Fine.mono {α:Type} {m m':Nat} {r:Rs α} (h:Fine m r) (hm:m≤m'):Fine m' r:=by
 cases r with
 | out=>exact h
 | bad f=>trivial
 | ok x ts=>exact ⟨h.1,Nat.le_trans h.2 hm⟩
theorem pmust_fine (x:List UInt8) {ts:List Tok} (h:Wf ts):Fine (ts.length - 1) (pmust x ts):=by
 unfold pmust
 refine Fine.ite (fun hp=>?_) fun _=>trivial
 obtain ⟨h1,h2⟩:=h.nx (isT_kind hp)
 exact ⟨h1,by omega⟩
theorem pkindTok_fine {k:Int} (hk:k ≠ 0) {ts:List Tok} (h:Wf ts):Fine (ts.length - 1) (pkindTok k ts):=by
 unfold pkindTok
 refine Fine.ite (fun hp=>?_) fun _=>trivial
 obtain ⟨h1,h2⟩:=h.nx (by have:(hdT ts).kind=k:=(by simpa using hp);omega)
 exact ⟨h1,by omega⟩
theorem pname_fine {ts:List Tok} (h:Wf ts):Fine (ts.length - 1) (pname ts):=(pkindTok_fine (by decide) h).bind fun _ _ h hl=>⟨h,hl⟩
theorem pnumber_fine {ts:List Tok} (h:Wf ts):Fine (ts.length - 1) (pnumber ts):=(pkindTok_fine (by decide) h).bind fun _ _ h hl=>⟨h,hl⟩
theorem pvalue_fine {ts:List Tok} (h:Wf ts):Fine (ts.length - 1) (pvalue ts):=
 Fine.take h (fun h1 hl=>Fine.mono (m:=(nx ts).length - 1) ((pnumber_fine h1).bind fun _ _ h hl=>⟨h,hl⟩) (by omega)) (pnumber_fine h)
theorem pkindL_fine (u:Int):∀ (l:List (List UInt8)) (k:Int) {ts:List Tok},Wf ts→Fine (ts.length - 1) (pkindL u l k ts)
 | [],_,_,_=>trivial
 | _ :: l,_,_,h=>Fine.take h (fun h1 hl=>⟨h1,by omega⟩) (pkindL_fine u l _ h)
theorem pkind_fine {ts:List Tok} (h:Wf ts):Fine (ts.length - 1) (pkind ts):=
 Fine.take h (fun h1 hl=>⟨h1,by omega⟩) (Fine.take h (fun h1 hl=>(pkindL_fine _ _ _ h1).mono (by omega)) (pkindL_fine _ _ _ h))
theorem pstars_fine:∀ (f:Nat) (n:Int) {ts:List Tok},Wf ts→Fine ts.length (pstars f n ts)
 | 0,_,_,h=>⟨h,Nat.le_refl _⟩
 | f + 1,n,ts,h=>by
  simp only [pstars]
  refine Fine.ite (fun hp=>Fine.ite (fun _=>trivial) fun _=>?_) fun _=>⟨h,Nat.le_refl _⟩
  obtain ⟨h1,h2⟩:=h.nx (isT_kind hp)
  exact (pstars_fine f _ h1).mono (by omega)
theorem ptyp_fine {ts:List Tok} (h:Wf ts):Fine (ts.length - 1) (ptyp ts):=
 (pkind_fine h).bind fun _ _ h1 h2=>(pstars_fine 5 0 h1).bind fun _ _ h3 h4=>⟨h3,by omega⟩
theorem plength_fine {ts:List Tok} (h:Wf ts):Fine (ts.length - 1) (plength ts):=
 (pnumber_fine h).bind fun _ _ h1 h2=>Fine.ite (fun _=>trivial) fun _=>(pmust_fine _ h1).bind fun _ _ h3 h4=>⟨h3,by omega⟩
theorem pvals_fine:∀ (f:Nat) (len:Int) (acc:List Int) {ts:List Tok},Wf ts→ts.length<f→Fine (ts.length - 1) (pvals f len acc ts)
 | 0,_,_,_,_,hf=>absurd hf (by omega)
 | f + 1,len,acc,ts,h,hf=>by
  simp only [pvals]
  refine Fine.ite (fun _=>trivial) fun _=>(pvalue_fine h).bind fun v us h1 h2=>Fine.take h1 (fun h3 h4=>(pvals_fine f _ _ h3 ?_).mono (by omega)) ⟨h1,h2⟩
  have:=h.pos
  omega
theorem pparams1_fine:∀ (f:Nat) (acc:List De) {ts:List Tok},Wf ts→4<f + acc.length→0<f→acc.length≤4→Fine (ts.length - 1) (pparams1 f acc ts)
 | 0,_,_,_,_,hf,_=>absurd hf (by omega)
 | f + 1,acc,ts,h,hf,_,ha=>by
  simp only [pparams1]
  refine Fine.ite (fun _=>trivial) fun h4=>(ptyp_fine h).bind fun t us h1 h2=>(pname_fine h1).bind fun n vs h3 h5=>Fine.take h3 (fun h6 h7=>(pparams1_fine f _ h6 ?_ ?_ ?_).mono (by omega)) ⟨h3,by omega⟩
  ·simp only [List.length_append,List.length_cons,List.length_nil];omega
  ·omega
  ·simp only [List.length_append,List.length_cons,List.length_nil];omega
theorem pparams_fine (f:Nat) (hf:5≤f) {ts:List Tok} (h:Wf ts):Fine (ts.length - 1) (pparams f ts):=by
 refine Fine.take h (fun h1 h2=>⟨h1,by omega⟩) ?_
 refine Fine.ite (fun hp=>?_) fun _=>(pparams1_fine f [] h (by simp;omega) (by omega) (by simp)).bind fun l us h1 h2=>(pmust_fine _ h1).bind fun _ _ h3 h4=>⟨h3,by omega⟩
 simp only [Bool.and_eq_true] at hp
 obtain ⟨h1,h2⟩:=h.nx (isT_kind hp.1)
 have hk:(hdT (nx ts)).kind ≠ 0:=by
  have h3:(ts.getD 1 noTokT).kind=3:=by simpa using hp.2.1
  have h4:hdT (nx ts)=ts.getD 1 noTokT:=by
   rcases ts with _ | ⟨t,_ | ⟨u,l⟩⟩
   ·exact h.elim
   ·simp [nx] at h2
   ·simp [nx,hdT]
  rw [h4,h3]
  decide
 obtain ⟨h5,h6⟩:=h1.nx hk
 exact ⟨h5,by omega⟩
def bud (d:Int):Nat:=40 * (21 - d).toNat
theorem bud_succ {d:Int} (h:¬ 20<d):bud (d + 1) + 40≤bud d:=by unfold bud;omega
theorem sign_kind {ts:List Tok} {b:Bool} (h:((hdT ts).kind == 3 && b)=true):(hdT ts).kind ≠ 0:=by
 simp only [Bool.and_eq_true,beq_iff_eq] at h
 omega
theorem sign_kind2 {ts:List Tok} {b:Bool} (h:(((hdT ts).kind == 3 || (hdT ts).kind == 4) && b)=true):(hdT ts).kind ≠ 0:=by
 simp only [Bool.and_eq_true,Bool.or_eq_true,beq_iff_eq] at h
 omega
structure FnE (f:Nat):Prop where
 expr:∀ (d:Int) {ts:List Tok},Wf ts→bud d + ts.length + 20≤f→Fine (ts.length - 1) (pexpr f d ts)
 cond:∀ (d:Int) {ts:List Tok},Wf ts→¬ 20<d→bud d + ts.length + 19≤f→Fine (ts.length - 1) (pcond f d ts)
 binary:∀ (d:Int) (n:Nat) {ts:List Tok},Wf ts→¬ 20<d→n≤10→bud d + ts.length + 18≤f + n→Fine (ts.length - 1) (pbinary f d n ts)
 binloop:∀ (d:Int) (n:Nat) (a:Ex) {ts:List Tok},Wf ts→¬ 20<d→n<10→bud d + ts.length + 17≤f + n→Fine ts.length (pbinloop f d n a ts)
 operand:∀ (d:Int) {ts:List Tok},Wf ts→bud d + ts.length + 8≤f→Fine (ts.length - 1) (poperand f d ts)
 unary:∀ (d:Int) {ts:List Tok},Wf ts→¬ 20<d→bud d + ts.length + 7≤f→Fine (ts.length - 1) (punary f d ts)
 postfix_:∀ (d:Int) {ts:List Tok},Wf ts→¬ 20<d→bud d + ts.length + 6≤f→Fine (ts.length - 1) (ppostfix f d ts)
 postloop:∀ (d:Int) (a:Ex) {ts:List Tok},Wf ts→¬ 20<d→bud d + ts.length + 5≤f→Fine ts.length (ppostloop f d a ts)
 primary:∀ (d:Int) {ts:List Tok},Wf ts→¬ 20<d→bud d + ts.length + 5≤f→Fine (ts.length - 1) (pprimary f d ts)
 args:∀ (d:Int) {ts:List Tok},Wf ts→bud d + ts.length + 22≤f→Fine (ts.length - 1) (pargs f d ts)
 argloop:∀ (d:Int) (acc:List Ex) {ts:List Tok},Wf ts→bud d + ts.length + 21≤f→Fine (ts.length - 1) (pargloop f d acc ts)
theorem fineE:∀ f:Nat,FnE f
 | 0=>by
  constructor <;> intros <;> exfalso <;> omega
 | f + 1=>by
  have ih:=fineE f
  constructor
  ·intro d ts h hf
   simp only [pexpr]
   refine Fine.ite (fun _=>trivial) fun hd=>(ih.cond d h hd (by omega)).bind fun a us h1 h2=>?_
   have hb:=bud_succ hd
   refine Fine.ite (fun _=>⟨h1,h2⟩) fun hc=>?_
   have hk:(hdT us).kind ≠ 0:=by
    intro e
    rw [e] at hc
    exact hc (by simp)
   obtain ⟨h3,h4⟩:=h1.nx hk
   exact (ih.expr _ h3 (by omega)).bind fun b vs h5 h6=>⟨h5,by omega⟩
  ·intro d ts h hd hf
   simp only [pcond]
   have hb:=bud_succ hd
   refine (ih.binary d 0 h hd (by omega) (by omega)).bind fun a us h1 h2=>Fine.take h1 (fun h3 h4=>?_) ⟨h1,h2⟩
   refine (ih.expr _ h3 (by omega)).bind fun b vs h5 h6=>(pmust_fine _ h5).bind fun _ ws h7 h8=>Fine.ite (fun _=>trivial) fun hd1=>(ih.cond _ h7 hd1 (by omega)).bind fun c xs h9 h10=>⟨h9,by omega⟩
  ·intro d n ts h hd hn hf
   simp only [pbinary]
   refine Fine.ite (fun hn=>ih.unary d h hd (by omega)) fun hn=>(ih.binary d _ h hd (by omega) (by omega)).bind fun a us h1 h2=>(ih.binloop d n a h1 hd (by omega) (by omega)).mono (by omega)
  ·intro d n a ts h hd hn hf
   simp only [pbinloop]
   refine Fine.ite (fun hc=>?_) fun _=>⟨h,Nat.le_refl _⟩
   obtain ⟨h3,h4⟩:=h.nx (sign_kind hc)
   exact (ih.binary d _ h3 hd (by omega) (by omega)).bind fun b us h1 h2=>(ih.binloop d n _ h1 hd hn (by omega)).mono (by omega)
  ·intro d ts h hf
   simp only [poperand]
   exact Fine.ite (fun _=>trivial) fun hd=>(ih.unary d h hd (by omega)).bind fun x us h1 h2=>⟨h1,h2⟩
  ·intro d ts h hd hf
   simp only [punary]
   have hb:=bud_succ hd
   refine Fine.ite (fun hc=>?_) fun _=>Fine.ite (fun hc=>?_) fun _=>Fine.take h (fun h3 h4=>?_) (ih.postfix_ d h hd (by omega))
   ·obtain ⟨h3,h4⟩:=h.nx (sign_kind2 hc)
    exact (ih.operand _ h3 (by omega)).bind fun k us h1 h2=>⟨h1,by omega⟩
   ·simp only [Bool.and_eq_true] at hc
    obtain ⟨h3,h4⟩:=h.nx (isT_kind hc.1)
    exact (ptyp_fine h3).bind fun t us h1 h2=>(pmust_fine _ h1).bind fun _ vs h5 h6=>(ih.operand _ h5 (by omega)).bind fun k ws h7 h8=>⟨h7,by omega⟩
   ·exact (pmust_fine _ h3).bind fun _ us h1 h2=>(ptyp_fine h1).bind fun t vs h5 h6=>(pmust_fine _ h5).bind fun _ ws h7 h8=>⟨h7,by omega⟩
  ·intro d ts h hd hf
   simp only [ppostfix]
   exact (ih.primary d h hd (by omega)).bind fun a us h1 h2=>(ih.postloop d a h1 hd (by omega)).mono (by omega)
  ·intro d a ts h hd hf
   simp only [ppostloop]
   have hb:=bud_succ hd
   refine Fine.take h (fun h3 h4=>?_) (Fine.take h (fun h3 h4=>(ih.postloop d _ h3 hd (by omega)).mono (by omega)) (Fine.take h (fun h3 h4=>(ih.postloop d _ h3 hd (by omega)).mono (by omega)) ⟨h,Nat.le_refl _⟩))
   exact (ih.expr _ h3 (by omega)).bind fun i us h1 h2=>(pmust_fine _ h1).bind fun _ vs h5 h6=>(ih.postloop d _ h5 hd (by omega)).mono (by omega)
  ·intro d ts h hd hf
   simp only [pprimary]
   have hb:=bud_succ hd
   refine Fine.take h (fun h3 h4=>?_) ?_
   ·exact (ih.expr _ h3 (by omega)).bind fun e us h1 h2=>(pmust_fine _ h1).bind fun _ vs h5 h6=>⟨h5,by omega⟩
   ·refine Fine.ite (fun hc=>?_) fun _=>Fine.ite (fun hc=>?_) fun _=>trivial
    ·obtain ⟨h3,h4⟩:=h.nx (by have:(hdT ts).kind=2:=(by simpa using hc);omega)
     exact ⟨h3,by omega⟩
    ·obtain ⟨h3,h4⟩:=h.nx (by have:(hdT ts).kind=1:=(by simpa using hc);omega)
     exact Fine.take h3 (fun h5 h6=>(ih.args _ h5 (by omega)).bind fun k us h1 h2=>⟨h1,by omega⟩) ⟨h3,by omega⟩
  ·intro d ts h hf
   simp only [pargs]
   exact Fine.take h (fun h3 h4=>⟨h3,by omega⟩) (ih.argloop d [] h (by omega))
  ·intro d acc ts h hf
   simp only [pargloop]
   refine Fine.ite (fun _=>trivial) fun _=>(ih.expr d h (by omega)).bind fun x us h1 h2=>Fine.take h1 (fun h3 h4=>(ih.argloop d _ h3 ?_).mono (by omega)) ((pmust_fine _ h1).bind fun _ vs h5 h6=>⟨h5,by omega⟩)
   have:=h.pos
   omega
theorem pparen_fine {f:Nat} {d:Int} {ts:List Tok} (h:Wf ts) (hf:bud d + ts.length + 20≤f):Fine (ts.length - 1) (pparen f d ts):=
 (pmust_fine _ h).bind fun _ us h1 h2=>((fineE f).expr d h1 (by omega)).bind fun _ vs h3 h4=>(pmust_fine _ h3).bind fun _ ws h5 h6=>⟨h5,by omega⟩
theorem pmaybe_fine {f:Nat} {d:Int} {x:List UInt8} {ts:List Tok} (h:Wf ts) (hf:bud d + ts.length + 20≤f):Fine (ts.length - 1) (pmaybe f d x ts):=
 Fine.take h (fun h3 h4=>⟨h3,by omega⟩) (((fineE f).expr d h hf).bind fun _ vs h3 h4=>(pmust_fine _ h3).bind fun _ ws h5 h6=>⟨h5,by omega⟩)
structure FnS (f:Nat):Prop where
 block:∀ (d:Int) {ts:List Tok},Wf ts→¬ 20<d→bud d + ts.length + 29≤f→Fine (ts.length - 1) (pblock f d ts)
 blkloop:∀ (d:Int) (acc:List St) {ts:List Tok},Wf ts→¬ 20<d→bud d + ts.length + 28≤f→Fine (ts.length - 1) (pblkloop f d acc ts)
 stmt:∀ (d:Int) {ts:List Tok},Wf ts→bud d + ts.length + 30≤f→Fine (ts.length - 1) (pstmt f d ts)
theorem fineS:∀ f:Nat,FnS f
 | 0=>by
  constructor <;> intros <;> exfalso <;> omega
 | f + 1=>by
  have ih:=fineS f
  have ie:FnE f:=fineE f
  constructor
  ·intro d ts h hd hf
   simp only [pblock]
   exact (pmust_fine _ h).bind fun _ us h1 h2=>(ih.blkloop d [] h1 hd (by omega)).mono (by omega)
  ·intro d acc ts h hd hf
   simp only [pblkloop]
   have hb:=bud_succ hd
   refine Fine.take h (fun h3 h4=>⟨h3,by omega⟩) (Fine.ite (fun _=>trivial) fun _=>(ih.stmt _ h (by omega)).bind fun x us h1 h2=>(ih.blkloop d _ h1 hd ?_).mono (by omega))
   have:=h.pos
   omega
  ·intro d ts h hf
   simp only [pstmt]
   refine Fine.ite (fun _=>trivial) fun hd=>?_
   have hb:=bud_succ hd
   refine Fine.ite (fun hc=>?_) fun _=>Fine.take h (fun h3 h4=>⟨h3,by omega⟩) (Fine.ite (fun hc=>?_) fun _=>Fine.take h (fun h3 h4=>?_) (Fine.take h (fun h3 h4=>?_) (Fine.take h (fun h3 h4=>?_) (Fine.take h (fun h3 h4=>?_) (Fine.take h (fun h3 h4=>?_) (Fine.take h (fun h3 h4=>?_) (Fine.take h (fun h3 h4=>?_) (Fine.take h (fun h3 h4=>?_) (Fine.take h (fun h3 h4=>?_) (Fine.take h (fun h3 h4=>?_) (Fine.take h (fun h3 h4=>?_) (Fine.ite (fun hc=>?_) fun _=>?_))))))))))))
   ·refine (ptyp_fine h).bind fun t us h1 h2=>(pname_fine h1).bind fun n vs h5 h6=>Fine.take h5 (fun h7 h8=>?_) (Fine.take h5 (fun h7 h8=>?_) ?_)
    ·exact (plength_fine h7).bind fun l ws h9 h10=>(pmust_fine _ h9).bind fun _ xs h11 h12=>⟨h11,by omega⟩
    ·exact (ie.expr _ h7 (by omega)).bind fun x ws h9 h10=>(pmust_fine _ h9).bind fun _ xs h11 h12=>⟨h11,by omega⟩
    ·exact (pmust_fine _ h5).bind fun _ xs h11 h12=>⟨h11,by omega⟩
   ·exact (ih.block _ h hd (by omega)).bind fun b us h1 h2=>⟨h1,h2⟩
   ·exact (pparen_fine h3 (by omega)).bind fun x us h1 h2=>(ih.stmt _ h1 (by omega)).bind fun b vs h5 h6=>Fine.take h5 (fun h7 h8=>(ih.stmt _ h7 (by omega)).bind fun c ws h9 h10=>⟨h9,by omega⟩) ⟨h5,by omega⟩
   ·exact (pparen_fine h3 (by omega)).bind fun x us h1 h2=>(ih.stmt _ h1 (by omega)).bind fun b vs h5 h6=>⟨h5,by omega⟩
   ·exact (pparen_fine h3 (by omega)).bind fun x us h1 h2=>(ih.stmt _ h1 (by omega)).bind fun b vs h5 h6=>⟨h5,by omega⟩
   ·exact (ih.stmt _ h3 (by omega)).bind fun b us h1 h2=>(pmust_fine _ h1).bind fun _ vs h5 h6=>(pparen_fine h5 (by omega)).bind fun x ws h7 h8=>(pmust_fine _ h7).bind fun _ xs h9 h10=>⟨h9,by omega⟩
   ·exact (pmust_fine _ h3).bind fun _ us h1 h2=>(pmaybe_fine h1 (by omega)).bind fun a vs h5 h6=>(pmaybe_fine h5 (by omega)).bind fun b ws h7 h8=>(pmaybe_fine h7 (by omega)).bind fun c xs h9 h10=>(ih.stmt _ h9 (by omega)).bind fun s ys h11 h12=>⟨h11,by omega⟩
   ·exact (pvalue_fine h3).bind fun v us h1 h2=>(pmust_fine _ h1).bind fun _ vs h5 h6=>⟨h5,by omega⟩
   ·exact (pmust_fine _ h3).bind fun _ us h1 h2=>⟨h1,by omega⟩
   ·exact (pmust_fine _ h3).bind fun _ us h1 h2=>⟨h1,by omega⟩
   ·exact (pmust_fine _ h3).bind fun _ us h1 h2=>⟨h1,by omega⟩
   ·exact Fine.take h3 (fun h5 h6=>⟨h5,by omega⟩) ((ie.expr _ h3 (by omega)).bind fun x us h1 h2=>(pmust_fine _ h1).bind fun _ vs h5 h6=>⟨h5,by omega⟩)
   ·exact (pname_fine h3).bind fun n us h1 h2=>(pmust_fine _ h1).bind fun _ vs h5 h6=>⟨h5,by omega⟩
   ·simp only [Bool.and_eq_true,beq_iff_eq] at hc
    obtain ⟨h3,h4⟩:=h.nx (by omega)
    have hk:(hdT (nx ts)).kind ≠ 0:=by
     have h6:hdT (nx ts)=ts.getD 1 noTokT:=by
      rcases ts with _ | ⟨t,_ | ⟨u,l⟩⟩
      ·exact h.elim
      ·simp [nx] at h4
      ·simp [nx,hdT]
     rw [h6]
     omega
    obtain ⟨h5,h6⟩:=h3.nx hk
    exact ⟨h5,by omega⟩
   ·exact (ie.expr _ h (by omega)).bind fun x us h1 h2=>(pmust_fine _ h1).bind fun _ vs h5 h6=>⟨h5,by omega⟩
theorem pinit_fine (f:Nat) (len:Int) {ts:List Tok} (h:Wf ts) (hf:ts.length<f):Fine ts.length (pinit f len ts):=by
 refine Fine.take h (fun h3 h4=>Fine.ite (fun _=>(pvalue_fine h3).bind fun v us h1 h2=>⟨h1,by omega⟩) fun _=>?_) ⟨h,Nat.le_refl _⟩
 exact (pmust_fine _ h3).bind fun _ us h1 h2=>(pvals_fine f len [] h1 (by omega)).bind fun l vs h5 h6=>(pmust_fine _ h5).bind fun _ ws h7 h8=>⟨h7,by omega⟩
theorem pitem_fine {f:Nat} (u:Un) {ts:List Tok} (h:Wf ts) (hf:ts.length + 1000≤f):Fine (ts.length - 1) (pitem f u ts):=by
 have hb:bud 1=800:=by decide
 refine (ptyp_fine h).bind fun t us h1 h2=>(pname_fine h1).bind fun n vs h3 h4=>Fine.take h3 (fun h5 h6=>Fine.ite (fun _=>trivial) fun _=>?_) (Fine.ite (fun _=>trivial) fun _=>?_)
 ·exact (pparams_fine f (by omega) h5).bind fun p ws h7 h8=>((fineS f).block 1 h7 (by decide) (by omega)).bind fun b xs h9 h10=>⟨h9,by omega⟩
 ·have hl:Fine vs.length (ptake [91] vs plength fun ts=>.ok 0 ts):=Fine.take h3 (fun h5 h6=>(plength_fine h5).mono (by omega)) ⟨h3,Nat.le_refl _⟩
  exact hl.bind fun l ws h7 h8=>(pinit_fine f l h7 (by omega)).bind fun x xs h9 h10=>(pmust_fine _ h9).bind fun _ ys h11 h12=>⟨h11,by omega⟩
theorem ploop_fine (k:Nat):∀ (f:Nat) (u:Un) {ts:List Tok},Wf ts→ts.length + 1000≤k→ts.length≤f→Fine ts.length (ploop k f u ts)
 | 0,_,_,h,_,hf=>by
  have:=h.pos
  omega
 | f + 1,u,ts,h,hk,hf=>by
  simp only [ploop]
  refine Fine.ite (fun _=>(pitem_fine u h hk).bind fun x us h1 h2=>(ploop_fine k f x h1 (by omega) ?_).mono (by omega)) fun _=>⟨h,Nat.le_refl _⟩
  have:=h.pos
  omega
end Go.Proofs.YtdmacgoeikjdbaaGreatDoor
namespace Go.Proofs.YtdmacgoeikjdbaaGreatDoor
open Go.RowKit Sx
abbrev noUn:Un:=⟨[],[]⟩
def parseT (r:List Tok × Int × Int):Un × Int × Int:=
 if r.2.1 ≠ 0 then (noUn,r.2.1,r.2.2)
 else match ploop 4000 2500 noUn r.1 with
  | .ok u _=>(u,0,0)
  | .bad f=>(noUn,f.err,f.pos)
  | .out=>(noUn,0,0)
def unV (u:Un) (A:Option Addr) (c:Nat) (B:Option Addr) (d:Nat):Value:=.agg #[.slice A u.globals.length c,.slice B u.funcs.length d]
def ParsePost (w:World) (r:Un × Int × Int) (e:Ending) (w':World):Prop:=∃ A c B d,e=.returned (.tuple #[unV r.1 A c B d,.agg #[.int .i64 r.2.1,.int .i64 r.2.2]]) ∧
 Rep w' (fun k=>w.heap.size≤k) (gsD r.1) [.slice A r.1.globals.length c]∧Rep w' (fun k=>w.heap.size≤k) (fnsD r.1) [.slice B r.1.funcs.length d]∧Below w.heap.size w w'
theorem least_ex {P:Nat→Prop} (h:∃ n,P n):∃ m,P m∧∀ k,P k→m≤k:=by
 obtain ⟨n,hn⟩:=h
 induction n using Nat.strongRecOn with
 | ind n ih=>
  by_cases hx:∃ k,k<n∧P k
  ·obtain ⟨k,hk,hp⟩:=hx
   exact ih k hk hp
  ·exact ⟨n,hn,fun k hk=>Nat.le_of_not_lt fun hl=>hx ⟨k,hl,hk⟩⟩
open Classical in
noncomputable def leastOf (P:Nat→Prop):Nat:=if h:∃ n,P n then Classical.choose (least_ex h) else 0
theorem leastOf_spec {P:Nat→Prop} (h:∃ n,P n):P (leastOf P)∧∀ k,P k→leastOf P≤k:=by
 unfold leastOf
 rw [dif_pos h]
 exact Classical.choose_spec (least_ex h)
def outOf (q:Un × RS):Un × Int × Int:=if q.2.err ≠ 0 then (noUn,q.2.err,q.2.pos) else (q.1,0,0)
theorem wp_store2 {P:Program} {op:Oper} {a:Act} {w:World} {K:Act→World→Prop} {Q:Exit→Act→World→Prop} (ty:TypeId) (x y:Operand) (ho:op.op=.store ty x y) (g:Nat) (hx:a.eval x=.pointer (some ⟨g,0,none⟩)) (v1 v2:Value) (hy:a.eval y=.agg #[v1,v2]) {t:TypeId} {c1 c2:Value} (hb:BlkIs w g t #[c1,c2])
  (hi:(P.info? ty).map (·.size)=some 2) (h1:v1.oneCell'=true) (h2:v2.oneCell'=true) (h:∀ w',BlkIs w' g t #[v1,v2]→KeepM g w w'→K (a.put op.dst undef) w'):op.wp P a w K Q:=by
 refine wp_store_mid ty x y ho g 0 #[v1,v2] hx hy (fun j hj=>?_) hi (by simp [h1,h2]) (h _ ((hb.put 0 v1).put 1 v2) (((KeepM.refl _ _).own 0 v1).own 1 v2))
 have hj:j<2:=hj
 have:j=0 ∨ j=1:=by omega
 rcases this with rfl | rfl
 ·exact ⟨by rw [Nat.add_zero,hb.cell 0];rfl,hb.frozen 0⟩
 ·exact ⟨by rw [hb.cell 1];rfl,hb.frozen 1⟩
theorem own_lt_size0 {w:World} {B:Nat} {v:Value} {ts:List Tok} (h:TokRow w B v ts) {k:Nat} (hk:v.ownBlock=some k):k<w.heap.size:=by
 rcases h.2 with ⟨hv,_⟩ | ⟨g,cap,cur,hv,hb,hh,_⟩
 ·rw [hv] at hk;cases hk
 ·rw [hv] at hk
  injection hk with hk
  subst hk
  exact lt_of_block hh
theorem tok_rep {w:World} {B:Nat} {v:Value} {ts:List Tok} (h:TokRow w B v ts):Rep w (fun k=>k<w.heap.size) (.lst 4 (ts.map encTok)) [v]:=by
 have hc:∀ ts:List Tok,Cells w (fun g=>g<w.heap.size∧some g ≠ v.ownBlock) 4 (ts.map encTok) (flat ts):=fun ts=>by
  induction ts with
  | nil=>rfl
  | cons t l ih=>exact ⟨t.cells,flat l,by simp [flat],rfl,rep_tok.2 rfl,ih⟩
 have ho:Own w B (fun g=>g<w.heap.size) 43 4 v (ts.map encTok):=⟨flat ts,by rw [List.length_map];exact h,hc ts⟩
 exact own_rep_ne ho (fun k h=>h) fun k hk=>own_lt_size0 h hk
end Go.Proofs.YtdmacgoeikjdbaaGreatDoor

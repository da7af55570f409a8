/- The program's parser, mirrored, makes of tokens what both parsers make -/
import Derived.Test.YtdmacgoeikjdbaaGreatDoorL17
import Derived.Test.YtdmacgoeikjdbaaGreatDoorL16
set_option linter.unusedSimpArgs false
set_option linter.unusedVariables false
namespace Go.Proofs.YtdmacgoeikjdbaaGreatDoor
open Go.RowKit
def EndT (ts:List Tok):Prop:=∃ t,ts=[t]∧t.kind=0
def stWords:List (List UInt8):=[bIf,bWhile,bSwitch,bDo,bFor,bCase,bDefault,bBreak,bContinue,bReturn,bGoto]
def TokOk (t:Tok):Prop:=(t.kind=4→lookS t.text prefixes=0)∧(t.kind=3→massigns t.text=rassigns t.text∧t.text ∉ typeWords)∧(t.kind=4→t.text ≠ [59]∧t.text ≠ [123])∧(t.kind=3→t.text ∉ stWords)
def Wx (ts:List Tok):Prop:=Wf ts∧∀ t ∈ ts,TokOk t
theorem Wx.nx {ts:List Tok} (h:Wx ts) (hk:(hdT ts).kind ≠ 0):Wx (nx ts):=by
 obtain ⟨h1,h2⟩:=h
 rcases ts with _ | ⟨t,_ | ⟨u,l⟩⟩
 ·exact h1.elim
 ·exact absurd h1 hk
 ·exact ⟨h1.2,fun x hx=>h2 x (List.mem_cons_of_mem _ hx)⟩
theorem Wx.nxT {x:List UInt8} {ts:List Tok} (h:Wx ts) (hk:pis x ts=true):Wx (Go.Proofs.YtdmacgoeikjdbaaGreatDoor.nx ts):=h.nx (by
 unfold pis isT at hk
 intro e
 rw [e] at hk
 simp at hk)
theorem Wx.hd {ts:List Tok} (h:Wx ts):TokOk (hdT ts):=by
 rcases ts with _ | ⟨t,l⟩
 ·exact h.1.elim
 ·exact h.2 t List.mem_cons_self
theorem Wf.last:∀ {ts:List Tok},Wf ts→EndT [ts.getLastD noTokT]
 | [],h=>h.elim
 | [t],h=>⟨t,rfl,h⟩
 | _ :: u :: l,h=>by
  have:=Wf.last h.2
  simpa [List.getLastD] using this
def Mk {α:Type} (r:Rs α) (o:Option (α × RS)):Prop:=match r with
 | .out=>True
 | .bad f=>f.err ≠ 0∧∃ x ts,EndT ts∧o=some (x,⟨ts,f.err,f.pos⟩)
 | .ok x ts=>Wx ts∧o=some (x,⟨ts,0,0⟩)
def Bd (s:RS):Prop:=rok s=false∧EndT s.ts
theorem Bd.mk {ts:List Tok} {e p:Int} (h:EndT ts) (he:e ≠ 0):Bd ⟨ts,e,p⟩:=⟨rok_bad he,h⟩
section
variable {s:RS} (h:Bd s)
include h
theorem Bd.kind:(hdT s.ts).kind=0:=by
 obtain ⟨_,t,e,hk⟩:=h
 rw [e];exact hk
theorem ris_f (x:List UInt8):ris x s=false:=by simp [ris,isT,h.kind]
theorem mfail_f (e:Int):mfail e s=s:=by simp [mfail,mfailAt,h.1]
theorem meat_f (x:List UInt8):meat x s=(false,s):=by simp [meat,ris_f h]
theorem mwant_f (x:List UInt8):mwant x s=s:=by simp [mwant,meat_f h,mfail_f h]
theorem mkind_f {k:Int} (hk:k ≠ 0):mkind k s=(noTokT,s):=by
 have:(0:Int) ≠ k:=fun e=>hk e.symm
 simp [mkind,h.kind,this,mfail_f h]
theorem mdeep_f (d:Int):mdeep d s=s:=by simp [mdeep,mfail_f h]
theorem mkindL_f (u:Int):∀ (l:List (List UInt8)) (k:Int),mkindL u l k s=(0,s)
 | [],_=>by simp [mkindL,mfail_f h]
 | _ :: l,_=>by simp [mkindL,meat_f h,mkindL_f u l]
theorem mbase_f:mbase s=(0,s):=by simp [mbase,meat_f h,mkindL_f h]
theorem mstars_f:∀ (f:Nat) (n:Int),mstars f n s=(n,s)
 | 0,_=>rfl
 | f + 1,_=>by simp [mstars,ris_f h]
theorem mtyp_f:mtyp s=(noTy,s):=by simp [mtyp,mbase_f h,mstars_f h,noTy]
theorem mnumber_f:mnumber s=(0,s):=by simp [mnumber,meat_f h,mkind_f h,noTokT]
theorem mlength_f:mlength s=(0,s):=by simp [mlength,meat_f h]
theorem mvals_f (f:Nat) (len:Int) (acc:List Int):mvals (f + 1) len acc s=some (acc,s):=by simp [mvals,h.1]
theorem mprimary_f (f:Nat) (d:Int):mprimary (f + 1) d s=some (noEx,s):=by simp [mprimary,h.kind,mfail_f h]
theorem mpostloop_f (f:Nat) (d:Int) (a:Ex):mpostloop (f + 1) d a s=some (a,s):=by simp [mpostloop,meat_f h]
theorem munary_f (f:Nat) (d:Int):munary (f + 2) d s=some (noEx,s):=by
 rw [munary]
 simp [h.kind,meat_f h,ris_f h,mprimary_f h,mpostloop_f h]
theorem moperand_f (f:Nat) (d:Int):moperand (f + 3) d s=some ([noEx],s):=by
 rw [moperand,mdeep_f h,munary_f h]
 rfl
theorem mbinloop_f (f:Nat) (d:Int) (n:Nat) (a:Ex):mbinloop (f + 1) d n a s=some (a,s):=by simp [mbinloop,h.kind]
theorem mbinary_f (d:Int):∀ (m n f:Nat),n + m=10→mbinary (f + m + 3) d n s=some (noEx,s)
 | 0,n,f,hn=>by
  have:9<n:=by omega
  rw [mbinary,if_pos this]
  exact munary_f h f d
 | m + 1,n,f,hn=>by
  have h1:¬ 9<n:=by omega
  have h2:=mbinary_f d m (n + 1) f (by omega)
  rw [show f + (m + 1) + 3=(f + m + 3) + 1 by omega,mbinary,if_neg h1,h2]
  simp only [Option.bind_some]
  exact mbinloop_f h _ _ _ _
theorem mcond_f (f:Nat) (d:Int):mcond (f + 14) d s=some (noEx,s):=by
 rw [mcond,mbinary_f h d 10 0 f rfl]
 simp [meat_f h]
theorem mexpr_f (f:Nat) (d:Int):mexpr (f + 15) d s=some (noEx,s):=by
 rw [mexpr,mdeep_f h,mcond_f h]
 simp [h.kind]
theorem mparen_f (f:Nat) (d:Int):mparen (f + 15) d s=some (noEx,s):=by
 rw [mparen,mwant_f h,mexpr_f h]
 simp [mwant_f h]
theorem mperhaps_f (f:Nat) (d:Int) (x:List UInt8):mperhaps (f + 15) d x s=some (noEx,s):=by simp [mperhaps,ris_f h,mexpr_f h]
theorem mstmt_f (f:Nat) (d:Int):∃ x,mstmt (f + 16) d s=some (x,s):=by
 rw [mstmt]
 simp [mdeep_f h,h.kind,meat_f h,ris_f h,mexpr_f h,mwant_f h]
theorem mblkloop_f (f:Nat) (d:Int) (acc:List St):mblkloop (f + 1) d acc s=some (acc,s):=by simp [mblkloop,h.1,mwant_f h]
theorem mblock_f (f:Nat) (d:Int):mblock (f + 2) d s=some ([],s):=by
 rw [mblock,mwant_f h,mblkloop_f h]
end
theorem mfailAt_ok (e p:Int) (ts:List Tok):mfailAt e p ⟨ts,0,0⟩=⟨[ts.getLastD noTokT],e,p⟩:=by simp [mfailAt,rok_ok]
theorem mfail_ok (e:Int) (ts:List Tok):mfail e ⟨ts,0,0⟩=⟨[ts.getLastD noTokT],e,(hdT ts).pos⟩:=by simp [mfail,mfailAt,rok_ok]
theorem mnext_ok {ts:List Tok} (hk:(hdT ts).kind ≠ 0) (h:Wx ts):mnext ⟨ts,0,0⟩=⟨nx ts,0,0⟩:=by
 have e:((hdT ts).kind != 0)=true:=by simpa using hk
 rcases ts with _ | ⟨t,_ | ⟨u,l⟩⟩
 ·exact h.1.elim
 ·exact absurd h.1 hk
 ·simp only [mnext,e,if_true]
  simp [nx]
theorem pis_kind {x:List UInt8} {ts:List Tok} (h:pis x ts=true):(hdT ts).kind ≠ 0:=by
 unfold pis isT at h
 intro e
 rw [e] at h
 simp at h
theorem meat_yes {x:List UInt8} {ts:List Tok} (hw:Wx ts) (h:pis x ts=true):meat x ⟨ts,0,0⟩=(true,⟨nx ts,0,0⟩):=by
 have h1:ris x ⟨ts,0,0⟩=true:=h
 simp [meat,h1,mnext_ok (pis_kind h) hw]
theorem meat_no {x:List UInt8} {ts:List Tok} (h:pis x ts=false):meat x ⟨ts,0,0⟩=(false,⟨ts,0,0⟩):=by
 have h1:ris x ⟨ts,0,0⟩=false:=h
 simp [meat,h1]
theorem Mk.fail {α:Type} {e:Int} (he:e ≠ 0) {ts:List Tok} (hw:Wx ts) {o:Option (α × RS)} (h:∃ x,o=some (x,mfail e ⟨ts,0,0⟩)):Mk (pfail e ts) o:=by
 obtain ⟨x,rfl⟩:=h
 exact ⟨he,x,_,hw.1.last,by rw [mfail_ok]⟩
theorem Bd.fail {e:Int} (he:e ≠ 0) {ts:List Tok} (hw:Wx ts):Bd (mfail e ⟨ts,0,0⟩):=by
 rw [mfail_ok]
 exact .mk hw.1.last he
theorem Mk.take {α:Type} {x:List UInt8} {ts:List Tok} (hw:Wx ts) {yes no:List Tok→Rs α} {k:Bool × RS→Option (α × RS)} (hy:Wx (nx ts)→Mk (yes (nx ts)) (k (true,⟨nx ts,0,0⟩))) (hn:Mk (no ts) (k (false,⟨ts,0,0⟩))):Mk (ptake x ts yes no) (k (meat x ⟨ts,0,0⟩)):=by
 unfold ptake
 cases h:pis x ts with
 | true=>rw [meat_yes hw h,if_pos rfl];exact hy (hw.nxT h)
 | false=>rw [meat_no h,if_neg (by decide)];exact hn
theorem Mk.bind {α β:Type} {r:Rs α} {o:Option (α × RS)} {k:α→List Tok→Rs β} {k':α × RS→Option (β × RS)} (hr:Mk r o) (hk:∀ x ts,Wx ts→Mk (k x ts) (k' (x,⟨ts,0,0⟩))) (hb:∀ x s,Bd s→∃ y,k' (x,s)=some (y,s)):Mk (r.bind k) (o.bind k'):=by
 cases r with
 | out=>trivial
 | bad f=>
  obtain ⟨h1,x,ts,h2,rfl⟩:=hr
  obtain ⟨y,hy⟩:=hb x ⟨ts,f.err,f.pos⟩ (.mk h2 h1)
  exact ⟨h1,y,ts,h2,hy⟩
 | ok x ts=>
  obtain ⟨h1,rfl⟩:=hr
  exact hk x ts h1
theorem Mk.bind1 {α β:Type} {r:Rs α} {q:α × RS} {k:α→List Tok→Rs β} {k':α × RS→Option (β × RS)} (hr:Mk r (some q)) (hk:∀ x ts,Wx ts→Mk (k x ts) (k' (x,⟨ts,0,0⟩))) (hb:∀ x s,Bd s→∃ y,k' (x,s)=some (y,s)):Mk (r.bind k) (k' q):=Mk.bind (k':=k') hr hk hb
theorem mwant_mk {ts:List Tok} (hw:Wx ts) (x:List UInt8):Mk (pmust x ts) (some ((),mwant x ⟨ts,0,0⟩)):=by
 unfold pmust
 cases h:pis x ts with
 | true=>
  rw [if_pos rfl]
  exact ⟨hw.nxT h,by simp [mwant,meat_yes hw h]⟩
 | false=>
  rw [if_neg (by decide)]
  exact Mk.fail (by decide) hw ⟨(),by simp [mwant,meat_no h]⟩
theorem Mk.must {α:Type} {x:List UInt8} {ts:List Tok} (hw:Wx ts) {k:Unit→List Tok→Rs α} {k':RS→Option (α × RS)} (hk:∀ us,Wx us→Mk (k () us) (k' ⟨us,0,0⟩)) (hb:∀ s,Bd s→∃ y,k' s=some (y,s)):Mk ((pmust x ts).bind k) (k' (mwant x ⟨ts,0,0⟩)):=
 Mk.bind1 (q:=((),mwant x ⟨ts,0,0⟩)) (k':=fun q=>k' q.2) (mwant_mk hw x) (fun _ us h=>hk us h) (fun _ s h=>hb s h)
theorem mkind_mk {k:Int} (hk:k ≠ 0) {ts:List Tok} (hw:Wx ts):Mk (pkindTok k ts) (some (mkind k ⟨ts,0,0⟩)):=by
 unfold pkindTok mkind
 by_cases h:(hdT ts).kind=k
 ·have e1:((hdT ts).kind == k)=true:=by simpa using h
  have e2:((hdT ts).kind != k)=false:=by simpa using h
  have hn:(hdT ts).kind ≠ 0:=by rw [h];exact hk
  rw [e1]
  simp only [e2,if_true,Bool.false_eq_true,if_false]
  exact ⟨hw.nx hn,by rw [mnext_ok hn hw]⟩
 ·have e1:((hdT ts).kind == k)=false:=by simpa using h
  have e2:((hdT ts).kind != k)=true:=by simpa using h
  rw [e1]
  simp only [e2,if_true,Bool.false_eq_true,if_false]
  exact Mk.fail (by decide) hw ⟨_,rfl⟩
theorem mnumber_mk {ts:List Tok} (hw:Wx ts):Mk (pvalue ts) (some (mnumber ⟨ts,0,0⟩)):=by
 refine Mk.take hw (k:=fun t:Bool × RS=>some (if t.1 then wrap64 (-(mkind 2 t.2).1.n) else (mkind 2 t.2).1.n,(mkind 2 t.2).2)) (fun h=>?_) ?_
 ·unfold pnumber
  have hm:=mkind_mk (k:=2) (by decide) h
  cases hr:pkindTok 2 (nx ts) with
  | out=>trivial
  | bad f=>
   rw [hr] at hm
   obtain ⟨h1,x,us,h2,h3⟩:=hm
   injection h3 with h3
   exact ⟨h1,_,us,h2,by simp [h3];rfl⟩
  | ok x us=>
   rw [hr] at hm
   obtain ⟨h1,h2⟩:=hm
   injection h2 with h2
   exact ⟨h1,by simp [h2]⟩
 ·unfold pnumber
  exact Mk.bind1 (k':=fun t:Tok × RS=>some (t.1.n,t.2)) (mkind_mk (k:=2) (by decide) hw) (fun x us h=>⟨h,rfl⟩) (fun x s _=>⟨_,rfl⟩)
theorem mkindL_mk (u:Int):∀ (l:List (List UInt8)) (k:Int) {ts:List Tok},Wx ts→Mk (pkindL u l k ts) (some (mkindL u l k ⟨ts,0,0⟩))
 | [],_,_,hw=>Mk.fail (by decide) hw ⟨0,rfl⟩
 | w :: l,k,ts,hw=>Mk.take hw (k:=fun t:Bool × RS=>some (if t.1 then (k + u,t.2) else mkindL u l (k + 2) t.2)) (fun h=>⟨h,rfl⟩) (mkindL_mk u l _ hw)
theorem mbase_mk {ts:List Tok} (hw:Wx ts):Mk (pkind ts) (some (mbase ⟨ts,0,0⟩)):=by
 refine Mk.take hw (k:=fun t:Bool × RS=>some (if t.1 then (0,t.2) else mkindL (if (meat bUnsigned t.2).1 then 1 else 0) intWords 1 (meat bUnsigned t.2).2)) (fun h=>⟨h,rfl⟩) ?_
 exact Mk.take hw (k:=fun t:Bool × RS=>some (mkindL (if t.1 then 1 else 0) intWords 1 t.2)) (fun h=>mkindL_mk 1 _ _ h) (mkindL_mk 0 _ _ hw)
theorem mstars_mk:∀ (f:Nat) (n:Int) {ts:List Tok},Wx ts→Mk (pstars f n ts) (some (mstars f n ⟨ts,0,0⟩))
 | 0,_,_,hw=>⟨hw,rfl⟩
 | f + 1,n,ts,hw=>by
  simp only [pstars,mstars]
  have h1:ris [42] ⟨ts,0,0⟩=pis [42] ts:=rfl
  rw [h1]
  cases hp:pis [42] ts with
  | true=>
   simp only [if_true]
   split
   ·exact Mk.fail (by decide) hw ⟨_,rfl⟩
   ·rw [mnext_ok (pis_kind hp) hw];exact mstars_mk f _ (hw.nxT hp)
  | false=>exact ⟨hw,rfl⟩
theorem mtyp_mk {ts:List Tok} (hw:Wx ts):Mk (ptyp ts) (some (mtyp ⟨ts,0,0⟩)):=by
 refine Mk.bind1 (k':=fun q:Int × RS=>some ((⟨q.1,(mstars 5 0 q.2).1,0⟩:Ty),(mstars 5 0 q.2).2)) (mbase_mk hw) (fun k us hu=>?_) (fun k s hs=>by simp [mstars_f hs])
 exact Mk.bind1 (k':=fun q:Int × RS=>some ((⟨k,q.1,0⟩:Ty),q.2)) (mstars_mk 5 0 hu) (fun n vs hv=>⟨hv,rfl⟩) (fun n s _=>⟨_,rfl⟩)
theorem mlen_mk {ts:List Tok} (hw:Wx ts):Mk (plength ts) (some ((mkind 2 ⟨ts,0,0⟩).1.n,mwant [93] (mbetween (mkind 2 ⟨ts,0,0⟩).1.n (hdT ts).pos (mkind 2 ⟨ts,0,0⟩).2))):=by
 unfold plength pnumber
 have e:((pkindTok 2 ts).bind fun t ts=>Rs.ok t.n ts).bind (fun n us=>if (decide (n<1) || decide (64<n))=true then Rs.bad ⟨10,(hdT ts).pos⟩ else (pmust [93] us).bind fun _ us=>.ok n us)=(pkindTok 2 ts).bind fun t us=>if (decide (t.n<1) || decide (64<t.n))=true then Rs.bad ⟨10,(hdT ts).pos⟩ else (pmust [93] us).bind fun _ us=>.ok t.n us:=by
  cases pkindTok 2 ts <;> rfl
 rw [e]
 refine Mk.bind1 (k':=fun q:Tok × RS=>some (q.1.n,mwant [93] (mbetween q.1.n (hdT ts).pos q.2))) (mkind_mk (k:=2) (by decide) hw) (fun t us hu=>?_) (fun t s hs=>⟨t.n,by simp [mbetween,hs.1,mwant_f hs]⟩)
 simp only [mbetween,rok_ok,Bool.true_and]
 split
 ·rw [mfailAt_ok]
  have hb:Bd ⟨[us.getLastD noTokT],10,(hdT ts).pos⟩:=.mk hu.1.last (by decide)
  exact ⟨ten _,_,_,hu.1.last,by rw [mwant_f hb]⟩
 ·exact Mk.must hu (k':=fun s=>some (t.n,s)) (fun vs hv=>⟨hv,rfl⟩) (fun s _=>⟨_,rfl⟩)
theorem mlength_mk {ts:List Tok} (hw:Wx ts):Mk (ptake [91] ts plength fun ts=>.ok 0 ts) (some (mlength ⟨ts,0,0⟩)):=
 Mk.take hw (k:=fun t:Bool × RS=>some (if t.1 then ((mkind 2 t.2).1.n,mwant [93] (mbetween (mkind 2 t.2).1.n (hdT t.2.ts).pos (mkind 2 t.2).2)) else (0,t.2))) (fun h=>mlen_mk h) ⟨hw,rfl⟩
theorem mdeep_ok {d:Int} (h:¬ 20<d) (s:RS):mdeep d s=s:=by simp [mdeep,h]
theorem mdeep_too {d:Int} (h:20<d) {ts:List Tok} (hw:Wx ts):Bd (mdeep d ⟨ts,0,0⟩):=by
 rw [mdeep,if_pos h]
 exact Bd.fail (by decide) hw
theorem Mk.deep {α:Type} {d:Int} {ts:List Tok} (hw:Wx ts) {r:Rs α} {k':RS→Option (α × RS)} (hk:Mk r (k' ⟨ts,0,0⟩)) (hb:∀ s,Bd s→∃ y,k' s=some (y,s)):Mk (if 20<d then pfail 2 ts else r) (k' (mdeep d ⟨ts,0,0⟩)):=by
 by_cases hd:20<d
 ·rw [if_pos hd]
  obtain ⟨y,hy⟩:=hb _ (mdeep_too hd hw)
  refine Mk.fail (by decide) hw ⟨y,?_⟩
  rw [hy,mdeep,if_pos hd]
 ·rw [if_neg hd,mdeep_ok hd]
  exact hk
structure MkE (f:Nat):Prop where
 expr:∀ (g:Nat) (d:Int) (ts:List Tok),Wx ts→2 * f + 20≤g→Mk (pexpr f d ts) (mexpr g d ⟨ts,0,0⟩)
 cond:∀ (g:Nat) (d:Int) (ts:List Tok),Wx ts→2 * f + 20≤g→Mk (pcond f d ts) (mcond g d ⟨ts,0,0⟩)
 binary:∀ (g:Nat) (d:Int) (n:Nat) (ts:List Tok),Wx ts→n≤10→2 * f + 20≤g→Mk (pbinary f d n ts) (mbinary g d n ⟨ts,0,0⟩)
 binloop:∀ (g:Nat) (d:Int) (n:Nat) (a:Ex) (ts:List Tok),Wx ts→n<10→2 * f + 20≤g→Mk (pbinloop f d n a ts) (mbinloop g d n a ⟨ts,0,0⟩)
 operand:∀ (g:Nat) (d:Int) (ts:List Tok),Wx ts→2 * f + 20≤g→Mk (poperand f d ts) (moperand g d ⟨ts,0,0⟩)
 unary:∀ (g:Nat) (d:Int) (ts:List Tok),Wx ts→2 * f + 20≤g→Mk (punary f d ts) (munary g d ⟨ts,0,0⟩)
 primary:∀ (g:Nat) (d:Int) (ts:List Tok),Wx ts→pis [40] ts=false→2 * f + 20≤g→Mk (pprimary f d ts) (mprimary g d ⟨ts,0,0⟩)
 postloop:∀ (g:Nat) (d:Int) (a:Ex) (ts:List Tok),Wx ts→2 * f + 20≤g→Mk (ppostloop f d a ts) (mpostloop g d a ⟨ts,0,0⟩)
 args:∀ (g:Nat) (d:Int) (ts:List Tok),Wx ts→2 * f + 20≤g→Mk (pargs f d ts) (margs g d ⟨ts,0,0⟩)
 argloop:∀ (g:Nat) (d:Int) (acc:List Ex) (ts:List Tok),Wx ts→2 * f + 20≤g→Mk (pargloop f d acc ts) (margloop g d acc ⟨ts,0,0⟩)
theorem sign_kind3 {ts:List Tok} (h:((hdT ts).kind == 3)=true):(hdT ts).kind ≠ 0:=by
 have:(hdT ts).kind=3:=by simpa using h
 omega
theorem ptyped_eq {ts:List Tok} (hw:Wx ts):mtyped ⟨ts,0,0⟩=ptyped ts:=by
 unfold mtyped ptyped isTy ris isT
 simp only
 by_cases h4:(hdT ts).kind=4
 ·simp only [h4]
  simp only [intWords,typeWords,List.mem_cons,List.not_mem_nil,or_false,Bool.decide_or]
  have e:∀ x:List UInt8,((hdT ts).text == x)=decide ((hdT ts).text=x):=fun x=>by
   by_cases h:(hdT ts).text=x <;> simp [h]
  simp only [e]
  cases decide ((hdT ts).text=bVoid) <;> cases decide ((hdT ts).text=bUnsigned) <;> simp
  all_goals rfl
 ·have e4:((hdT ts).kind == 4)=false:=by simpa using h4
  simp only [e4,Bool.or_false,Bool.false_and]
  by_cases h3:(hdT ts).kind=3
  ·have hx:=((hw.hd).2.1 h3).2
   simp only [typeWords,List.mem_cons,List.not_mem_nil,or_false,not_or] at hx
   have e1:((hdT ts).text == bVoid)=false:=by simpa using hx.1
   have e2:((hdT ts).text == bUnsigned)=false:=by simpa using hx.2.2.2.2.2
   simp [e1,e2]
  ·have e3:((hdT ts).kind == 3)=false:=by simpa using h3
   simp [e3]
theorem postfix_no {f:Nat} {d:Int} {ts:List Tok} (h:pis [40] ts=true):ppostfix (f + 2) d ts=(pexpr f (d + 1) (nx ts)).bind fun e us=>(pmust [41] us).bind fun _ us=>ppostloop (f + 1) d e us:=by
 rw [ppostfix,pprimary,ptake,if_pos h]
 cases pexpr f (d + 1) (nx ts) with
 | out=>rfl
 | bad f=>rfl
 | ok e us=>simp only [Rs.bind];cases pmust [41] us <;> rfl
theorem mkE (f:Nat):MkE f:=by
 induction f using Nat.strongRecOn with
 | ind f IH=>
 cases f with
 | zero=>
  constructor <;> intros <;> simp only [pexpr,pcond,pbinary,pbinloop,poperand,punary,pprimary,ppostloop,pargs,pargloop] <;> trivial
 | succ f=>
  have ih:=IH f (by omega)
  constructor
  ·intro g d ts hw hg
   obtain ⟨k,rfl⟩:∃ k,g=k + 1:=⟨g - 1,by omega⟩
   obtain ⟨q,hq⟩:∃ q,k=q + 14:=⟨k - 14,by omega⟩
   rw [pexpr,mexpr]
   refine Mk.deep hw (k':=fun s=>(mcond k d s).bind fun a=>if (hdT a.2.ts).kind != 3 || !misAss (hdT a.2.ts).text then some a else (mexpr k (d + 1) (mnext a.2)).bind fun b=>some (.mk 34 noTy [] (massigns (hdT a.2.ts).text) [a.1,b.1] (hdT a.2.ts).pos,b.2)) ?_ (fun s hs=>?_)
   rotate_left
   ·refine ⟨noEx,?_⟩
    simp only [hq,mcond_f hs]
    simp [hs.kind]
   refine Mk.bind (ih.cond k d ts hw (by omega)) (fun a us hu=>?_) (fun a s hs=>⟨a,by simp [hs.kind]⟩)
   simp only
   by_cases h3:(hdT us).kind=3
   ·have e3:((hdT us).kind != 3)=false:=by simpa using h3
    have ea:=((hu.hd).2.1 h3).1
    rw [e3]
    simp only [Bool.false_or,misAss,ea]
    have hc:(!((hdT us).text == [61] || rassigns (hdT us).text != 0))=((hdT us).text != [61] && rassigns (hdT us).text == 0):=by
     simp only [bne,Bool.not_or,Bool.not_not]
    rw [hc]
    split
    ·exact ⟨hu,rfl⟩
    ·have hn:(hdT us).kind ≠ 0:=by omega
     rw [mnext_ok hn hu]
     exact Mk.bind (ih.expr k (d + 1) (nx us) (hu.nx hn) (by omega)) (fun b vs hv=>⟨hv,rfl⟩) (fun b s _=>⟨_,rfl⟩)
   ·have e3:((hdT us).kind != 3)=true:=by simpa using h3
    simp only [e3,Bool.true_or,if_true]
    exact ⟨hu,rfl⟩
  ·intro g d ts hw hg
   obtain ⟨k,rfl⟩:∃ k,g=k + 1:=⟨g - 1,by omega⟩
   obtain ⟨q,hq⟩:∃ q,k=q + 14:=⟨k - 14,by omega⟩
   rw [pcond,mcond]
   refine Mk.bind (ih.binary k d 0 ts hw (by omega) (by omega)) (fun a us hu=>?_) (fun a s hs=>⟨a,by simp [meat_f hs]⟩)
   refine Mk.take hu (k:=fun t:Bool × RS=>if t.1 then (mexpr k (d + 1) t.2).bind fun b=>(mcond k (d + 1) (mdeep (d + 1) (mwant [58] b.2))).bind fun c=>some (Ex.mk 33 noTy [] 0 [a,b.1,c.1] (hdT us).pos,c.2) else some (a,t.2)) (no:=fun ts=>.ok a ts) (fun hn=>?_) ⟨hu,rfl⟩
   simp only [if_true]
   have hfault:∀ (b:Ex) (s:RS),Bd s→∃ y,((mcond k (d + 1) (mdeep (d + 1) s)).bind fun c=>some (Ex.mk 33 noTy [] 0 [a,b,c.1] (hdT us).pos,c.2))=some (y,s):=fun b s hs=>by
    rw [mdeep_f hs,hq,mcond_f hs]
    exact ⟨_,rfl⟩
   refine Mk.bind (ih.expr k (d + 1) (nx us) hn (by omega)) (fun b vs hv=>?_) (fun b s hs=>by simp only [mwant_f hs];exact hfault b s hs)
   refine Mk.must hv (k':=fun s=>(mcond k (d + 1) (mdeep (d + 1) s)).bind fun c=>some (Ex.mk 33 noTy [] 0 [a,b,c.1] (hdT us).pos,c.2)) (fun ws hws=>?_) (hfault b)
   refine Mk.deep hws (k':=fun s=>(mcond k (d + 1) s).bind fun c=>some (Ex.mk 33 noTy [] 0 [a,b,c.1] (hdT us).pos,c.2)) ?_ (fun s hs=>by simp only [hq,mcond_f hs];exact ⟨_,rfl⟩)
   exact Mk.bind (ih.cond k (d + 1) ws hws (by omega)) (fun c xs hx=>⟨hx,rfl⟩) (fun c s _=>⟨_,rfl⟩)
  ·intro g d n ts hw hn hg
   obtain ⟨k,rfl⟩:∃ k,g=k + 1:=⟨g - 1,by omega⟩
   rw [pbinary,mbinary]
   by_cases h:n=10
   ·rw [if_pos h,if_pos (by omega)]
    exact ih.unary k d ts hw (by omega)
   ·rw [if_neg h,if_neg (by omega)]
    obtain ⟨q,hq⟩:∃ q,k=q + 1:=⟨k - 1,by omega⟩
    exact Mk.bind (ih.binary k d (n + 1) ts hw (by omega) (by omega)) (fun a us hu=>ih.binloop k d n a us hu (by omega) (by omega)) (fun a s hs=>⟨a,by rw [hq];exact mbinloop_f hs _ _ _ _⟩)
  ·intro g d n a ts hw hn hg
   obtain ⟨k,rfl⟩:∃ k,g=k + 1:=⟨g - 1,by omega⟩
   rw [pbinloop,mbinloop]
   simp only
   split
   ·rename_i hc
    have h0:=sign_kind3 (Bool.and_eq_true_iff.1 hc).1
    rw [mnext_ok h0 hw]
    obtain ⟨q,hq⟩:∃ q,k=q + 1:=⟨k - 1,by omega⟩
    exact Mk.bind (ih.binary k d (n + 1) (nx ts) (hw.nx h0) (by omega) (by omega)) (fun b us hu=>ih.binloop k d n _ us hu hn (by omega)) (fun b s hs=>⟨_,by rw [hq];exact mbinloop_f hs _ _ _ _⟩)
   ·exact ⟨hw,rfl⟩
  ·intro g d ts hw hg
   obtain ⟨k,rfl⟩:∃ k,g=k + 1:=⟨g - 1,by omega⟩
   obtain ⟨q,hq⟩:∃ q,k=q + 2:=⟨k - 2,by omega⟩
   rw [poperand,moperand]
   refine Mk.deep hw (k':=fun s=>(munary k d s).bind fun x=>some ([x.1],x.2)) ?_ (fun s hs=>by simp only [hq,munary_f hs];exact ⟨_,rfl⟩)
   exact Mk.bind (ih.unary k d ts hw (by omega)) (fun x us hu=>⟨hu,rfl⟩) (fun x s _=>⟨_,rfl⟩)
  ·intro g d ts hw hg
   obtain ⟨k,rfl⟩:∃ k,g=k + 1:=⟨g - 1,by omega⟩
   obtain ⟨q,hq⟩:∃ q,k=q + 3:=⟨k - 3,by omega⟩
   rw [punary,munary]
   simp only
   have hc:(((hdT ts).kind == 3 || (hdT ts).kind == 4) && lookS (hdT ts).text prefixes != 0)=(lookS (hdT ts).text prefixes != 0 && (hdT ts).kind == 3):=by
    by_cases h4:(hdT ts).kind=4
    ·have:=(hw.hd).1 h4
     simp [this]
    ·have e4:((hdT ts).kind == 4)=false:=by simpa using h4
     rw [e4,Bool.or_false,Bool.and_comm]
   rw [hc]
   split
   ·rename_i hc
    have h0:=sign_kind3 (Bool.and_eq_true_iff.1 hc).2
    rw [mnext_ok h0 hw]
    exact Mk.bind (ih.operand k (d + 1) (nx ts) (hw.nx h0) (by omega)) (fun x us hu=>⟨hu,rfl⟩) (fun x s _=>⟨_,rfl⟩)
   ·obtain ⟨j,hj⟩:∃ j,k=j + 1:=⟨k - 1,by omega⟩
    have h0:ris [40] ⟨ts,0,0⟩=pis [40] ts:=rfl
    cases hp:pis [40] ts with
    | true=>
     have hz:pis bSizeof ts=false:=by
      unfold pis isT at hp ⊢
      simp only [Bool.and_eq_true,beq_iff_eq] at hp
      rw [hp.2,Bool.and_eq_false_iff]
      exact .inr (by decide)
     rw [meat_no hz]
     simp only [Bool.false_eq_true,if_false,h0,hp,if_true,Bool.true_and]
     rw [hj,mcast]
     simp only
     rw [mnext_ok (pis_kind hp) hw,ptyped_eq (hw.nxT hp)]
     split
     ·refine Mk.bind1 (k':=fun q:Ty × RS=>(moperand j (d + 1) (mwant [41] q.2)).bind fun k=>some (Ex.mk 9 q.1 [] 0 k.1 (hdT ts).pos,k.2)) (mtyp_mk (hw.nxT hp)) (fun t us hu=>?_) (fun t s hs=>?_)
      ·refine Mk.must hu (k':=fun s=>(moperand j (d + 1) s).bind fun k=>some (Ex.mk 9 t [] 0 k.1 (hdT ts).pos,k.2)) (fun vs hv=>?_) (fun s hs=>?_)
       ·exact Mk.bind (ih.operand j (d + 1) vs hv (by omega)) (fun x us hu=>⟨hu,rfl⟩) (fun x s _=>⟨_,rfl⟩)
       ·obtain ⟨i,rfl⟩:∃ i,j=i + 3:=⟨j - 3,by omega⟩
        simp only [moperand_f hs];exact ⟨_,rfl⟩
      ·obtain ⟨i,rfl⟩:∃ i,j=i + 3:=⟨j - 3,by omega⟩
       simp only [mwant_f hs,moperand_f hs];exact ⟨_,rfl⟩
     ·rename_i hty
      have hz2:ptake bSizeof ts (fun us=>(pmust [40] us).bind fun _ us=>(ptyp us).bind fun t us=>(pmust [41] us).bind fun _ us=>.ok (.mk 10 t [] 0 [] (hdT ts).pos) us) (ppostfix f d)=ppostfix f d ts:=by simp [ptake,hz]
      rw [hz2]
      obtain ⟨m,hm⟩:∃ m,j=m + 1:=⟨j - 1,by omega⟩
      rcases f with _ | _ | f
      ·rw [ppostfix];trivial
      ·rw [ppostfix,pprimary];trivial
      ·rw [postfix_no hp]
       refine Mk.bind ((IH f (by omega)).expr j (d + 1) (nx ts) (hw.nxT hp) (by omega)) (fun e us hu=>?_) (fun e s hs=>⟨e,by simp only [mwant_f hs,hm];exact mpostloop_f hs _ _ _⟩)
       exact Mk.must hu (k':=fun s=>mpostloop j d e s) (fun vs hv=>(IH (f + 1) (by omega)).postloop j d e vs hv (by omega)) (fun s hs=>⟨e,by rw [hm];exact mpostloop_f hs _ _ _⟩)
    | false=>
     simp only [Bool.false_and,Bool.false_eq_true,if_false]
     refine Mk.take hw (k:=fun t:Bool × RS=>if t.1 then some (Ex.mk 10 (mtyp (mwant [40] t.2)).1 [] 0 [] (hdT ts).pos,mwant [41] (mtyp (mwant [40] t.2)).2) else if ris [40] t.2 then mcast k d t.2 else (mprimary k d t.2).bind fun a=>mpostloop k d a.1 a.2) (fun hn=>?_) ?_
     ·simp only [if_true]
      refine Mk.must hn (k':=fun s=>some (Ex.mk 10 (mtyp s).1 [] 0 [] (hdT ts).pos,mwant [41] (mtyp s).2)) (fun us hu=>?_) (fun s hs=>by simp only [mtyp_f hs,mwant_f hs];exact ⟨_,rfl⟩)
      refine Mk.bind1 (k':=fun q:Ty × RS=>some (Ex.mk 10 q.1 [] 0 [] (hdT ts).pos,mwant [41] q.2)) (mtyp_mk hu) (fun t vs hv=>?_) (fun t s hs=>by simp only [mwant_f hs];exact ⟨_,rfl⟩)
      exact Mk.must hv (k':=fun s=>some (Ex.mk 10 t [] 0 [] (hdT ts).pos,s)) (fun ws hx=>⟨hx,rfl⟩) (fun s _=>⟨_,rfl⟩)
     ·simp only [Bool.false_eq_true,if_false,h0,hp]
      rcases f with _ | f
      ·rw [ppostfix];trivial
      ·rw [ppostfix]
       exact Mk.bind ((IH f (by omega)).primary k d ts hw hp (by omega)) (fun a us hu=>(IH f (by omega)).postloop k d a us hu (by omega)) (fun a s hs=>⟨a,by rw [hj];exact mpostloop_f hs _ _ _⟩)
  ·intro g d ts hw hp hg
   obtain ⟨k,rfl⟩:∃ k,g=k + 1:=⟨g - 1,by omega⟩
   rw [pprimary,mprimary]
   rw [ptake,hp]
   simp only [Bool.false_eq_true,if_false]
   by_cases h2:(hdT ts).kind=2
   ·have e2:((hdT ts).kind == 2)=true:=by simpa using h2
    have hn:(hdT ts).kind ≠ 0:=by omega
    simp only [e2,if_true]
    exact ⟨hw.nx hn,by rw [mnext_ok hn hw]⟩
   ·have e2:((hdT ts).kind == 2)=false:=by simpa using h2
    simp only [e2,Bool.false_eq_true,if_false]
    by_cases h1:(hdT ts).kind=1
    ·have e1:((hdT ts).kind == 1)=true:=by simpa using h1
     have hn:(hdT ts).kind ≠ 0:=by omega
     simp only [e1,if_true]
     rw [mnext_ok hn hw]
     refine Mk.take (hw.nx hn) (k:=fun t:Bool × RS=>if t.1 then (margs k (d + 1) t.2).bind fun k=>some (Ex.mk 35 noTy (hdT ts).text 0 k.1 (hdT ts).pos,k.2) else some (Ex.mk 2 noTy (hdT ts).text 0 [] (hdT ts).pos,t.2)) (no:=fun us=>.ok (.mk 2 noTy (hdT ts).text 0 [] (hdT ts).pos) us) (fun hq=>?_) ⟨hw.nx hn,rfl⟩
     exact Mk.bind (ih.args k (d + 1) (nx (nx ts)) hq (by omega)) (fun q us hu=>⟨hu,rfl⟩) (fun q s _=>⟨_,rfl⟩)
    ·have e1:((hdT ts).kind == 1)=false:=by simpa using h1
     simp only [e1,Bool.false_eq_true,if_false]
     exact Mk.fail (by decide) hw ⟨_,rfl⟩
  ·intro g d a ts hw hg
   obtain ⟨k,rfl⟩:∃ k,g=k + 1:=⟨g - 1,by omega⟩
   rw [ppostloop,mpostloop]
   obtain ⟨q,hq⟩:∃ q,k=q + 1:=⟨k - 1,by omega⟩
   refine Mk.take hw (k:=fun t:Bool × RS=>if t.1 then (mexpr k (d + 1) t.2).bind fun i=>mpostloop k d (.mk 3 noTy [] 0 [a,i.1] (hdT ts).pos) (mwant [93] i.2) else if (meat [43,43] t.2).1 then mpostloop k d (.mk 13 noTy [] 0 [a] (hdT ts).pos) (meat [43,43] t.2).2 else if (meat [45,45] (meat [43,43] t.2).2).1 then mpostloop k d (.mk 14 noTy [] 0 [a] (hdT ts).pos) (meat [45,45] (meat [43,43] t.2).2).2 else some (a,(meat [45,45] (meat [43,43] t.2).2).2)) (fun hn=>?_) ?_
   ·simp only [if_true]
    refine Mk.bind (ih.expr k (d + 1) (nx ts) hn (by omega)) (fun i us hu=>?_) (fun i s hs=>by simp only [mwant_f hs,hq,mpostloop_f hs];exact ⟨_,rfl⟩)
    exact Mk.must hu (k':=fun s=>mpostloop k d (.mk 3 noTy [] 0 [a,i] (hdT ts).pos) s) (fun vs hv=>ih.postloop k d _ vs hv (by omega)) (fun s hs=>by simp only [hq,mpostloop_f hs];exact ⟨_,rfl⟩)
   ·simp only [Bool.false_eq_true,if_false]
    refine Mk.take hw (k:=fun t:Bool × RS=>if t.1 then mpostloop k d (.mk 13 noTy [] 0 [a] (hdT ts).pos) t.2 else if (meat [45,45] t.2).1 then mpostloop k d (.mk 14 noTy [] 0 [a] (hdT ts).pos) (meat [45,45] t.2).2 else some (a,(meat [45,45] t.2).2)) (fun hn=>ih.postloop k d _ (nx ts) hn (by omega)) ?_
    exact Mk.take hw (k:=fun t:Bool × RS=>if t.1 then mpostloop k d (.mk 14 noTy [] 0 [a] (hdT ts).pos) t.2 else some (a,t.2)) (no:=fun ts=>.ok a ts) (fun hn=>ih.postloop k d _ (nx ts) hn (by omega)) ⟨hw,rfl⟩
  ·intro g d ts hw hg
   obtain ⟨k,rfl⟩:∃ k,g=k + 1:=⟨g - 1,by omega⟩
   rw [pargs,margs]
   exact Mk.take hw (k:=fun t:Bool × RS=>if t.1 then some ([],t.2) else margloop k d [] t.2) (fun hn=>⟨hn,rfl⟩) (ih.argloop k d [] ts hw (by omega))
  ·intro g d acc ts hw hg
   obtain ⟨k,rfl⟩:∃ k,g=k + 1:=⟨g - 1,by omega⟩
   obtain ⟨q,hq⟩:∃ q,k=q + 1:=⟨k - 1,by omega⟩
   rw [pargloop,margloop]
   simp only [rok_ok,if_true]
   split
   ·exact Mk.fail (by decide) hw ⟨_,rfl⟩
   ·refine Mk.bind (ih.expr k d ts hw (by omega)) (fun x us hu=>?_) (fun x s hs=>by simp only [meat_f hs,Bool.false_eq_true,if_false,mwant_f hs];exact ⟨_,rfl⟩)
    refine Mk.take hu (k:=fun t:Bool × RS=>if t.1 then margloop k d (acc ++ [x]) t.2 else some (acc ++ [x],mwant [41] t.2)) (fun hn=>ih.argloop k d _ (nx us) hn (by omega)) ?_
    exact Mk.must hu (k':=fun s=>some (acc ++ [x],s)) (fun vs hv=>⟨hv,rfl⟩) (fun s _=>⟨_,rfl⟩)
end Go.Proofs.YtdmacgoeikjdbaaGreatDoor

/- The reference's parser, mirrored, makes of tokens what both parsers ma -/
import Derived.Test.YtdmacgoeikjdbaaGreatDoorK29
set_option linter.unusedSimpArgs false
set_option linter.unusedVariables false
namespace Go.Proofs.YtdmacgoeikjdbaaGreatDoor
open Go.RowKit
def Lk {α:Type} (r:Rs α) (o:Option (α × RS)):Prop:=match r with
 | .out=>True
 | .bad f=>f.err ≠ 0∧∃ x ts,o=some (x,⟨ts,f.err,f.pos⟩)
 | .ok x ts=>o=some (x,⟨ts,0,0⟩)
theorem four (p:Int):(⟨4,p⟩:Flt).err ≠ 0:=by show (4:Int) ≠ 0;decide
theorem two (p:Int):(⟨2,p⟩:Flt).err ≠ 0:=by show (2:Int) ≠ 0;decide
theorem ten (p:Int):(⟨10,p⟩:Flt).err ≠ 0:=by show (10:Int) ≠ 0;decide
theorem rok_ok (ts:List Tok):rok ⟨ts,0,0⟩=true:=rfl
theorem rok_bad {ts:List Tok} {e p:Int} (h:e ≠ 0):rok ⟨ts,e,p⟩=false:=by simpa [rok] using h
section
variable {s:RS} (h:rok s=false)
include h
theorem rtake_f (x:List UInt8):rtake x s=(false,s):=by simp [rtake,h]
theorem rmust_f (x:List UInt8):rmust x s=s:=by simp [rmust,h]
theorem rkindTok_f (k:Int):rkindTok k s=s:=by simp [rkindTok,h]
theorem rname_f:rname s=(([],0),s):=by simp [rname,rkindTok_f h,h]
theorem rnumber_f:rnumber s=(0,s):=by simp [rnumber,rkindTok_f h,h]
theorem rvalue_f:rvalue s=(0,s):=by simp [rvalue,rtake_f h,rnumber_f h]
theorem rstars_f:∀ (f:Nat) (n:Int),rstars f n s=(n,s)
 | 0,_=>rfl
 | f + 1,_=>by simp [rstars,h]
theorem rdeep_f (d:Int):rdeep d s=s:=by simp [rdeep,h]
theorem rvals_f (f:Nat) (len:Int) (acc:List Int):rvals (f + 1) len acc s=some (acc,s):=by simp [rvals,h]
theorem runary_f (f:Nat) (d:Int):runary (f + 1) d s=some (noEx,s):=by simp [runary,h]
theorem rbinloop_f (f:Nat) (d:Int) (n:Nat) (a:Ex):rbinloop (f + 1) d n a s=some (a,s):=by simp [rbinloop,h]
theorem rbinary_f (d:Int):∀ (m n f:Nat),n + m=10→rbinary (f + m + 2) d n s=some (noEx,s)
 | 0,n,f,hn=>by
  have:n=10:=by omega
  simp [rbinary,this,runary_f h]
 | m + 1,n,f,hn=>by
  have h1:n ≠ 10:=by omega
  have h2:=rbinary_f d m (n + 1) f (by omega)
  rw [show f + (m + 1) + 2=(f + m + 2) + 1 by omega,rbinary,if_neg h1,h2]
  simp only [Option.bind_some]
  exact rbinloop_f h _ _ _ _
theorem rcond_f (f:Nat) (d:Int):rcond (f + 13) d s=some (noEx,s):=by
 rw [rcond,rbinary_f h d 10 0 f rfl]
 simp [rtake_f h]
theorem rexpr_f (f:Nat) (d:Int):rexpr (f + 14) d s=some (noEx,s):=by
 rw [rexpr,rdeep_f h,rcond_f h]
 simp [h]
theorem roperand_f (f:Nat) (d:Int):roperand (f + 2) d s=some ([noEx],s):=by
 rw [roperand,rdeep_f h,runary_f h]
 rfl
theorem rpostloop_f (f:Nat) (d:Int) (a:Ex):rpostloop (f + 1) d a s=some (a,s):=by simp [rpostloop,h]
theorem rparen_f (f:Nat) (d:Int):rparen (f + 14) d s=some ([noEx],s):=by
 rw [rparen,rmust_f h,rexpr_f h]
 simp [rmust_f h]
theorem rmaybe_f (f:Nat) (d:Int) (x:List UInt8):rmaybe f d x s=some (noEx,s):=by simp [rmaybe,h]
theorem rstmt_f (f:Nat) (d:Int):rstmt (f + 1) d s=some (noSt,s):=by simp [rstmt,rdeep_f h,h]
theorem rblkloop_f (f:Nat) (d:Int) (acc:List St):rblkloop (f + 1) d acc s=some (acc,s):=by simp [rblkloop,h]
end
theorem rnext_ok (ts:List Tok):rnext ⟨ts,0,0⟩=⟨nx ts,0,0⟩:=by
 unfold rnext nx
 simp only
 split <;> rfl
theorem rtk_yes {x:List UInt8} {ts:List Tok} (h:pis x ts=true):rtake x ⟨ts,0,0⟩=(true,⟨nx ts,0,0⟩):=by
 have h1:ris x ⟨ts,0,0⟩=true:=h
 simp [rtake,rok_ok,h1,rnext_ok]
theorem rtk_no {x:List UInt8} {ts:List Tok} (h:pis x ts=false):rtake x ⟨ts,0,0⟩=(false,⟨ts,0,0⟩):=by
 have h1:ris x ⟨ts,0,0⟩=false:=h
 simp [rtake,h1]
theorem rfail_ok (e:Int) (ts:List Tok):rfail e ⟨ts,0,0⟩=⟨ts,e,(hdT ts).pos⟩:=by simp [rfail,rfailAt,rok_ok]
theorem Lk.take {α:Type} {x:List UInt8} {ts:List Tok} {yes no:List Tok→Rs α} {k:Bool × RS→Option (α × RS)} (hy:Lk (yes (nx ts)) (k (true,⟨nx ts,0,0⟩))) (hn:Lk (no ts) (k (false,⟨ts,0,0⟩))):Lk (ptake x ts yes no) (k (rtake x ⟨ts,0,0⟩)):=by
 unfold ptake
 cases h:pis x ts with
 | true=>rw [rtk_yes h,if_pos rfl];exact hy
 | false=>rw [rtk_no h,if_neg (by decide)];exact hn
theorem Lk.bind {α β:Type} {r:Rs α} {o:Option (α × RS)} {k:α→List Tok→Rs β} {k':α × RS→Option (β × RS)} (hr:Lk r o) (hk:∀ x ts,r=.ok x ts→Lk (k x ts) (k' (x,⟨ts,0,0⟩))) (hb:∀ x s,r ≠ .out→rok s=false→∃ y,k' (x,s)=some (y,s)):Lk (r.bind k) (o.bind k'):=by
 cases r with
 | out=>trivial
 | bad f=>
  obtain ⟨h1,x,ts,rfl⟩:=hr
  obtain ⟨y,hy⟩:=hb x ⟨ts,f.err,f.pos⟩ (fun h=>by cases h) (rok_bad h1)
  exact ⟨h1,y,ts,hy⟩
 | ok x ts=>
  simp only [Lk] at hr
  subst hr
  exact hk x ts rfl
theorem pmust_lk (x:List UInt8) (ts:List Tok):Lk (pmust x ts) (some ((),rmust x ⟨ts,0,0⟩)):=by
 unfold pmust
 cases h:pis x ts with
 | true=>
  rw [if_pos rfl]
  simp [Lk,rmust,rok_ok,rtk_yes h]
 | false=>
  rw [if_neg (by decide)]
  refine ⟨four _,(),ts,?_⟩
  simp [rmust,rok_ok,rtk_no h,rfail_ok]
theorem pkindTok_ok (k:Int) (ts:List Tok):(pkindTok k ts=.ok (hdT ts) (nx ts)∧rkindTok k ⟨ts,0,0⟩=⟨ts,0,0⟩) ∨ (pkindTok k ts=.bad ⟨4,(hdT ts).pos⟩∧rkindTok k ⟨ts,0,0⟩=⟨ts,4,(hdT ts).pos⟩):=by
 unfold pkindTok rkindTok
 by_cases h:(hdT ts).kind=k
 ·refine .inl ⟨by simp [h],by simp [h]⟩
 ·refine .inr ⟨by simp [h,pfail],by simp [h,rok_ok,rfail_ok]⟩
theorem pname_lk (ts:List Tok):Lk (pname ts) (some (rname ⟨ts,0,0⟩)):=by
 unfold pname rname
 rcases pkindTok_ok 1 ts with ⟨h1,h2⟩ | ⟨h1,h2⟩
 ·rw [h1,h2];simp [Rs.bind,Lk,rok_ok,rnext_ok]
 ·rw [h1,h2];exact ⟨four _,_,_,by rw [rok_bad (by decide)];rfl⟩
theorem pnumber_lk (ts:List Tok):Lk (pnumber ts) (some (rnumber ⟨ts,0,0⟩)):=by
 unfold pnumber rnumber
 rcases pkindTok_ok 2 ts with ⟨h1,h2⟩ | ⟨h1,h2⟩
 ·rw [h1,h2];simp [Rs.bind,Lk,rok_ok,rnext_ok]
 ·rw [h1,h2];exact ⟨four _,_,_,by rw [rok_bad (by decide)];rfl⟩
theorem pvalue_lk (ts:List Tok):Lk (pvalue ts) (some (rvalue ⟨ts,0,0⟩)):=by
 unfold pvalue
 refine Lk.take (k:=fun t:Bool × RS=>some (if t.1 then (wrap64 (-(rnumber t.2).1),(rnumber t.2).2) else rnumber t.2)) ?_ ?_
 ·have h:=pnumber_lk (nx ts)
  cases hr:pnumber (nx ts) with
  | out=>trivial
  | bad f=>
   rw [hr] at h
   obtain ⟨h1,x,us,h2⟩:=h
   injection h2 with h2
   exact ⟨h1,wrap64 (-x),us,by simp [h2]⟩
  | ok x us=>
   rw [hr] at h
   simp only [Lk,Option.some.injEq] at h
   simp [Rs.bind,Lk,h]
 ·exact pnumber_lk ts
theorem pkindL_lk (u:Int):∀ (l:List (List UInt8)) (k:Int) (ts:List Tok),Lk (pkindL u l k ts) (some (rkindL u l k ⟨ts,0,0⟩))
 | [],_,ts=>⟨four _,0,ts,by simp [rkindL,rfail_ok]⟩
 | w :: l,k,ts=>by
  exact Lk.take (k:=fun t:Bool × RS=>some (if t.1 then (k + u,t.2) else rkindL u l (k + 2) t.2)) rfl (pkindL_lk u l _ ts)
theorem pkind_lk (ts:List Tok):Lk (pkind ts) (some (rkind ⟨ts,0,0⟩)):=by
 refine Lk.take (k:=fun t:Bool × RS=>some (if t.1 then (0,t.2) else rkindL (if (rtake bUnsigned t.2).1 then 1 else 0) [bChar,bShort,bInt,bLong] 1 (rtake bUnsigned t.2).2)) rfl ?_
 exact Lk.take (k:=fun t:Bool × RS=>some (rkindL (if t.1 then 1 else 0) [bChar,bShort,bInt,bLong] 1 t.2)) (pkindL_lk 1 _ _ _) (pkindL_lk 0 _ _ _)
theorem pstars_lk:∀ (f:Nat) (n:Int) (ts:List Tok),Lk (pstars f n ts) (some (rstars f n ⟨ts,0,0⟩))
 | 0,_,_=>rfl
 | f + 1,n,ts=>by
  simp only [pstars,rstars,rok_ok,Bool.true_and]
  have h1:ris [42] ⟨ts,0,0⟩=pis [42] ts:=rfl
  rw [h1]
  split
  ·split
   ·exact ⟨two _,_,ts,by rw [rfail_ok]⟩
   ·rw [rnext_ok];exact pstars_lk f _ _
  ·rfl
theorem ptyp_lk (ts:List Tok):Lk (ptyp ts) (some (rtyp ⟨ts,0,0⟩)):=by
 have h:=pkind_lk ts
 unfold ptyp rtyp
 cases hr:pkind ts with
 | out=>trivial
 | bad f=>
  rw [hr] at h
  obtain ⟨h1,x,us,h2⟩:=h
  injection h2 with h2
  refine ⟨h1,⟨x,0,0⟩,us,?_⟩
  rw [h2,rstars_f (rok_bad h1)]
 | ok x us=>
  rw [hr] at h
  simp only [Lk,Option.some.injEq] at h
  rw [h]
  have h3:=pstars_lk 5 0 us
  simp only [Rs.bind]
  cases hs:pstars 5 0 us with
  | out=>trivial
  | bad f=>
   rw [hs] at h3
   obtain ⟨h1,y,vs,h2⟩:=h3
   injection h2 with h2
   exact ⟨h1,⟨x,y,0⟩,vs,by rw [h2]⟩
  | ok y vs=>
   rw [hs] at h3
   simp only [Lk,Option.some.injEq] at h3
   simp [Lk,h3]
theorem Lk.of {α:Type} {r:Rs α} {q:α × RS} (h:Lk r (some q)):r=.out ∨ (∃ f,r=.bad f∧f.err ≠ 0∧∃ x ts,q=(x,⟨ts,f.err,f.pos⟩)) ∨ ∃ x ts,r=.ok x ts∧q=(x,⟨ts,0,0⟩):=by
 cases r with
 | out=>exact .inl rfl
 | bad f=>
  obtain ⟨h1,x,ts,h2⟩:=h
  injection h2 with h2
  exact .inr (.inl ⟨f,rfl,h1,x,ts,h2⟩)
 | ok x ts=>
  simp only [Lk,Option.some.injEq] at h
  exact .inr (.inr ⟨x,ts,rfl,h⟩)
theorem plength_lk (ts:List Tok):Lk (plength ts) (some (rlength ⟨ts,0,0⟩)):=by
 unfold plength rlength
 rcases (pnumber_lk ts).of with h | ⟨f,h,h1,x,us,h2⟩ | ⟨n,us,h,h2⟩
 ·rw [h];trivial
 ·rw [h,h2]
  have hf:rok ⟨us,f.err,f.pos⟩=false:=rok_bad h1
  exact ⟨h1,x,us,by simp [rbetween,hf,rmust_f hf]⟩
 ·rw [h,h2]
  simp only [Rs.bind]
  split
  ·rename_i hc
   have h3:rbetween n (hdT ts).pos ⟨us,0,0⟩=⟨us,10,(hdT ts).pos⟩:=by
    unfold rbetween
    rw [rok_ok,Bool.true_and,if_pos hc]
    simp [rfailAt,rok_ok]
   rw [h3,rmust_f (rok_bad (by decide))]
   exact ⟨ten _,n,us,rfl⟩
  ·rename_i hc
   have h3:rbetween n (hdT ts).pos ⟨us,0,0⟩=⟨us,0,0⟩:=by
    unfold rbetween
    rw [rok_ok,Bool.true_and,if_neg hc]
   rw [h3]
   rcases (pmust_lk [93] us).of with h | ⟨f,h,h1,x,vs,h4⟩ | ⟨x,vs,h,h4⟩
   ·rw [h];trivial
   ·rw [h]
    injection h4 with _ h4
    exact ⟨h1,n,vs,by rw [h4]⟩
   ·rw [h]
    injection h4 with _ h4
    simp [Lk,h4]
theorem Lk.must {α:Type} {x:List UInt8} {ts:List Tok} {k:Unit→List Tok→Rs α} {k':RS→Option (α × RS)} (hk:Lk (k () (nx ts)) (k' ⟨nx ts,0,0⟩)) (hb:∀ s,rok s=false→∃ y,k' s=some (y,s)):Lk ((pmust x ts).bind k) (k' (rmust x ⟨ts,0,0⟩)):=by
 rcases (pmust_lk x ts).of with h | ⟨f,h,h1,_,vs,h4⟩ | ⟨_,vs,h,h4⟩
 ·rw [h];trivial
 ·rw [h]
  injection h4 with _ h4
  rw [h4]
  obtain ⟨y,hy⟩:=hb ⟨vs,f.err,f.pos⟩ (rok_bad h1)
  exact ⟨h1,y,vs,hy⟩
 ·have hv:vs=nx ts:=by
   unfold pmust at h
   split at h
   ·injection h with _ h;exact h.symm
   ·cases h
  rw [h]
  injection h4 with _ h4
  rw [h4,hv]
  exact hk
structure LkE (f:Nat):Prop where
 expr:∀ (g:Nat) (d:Int) (ts:List Tok),f + 20≤g→Lk (pexpr f d ts) (rexpr g d ⟨ts,0,0⟩)
 cond:∀ (g:Nat) (d:Int) (ts:List Tok),f + 20≤g→Lk (pcond f d ts) (rcond g d ⟨ts,0,0⟩)
 binary:∀ (g:Nat) (d:Int) (n:Nat) (ts:List Tok),n≤10→f + 20≤g→Lk (pbinary f d n ts) (rbinary g d n ⟨ts,0,0⟩)
 binloop:∀ (g:Nat) (d:Int) (n:Nat) (a:Ex) (ts:List Tok),n<10→f + 20≤g→Lk (pbinloop f d n a ts) (rbinloop g d n a ⟨ts,0,0⟩)
 operand:∀ (g:Nat) (d:Int) (ts:List Tok),f + 20≤g→Lk (poperand f (d + 1) ts) (roperand g d ⟨ts,0,0⟩)
 unary:∀ (g:Nat) (d:Int) (ts:List Tok),f + 20≤g→Lk (punary f d ts) (runary g d ⟨ts,0,0⟩)
 postfix_:∀ (g:Nat) (d:Int) (ts:List Tok),f + 20≤g→Lk (ppostfix f d ts) (rpostfix g d ⟨ts,0,0⟩)
 postloop:∀ (g:Nat) (d:Int) (a:Ex) (ts:List Tok),f + 20≤g→Lk (ppostloop f d a ts) (rpostloop g d a ⟨ts,0,0⟩)
 primary:∀ (g:Nat) (d:Int) (ts:List Tok),f + 20≤g→Lk (pprimary f d ts) (rprimary g d ⟨ts,0,0⟩)
 args:∀ (g:Nat) (d:Int) (ts:List Tok),f + 20≤g→Lk (pargs f (d + 1) ts) (if (rtake [41] ⟨ts,0,0⟩).1 then some ([],(rtake [41] ⟨ts,0,0⟩).2) else (rargs g d [] (rtake [41] ⟨ts,0,0⟩).2).bind fun k=>some (k.1,rmust [41] k.2))
 argloop:∀ (g:Nat) (d:Int) (acc:List Ex) (ts:List Tok),f + 20≤g→Lk (pargloop f (d + 1) acc ts) ((rargs g d acc ⟨ts,0,0⟩).bind fun k=>some (k.1,rmust [41] k.2))
theorem rdeep_ok {d:Int} (h:¬ 20<d) (ts:List Tok):rdeep d ⟨ts,0,0⟩=⟨ts,0,0⟩:=by simp [rdeep,h]
theorem rdeep_too {d:Int} (h:20<d) (ts:List Tok):rdeep d ⟨ts,0,0⟩=⟨ts,2,(hdT ts).pos⟩:=by simp [rdeep,h,rok_ok,rfail_ok]
theorem runop_lk (ts:List Tok):∀ l:List (List UInt8 × Int),(∀ y ∈ l,y.2 ≠ 0)→runop ⟨ts,0,0⟩ l=if ((hdT ts).kind == 3 || (hdT ts).kind == 4) && lookS (hdT ts).text l != 0 then some (lookS (hdT ts).text l) else none
 | [],_=>by simp [runop,lookS]
 | (y,n) :: l,h=>by
  simp only [runop,lookS]
  have hn:n ≠ 0:=h _ List.mem_cons_self
  have ih:=runop_lk ts l (fun z hz=>h z (List.mem_cons_of_mem _ hz))
  cases hp:pis y ts with
  | true=>
   rw [rtk_yes hp]
   unfold pis isT at hp
   simp only [Bool.and_eq_true,beq_iff_eq] at hp
   rw [hp.1]
   simp [hp.2,hn]
  | false=>
   rw [rtk_no hp]
   simp only [Bool.false_eq_true,if_false]
   rw [ih]
   by_cases hy:y=(hdT ts).text
   ·have hk:((hdT ts).kind == 3 || (hdT ts).kind == 4)=false:=by
     unfold pis isT at hp
     simpa [hy] using hp
    simp [hk]
   ·simp [hy]
theorem prefixes_ne:∀ y ∈ prefixes,y.2 ≠ 0:=by decide
theorem typed_one (ts:List Tok):(pis [40] ts && rtyped 1 ⟨ts,0,0⟩)=(pis [40] ts && ptyped (nx ts)):=by
 cases hp:pis [40] ts with
 | false=>rfl
 | true=>
  simp only [Bool.true_and]
  unfold rtyped ptyped nx
  by_cases hl:1<ts.length
  ·rw [if_pos hl]
   rcases ts with _ | ⟨t,_ | ⟨u,l⟩⟩
   ·simp at hl
   ·simp at hl
   ·simp [hdT]
  ·rw [if_neg hl]
   have h1:isTy (hdT ts)=false:=by
    unfold pis isT at hp
    simp only [Bool.and_eq_true,beq_iff_eq] at hp
    unfold isTy
    rw [hp.2]
    have:decide (([40]:List UInt8) ∈ typeWords)=false:=by decide
    rw [this,Bool.and_false]
   simp [hl,h1]
theorem lkE:∀ f:Nat,LkE f
 | 0=>by
  constructor <;> intros <;> simp only [pexpr,pcond,pbinary,pbinloop,poperand,punary,ppostfix,ppostloop,pprimary,pargs,pargloop] <;> trivial
 | f + 1=>by
  have ih:=lkE f
  constructor
  ·intro g d ts hg
   obtain ⟨k,rfl⟩:∃ k,g=k + 1:=⟨g - 1,by omega⟩
   rw [pexpr,rexpr]
   by_cases hd:20<d
   ·rw [if_pos hd,rdeep_too hd]
    have hb:rok ⟨ts,2,(hdT ts).pos⟩=false:=rok_bad (by decide)
    obtain ⟨q,rfl⟩:∃ q,k=q + 13:=⟨k - 13,by omega⟩
    rw [rcond_f hb]
    exact ⟨two _,noEx,ts,by simp [hb]⟩
   ·rw [if_neg hd,rdeep_ok hd]
    refine Lk.bind (ih.cond k d ts (by omega)) (fun a us _=>?_) (fun a s _ hs=>⟨a,by simp [hs]⟩)
    simp only [rok_ok,Bool.not_true,Bool.false_or]
    split
    ·rfl
    ·rw [rnext_ok]
     exact Lk.bind (ih.expr k (d + 1) (nx us) (by omega)) (fun b vs _=>rfl) (fun b s _ _=>⟨_,rfl⟩)
  ·intro g d ts hg
   obtain ⟨k,rfl⟩:∃ k,g=k + 1:=⟨g - 1,by omega⟩
   rw [pcond,rcond]
   refine Lk.bind (ih.binary k d 0 ts (by omega) (by omega)) (fun a us _=>?_) (fun a s _ hs=>⟨a,by simp [rtake_f hs]⟩)
   refine Lk.take (k:=fun t:Bool × RS=>if t.1 then (rexpr k (d + 1) t.2).bind fun b=>(rcond k (d + 1) (rdeep (d + 1) (rmust [58] b.2))).bind fun c=>some (Ex.mk 33 noTy [] 0 [a,b.1,c.1] (hdT us).pos,c.2) else some (a,t.2)) (no:=fun ts=>.ok a ts) ?_ ?_
   rotate_left
   ·rfl
   simp only [if_true]
   obtain ⟨q,hq⟩:∃ q,k=q + 13:=⟨k - 13,by omega⟩
   have hfault:∀ (b:Ex) (s:RS),rok s=false→∃ y,((rcond k (d + 1) (rdeep (d + 1) s)).bind fun c=>some (Ex.mk 33 noTy [] 0 [a,b,c.1] (hdT us).pos,c.2))=some (y,s):=fun b s hs=>by
    rw [rdeep_f hs,hq,rcond_f hs]
    exact ⟨_,rfl⟩
   refine Lk.bind (ih.expr k (d + 1) (nx us) (by omega)) (fun b vs _=>?_) (fun b s _ hs=>by simp only [rmust_f hs];exact hfault b s hs)
   refine Lk.must (k':=fun s=>(rcond k (d + 1) (rdeep (d + 1) s)).bind fun c=>some (Ex.mk 33 noTy [] 0 [a,b,c.1] (hdT us).pos,c.2)) ?_ (hfault b)
   by_cases hd:20<d + 1
   ·rw [if_pos hd,rdeep_too hd]
    have hb:rok ⟨nx vs,2,(hdT (nx vs)).pos⟩=false:=rok_bad (by decide)
    rw [hq,rcond_f hb]
    exact ⟨two _,_,nx vs,rfl⟩
   ·rw [if_neg hd,rdeep_ok hd]
    exact Lk.bind (ih.cond k (d + 1) (nx vs) (by omega)) (fun c ws _=>rfl) (fun c s _ _=>⟨_,rfl⟩)
  ·intro g d n ts hn hg
   obtain ⟨k,rfl⟩:∃ k,g=k + 1:=⟨g - 1,by omega⟩
   rw [pbinary,rbinary]
   split
   ·exact ih.unary k d ts (by omega)
   ·obtain ⟨q,hq⟩:∃ q,k=q + 1:=⟨k - 1,by omega⟩
    exact Lk.bind (ih.binary k d (n + 1) ts (by omega) (by omega)) (fun a us _=>ih.binloop k d n a us (by omega) (by omega)) (fun a s _ hs=>⟨a,by rw [hq];exact rbinloop_f hs _ _ _ _⟩)
  ·intro g d n a ts hn hg
   obtain ⟨k,rfl⟩:∃ k,g=k + 1:=⟨g - 1,by omega⟩
   rw [pbinloop,rbinloop]
   simp only [rok_ok,Bool.true_and]
   split
   ·rw [rnext_ok]
    obtain ⟨q,hq⟩:∃ q,k=q + 1:=⟨k - 1,by omega⟩
    exact Lk.bind (ih.binary k d (n + 1) (nx ts) (by omega) (by omega)) (fun b us _=>ih.binloop k d n _ us hn (by omega)) (fun b s _ hs=>⟨_,by rw [hq];exact rbinloop_f hs _ _ _ _⟩)
   ·rfl
  ·intro g d ts hg
   obtain ⟨k,rfl⟩:∃ k,g=k + 1:=⟨g - 1,by omega⟩
   rw [poperand,roperand]
   by_cases hd:20<d + 1
   ·rw [if_pos hd,rdeep_too hd]
    have hb:rok ⟨ts,2,(hdT ts).pos⟩=false:=rok_bad (by decide)
    obtain ⟨q,rfl⟩:∃ q,k=q + 1:=⟨k - 1,by omega⟩
    rw [runary_f hb]
    exact ⟨two _,_,ts,rfl⟩
   ·rw [if_neg hd,rdeep_ok hd]
    exact Lk.bind (ih.unary k (d + 1) ts (by omega)) (fun x us _=>rfl) (fun x s _ _=>⟨_,rfl⟩)
  ·intro g d ts hg
   obtain ⟨k,rfl⟩:∃ k,g=k + 1:=⟨g - 1,by omega⟩
   rw [punary,runary]
   simp only [rok_ok,Bool.not_true,Bool.false_eq_true,if_false]
   rw [runop_lk ts prefixes prefixes_ne]
   obtain ⟨q,hq⟩:∃ q,k=q + 2:=⟨k - 2,by omega⟩
   cases hc:(((hdT ts).kind == 3 || (hdT ts).kind == 4) && lookS (hdT ts).text prefixes != 0) with
   | true=>
    simp only [if_true,rnext_ok]
    exact Lk.bind (ih.operand k d (nx ts) (by omega)) (fun x us _=>rfl) (fun x s _ _=>⟨_,rfl⟩)
   | false=>
    simp only [Bool.false_eq_true,if_false]
    have h1:ris [40] ⟨ts,0,0⟩=pis [40] ts:=rfl
    rw [h1,typed_one]
    split
    ·rw [rnext_ok]
     rcases (ptyp_lk (nx ts)).of with h | ⟨f,h,h1,t,us,h2⟩ | ⟨t,us,h,h2⟩
     ·rw [h];trivial
     ·rw [h,h2]
      have hb:rok ⟨us,f.err,f.pos⟩=false:=rok_bad h1
      simp only [rmust_f hb]
      rw [hq,roperand_f hb]
      exact ⟨h1,_,us,rfl⟩
     ·rw [h,h2]
      refine Lk.must (k':=fun s=>(roperand k d s).bind fun o=>some (Ex.mk 9 t [] 0 o.1 (hdT ts).pos,o.2)) ?_ (fun s hs=>?_)
      ·exact Lk.bind (ih.operand k d (nx us) (by omega)) (fun x us _=>rfl) (fun x s _ _=>⟨_,rfl⟩)
      ·simp only [hq,roperand_f hs]
       exact ⟨_,rfl⟩
    ·refine Lk.take (k:=fun t:Bool × RS=>if t.1 then (if rok (rmust [40] t.2) then some (Ex.mk 10 (rtyp (rmust [40] t.2)).1 [] 0 [] (hdT ts).pos,rmust [41] (rtyp (rmust [40] t.2)).2) else some (Ex.mk 10 noTy [] 0 [] (hdT ts).pos,rmust [41] (rmust [40] t.2))) else rpostfix k d t.2) ?_ (ih.postfix_ k d ts (by omega))
     simp only [if_true]
     refine Lk.must (k':=fun s1=>if rok s1 then some (Ex.mk 10 (rtyp s1).1 [] 0 [] (hdT ts).pos,rmust [41] (rtyp s1).2) else some (Ex.mk 10 noTy [] 0 [] (hdT ts).pos,rmust [41] s1)) ?_ (fun s hs=>by simp only [hs,Bool.false_eq_true,if_false,rmust_f hs];exact ⟨_,rfl⟩)
     simp only [rok_ok,if_true]
     rcases (ptyp_lk (nx (nx ts))).of with h | ⟨f,h,h1,t,us,h2⟩ | ⟨t,us,h,h2⟩
     ·rw [h];trivial
     ·rw [h,h2]
      have hb:rok ⟨us,f.err,f.pos⟩=false:=rok_bad h1
      simp only [rmust_f hb]
      exact ⟨h1,_,us,rfl⟩
     ·rw [h,h2]
      exact Lk.must (k':=fun s=>some (Ex.mk 10 t [] 0 [] (hdT ts).pos,s)) rfl (fun s _=>⟨_,rfl⟩)
  ·intro g d ts hg
   obtain ⟨k,rfl⟩:∃ k,g=k + 1:=⟨g - 1,by omega⟩
   rw [ppostfix,rpostfix]
   obtain ⟨q,hq⟩:∃ q,k=q + 1:=⟨k - 1,by omega⟩
   exact Lk.bind (ih.primary k d ts (by omega)) (fun a us _=>ih.postloop k d a us (by omega)) (fun a s _ hs=>⟨a,by rw [hq];exact rpostloop_f hs _ _ _⟩)
  ·intro g d a ts hg
   obtain ⟨k,rfl⟩:∃ k,g=k + 1:=⟨g - 1,by omega⟩
   rw [ppostloop,rpostloop]
   simp only [rok_ok,if_true]
   obtain ⟨q,hq⟩:∃ q,k=q + 1:=⟨k - 1,by omega⟩
   refine Lk.take (k:=fun t:Bool × RS=>if t.1 then (rexpr k (d + 1) t.2).bind fun i=>rpostloop k d (.mk 3 noTy [] 0 [a,i.1] (hdT ts).pos) (rmust [93] i.2) else if (rtake [43,43] t.2).1 then rpostloop k d (.mk 13 noTy [] 0 [a] (hdT ts).pos) (rtake [43,43] t.2).2 else if (rtake [45,45] (rtake [43,43] t.2).2).1 then rpostloop k d (.mk 14 noTy [] 0 [a] (hdT ts).pos) (rtake [45,45] (rtake [43,43] t.2).2).2 else some (a,(rtake [45,45] (rtake [43,43] t.2).2).2)) ?_ ?_
   ·simp only [if_true]
    refine Lk.bind (ih.expr k (d + 1) (nx ts) (by omega)) (fun i us _=>?_) (fun i s _ hs=>by simp only [rmust_f hs,hq,rpostloop_f hs];exact ⟨_,rfl⟩)
    exact Lk.must (k':=fun s=>rpostloop k d (.mk 3 noTy [] 0 [a,i] (hdT ts).pos) s) (ih.postloop k d _ (nx us) (by omega)) (fun s hs=>by simp only [hq,rpostloop_f hs];exact ⟨_,rfl⟩)
   ·simp only [Bool.false_eq_true,if_false]
    refine Lk.take (k:=fun t:Bool × RS=>if t.1 then rpostloop k d (.mk 13 noTy [] 0 [a] (hdT ts).pos) t.2 else if (rtake [45,45] t.2).1 then rpostloop k d (.mk 14 noTy [] 0 [a] (hdT ts).pos) (rtake [45,45] t.2).2 else some (a,(rtake [45,45] t.2).2)) (ih.postloop k d _ (nx ts) (by omega)) ?_
    exact Lk.take (k:=fun t:Bool × RS=>if t.1 then rpostloop k d (.mk 14 noTy [] 0 [a] (hdT ts).pos) t.2 else some (a,t.2)) (no:=fun ts=>.ok a ts) (ih.postloop k d _ (nx ts) (by omega)) rfl
  ·intro g d ts hg
   obtain ⟨k,rfl⟩:∃ k,g=k + 1:=⟨g - 1,by omega⟩
   rw [pprimary,rprimary]
   refine Lk.take (k:=fun t:Bool × RS=>if t.1 then (rexpr k (d + 1) t.2).bind fun e=>some (e.1,rmust [41] e.2) else if (hdT ts).kind == 2 then some (Ex.mk 1 noTy [] (hdT ts).n [] (hdT ts).pos,rnext t.2) else if (hdT ts).kind != 1 then some (noEx,rfail 4 t.2) else if (rtake [40] (rnext t.2)).1 then (if (rtake [41] (rtake [40] (rnext t.2)).2).1 then some (Ex.mk 35 noTy (hdT ts).text 0 [] (hdT ts).pos,(rtake [41] (rtake [40] (rnext t.2)).2).2) else (rargs k d [] (rtake [41] (rtake [40] (rnext t.2)).2).2).bind fun q=>some (Ex.mk 35 noTy (hdT ts).text 0 q.1 (hdT ts).pos,rmust [41] q.2)) else some (Ex.mk 2 noTy (hdT ts).text 0 [] (hdT ts).pos,(rtake [40] (rnext t.2)).2)) ?_ ?_
   ·simp only [if_true]
    exact Lk.bind (ih.expr k (d + 1) (nx ts) (by omega)) (fun e us _=>Lk.must (k':=fun s=>some (e,s)) rfl (fun s _=>⟨_,rfl⟩)) (fun e s _ hs=>⟨e,by rw [rmust_f hs]⟩)
   ·simp only [Bool.false_eq_true,if_false,rnext_ok,rfail_ok]
    split
    ·rfl
    ·by_cases h1:(hdT ts).kind=1
     ·have e1:((hdT ts).kind == 1)=true:=by simpa using h1
      have e2:((hdT ts).kind != 1)=false:=by simpa using h1
      rw [e1,e2]
      simp only [if_true,Bool.false_eq_true,if_false]
      refine Lk.take (k:=fun t:Bool × RS=>if t.1 then (if (rtake [41] t.2).1 then some (Ex.mk 35 noTy (hdT ts).text 0 [] (hdT ts).pos,(rtake [41] t.2).2) else (rargs k d [] (rtake [41] t.2).2).bind fun q=>some (Ex.mk 35 noTy (hdT ts).text 0 q.1 (hdT ts).pos,rmust [41] q.2)) else some (Ex.mk 2 noTy (hdT ts).text 0 [] (hdT ts).pos,t.2)) ?_ rfl
      simp only [if_true]
      have ha:=ih.args k d (nx (nx ts)) (by omega)
      have hm:=Lk.bind (k:=fun (q:List Ex) us=>Rs.ok (Ex.mk 35 noTy (hdT ts).text 0 q (hdT ts).pos) us) (k':=fun q:List Ex × RS=>some (Ex.mk 35 noTy (hdT ts).text 0 q.1 (hdT ts).pos,q.2)) ha (fun q us _=>rfl) (fun q s _ _=>⟨_,rfl⟩)
      cases hp:(rtake [41] (⟨nx (nx ts),0,0⟩:RS)).1 with
      | true=>rw [hp] at hm;simpa using hm
      | false=>rw [hp] at hm;simpa [Option.bind_assoc] using hm
     ·have e1:((hdT ts).kind == 1)=false:=by simpa using h1
      have e2:((hdT ts).kind != 1)=true:=by simpa using h1
      rw [e1,e2]
      exact ⟨four _,_,ts,rfl⟩
  ·intro g d ts hg
   rw [pargs]
   exact Lk.take (k:=fun t:Bool × RS=>if t.1 then some ([],t.2) else (rargs g d [] t.2).bind fun k=>some (k.1,rmust [41] k.2)) rfl (ih.argloop g d [] ts (by omega))
  ·intro g d acc ts hg
   obtain ⟨k,rfl⟩:∃ k,g=k + 1:=⟨g - 1,by omega⟩
   rw [pargloop,rargs]
   simp only [rok_ok,if_true]
   split
   ·rw [rfail_ok]
    have hb:rok ⟨ts,2,(hdT ts).pos⟩=false:=rok_bad (by decide)
    exact ⟨two _,acc,ts,by simp only [Option.bind_some,rmust_f hb]⟩
   ·rw [Option.bind_assoc]
    refine Lk.bind (ih.expr k (d + 1) ts (by omega)) (fun x us _=>?_) (fun x s _ hs=>by simp only [rtake_f hs,Bool.false_eq_true,if_false,Option.bind_some,rmust_f hs];exact ⟨_,rfl⟩)
    refine Lk.take (k:=fun t:Bool × RS=>(if t.1 then rargs k d (acc ++ [x]) t.2 else some (acc ++ [x],t.2)).bind fun k=>some (k.1,rmust [41] k.2)) (ih.argloop k d _ (nx us) (by omega)) ?_
    exact Lk.must (k':=fun s=>some (acc ++ [x],s)) rfl (fun s _=>⟨_,rfl⟩)
end Go.Proofs.YtdmacgoeikjdbaaGreatDoor

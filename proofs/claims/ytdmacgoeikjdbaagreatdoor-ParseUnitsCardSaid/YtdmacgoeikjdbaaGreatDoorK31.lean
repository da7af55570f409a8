/- The reference's parser, mirrored, makes of tokens what both parsers ma -/
import Derived.Test.YtdmacgoeikjdbaaGreatDoorK30
set_option linter.unusedSimpArgs false
set_option linter.unusedVariables false
namespace Go.Proofs.YtdmacgoeikjdbaaGreatDoor
open Go.RowKit
theorem ptake_yes {α:Type} {x:List UInt8} {ts:List Tok} {yes no:List Tok→Rs α} (h:pis x ts=true):ptake x ts yes no=yes (nx ts):=by simp [ptake,h]
theorem ptake_no {α:Type} {x:List UInt8} {ts:List Tok} {yes no:List Tok→Rs α} (h:pis x ts=false):ptake x ts yes no=no ts:=by simp [ptake,h]
theorem Rs.bind_one {α β:Type} (r:Rs α) (K:List α→List Tok→Rs β):(r.bind fun e us=>K [e] us)=(r.bind fun e us=>Rs.ok [e] us).bind K:=by cases r <;> rfl
theorem pvals_lk:∀ (f g:Nat) (len:Int) (acc:List Int) (ts:List Tok),f≤g→Lk (pvals f len acc ts) (rvals g len acc ⟨ts,0,0⟩)
 | 0,_,_,_,_,_=>trivial
 | f + 1,g,len,acc,ts,hg=>by
  obtain ⟨k,rfl⟩:∃ k,g=k + 1:=⟨g - 1,by omega⟩
  rw [pvals,rvals]
  simp only [rok_ok,if_true]
  have h0:rfull (acc.length:Int) len ⟨ts,0,0⟩=if (acc.length:Int) == len && (pis [45] ts || (hdT ts).kind == 2) then rfail 10 ⟨ts,0,0⟩ else ⟨ts,0,0⟩:=rfl
  rw [h0]
  split
  ·rw [rfail_ok]
   have hb:rok ⟨ts,10,(hdT ts).pos⟩=false:=rok_bad (by decide)
   simp only [rvalue_f hb,rtake_f hb]
   exact ⟨ten _,acc ++ [0],ts,rfl⟩
  ·rcases (pvalue_lk ts).of with h | ⟨f,h,h1,x,us,h2⟩ | ⟨v,us,h,h2⟩
   ·rw [h];trivial
   ·rw [h,h2]
    have hb:rok ⟨us,f.err,f.pos⟩=false:=rok_bad h1
    simp only [rtake_f hb]
    exact ⟨h1,acc ++ [x],us,rfl⟩
   ·rw [h,h2]
    simp only [Rs.bind]
    cases hp:pis [44] us with
    | true=>rw [ptake_yes hp,rtk_yes hp];exact pvals_lk f k len _ _ (by omega)
    | false=>rw [ptake_no hp,rtk_no hp];rfl
theorem pparams1_lk:∀ (f g:Nat) (acc:List De) (ts:List Tok),f≤g→Lk (pparams1 f acc ts) (rparams1 g acc ⟨ts,0,0⟩)
 | 0,_,_,_,_=>trivial
 | f + 1,g,acc,ts,hg=>by
  obtain ⟨k,rfl⟩:∃ k,g=k + 1:=⟨g - 1,by omega⟩
  rw [pparams1,rparams1]
  simp only [rok_ok,if_true]
  split
  ·rw [rfail_ok];exact ⟨two _,acc,ts,rfl⟩
  ·rcases (ptyp_lk ts).of with h | ⟨f,h,h1,x,us,h2⟩ | ⟨t,us,h,h2⟩
   ·rw [h];trivial
   ·rw [h,h2]
    have hb:rok ⟨us,f.err,f.pos⟩=false:=rok_bad h1
    simp only [rname_f hb,rtake_f hb]
    exact ⟨h1,acc ++ [⟨[],x,[],0⟩],us,rfl⟩
   ·rw [h,h2]
    simp only [Rs.bind]
    rcases (pname_lk us).of with h | ⟨f,h,h1,x,vs,h2⟩ | ⟨n,vs,h,h2⟩
    ·rw [h];trivial
    ·rw [h,h2]
     have hb:rok ⟨vs,f.err,f.pos⟩=false:=rok_bad h1
     simp only [rtake_f hb]
     exact ⟨h1,acc ++ [⟨x.1,t,[],x.2⟩],vs,rfl⟩
    ·rw [h,h2]
     simp only
     cases hp:pis [44] vs with
     | true=>rw [ptake_yes hp,rtk_yes hp];exact pparams1_lk f k _ _ (by omega)
     | false=>rw [ptake_no hp,rtk_no hp];rfl
theorem pparams_lk (f g:Nat) (ts:List Tok) (hf:f≤g) (hg:0<g):Lk (pparams f ts) (rparams g ⟨ts,0,0⟩):=by
 unfold pparams rparams
 cases hp:pis [41] ts with
 | true=>rw [ptake_yes hp,rtk_yes hp];rfl
 | false=>
  rw [ptake_no hp,rtk_no hp]
  simp only [Bool.false_eq_true,if_false]
  have h0:ris bVoid ⟨ts,0,0⟩=pis bVoid ts:=rfl
  have h1:(decide (1<ts.length) && ((ts.getD 1 noTokT).kind == 3 && (ts.getD 1 noTokT).text == [41]))=((ts.getD 1 noTokT).kind == 3 && (ts.getD 1 noTokT).text == [41]):=by
   rcases ts with _ | ⟨t,_ | ⟨u,l⟩⟩
   ·rfl
   ·rfl
   ·simp
  rw [h0,h1]
  split
  ·rw [rnext_ok,rnext_ok];rfl
  ·obtain ⟨q,hq⟩:∃ q,g=q + 1:=⟨g - 1,by omega⟩
   exact Lk.bind (pparams1_lk f g [] ts hf) (fun l us _=>Lk.must (k':=fun s=>some (l,s)) rfl (fun s _=>⟨_,rfl⟩)) (fun l s _ hs=>⟨l,by rw [rmust_f hs]⟩)
theorem pparen_lk (f g:Nat) (d:Int) (ts:List Tok) (hg:f + 20≤g):Lk ((pparen f d ts).bind fun e us=>.ok [e] us) (rparen g d ⟨ts,0,0⟩):=by
 unfold pparen rparen
 obtain ⟨q,hq⟩:∃ q,g=q + 14:=⟨g - 14,by omega⟩
 have hb:∀ s,rok s=false→∃ y,((rexpr g d s).bind fun e=>some ([e.1],rmust [41] e.2))=some (y,s):=fun s hs=>by
  rw [hq,rexpr_f hs]
  exact ⟨[noEx],by simp only [Option.bind_some,rmust_f hs]⟩
 have e1:∀ us,(((pexpr f d us).bind fun e us=>(pmust [41] us).bind fun _ us=>Rs.ok e us).bind fun e us=>Rs.ok [e] us)=(pexpr f d us).bind fun e us=>(pmust [41] us).bind fun _ us=>Rs.ok [e] us:=fun us=>by
  cases pexpr f d us with
  | out=>rfl
  | bad f=>rfl
  | ok e us=>simp only [Rs.bind];cases pmust [41] us <;> rfl
 have e2:(((pmust [40] ts).bind fun _ ts=>(pexpr f d ts).bind fun e ts=>(pmust [41] ts).bind fun _ ts=>Rs.ok e ts).bind fun e us=>Rs.ok [e] us)=(pmust [40] ts).bind fun _ us=>(pexpr f d us).bind fun e us=>(pmust [41] us).bind fun _ us=>Rs.ok [e] us:=by
  cases pmust [40] ts with
  | out=>rfl
  | bad f=>rfl
  | ok _ us=>exact e1 us
 rw [e2]
 exact Lk.must (k':=fun s=>(rexpr g d s).bind fun e=>some ([e.1],rmust [41] e.2)) (Lk.bind ((lkE f).expr g d (nx ts) hg) (fun e us _=>Lk.must (k':=fun s=>some ([e],s)) rfl (fun s _=>⟨_,rfl⟩)) (fun e s _ hs=>⟨[e],by rw [rmust_f hs]⟩)) hb
theorem pmaybe_lk (f g:Nat) (d:Int) (x:List UInt8) (ts:List Tok) (hg:f + 20≤g):Lk (pmaybe f d x ts) (rmaybe g d x ⟨ts,0,0⟩):=by
 unfold pmaybe rmaybe
 simp only [rok_ok,Bool.not_true,Bool.false_eq_true,if_false]
 cases hp:pis x ts with
 | true=>rw [ptake_yes hp,rtk_yes hp];rfl
 | false=>
  rw [ptake_no hp,rtk_no hp]
  exact Lk.bind ((lkE f).expr g d ts hg) (fun e us _=>Lk.must (k':=fun s=>some (e,s)) rfl (fun s _=>⟨_,rfl⟩)) (fun e s _ hs=>⟨e,by rw [rmust_f hs]⟩)
structure LkS (f:Nat):Prop where
 block:∀ (g:Nat) (d:Int) (ts:List Tok),f + 20≤g→Lk (pblock f d ts) (rblock g d ⟨ts,0,0⟩)
 blkloop:∀ (g:Nat) (d:Int) (acc:List St) (ts:List Tok),f + 20≤g→Lk (pblkloop f d acc ts) ((rblkloop g d acc ⟨ts,0,0⟩).bind fun r=>some (r.1,rmust [125] r.2))
 stmt:∀ (g:Nat) (d:Int) (ts:List Tok),f + 20≤g→Lk (pstmt f d ts) (rstmt g d ⟨ts,0,0⟩)
theorem typed_not {ts:List Tok} (h:ptyped ts=true) (x:List UInt8) (hx:decide (x ∈ typeWords)=false):pis x ts=false:=by
 cases hp:pis x ts with
 | false=>rfl
 | true=>
  unfold pis isT at hp
  unfold ptyped isTy at h
  simp only [Bool.and_eq_true,beq_iff_eq] at hp h
  rw [hp.2] at h
  rw [h.2] at hx
  cases hx
theorem rtyped_zero (ts:List Tok):rtyped 0 ⟨ts,0,0⟩=ptyped ts:=by
 rcases ts with _ | ⟨t,l⟩
 ·rfl
 ·simp [rtyped,ptyped,hdT]
set_option maxRecDepth 4000 in
theorem lkS:∀ f:Nat,LkS f
 | 0=>by
  constructor <;> intros <;> simp only [pblock,pblkloop,pstmt] <;> trivial
 | f + 1=>by
  have ih:=lkS f
  constructor
  ·intro g d ts hg
   obtain ⟨k,rfl⟩:∃ k,g=k + 1:=⟨g - 1,by omega⟩
   rw [pblock,rblock]
   obtain ⟨q,hq⟩:∃ q,k=q + 1:=⟨k - 1,by omega⟩
   exact Lk.must (k':=fun s=>(rblkloop k d [] s).bind fun r=>some (r.1,rmust [125] r.2)) (ih.blkloop k d [] (nx ts) (by omega)) (fun s hs=>by simp only [hq,rblkloop_f hs,Option.bind_some,rmust_f hs];exact ⟨_,rfl⟩)
  ·intro g d acc ts hg
   obtain ⟨k,rfl⟩:∃ k,g=k + 1:=⟨g - 1,by omega⟩
   rw [pblkloop,rblkloop]
   have h0:ris [125] ⟨ts,0,0⟩=pis [125] ts:=rfl
   obtain ⟨q,hq⟩:∃ q,k=q + 1:=⟨k - 1,by omega⟩
   rw [h0,rok_ok,Bool.true_and]
   cases hp:pis [125] ts with
   | true=>
    rw [ptake_yes hp]
    simp only [Bool.not_true,Bool.false_eq_true,if_false,Option.bind_some]
    have:rmust [125] ⟨ts,0,0⟩=⟨nx ts,0,0⟩:=by simp [rmust,rok_ok,rtk_yes hp]
    rw [this]
    rfl
   | false=>
    rw [ptake_no hp]
    simp only [Bool.not_false,if_true]
    split
    ·rw [rfail_ok]
     have hb:rok ⟨ts,4,(hdT ts).pos⟩=false:=rok_bad (by decide)
     exact ⟨four _,acc,ts,by simp only [Option.bind_some,rmust_f hb]⟩
    ·rw [Option.bind_assoc]
     exact Lk.bind (ih.stmt k (d + 1) ts (by omega)) (fun x us _=>ih.blkloop k d _ us (by omega)) (fun x s _ hs=>by simp only [hq,rblkloop_f hs,Option.bind_some,rmust_f hs];exact ⟨_,rfl⟩)
  ·intro g d ts hg
   obtain ⟨k,rfl⟩:∃ k,g=k + 1:=⟨g - 1,by omega⟩
   rw [pstmt,rstmt]
   obtain ⟨q,hq⟩:∃ q,k=q + 1:=⟨k - 1,by omega⟩
   obtain ⟨q14,hq14⟩:∃ q,k=q + 14:=⟨k - 14,by omega⟩
   by_cases hd:20<d
   ·rw [if_pos hd,rdeep_too hd]
    have hb:rok ⟨ts,2,(hdT ts).pos⟩=false:=rok_bad (by decide)
    simp only [hb,Bool.not_false,if_true]
    exact ⟨two _,noSt,ts,rfl⟩
   rw [if_neg hd,rdeep_ok hd]
   simp only [rok_ok,Bool.not_true,Bool.false_eq_true,if_false]
   rw [rtyped_zero]
   have hris:ris [123] ⟨ts,0,0⟩=pis [123] ts:=rfl
   rw [hris]
   cases hty:ptyped ts with
   | true=>
    have h59:=typed_not hty [59] (by decide)
    have h123:=typed_not hty [123] (by decide)
    rw [rtk_no h59,h123]
    simp only [Bool.false_eq_true,if_false,if_true]
    rcases (ptyp_lk ts).of with h | ⟨f,h,h1,x,us,h2⟩ | ⟨t,us,h,h2⟩
    ·rw [h];trivial
    ·rw [h,h2]
     have hb:rok ⟨us,f.err,f.pos⟩=false:=rok_bad h1
     simp only [rname_f hb,rtake_f hb,rmust_f hb]
     exact ⟨h1,_,us,rfl⟩
    rw [h,h2]
    simp only [Rs.bind]
    rcases (pname_lk us).of with h | ⟨f,h,h1,x,vs,h2⟩ | ⟨n,vs,h,h2⟩
    ·rw [h];trivial
    ·rw [h,h2]
     have hb:rok ⟨vs,f.err,f.pos⟩=false:=rok_bad h1
     simp only [rtake_f hb,rmust_f hb]
     exact ⟨h1,_,vs,rfl⟩
    rw [h,h2]
    simp only
    cases hp:pis [91] vs with
    | true=>
     rw [ptake_yes hp,rtk_yes hp]
     simp only [if_true]
     rcases (plength_lk (nx vs)).of with h | ⟨f,h,h1,x,ws,h2⟩ | ⟨l,ws,h,h2⟩
     ·rw [h];trivial
     ·rw [h,h2]
      have hb:rok ⟨ws,f.err,f.pos⟩=false:=rok_bad h1
      simp only [rmust_f hb]
      exact ⟨h1,_,ws,rfl⟩
     rw [h,h2]
     exact Lk.must (x:=[59]) (k':=fun s=>some (St.mk 2 [] [] ⟨t.kind,t.ptr,l⟩ n.1 0 (hdT ts).pos,s)) rfl (fun s _=>⟨_,rfl⟩)
    | false=>
     rw [ptake_no hp,rtk_no hp]
     simp only [Bool.false_eq_true,if_false]
     cases hp:pis [61] vs with
     | true=>
      rw [ptake_yes hp,rtk_yes hp]
      simp only [if_true]
      exact Lk.bind ((lkE f).expr k (d + 1) (nx vs) (by omega)) (fun e us _=>Lk.must (k':=fun s=>some (St.mk 2 [e] [] t n.1 0 (hdT ts).pos,s)) rfl (fun s _=>⟨_,rfl⟩)) (fun e s _ hs=>by simp only [rmust_f hs];exact ⟨_,rfl⟩)
     | false=>
      rw [ptake_no hp,rtk_no hp]
      simp only [Bool.false_eq_true,if_false]
      exact Lk.must (k':=fun s=>some (St.mk 2 [] [] t n.1 0 (hdT ts).pos,s)) rfl (fun s _=>⟨_,rfl⟩)
   | false=>
    simp only [Bool.false_eq_true,if_false]
    cases hp:pis [59] ts with
    | true=>
     rw [ptake_yes hp,rtk_yes hp]
     simp only [if_true]
     rfl
    | false=>
    rw [ptake_no hp,rtk_no hp]
    simp only [Bool.false_eq_true,if_false]
    clear hp
    cases hp:pis [123] ts with
    | true=>
     simp only [if_true]
     exact Lk.bind (ih.block k d ts (by omega)) (fun b us _=>rfl) (fun b s _ _=>⟨_,rfl⟩)
    | false=>
    simp only [Bool.false_eq_true,if_false]
    clear hp
    cases hp:pis bIf ts with
    | true=>
     rw [ptake_yes hp,rtk_yes hp]
     simp only [if_true]
     rw [Rs.bind_one (pparen f (d + 1) (nx ts)) (fun l us=>(pstmt f (d + 1) us).bind fun b us=>ptake bElse us (fun us=>(pstmt f (d + 1) us).bind fun c us=>Rs.ok (St.mk 4 l [b,c] noTy [] 0 (hdT ts).pos) us) fun us=>Rs.ok (St.mk 4 l [b] noTy [] 0 (hdT ts).pos) us)]
     refine Lk.bind (pparen_lk f k (d + 1) (nx ts) (by omega)) (fun l us _=>Lk.bind (ih.stmt k (d + 1) us (by omega)) (fun b vs _=>?_) (fun b s _ hs=>by simp only [rtake_f hs];exact ⟨_,rfl⟩)) (fun l s _ hs=>by simp only [hq,rstmt_f hs,Option.bind_some,rtake_f hs];exact ⟨_,rfl⟩)
     cases hp:pis bElse vs with
     | true=>
      rw [ptake_yes hp,rtk_yes hp]
      simp only [if_true]
      exact Lk.bind (ih.stmt k (d + 1) (nx vs) (by omega)) (fun c ws _=>rfl) (fun c s _ _=>⟨_,rfl⟩)
     | false=>rw [ptake_no hp,rtk_no hp];rfl
    | false=>
    rw [ptake_no hp,rtk_no hp]
    simp only [Bool.false_eq_true,if_false]
    clear hp
    cases hp:pis bWhile ts with
    | true=>
     rw [ptake_yes hp,rtk_yes hp]
     simp only [if_true]
     rw [Rs.bind_one (pparen f (d + 1) (nx ts)) (fun l us=>(pstmt f (d + 1) us).bind fun b us=>Rs.ok (St.mk 5 l [b] noTy [] 0 (hdT ts).pos) us)]
     exact Lk.bind (pparen_lk f k (d + 1) (nx ts) (by omega)) (fun l us _=>Lk.bind (ih.stmt k (d + 1) us (by omega)) (fun b vs _=>rfl) (fun b s _ _=>⟨_,rfl⟩)) (fun l s _ hs=>by simp only [hq,rstmt_f hs];exact ⟨_,rfl⟩)
    | false=>
    rw [ptake_no hp,rtk_no hp]
    simp only [Bool.false_eq_true,if_false]
    clear hp
    cases hp:pis bSwitch ts with
    | true=>
     rw [ptake_yes hp,rtk_yes hp]
     simp only [if_true]
     rw [Rs.bind_one (pparen f (d + 1) (nx ts)) (fun l us=>(pstmt f (d + 1) us).bind fun b us=>Rs.ok (St.mk 8 l [b] noTy [] 0 (hdT ts).pos) us)]
     exact Lk.bind (pparen_lk f k (d + 1) (nx ts) (by omega)) (fun l us _=>Lk.bind (ih.stmt k (d + 1) us (by omega)) (fun b vs _=>rfl) (fun b s _ _=>⟨_,rfl⟩)) (fun l s _ hs=>by simp only [hq,rstmt_f hs];exact ⟨_,rfl⟩)
    | false=>
    rw [ptake_no hp,rtk_no hp]
    simp only [Bool.false_eq_true,if_false]
    clear hp
    cases hp:pis bDo ts with
    | true=>
     rw [ptake_yes hp,rtk_yes hp]
     simp only [if_true]
     refine Lk.bind (ih.stmt k (d + 1) (nx ts) (by omega)) (fun b us _=>?_) (fun b s _ hs=>by simp only [rmust_f hs,hq14,rparen_f hs,Option.bind_some];exact ⟨_,rfl⟩)
     refine Lk.must (k':=fun s=>(rparen k (d + 1) s).bind fun e=>some (St.mk 6 e.1 [b] noTy [] 0 (hdT ts).pos,rmust [59] e.2)) ?_ (fun s hs=>by simp only [hq14,rparen_f hs,Option.bind_some,rmust_f hs];exact ⟨_,rfl⟩)
     rw [Rs.bind_one (pparen f (d + 1) (nx us)) (fun l us=>(pmust [59] us).bind fun _ us=>Rs.ok (St.mk 6 l [b] noTy [] 0 (hdT ts).pos) us)]
     exact Lk.bind (pparen_lk f k (d + 1) (nx us) (by omega)) (fun l vs _=>Lk.must (k':=fun s=>some (St.mk 6 l [b] noTy [] 0 (hdT ts).pos,s)) rfl (fun s _=>⟨_,rfl⟩)) (fun l s _ hs=>by simp only [rmust_f hs];exact ⟨_,rfl⟩)
    | false=>
    rw [ptake_no hp,rtk_no hp]
    simp only [Bool.false_eq_true,if_false]
    clear hp
    cases hp:pis bFor ts with
    | true=>
     rw [ptake_yes hp,rtk_yes hp]
     simp only [if_true]
     refine Lk.must (k':=fun s=>(rmaybe k (d + 1) [59] s).bind fun a=>(rmaybe k (d + 1) [59] a.2).bind fun b=>(rmaybe k (d + 1) [41] b.2).bind fun c=>(rstmt k (d + 1) c.2).bind fun x=>some (St.mk 7 [a.1,b.1,c.1] [x.1] noTy [] 0 (hdT ts).pos,x.2)) ?_ (fun s hs=>by simp only [rmaybe_f hs,Option.bind_some,hq,rstmt_f hs];exact ⟨_,rfl⟩)
     exact Lk.bind (pmaybe_lk f k (d + 1) [59] _ (by omega)) (fun a us _=>Lk.bind (pmaybe_lk f k (d + 1) [59] us (by omega)) (fun b vs _=>Lk.bind (pmaybe_lk f k (d + 1) [41] vs (by omega)) (fun c ws _=>Lk.bind (ih.stmt k (d + 1) ws (by omega)) (fun x xs _=>rfl) (fun x s _ _=>⟨_,rfl⟩)) (fun c s _ hs=>by simp only [hq,rstmt_f hs];exact ⟨_,rfl⟩)) (fun b s _ hs=>by simp only [rmaybe_f hs,Option.bind_some,hq,rstmt_f hs];exact ⟨_,rfl⟩)) (fun a s _ hs=>by simp only [rmaybe_f hs,Option.bind_some,hq,rstmt_f hs];exact ⟨_,rfl⟩)
    | false=>
    rw [ptake_no hp,rtk_no hp]
    simp only [Bool.false_eq_true,if_false]
    clear hp
    cases hp:pis bCase ts with
    | true=>
     rw [ptake_yes hp,rtk_yes hp]
     simp only [if_true]
     rcases (pvalue_lk (nx ts)).of with h | ⟨f,h,h1,x,us,h2⟩ | ⟨v,us,h,h2⟩
     ·rw [h];trivial
     ·rw [h,h2]
      have hb:rok ⟨us,f.err,f.pos⟩=false:=rok_bad h1
      simp only [rmust_f hb]
      exact ⟨h1,_,us,rfl⟩
     ·rw [h,h2]
      exact Lk.must (k':=fun s=>some (St.mk 9 [] [] noTy [] v (hdT ts).pos,s)) rfl (fun s _=>⟨_,rfl⟩)
    | false=>
    rw [ptake_no hp,rtk_no hp]
    simp only [Bool.false_eq_true,if_false]
    clear hp
    cases hp:pis bDefault ts with
    | true=>
     rw [ptake_yes hp,rtk_yes hp]
     simp only [if_true]
     exact Lk.must (x:=[58]) (k':=fun s=>some (St.mk 10 [] [] noTy [] 0 (hdT ts).pos,s)) rfl (fun s _=>⟨_,rfl⟩)
    | false=>
    rw [ptake_no hp,rtk_no hp]
    simp only [Bool.false_eq_true,if_false]
    clear hp
    cases hp:pis bBreak ts with
    | true=>
     rw [ptake_yes hp,rtk_yes hp]
     simp only [if_true]
     exact Lk.must (x:=[59]) (k':=fun s=>some (St.mk 11 [] [] noTy [] 0 (hdT ts).pos,s)) rfl (fun s _=>⟨_,rfl⟩)
    | false=>
    rw [ptake_no hp,rtk_no hp]
    simp only [Bool.false_eq_true,if_false]
    clear hp
    cases hp:pis bContinue ts with
    | true=>
     rw [ptake_yes hp,rtk_yes hp]
     simp only [if_true]
     exact Lk.must (x:=[59]) (k':=fun s=>some (St.mk 12 [] [] noTy [] 0 (hdT ts).pos,s)) rfl (fun s _=>⟨_,rfl⟩)
    | false=>
    rw [ptake_no hp,rtk_no hp]
    simp only [Bool.false_eq_true,if_false]
    clear hp
    cases hp:pis bReturn ts with
    | true=>
     rw [ptake_yes hp,rtk_yes hp]
     simp only [if_true]
     cases hp2:pis [59] (nx ts) with
     | true=>rw [ptake_yes hp2,rtk_yes hp2];rfl
     | false=>
      rw [ptake_no hp2,rtk_no hp2]
      exact Lk.bind ((lkE f).expr k (d + 1) (nx ts) (by omega)) (fun e us _=>Lk.must (k':=fun s=>some (St.mk 13 [e] [] noTy [] 0 (hdT ts).pos,s)) rfl (fun s _=>⟨_,rfl⟩)) (fun e s _ hs=>by simp only [rmust_f hs];exact ⟨_,rfl⟩)
    | false=>
    rw [ptake_no hp,rtk_no hp]
    simp only [Bool.false_eq_true,if_false]
    clear hp
    cases hp:pis bGoto ts with
    | true=>
     rw [ptake_yes hp,rtk_yes hp]
     simp only [if_true]
     rcases (pname_lk (nx ts)).of with h | ⟨f,h,h1,x,us,h2⟩ | ⟨n,us,h,h2⟩
     ·rw [h];trivial
     ·rw [h,h2]
      have hb:rok ⟨us,f.err,f.pos⟩=false:=rok_bad h1
      simp only [rmust_f hb]
      exact ⟨h1,_,us,rfl⟩
     ·rw [h,h2]
      exact Lk.must (k':=fun s=>some (St.mk 14 [] [] noTy n.1 0 (hdT ts).pos,s)) rfl (fun s _=>⟨_,rfl⟩)
    | false=>
    rw [ptake_no hp,rtk_no hp]
    simp only [Bool.false_eq_true,if_false]
    clear hp
    split
    ·rw [rnext_ok,rnext_ok];rfl
    ·exact Lk.bind ((lkE f).expr k (d + 1) ts (by omega)) (fun e us _=>Lk.must (k':=fun s=>some (St.mk 1 [e] [] noTy [] 0 (hdT ts).pos,s)) rfl (fun s _=>⟨_,rfl⟩)) (fun e s _ hs=>by simp only [rmust_f hs];exact ⟨_,rfl⟩)
theorem pinit_lk (f g:Nat) (len:Int) (ts:List Tok) (hf:f≤g) (hg:0<g):Lk (pinit f len ts) (rinit g len ⟨ts,0,0⟩):=by
 unfold pinit rinit
 cases hp:pis [61] ts with
 | false=>rw [ptake_no hp,rtk_no hp];rfl
 | true=>
  rw [ptake_yes hp,rtk_yes hp]
  simp only [if_true]
  split
  ·rcases (pvalue_lk (nx ts)).of with h | ⟨f,h,h1,x,us,h2⟩ | ⟨v,us,h,h2⟩
   ·rw [h];trivial
   ·rw [h,h2];exact ⟨h1,[x],us,rfl⟩
   ·rw [h,h2];rfl
  ·obtain ⟨q,hq⟩:∃ q,g=q + 1:=⟨g - 1,by omega⟩
   refine Lk.must (k':=fun s=>(rvals g len [] s).bind fun v=>some (v.1,rmust [125] v.2)) ?_ (fun s hs=>by simp only [hq,rvals_f hs,Option.bind_some,rmust_f hs];exact ⟨_,rfl⟩)
   exact Lk.bind (pvals_lk f g len [] (nx (nx ts)) hf) (fun v us _=>Lk.must (k':=fun s=>some (v,s)) rfl (fun s _=>⟨_,rfl⟩)) (fun v s _ hs=>by simp only [rmust_f hs];exact ⟨_,rfl⟩)
theorem pblock_miss (f:Nat) (d:Int) {ts:List Tok} (h:pis [123] ts=false):pblock f d ts=.out ∨ pblock f d ts=.bad ⟨4,(hdT ts).pos⟩:=by
 cases f with
 | zero=>exact .inl (by rw [pblock])
 | succ f=>
  refine .inr ?_
  rw [pblock]
  simp [pmust,h,pfail,Rs.bind]
theorem rfailAt_ok (e p:Int) (ts:List Tok):rfailAt e p ⟨ts,0,0⟩=⟨ts,e,p⟩:=by simp [rfailAt,rok_ok]
theorem pitem_lk (f g:Nat) (u:Un) (ts:List Tok) (hg:f + 20≤g):Lk (pitem f u ts) (ritem g u ⟨ts,0,0⟩):=by
 unfold pitem ritem
 obtain ⟨q,hq⟩:∃ q,g=q + 2:=⟨g - 2,by omega⟩
 rcases (ptyp_lk ts).of with h | ⟨f,h,h1,x,us,h2⟩ | ⟨t,us,h,h2⟩
 ·rw [h];trivial
 ·rw [h,h2]
  have hb:rok ⟨us,f.err,f.pos⟩=false:=rok_bad h1
  simp only [rname_f hb,hb,Bool.not_false,if_true]
  exact ⟨h1,_,us,rfl⟩
 rw [h,h2]
 simp only [Rs.bind]
 rcases (pname_lk us).of with h | ⟨f,h,h1,x,vs,h2⟩ | ⟨n,vs,h,h2⟩
 ·rw [h];trivial
 ·rw [h,h2]
  have hb:rok ⟨vs,f.err,f.pos⟩=false:=rok_bad h1
  simp only [hb,Bool.not_false,if_true]
  exact ⟨h1,_,vs,rfl⟩
 rw [h,h2]
 simp only [rok_ok,Bool.not_true,Bool.false_eq_true,if_false]
 have h0:ris [40] ⟨vs,0,0⟩=pis [40] vs:=rfl
 rw [h0]
 cases hp:pis [40] vs with
 | true=>
  rw [ptake_yes hp]
  simp only [if_true]
  split
  ·rw [rfailAt_ok]
   exact ⟨two _,_,vs,rfl⟩
  ·rw [rnext_ok]
   refine Lk.bind (pparams_lk f g (nx vs) (by omega) (by omega)) (fun p ws _=>?_) (fun p s _ hs=>by simp [hs])
   simp only [rok_ok,Bool.true_and]
   have h3:ris [123] ⟨ws,0,0⟩=pis [123] ws:=rfl
   rw [h3]
   cases hb:pis [123] ws with
   | true=>
    simp only [Bool.not_true,Bool.false_eq_true,if_false,rok_ok,if_true]
    exact Lk.bind ((lkS f).block g 1 ws hg) (fun b xs _=>rfl) (fun b s _ _=>⟨_,rfl⟩)
   | false=>
    simp only [Bool.not_false,if_true,rfail_ok]
    have hb2:rok ⟨ws,4,(hdT ws).pos⟩=false:=rok_bad (by decide)
    simp only [hb2,Bool.false_eq_true,if_false]
    rcases pblock_miss f 1 hb with h | h
    ·rw [h];trivial
    ·rw [h];exact ⟨four _,_,ws,rfl⟩
 | false=>
  rw [ptake_no hp]
  simp only [Bool.false_eq_true,if_false]
  split
  ·rw [rfailAt_ok]
   exact ⟨two _,_,vs,rfl⟩
  ·have hfin:∀ (l:Int) (ws:List Tok),Lk ((pinit f l ws).bind fun v ts=>(pmust [59] ts).bind fun _ ts=>Rs.ok (⟨u.globals ++ [⟨n.1,⟨t.kind,t.ptr,l⟩,v,n.2⟩],u.funcs⟩:Un) ts) ((rinit g l ⟨ws,0,0⟩).bind fun v=>some ((⟨u.globals ++ [⟨n.1,⟨t.kind,t.ptr,l⟩,v.1,n.2⟩],u.funcs⟩:Un),rmust [59] v.2)):=fun l ws=>
    Lk.bind (pinit_lk f g l ws (by omega) (by omega)) (fun v xs _=>Lk.must (k':=fun s:RS=>some (Un.mk (u.globals ++ [De.mk n.1 (Ty.mk t.kind t.ptr l) v n.2]) u.funcs,s)) rfl (fun s _=>⟨_,rfl⟩)) (fun v s _ hs=>by simp only [rmust_f hs];exact ⟨_,rfl⟩)
   cases hp:pis [91] vs with
   | false=>
    rw [ptake_no hp,rtk_no hp]
    exact hfin 0 vs
   | true=>
    rw [ptake_yes hp,rtk_yes hp]
    simp only [if_true]
    rcases (plength_lk (nx vs)).of with h | ⟨f,h,h1,x,ws,h2⟩ | ⟨l,ws,h,h2⟩
    ·rw [h];trivial
    ·rw [h,h2]
     have hb:rok ⟨ws,f.err,f.pos⟩=false:=rok_bad h1
     refine ⟨h1,⟨u.globals ++ [⟨n.1,⟨t.kind,t.ptr,x⟩,[],n.2⟩],u.funcs⟩,ws,?_⟩
     simp [rinit,rtake_f hb,rmust_f hb]
    ·rw [h,h2]
     exact hfin l ws
theorem ploop_lk (k g:Nat) (hg:k + 20≤g):∀ (f f':Nat) (u:Un) (ts:List Tok),f<f'→Lk (ploop k f u ts) (rloop g f' u ⟨ts,0,0⟩)
 | 0,_,_,_,_=>trivial
 | f + 1,f',u,ts,hf=>by
  obtain ⟨m,rfl⟩:∃ m,f'=m + 2:=⟨f' - 2,by omega⟩
  rw [ploop,rloop]
  simp only [rok_ok,Bool.true_and]
  split
  ·exact Lk.bind (pitem_lk k g u ts hg) (fun v us _=>ploop_lk k g hg f (m + 1) v us (by omega)) (fun v s _ hs=>⟨v,by simp [rloop,hs]⟩)
  ·rfl
end Go.Proofs.YtdmacgoeikjdbaaGreatDoor

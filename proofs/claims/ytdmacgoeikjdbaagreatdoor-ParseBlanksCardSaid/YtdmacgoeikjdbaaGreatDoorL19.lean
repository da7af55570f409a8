/- The program's parser, mirrored, makes of tokens what both parsers make -/
import Derived.Test.YtdmacgoeikjdbaaGreatDoorL18
set_option linter.unusedSimpArgs false
set_option linter.unusedVariables false
namespace Go.Proofs.YtdmacgoeikjdbaaGreatDoor
open Go.RowKit
theorem Mk.bindE {α β:Type} {r:Rs α} {o:Option (α × RS)} {k:α→List Tok→Rs β} {k':α × RS→Option (β × RS)} (hr:Mk r o) (hk:∀ x ts,r=.ok x ts→Wx ts→Mk (k x ts) (k' (x,⟨ts,0,0⟩))) (hb:∀ x s,Bd s→∃ y,k' (x,s)=some (y,s)):Mk (r.bind k) (o.bind k'):=by
 cases r with
 | out=>trivial
 | bad f=>
  obtain ⟨h1,x,ts,h2,rfl⟩:=hr
  obtain ⟨y,hy⟩:=hb x ⟨ts,f.err,f.pos⟩ (.mk h2 h1)
  exact ⟨h1,y,ts,h2,hy⟩
 | ok x ts=>
  obtain ⟨h1,rfl⟩:=hr
  exact hk x ts rfl h1
theorem Mk.bind1E {α β:Type} {r:Rs α} {q:α × RS} {k:α→List Tok→Rs β} {k':α × RS→Option (β × RS)} (hr:Mk r (some q)) (hk:∀ x ts,r=.ok x ts→Wx ts→Mk (k x ts) (k' (x,⟨ts,0,0⟩))) (hb:∀ x s,Bd s→∃ y,k' (x,s)=some (y,s)):Mk (r.bind k) (k' q):=Mk.bindE (k':=k') hr hk hb
theorem ptk_yes {α:Type} {x:List UInt8} {ts:List Tok} {yes no:List Tok→Rs α} (h:pis x ts=true):ptake x ts yes no=yes (nx ts):=by simp [ptake,h]
theorem ptk_no {α:Type} {x:List UInt8} {ts:List Tok} {yes no:List Tok→Rs α} (h:pis x ts=false):ptake x ts yes no=no ts:=by simp [ptake,h]
theorem mwant_yes {x:List UInt8} {ts:List Tok} (hw:Wx ts) (h:pis x ts=true):mwant x ⟨ts,0,0⟩=⟨nx ts,0,0⟩:=by simp [mwant,meat_yes hw h]
theorem Rs.bind_bind {α β γ:Type} (r:Rs α) (k:α→List Tok→Rs β) (j:β→List Tok→Rs γ):(r.bind k).bind j=r.bind fun x ts=>(k x ts).bind j:=by cases r <;> rfl
theorem hd_nx {ts:List Tok} (hw:Wx ts) (hk:(hdT ts).kind ≠ 0):hdT (nx ts)=ts.getD 1 noTokT:=by
 rcases ts with _ | ⟨t,_ | ⟨u,l⟩⟩
 ·exact hw.1.elim
 ·exact absurd hw.1 hk
 ·rfl
theorem pis_text {x:List UInt8} {ts:List Tok} (h:pis x ts=true):(hdT ts).text=x:=by
 unfold pis isT at h
 simp only [Bool.and_eq_true,beq_iff_eq] at h
 exact h.2
theorem pis_other {x y:List UInt8} {ts:List Tok} (h:pis x ts=true) (hxy:(x == y)=false):pis y ts=false:=by
 have:=pis_text h
 unfold pis isT
 rw [this,hxy,Bool.and_false]
theorem pparams1_mk:∀ (f g:Nat) (acc:List De) (ts:List Tok),Wx ts→f≤g→Mk ((pparams1 f acc ts).bind fun l ts=>(pmust [41] ts).bind fun _ ts=>.ok l ts) (mparams1 g acc ⟨ts,0,0⟩)
 | 0,_,_,_,_,_=>trivial
 | f + 1,g,acc,ts,hw,hg=>by
  obtain ⟨k,rfl⟩:∃ k,g=k + 1:=⟨g - 1,by omega⟩
  rw [pparams1,mparams1]
  simp only [rok_ok,if_true]
  split
  ·exact Mk.fail (by decide) hw ⟨acc,rfl⟩
  rw [Rs.bind_bind]
  refine Mk.bind1 (k':=fun t:Ty × RS=>if (meat [44] (mkind 1 t.2).2).1 then mparams1 k (acc ++ [⟨(mkind 1 t.2).1.text,t.1,[],(mkind 1 t.2).1.pos⟩]) (meat [44] (mkind 1 t.2).2).2 else some (acc ++ [⟨(mkind 1 t.2).1.text,t.1,[],(mkind 1 t.2).1.pos⟩],mwant [41] (meat [44] (mkind 1 t.2).2).2)) (mtyp_mk hw) (fun t us hu=>?_) (fun t s hs=>?_)
  ·unfold pname
   rw [Rs.bind_bind,Rs.bind_bind]
   refine Mk.bind1 (k':=fun n:Tok × RS=>if (meat [44] n.2).1 then mparams1 k (acc ++ [⟨n.1.text,t,[],n.1.pos⟩]) (meat [44] n.2).2 else some (acc ++ [⟨n.1.text,t,[],n.1.pos⟩],mwant [41] (meat [44] n.2).2)) (mkind_mk (k:=1) (by decide) hu) (fun n vs hv=>?_) (fun n s hs=>?_)
   ·simp only [Rs.bind]
    cases hp:pis [44] vs with
    | true=>
     rw [ptk_yes hp,meat_yes hv hp]
     exact pparams1_mk f k _ _ (hv.nxT hp) (by omega)
    | false=>
     rw [ptk_no hp,meat_no hp]
     exact Mk.must hv (k:=fun _ ts=>Rs.ok (acc ++ [De.mk n.text t [] n.pos]) ts) (k':=fun s=>some (acc ++ [De.mk n.text t [] n.pos],s)) (fun ws hws=>⟨hws,rfl⟩) (fun s _=>⟨_,rfl⟩)
   ·simp only [meat_f hs,Bool.false_eq_true,if_false,mwant_f hs]
    exact ⟨_,rfl⟩
  ·simp only [mkind_f hs (k:=1) (by decide),meat_f hs,Bool.false_eq_true,if_false,mwant_f hs]
   exact ⟨_,rfl⟩
theorem pparams_mk (f g:Nat) {ts:List Tok} (hw:Wx ts) (hg:f<g) (s:RS) (hs:mwant [40] s=⟨ts,0,0⟩):Mk (pparams f ts) (mparams g s):=by
 obtain ⟨k,rfl⟩:∃ k,g=k + 1:=⟨g - 1,by omega⟩
 unfold pparams mparams
 rw [hs]
 simp only
 have h0:ris bVoid ⟨ts,0,0⟩=pis bVoid ts:=rfl
 unfold mnothing
 rw [h0]
 cases hp:pis [41] ts with
 | true=>
  rw [ptk_yes hp,pis_other (y:=bVoid) hp (by decide)]
  simp only [Bool.false_and,Bool.false_eq_true,if_false,meat_yes hw hp,if_true]
  exact ⟨hw.nxT hp,rfl⟩
 | false=>
  rw [ptk_no hp]
  cases hv:(pis bVoid ts && ((ts.getD 1 noTokT).kind == 3 && (ts.getD 1 noTokT).text == [41])) with
  | true=>
   have hv1:=(Bool.and_eq_true_iff.1 hv).1
   have hv2:=(Bool.and_eq_true_iff.1 hv).2
   have hn:=pis_kind hv1
   have h41:pis [41] (nx ts)=true:=by
    unfold pis isT
    rw [hd_nx hw hn]
    simp only [Bool.and_eq_true] at hv2
    rw [hv2.1,hv2.2]
    rfl
   simp only [if_true,mnext_ok hn hw,meat_yes (hw.nx hn) h41]
   exact ⟨(hw.nx hn).nxT h41,rfl⟩
  | false=>
   simp only [Bool.false_eq_true,if_false,meat_no hp]
   exact pparams1_mk f (k + 1) [] ts hw (by omega)
theorem pvals_mk:∀ (f g:Nat) (len:Int) (acc:List Int) (ts:List Tok),Wx ts→f≤g→Mk ((pvals f len acc ts).bind fun l ts=>(pmust [125] ts).bind fun _ ts=>.ok l ts) (mvals g len acc ⟨ts,0,0⟩)
 | 0,_,_,_,_,_,_=>trivial
 | f + 1,g,len,acc,ts,hw,hg=>by
  obtain ⟨k,rfl⟩:∃ k,g=k + 1:=⟨g - 1,by omega⟩
  rw [pvals,mvals]
  simp only [rok_ok,if_true]
  have h0:mfull (acc.length:Int) len ⟨ts,0,0⟩=if (acc.length:Int) == len && (pis [45] ts || (hdT ts).kind == 2) then mfail 10 ⟨ts,0,0⟩ else ⟨ts,0,0⟩:=rfl
  rw [h0]
  split
  ·have hb:Bd (mfail 10 ⟨ts,0,0⟩):=Bd.fail (by decide) hw
   refine Mk.fail (by decide) hw ⟨acc ++ [0],?_⟩
   simp only [mnumber_f hb,meat_f hb,Bool.false_eq_true,if_false,mwant_f hb]
  ·rw [Rs.bind_bind]
   refine Mk.bind1 (k':=fun v:Int × RS=>if (meat [44] v.2).1 then mvals k len (acc ++ [v.1]) (meat [44] v.2).2 else some (acc ++ [v.1],mwant [125] (meat [44] v.2).2)) (mnumber_mk hw) (fun v us hu=>?_) (fun v s hs=>?_)
   ·cases hp:pis [44] us with
    | true=>
     rw [ptk_yes hp,meat_yes hu hp]
     exact pvals_mk f k len _ _ (hu.nxT hp) (by omega)
    | false=>
     rw [ptk_no hp,meat_no hp]
     exact Mk.must hu (k':=fun s=>some (acc ++ [v],s)) (fun ws hws=>⟨hws,rfl⟩) (fun s _=>⟨_,rfl⟩)
   ·simp only [meat_f hs,Bool.false_eq_true,if_false,mwant_f hs]
    exact ⟨_,rfl⟩
theorem ptyp_len {ts us:List Tok} {t:Ty} (h:ptyp ts=.ok t us):t.len=0:=by
 unfold ptyp at h
 cases h1:pkind ts with
 | out=>rw [h1] at h;cases h
 | bad f=>rw [h1] at h;cases h
 | ok k vs=>
  rw [h1] at h
  simp only [Rs.bind] at h
  cases h2:pstars 5 0 vs with
  | out=>rw [h2] at h;cases h
  | bad f=>rw [h2] at h;cases h
  | ok n ws=>
   rw [h2] at h
   simp only at h
   injection h with h _
   rw [← h]
theorem plength_pos {ts us:List Tok} {l:Int} (h:plength ts=.ok l us):0<l:=by
 unfold plength at h
 cases h1:pnumber ts with
 | out=>rw [h1] at h;cases h
 | bad f=>rw [h1] at h;cases h
 | ok k vs=>
  rw [h1] at h
  simp only [Rs.bind] at h
  split at h
  ·cases h
  ·rename_i hc
   cases h2:pmust [93] vs with
   | out=>rw [h2] at h;cases h
   | bad f=>rw [h2] at h;cases h
   | ok n ws=>
    rw [h2] at h
    simp only at h
    injection h with h _
    subst h
    simp at hc
    omega
theorem plen_pos {ts us:List Tok} {l:Int} (h:(ptake [91] ts plength fun ts=>.ok 0 ts)=.ok l us):l=0 ∨ 0<l:=by
 unfold ptake at h
 split at h
 ·exact .inr (plength_pos h)
 ·injection h with h _
  exact .inl h.symm
theorem pparen_mk (f g:Nat) (d:Int) {ts:List Tok} (hw:Wx ts) (hg:2 * f + 20≤g):Mk (pparen f d ts) (mparen g d ⟨ts,0,0⟩):=by
 unfold pparen mparen
 obtain ⟨q,hq⟩:∃ q,g=q + 15:=⟨g - 15,by omega⟩
 refine Mk.must hw (k':=fun s=>(mexpr g d s).bind fun e=>some (e.1,mwant [41] e.2)) (fun us hu=>?_) (fun s hs=>by simp only [hq,mexpr_f hs,Option.bind_some,mwant_f hs];exact ⟨_,rfl⟩)
 exact Mk.bind ((mkE f).expr g d us hu hg) (fun e vs hv=>Mk.must hv (k':=fun s=>some (e,s)) (fun ws hws=>⟨hws,rfl⟩) (fun s _=>⟨_,rfl⟩)) (fun e s hs=>by simp only [mwant_f hs];exact ⟨_,rfl⟩)
theorem pmaybe_mk (f g:Nat) (d:Int) (x:List UInt8) {ts:List Tok} (hw:Wx ts) (hg:2 * f + 20≤g):Mk (pmaybe f d x ts) ((mperhaps g d x ⟨ts,0,0⟩).bind fun a=>some (a.1,mwant x a.2)):=by
 unfold pmaybe mperhaps
 have h0:ris x ⟨ts,0,0⟩=pis x ts:=rfl
 rw [h0]
 cases hp:pis x ts with
 | true=>
  rw [ptk_yes hp]
  simp only [if_true,Option.bind_some,mwant_yes hw hp]
  exact ⟨hw.nxT hp,rfl⟩
 | false=>
  rw [ptk_no hp]
  simp only [Bool.false_eq_true,if_false]
  exact Mk.bind ((mkE f).expr g d ts hw hg) (fun e vs hv=>Mk.must hv (k':=fun s=>some (e,s)) (fun ws hws=>⟨hws,rfl⟩) (fun s _=>⟨_,rfl⟩)) (fun e s hs=>by simp only [mwant_f hs];exact ⟨_,rfl⟩)
theorem mdecl_mk (f g:Nat) (d p:Int) {ts:List Tok} (hw:Wx ts) (hg:2 * f + 20≤g) :
  Mk ((ptyp ts).bind fun ty us=>(pname us).bind fun n us=>
    ptake [91] us (fun us=>(plength us).bind fun l us=>(pmust [59] us).bind fun _ us=>.ok (.mk 2 [] [] ⟨ty.kind,ty.ptr,l⟩ n.1 0 p) us) fun us=>
    ptake [61] us (fun us=>(pexpr f (d + 1) us).bind fun e us=>(pmust [59] us).bind fun _ us=>.ok (.mk 2 [e] [] ty n.1 0 p) us) fun us=>
    (pmust [59] us).bind fun _ us=>.ok (.mk 2 [] [] ty n.1 0 p) us) (mdecl g d p ⟨ts,0,0⟩):=by
 unfold mdecl
 obtain ⟨q,hq⟩:∃ q,g=q + 15:=⟨g - 15,by omega⟩
 refine Mk.bind1E (k':=fun ty:Ty × RS=>
  if (mlength (mkind 1 ty.2).2).1 == 0 then
   if (meat [61] (mlength (mkind 1 ty.2).2).2).1 then (mexpr g (d + 1) (meat [61] (mlength (mkind 1 ty.2).2).2).2).bind fun e=>some (St.mk 2 [e.1] [] ⟨ty.1.kind,ty.1.ptr,(mlength (mkind 1 ty.2).2).1⟩ (mkind 1 ty.2).1.text 0 p,mwant [59] e.2)
   else some (St.mk 2 [] [] ⟨ty.1.kind,ty.1.ptr,(mlength (mkind 1 ty.2).2).1⟩ (mkind 1 ty.2).1.text 0 p,mwant [59] (meat [61] (mlength (mkind 1 ty.2).2).2).2)
  else some (St.mk 2 [] [] ⟨ty.1.kind,ty.1.ptr,(mlength (mkind 1 ty.2).2).1⟩ (mkind 1 ty.2).1.text 0 p,mwant [59] (mlength (mkind 1 ty.2).2).2)) (mtyp_mk hw) (fun ty us hty hu=>?_) (fun ty s hs=>?_)
 rotate_left
 ·simp only [mkind_f hs (k:=1) (by decide),mlength_f hs,meat_f hs,mwant_f hs]
  exact ⟨_,rfl⟩
 have hl0:=ptyp_len hty
 obtain ⟨tk,tp,tl⟩:=ty
 simp only at hl0
 subst hl0
 unfold pname
 rw [Rs.bind_bind]
 refine Mk.bind1 (k':=fun n:Tok × RS=>
  if (mlength n.2).1 == 0 then
   if (meat [61] (mlength n.2).2).1 then (mexpr g (d + 1) (meat [61] (mlength n.2).2).2).bind fun e=>some (St.mk 2 [e.1] [] ⟨tk,tp,(mlength n.2).1⟩ n.1.text 0 p,mwant [59] e.2)
   else some (St.mk 2 [] [] ⟨tk,tp,(mlength n.2).1⟩ n.1.text 0 p,mwant [59] (meat [61] (mlength n.2).2).2)
  else some (St.mk 2 [] [] ⟨tk,tp,(mlength n.2).1⟩ n.1.text 0 p,mwant [59] (mlength n.2).2)) (mkind_mk (k:=1) (by decide) hu) (fun n vs hv=>?_) (fun n s hs=>?_)
 rotate_left
 ·simp only [mlength_f hs,meat_f hs,mwant_f hs]
  exact ⟨_,rfl⟩
 simp only [Rs.bind]
 let K:Int × RS→Option (St × RS):=fun l=>
  if l.1 == 0 then
   if (meat [61] l.2).1 then (mexpr g (d + 1) (meat [61] l.2).2).bind fun e=>some (St.mk 2 [e.1] [] ⟨tk,tp,l.1⟩ n.text 0 p,mwant [59] e.2)
   else some (St.mk 2 [] [] ⟨tk,tp,l.1⟩ n.text 0 p,mwant [59] (meat [61] l.2).2)
  else some (St.mk 2 [] [] ⟨tk,tp,l.1⟩ n.text 0 p,mwant [59] l.2)
 show Mk _ (K (mlength ⟨vs,0,0⟩))
 have hm:=mlength_mk hv
 cases hp:pis [91] vs with
 | true=>
  rw [ptk_yes hp] at hm ⊢
  refine Mk.bind1E (k':=K) hm (fun l ws hl hws=>?_) (fun l s hs=>?_)
  ·have:=plength_pos hl
   have h0:(l == 0)=false:=by simp;omega
   simp only [K,h0,Bool.false_eq_true,if_false]
   exact Mk.must hws (k':=fun s=>some (St.mk 2 [] [] ⟨tk,tp,l⟩ n.text 0 p,s)) (fun ws hws=>⟨hws,rfl⟩) (fun s _=>⟨_,rfl⟩)
  ·simp only [K,meat_f hs,mwant_f hs,Bool.false_eq_true,if_false]
   split <;> exact ⟨_,rfl⟩
 | false=>
  rw [ptk_no hp] at hm ⊢
  obtain ⟨h1,h2⟩:=hm
  injection h2 with h2
  rw [h2]
  simp only [K,beq_self_eq_true,if_true]
  cases hp:pis [61] vs with
  | true=>
   rw [ptk_yes hp,meat_yes hv hp]
   simp only [if_true]
   exact Mk.bind ((mkE f).expr g (d + 1) _ (hv.nxT hp) hg) (fun e ws hws=>Mk.must hws (k':=fun s=>some (St.mk 2 [e] [] ⟨tk,tp,0⟩ n.text 0 p,s)) (fun ws hws=>⟨hws,rfl⟩) (fun s _=>⟨_,rfl⟩)) (fun e s hs=>by simp only [mwant_f hs];exact ⟨_,rfl⟩)
  | false=>
   rw [ptk_no hp,meat_no hp]
   simp only [Bool.false_eq_true,if_false]
   exact Mk.must hv (k':=fun s=>some (St.mk 2 [] [] ⟨tk,tp,0⟩ n.text 0 p,s)) (fun ws hws=>⟨hws,rfl⟩) (fun s _=>⟨_,rfl⟩)
structure MkS (f:Nat):Prop where
 block:∀ (g:Nat) (d:Int) (ts:List Tok),Wx ts→3 * f + 40≤g→Mk (pblock f d ts) (mblock g d ⟨ts,0,0⟩)
 blkloop:∀ (g:Nat) (d:Int) (acc:List St) (ts:List Tok),Wx ts→3 * f + 40≤g→Mk (pblkloop f d acc ts) (mblkloop g d acc ⟨ts,0,0⟩)
 stmt:∀ (g:Nat) (d:Int) (ts:List Tok),Wx ts→3 * f + 40≤g→Mk (pstmt f d ts) (mstmt g d ⟨ts,0,0⟩)
theorem no_word {ts:List Tok} (hw:Wx ts) (h:(hdT ts).kind ≠ 4) (x:List UInt8) (hx:decide (x ∈ stWords)=true):pis x ts=false:=by
 cases hp:pis x ts with
 | false=>rfl
 | true=>
  have hx:=of_decide_eq_true hx
  have ht:=pis_text hp
  unfold pis isT at hp
  simp only [Bool.and_eq_true,Bool.or_eq_true,beq_iff_eq] at hp
  rcases hp.1 with h3 | h4
  ·have:=hw.hd.2.2.2 h3
   rw [ht] at this
   exact absurd hx this
  ·exact absurd h4 h
theorem no_semi {ts:List Tok} (hw:Wx ts) (h:(hdT ts).kind=4):pis [59] ts=false∧pis [123] ts=false:=by
 have:=hw.hd.2.2.1 h
 constructor
 ·cases hp:pis [59] ts with
  | false=>rfl
  | true=>exact absurd (pis_text hp) this.1
 ·cases hp:pis [123] ts with
  | false=>rfl
  | true=>exact absurd (pis_text hp) this.2
theorem ptyped_kind {ts:List Tok} (h:ptyped ts=true):(hdT ts).kind=4:=by
 unfold ptyped isTy at h
 simp only [Bool.and_eq_true,beq_iff_eq] at h
 exact h.1
section
variable {f j:Nat} {d p:Int} {ts:List Tok} (hw:Wx ts) (hg:2 * f + 20≤j)
include hw hg
theorem expr_end (op:Int) (x:List UInt8):Mk ((pexpr f d ts).bind fun e us=>(pmust x us).bind fun _ us=>.ok (St.mk op [e] [] noTy [] 0 p) us) ((mexpr j d ⟨ts,0,0⟩).bind fun e=>some (St.mk op [e.1] [] noTy [] 0 p,mwant x e.2)):=
 Mk.bind ((mkE f).expr j d ts hw hg) (fun e us hu=>Mk.must hu (k':=fun s=>some (St.mk op [e] [] noTy [] 0 p,s)) (fun ws hws=>⟨hws,rfl⟩) (fun s _=>⟨_,rfl⟩)) (fun e s hs=>by simp only [mwant_f hs];exact ⟨_,rfl⟩)
end
theorem must_end {ts:List Tok} (hw:Wx ts) (x:List UInt8) (y:St):Mk ((pmust x ts).bind fun _ us=>.ok y us) (some (y,mwant x ⟨ts,0,0⟩)):=
 Mk.must hw (k':=fun s=>some (y,s)) (fun ws hws=>⟨hws,rfl⟩) (fun s _=>⟨_,rfl⟩)
theorem mshort_mk (f j:Nat) (d p:Int) {ts:List Tok} (hw:Wx ts) (hg:2 * f + 20≤j) (hk:(hdT ts).kind=4) :
  Mk (ptake bCase ts (fun us=>(pvalue us).bind fun v us=>(pmust [58] us).bind fun _ us=>.ok (.mk 9 [] [] noTy [] v p) us) fun _=>
  ptake bDefault ts (fun us=>(pmust [58] us).bind fun _ us=>.ok (.mk 10 [] [] noTy [] 0 p) us) fun _=>
  ptake bBreak ts (fun us=>(pmust [59] us).bind fun _ us=>.ok (.mk 11 [] [] noTy [] 0 p) us) fun _=>
  ptake bContinue ts (fun us=>(pmust [59] us).bind fun _ us=>.ok (.mk 12 [] [] noTy [] 0 p) us) fun _=>
  ptake bReturn ts (fun us=>ptake [59] us (fun us=>.ok (.mk 13 [] [] noTy [] 0 p) us) fun us=>(pexpr f (d + 1) us).bind fun e us=>(pmust [59] us).bind fun _ us=>.ok (.mk 13 [e] [] noTy [] 0 p) us) fun _=>
  ptake bGoto ts (fun us=>(pname us).bind fun n us=>(pmust [59] us).bind fun _ us=>.ok (.mk 14 [] [] noTy n.1 0 p) us) fun _=>
  if (hdT ts).kind == 1 && ((ts.getD 1 noTokT).kind == 3 && (ts.getD 1 noTokT).text == [58]) then .ok (.mk 15 [] [] noTy (hdT ts).text 0 p) (nx (nx ts))
  else (pexpr f (d + 1) ts).bind fun e us=>(pmust [59] us).bind fun _ us=>.ok (.mk 1 [e] [] noTy [] 0 p) us) (mshort j d p ⟨ts,0,0⟩):=by
 unfold mshort
 have h1:((hdT ts).kind == 1)=false:=by rw [hk];rfl
 rw [h1,Bool.false_and]
 simp only [Bool.false_eq_true,if_false]
 cases hp:pis bCase ts with
 | true=>
  rw [ptk_yes hp,meat_yes hw hp]
  simp only [if_true]
  exact Mk.bind1 (k':=fun v:Int × RS=>some (St.mk 9 [] [] noTy [] v.1 p,mwant [58] v.2)) (mnumber_mk (hw.nxT hp)) (fun v us hu=>must_end hu _ _) (fun v s hs=>by simp only [mwant_f hs];exact ⟨_,rfl⟩)
 | false=>
 rw [ptk_no hp,meat_no hp]
 simp only [Bool.false_eq_true,if_false]
 clear hp
 cases hp:pis bDefault ts with
 | true=>
  rw [ptk_yes hp,meat_yes hw hp]
  simp only [if_true]
  exact must_end (hw.nxT hp) _ _
 | false=>
 rw [ptk_no hp,meat_no hp]
 simp only [Bool.false_eq_true,if_false]
 clear hp
 cases hp:pis bBreak ts with
 | true=>
  rw [ptk_yes hp,meat_yes hw hp]
  simp only [if_true]
  exact must_end (hw.nxT hp) _ _
 | false=>
 rw [ptk_no hp,meat_no hp]
 simp only [Bool.false_eq_true,if_false]
 clear hp
 cases hp:pis bContinue ts with
 | true=>
  rw [ptk_yes hp,meat_yes hw hp]
  simp only [if_true]
  exact must_end (hw.nxT hp) _ _
 | false=>
 rw [ptk_no hp,meat_no hp]
 simp only [Bool.false_eq_true,if_false]
 clear hp
 cases hq:pis bReturn ts with
 | true=>
  have hp:=pis_other (y:=bGoto) hq (by decide)
  rw [ptk_yes hq,meat_no hp]
  simp only [Bool.false_eq_true,if_false]
  rw [meat_yes hw hq]
  simp only [if_true]
  have h0:ris [59] ⟨nx ts,0,0⟩=pis [59] (nx ts):=rfl
  rw [h0]
  cases hz:pis [59] (nx ts) with
  | true=>
   rw [ptk_yes hz]
   simp only [if_true]
   rw [mwant_yes (hw.nxT hq) hz]
   exact ⟨(hw.nxT hq).nxT hz,rfl⟩
  | false=>
   rw [ptk_no hz]
   simp only [Bool.false_eq_true,if_false]
   exact expr_end (hw.nxT hq) hg _ _
 | false=>
 rw [ptk_no hq]
 cases hp:pis bGoto ts with
 | true=>
  rw [ptk_yes hp,meat_yes hw hp]
  simp only [if_true]
  unfold pname
  rw [Rs.bind_bind]
  exact Mk.bind1 (k':=fun n:Tok × RS=>some (St.mk 14 [] [] noTy n.1.text 0 p,mwant [59] n.2)) (mkind_mk (k:=1) (by decide) (hw.nxT hp)) (fun n us hu=>must_end hu _ _) (fun n s hs=>by simp only [mwant_f hs];exact ⟨_,rfl⟩)
 | false=>
 rw [ptk_no hp,meat_no hp]
 simp only [Bool.false_eq_true,if_false]
 rw [meat_no hq]
 simp only [Bool.false_eq_true,if_false]
 exact expr_end hw hg _ _
set_option maxRecDepth 4000 in
theorem mkS:∀ f:Nat,MkS f
 | 0=>by
  constructor <;> intros <;> simp only [pblock,pblkloop,pstmt] <;> trivial
 | f + 1=>by
  have ih:=mkS f
  constructor
  ·intro g d ts hw hg
   obtain ⟨k,rfl⟩:∃ k,g=k + 1:=⟨g - 1,by omega⟩
   obtain ⟨q,hq⟩:∃ q,k=q + 1:=⟨k - 1,by omega⟩
   rw [pblock,mblock]
   exact Mk.must hw (k':=fun s=>mblkloop k d [] s) (fun us hu=>ih.blkloop k d [] us hu (by omega)) (fun s hs=>by simp only [hq,mblkloop_f hs];exact ⟨_,rfl⟩)
  ·intro g d acc ts hw hg
   obtain ⟨k,rfl⟩:∃ k,g=k + 1:=⟨g - 1,by omega⟩
   obtain ⟨q,hq⟩:∃ q,k=q + 1:=⟨k - 1,by omega⟩
   rw [pblkloop,mblkloop]
   have h0:ris [125] ⟨ts,0,0⟩=pis [125] ts:=rfl
   rw [h0,rok_ok,Bool.true_and]
   cases hp:pis [125] ts with
   | true=>
    rw [ptk_yes hp]
    simp only [Bool.not_true,Bool.false_eq_true,if_false,mwant_yes hw hp]
    exact ⟨hw.nxT hp,rfl⟩
   | false=>
    rw [ptk_no hp]
    simp only [Bool.not_false,if_true]
    split
    ·have hb:Bd (mfail 4 ⟨ts,0,0⟩):=Bd.fail (by decide) hw
     rw [mwant_f hb]
     exact Mk.fail (by decide) hw ⟨acc,rfl⟩
    ·exact Mk.bind (ih.stmt k (d + 1) ts hw (by omega)) (fun x us hu=>ih.blkloop k d _ us hu (by omega)) (fun x s hs=>by simp only [hq,mblkloop_f hs];exact ⟨_,rfl⟩)
  ·intro g d ts hw hg
   obtain ⟨k,rfl⟩:∃ k,g=k + 1:=⟨g - 1,by omega⟩
   obtain ⟨q16,hq16⟩:∃ q,k=q + 20:=⟨k - 20,by omega⟩
   rw [pstmt,mstmt]
   simp only
   by_cases hd:20<d
   ·rw [if_pos hd]
    have hb:=mdeep_too hd hw
    simp only [hb.kind,meat_f hb,ris_f hb,hq16,mexpr_f hb,mwant_f hb]
    refine Mk.fail (by decide) hw ⟨St.mk 1 [noEx] [] noTy [] 0 (hdT (mdeep d ⟨ts,0,0⟩).ts).pos,?_⟩
    have h2:mdeep d ⟨ts,0,0⟩=mfail 2 ⟨ts,0,0⟩:=by rw [mdeep,if_pos hd]
    simp [h2]
    rw [h2] at hb
    exact mwant_f hb _
   rw [if_neg hd,mdeep_ok hd]
   by_cases hk4:(hdT ts).kind=4
   ·have e4:((hdT ts).kind == 4)=true:=by simpa using hk4
    simp only [e4,if_true]
    rw [ptyped_eq hw]
    cases hty:ptyped ts with
    | true=>
     simp only [if_true]
     exact mdecl_mk f k d _ hw (by omega)
    | false=>
     obtain ⟨hp1,hp2⟩:=no_semi hw hk4
     simp only [Bool.false_eq_true,if_false]
     rw [ptk_no hp1]
     simp only [hp2,Bool.false_eq_true,if_false]
     obtain ⟨j,hj⟩:∃ j,k=j + 1:=⟨k - 1,by omega⟩
     obtain ⟨q,hq⟩:∃ q,j=q + 16:=⟨j - 16,by omega⟩
     have hst:∀ (d:Int) s,Bd s→∃ x,mstmt j d s=some (x,s):=fun d s hs=>by rw [hq];exact mstmt_f hs q d
     have hpar:∀ (d:Int) s,Bd s→mparen j d s=some (noEx,s):=fun d s hs=>by rw [show j=(q + 1) + 15 by omega];exact mparen_f hs (q + 1) d
     rw [hj,mword]
     cases hp:pis bIf ts with
     | true=>
      rw [ptk_yes hp,meat_yes hw hp]
      simp only [if_true]
      refine Mk.bind (pparen_mk f j (d + 1) (hw.nxT hp) (by omega)) (fun e us hu=>?_) (fun e s hs=>?_)
      rotate_left
      ·obtain ⟨x,hx⟩:=hst (d + 1) s hs
       simp only [hx,Option.bind_some,meat_f hs,Bool.false_eq_true,if_false]
       exact ⟨_,rfl⟩
      refine Mk.bind (ih.stmt j (d + 1) us hu (by omega)) (fun b vs hv=>?_) (fun b s hs=>?_)
      rotate_left
      ·simp only [meat_f hs,Bool.false_eq_true,if_false]
       exact ⟨_,rfl⟩
      cases hp:pis bElse vs with
      | true=>
       rw [ptk_yes hp,meat_yes hv hp]
       simp only [if_true]
       exact Mk.bind (ih.stmt j (d + 1) _ (hv.nxT hp) (by omega)) (fun c ws hws=>⟨hws,rfl⟩) (fun c s hs=>⟨_,rfl⟩)
      | false=>
       rw [ptk_no hp,meat_no hp]
       simp only [Bool.false_eq_true,if_false]
       exact ⟨hv,rfl⟩
     | false=>
     rw [ptk_no hp,meat_no hp]
     simp only [Bool.false_eq_true,if_false]
     clear hp
     cases hp:pis bWhile ts with
     | true=>
      rw [ptk_yes hp,meat_yes hw hp]
      simp only [if_true]
      refine Mk.bind (pparen_mk f j (d + 1) (hw.nxT hp) (by omega)) (fun e us hu=>?_) (fun e s hs=>?_)
      rotate_left
      ·obtain ⟨x,hx⟩:=hst (d + 1) s hs
       simp only [hx,Option.bind_some]
       exact ⟨_,rfl⟩
      exact Mk.bind (ih.stmt j (d + 1) us hu (by omega)) (fun b vs hv=>⟨hv,rfl⟩) (fun b s hs=>⟨_,rfl⟩)
     | false=>
     rw [ptk_no hp,meat_no hp]
     simp only [Bool.false_eq_true,if_false]
     clear hp
     cases hp:pis bSwitch ts with
     | true=>
      rw [ptk_yes hp,meat_yes hw hp]
      simp only [if_true]
      refine Mk.bind (pparen_mk f j (d + 1) (hw.nxT hp) (by omega)) (fun e us hu=>?_) (fun e s hs=>?_)
      rotate_left
      ·obtain ⟨x,hx⟩:=hst (d + 1) s hs
       simp only [hx,Option.bind_some]
       exact ⟨_,rfl⟩
      exact Mk.bind (ih.stmt j (d + 1) us hu (by omega)) (fun b vs hv=>⟨hv,rfl⟩) (fun b s hs=>⟨_,rfl⟩)
     | false=>
     rw [ptk_no hp,meat_no hp]
     simp only [Bool.false_eq_true,if_false]
     clear hp
     cases hp:pis bDo ts with
     | true=>
      rw [ptk_yes hp,meat_yes hw hp]
      simp only [if_true]
      have hbad:∀ (b:St) s,Bd s→∃ y,((mparen j (d + 1) s).bind fun e=>some (St.mk 6 [e.1] [b] noTy [] 0 (hdT ts).pos,mwant [59] e.2))=some (y,s):=fun b s hs=>by
       simp only [hpar (d + 1) s hs,Option.bind_some,mwant_f hs]
       exact ⟨_,rfl⟩
      refine Mk.bind (ih.stmt j (d + 1) _ (hw.nxT hp) (by omega)) (fun b us hu=>?_) (fun b s hs=>by simp only [mwant_f hs];exact hbad b s hs)
      refine Mk.must hu (k':=fun s=>(mparen j (d + 1) s).bind fun e=>some (St.mk 6 [e.1] [b] noTy [] 0 (hdT ts).pos,mwant [59] e.2)) (fun vs hv=>?_) (hbad b)
      exact Mk.bind (pparen_mk f j (d + 1) hv (by omega)) (fun e ws hws=>must_end hws _ _) (fun e s hs=>by simp only [mwant_f hs];exact ⟨_,rfl⟩)
     | false=>
     rw [ptk_no hp,meat_no hp]
     simp only [Bool.false_eq_true,if_false]
     clear hp
     cases hp:pis bFor ts with
     | true=>
      rw [ptk_yes hp,meat_yes hw hp]
      simp only [if_true]
      obtain ⟨i,hi⟩:∃ i,j=i + 1:=⟨j - 1,by omega⟩
      obtain ⟨r,hr⟩:∃ r,i=r + 16:=⟨i - 16,by omega⟩
      rw [hi,mfor]
      have hst:∀ (d:Int) s,Bd s→∃ x,mstmt i d s=some (x,s):=fun d s hs=>by rw [hr];exact mstmt_f hs r d
      have hper:∀ (d:Int) x s,Bd s→mperhaps i d x s=some (noEx,s):=fun d x s hs=>by rw [show i=(r + 1) + 15 by omega];exact mperhaps_f hs (r + 1) d x
      have e1:∀ s:RS,((mperhaps i (d + 1) [59] s).bind fun a=>(mperhaps i (d + 1) [59] (mwant [59] a.2)).bind fun b=>(mperhaps i (d + 1) [41] (mwant [59] b.2)).bind fun c=>(mstmt i (d + 1) (mwant [41] c.2)).bind fun x=>some (St.mk 7 [a.1,b.1,c.1] [x.1] noTy [] 0 (hdT ts).pos,x.2)) =
        ((mperhaps i (d + 1) [59] s).bind fun a=>some (a.1,mwant [59] a.2)).bind fun a=>((mperhaps i (d + 1) [59] a.2).bind fun b=>some (b.1,mwant [59] b.2)).bind fun b=>((mperhaps i (d + 1) [41] b.2).bind fun c=>some (c.1,mwant [41] c.2)).bind fun c=>(mstmt i (d + 1) c.2).bind fun x=>some (St.mk 7 [a.1,b.1,c.1] [x.1] noTy [] 0 (hdT ts).pos,x.2):=fun s=>by
       simp only [Option.bind_assoc,Option.bind_some]
      have b3:∀ (a b c:Ex) s,Bd s→∃ y,((mstmt i (d + 1) s).bind fun x=>some (St.mk 7 [a,b,c] [x.1] noTy [] 0 (hdT ts).pos,x.2))=some (y,s):=fun a b c s hs=>by
       obtain ⟨x,hx⟩:=hst (d + 1) s hs
       simp only [hx,Option.bind_some]
       exact ⟨_,rfl⟩
      have b2:∀ (a b:Ex) s,Bd s→∃ y,(((mperhaps i (d + 1) [41] s).bind fun c=>some (c.1,mwant [41] c.2)).bind fun c=>(mstmt i (d + 1) c.2).bind fun x=>some (St.mk 7 [a,b,c.1] [x.1] noTy [] 0 (hdT ts).pos,x.2))=some (y,s):=fun a b s hs=>by
       simp only [hper _ _ _ hs,Option.bind_some,mwant_f hs]
       exact b3 a b _ s hs
      have b1:∀ (a:Ex) s,Bd s→∃ y,(((mperhaps i (d + 1) [59] s).bind fun b=>some (b.1,mwant [59] b.2)).bind fun b=>((mperhaps i (d + 1) [41] b.2).bind fun c=>some (c.1,mwant [41] c.2)).bind fun c=>(mstmt i (d + 1) c.2).bind fun x=>some (St.mk 7 [a,b.1,c.1] [x.1] noTy [] 0 (hdT ts).pos,x.2))=some (y,s):=fun a s hs=>by
       have h:=hper (d + 1) [59] _ hs
       rw [h]
       simp only [Option.bind_some,mwant_f hs]
       exact b2 a _ s hs
      rw [e1]
      refine Mk.must (hw.nxT hp) (k':=fun s=>((mperhaps i (d + 1) [59] s).bind fun a=>some (a.1,mwant [59] a.2)).bind fun a=>((mperhaps i (d + 1) [59] a.2).bind fun b=>some (b.1,mwant [59] b.2)).bind fun b=>((mperhaps i (d + 1) [41] b.2).bind fun c=>some (c.1,mwant [41] c.2)).bind fun c=>(mstmt i (d + 1) c.2).bind fun x=>some (St.mk 7 [a.1,b.1,c.1] [x.1] noTy [] 0 (hdT ts).pos,x.2)) (fun us hu=>?_) (fun s hs=>?_)
      rotate_left
      ·have h:=hper (d + 1) [59] _ hs
       rw [h]
       simp only [Option.bind_some,mwant_f hs]
       exact b1 _ s hs
      refine Mk.bind (pmaybe_mk f i (d + 1) [59] hu (by omega)) (fun a us hu=>?_) b1
      refine Mk.bind (pmaybe_mk f i (d + 1) [59] hu (by omega)) (fun b us hu=>?_) (b2 a)
      refine Mk.bind (pmaybe_mk f i (d + 1) [41] hu (by omega)) (fun c us hu=>?_) (b3 a b)
      exact Mk.bind (ih.stmt i (d + 1) us hu (by omega)) (fun x us hu=>⟨hu,rfl⟩) (fun x s _=>⟨_,rfl⟩)
     | false=>
     rw [ptk_no hp,meat_no hp]
     simp only [Bool.false_eq_true,if_false]
     exact mshort_mk f j d _ hw (by omega) hk4
   ·have e4:((hdT ts).kind == 4)=false:=by simpa using hk4
    have hty:ptyped ts=false:=by
     cases h:ptyped ts with
     | false=>rfl
     | true=>exact absurd (ptyped_kind h) hk4
    have nw:=fun x hx=>no_word hw hk4 x hx
    simp only [e4,hty,Bool.false_eq_true,if_false]
    cases hp:pis [59] ts with
    | true=>
     rw [ptk_yes hp,meat_yes hw hp]
     simp only [if_true]
     exact ⟨hw.nxT hp,rfl⟩
    | false=>
    rw [ptk_no hp,meat_no hp]
    simp only [Bool.false_eq_true,if_false]
    have h0:ris [123] ⟨ts,0,0⟩=pis [123] ts:=rfl
    rw [h0]
    clear hp
    cases hp:pis [123] ts with
    | true=>
     simp only [if_true]
     exact Mk.bind (ih.block k d ts hw (by omega)) (fun b us hu=>⟨hu,rfl⟩) (fun b s _=>⟨_,rfl⟩)
    | false=>
    simp only [Bool.false_eq_true,if_false]
    rw [ptk_no (nw bIf (by decide)),ptk_no (nw bWhile (by decide)),ptk_no (nw bSwitch (by decide)),ptk_no (nw bDo (by decide)),ptk_no (nw bFor (by decide)),ptk_no (nw bCase (by decide)),ptk_no (nw bDefault (by decide)),ptk_no (nw bBreak (by decide)),ptk_no (nw bContinue (by decide)),ptk_no (nw bReturn (by decide)),ptk_no (nw bGoto (by decide))]
    cases hl:((hdT ts).kind == 1 && ((ts.getD 1 noTokT).kind == 3 && (ts.getD 1 noTokT).text == [58])) with
    | true=>
     simp only [if_true]
     have hn:(hdT ts).kind ≠ 0:=by
      have:=(Bool.and_eq_true_iff.1 hl).1
      simp only [beq_iff_eq] at this
      omega
     have hn2:(hdT (nx ts)).kind ≠ 0:=by
      rw [hd_nx hw hn]
      have:=(Bool.and_eq_true_iff.1 (Bool.and_eq_true_iff.1 hl).2).1
      simp only [beq_iff_eq] at this
      omega
     rw [mnext_ok hn hw,mnext_ok hn2 (hw.nx hn)]
     exact ⟨(hw.nx hn).nx hn2,rfl⟩
    | false=>
     simp only [Bool.false_eq_true,if_false]
     exact expr_end hw (by omega) _ _
theorem pinit_mk (f g:Nat) (l:Int) (hl:l=0 ∨ 0<l) {ts:List Tok} (hw:Wx ts) (hg:f<g) (K:List Int→Un) :
  Mk ((pinit f l ts).bind fun v ts=>(pmust [59] ts).bind fun _ ts=>.ok (K v) ts)
   (if (meat [61] ⟨ts,0,0⟩).1 then
    if 0<l then (mvalues g l (meat [61] ⟨ts,0,0⟩).2).bind fun v=>some (K v.1,mwant [59] v.2)
    else some (K [(mnumber (meat [61] ⟨ts,0,0⟩).2).1],mwant [59] (mnumber (meat [61] ⟨ts,0,0⟩).2).2)
   else some (K [],mwant [59] (meat [61] ⟨ts,0,0⟩).2)):=by
 unfold pinit
 have hfin:∀ (v:List Int) (us:List Tok),Wx us→Mk ((pmust [59] us).bind fun _ ts=>Rs.ok (K v) ts) (some (K v,mwant [59] ⟨us,0,0⟩)):=fun v us hu=>Mk.must hu (k':=fun s=>some (K v,s)) (fun ws hws=>⟨hws,rfl⟩) (fun s _=>⟨_,rfl⟩)
 cases hp:pis [61] ts with
 | false=>
  rw [ptk_no hp,meat_no hp]
  simp only [Bool.false_eq_true,if_false]
  exact hfin [] ts hw
 | true=>
  rw [ptk_yes hp,meat_yes hw hp]
  simp only [if_true]
  rcases hl with rfl | hl
  ·have h0:¬ (0:Int)<0:=by omega
   simp only [beq_self_eq_true,if_true,if_neg h0]
   rw [Rs.bind_bind]
   exact Mk.bind1 (k':=fun v:Int × RS=>some (K [v.1],mwant [59] v.2)) (mnumber_mk (hw.nxT hp)) (fun v us hu=>hfin [v] us hu) (fun v s hs=>by simp only [mwant_f hs];exact ⟨_,rfl⟩)
  ·have h0:(l == 0)=false:=by simp;omega
   simp only [h0,Bool.false_eq_true,if_false,if_pos hl]
   obtain ⟨q,hq⟩:∃ q,g=q + 1:=⟨g - 1,by omega⟩
   unfold mvalues
   rw [Rs.bind_bind]
   refine Mk.must (hw.nxT hp) (k':=fun s=>(mvals g l [] s).bind fun v=>some (K v.1,mwant [59] v.2)) (fun us hu=>?_) (fun s hs=>by simp only [hq,mvals_f hs,Option.bind_some,mwant_f hs];exact ⟨_,rfl⟩)
   exact Mk.bind (pvals_mk f g l [] us hu (by omega)) (fun v us hu=>hfin v us hu) (fun v s hs=>by simp only [mwant_f hs];exact ⟨_,rfl⟩)
theorem pitem_mk (f g:Nat) (u:Un) {ts:List Tok} (hw:Wx ts) (hg:3 * f + 40≤g):Mk (pitem f u ts) (mitem g u ⟨ts,0,0⟩):=by
 unfold pitem mitem
 simp only
 let N:Ty→Tok × RS→Option (Un × RS):=fun t n=>
  if (!rok n.2)=true then some (u,n.2)
  else if (!ris [40] n.2)=true then mglobal g u n.1.text t n.1.pos n.2
  else if u.funcs.length=8 then some (u,mfailAt 2 n.1.pos n.2)
  else (mparams g n.2).bind fun p=>(mblock g 1 p.2).bind fun b=>some (Un.mk u.globals (u.funcs ++ [⟨n.1.text,t,p.1,b.1,[],n.1.pos⟩]),b.2)
 refine Mk.bind1E (k':=fun t:Ty × RS=>N t.1 (mkind 1 t.2)) (mtyp_mk hw) (fun t us ht hu=>?_) (fun t s hs=>?_)
 rotate_left
 ·simp only [mkind_f hs (k:=1) (by decide),N,hs.1,Bool.not_false,if_true]
  exact ⟨_,rfl⟩
 have hl0:=ptyp_len ht
 obtain ⟨tk,tp,tl⟩:=t
 simp only at hl0
 subst hl0
 unfold pname
 rw [Rs.bind_bind]
 refine Mk.bind1 (k':=N ⟨tk,tp,0⟩) (mkind_mk (k:=1) (by decide) hu) (fun n vs hv=>?_) (fun n s hs=>?_)
 rotate_left
 ·simp only [N,hs.1,Bool.not_false,if_true]
  exact ⟨_,rfl⟩
 simp only [Rs.bind,N,rok_ok,Bool.not_true,Bool.false_eq_true,if_false]
 have h0:ris [40] ⟨vs,0,0⟩=pis [40] vs:=rfl
 rw [h0]
 cases hp:pis [40] vs with
 | true=>
  rw [ptk_yes hp]
  simp only [Bool.not_true,Bool.false_eq_true,if_false]
  split
  ·rw [mfailAt_ok]
   exact ⟨two _,_,_,hv.1.last,rfl⟩
  ·refine Mk.bind (pparams_mk f g (hv.nxT hp) (by omega) _ (mwant_yes hv hp)) (fun p ws hws=>?_) (fun p s hs=>?_)
   ·exact Mk.bind ((mkS f).block g 1 ws hws hg) (fun b xs hxs=>⟨hxs,rfl⟩) (fun b s _=>⟨_,rfl⟩)
   ·obtain ⟨q,hq⟩:∃ q,g=q + 2:=⟨g - 2,by omega⟩
    simp only [hq,mblock_f hs,Option.bind_some]
    exact ⟨_,rfl⟩
 | false=>
  rw [ptk_no hp]
  simp only [Bool.not_false,if_true]
  unfold mglobal
  split
  ·rw [mfailAt_ok]
   exact ⟨two _,_,_,hv.1.last,rfl⟩
  ·simp only
   refine Mk.bind1E (k':=fun l:Int × RS=>if (meat [61] l.2).1=true then
     if 0<l.1 then (mvalues g l.1 (meat [61] l.2).2).bind fun v=>some (Un.mk (u.globals ++ [De.mk n.text ⟨tk,tp,l.1⟩ v.1 n.pos]) u.funcs,mwant [59] v.2)
     else some (Un.mk (u.globals ++ [De.mk n.text ⟨tk,tp,l.1⟩ [(mnumber (meat [61] l.2).2).1] n.pos]) u.funcs,mwant [59] (mnumber (meat [61] l.2).2).2)
    else some (Un.mk (u.globals ++ [De.mk n.text ⟨tk,tp,l.1⟩ [] n.pos]) u.funcs,mwant [59] (meat [61] l.2).2)) (mlength_mk hv) (fun l ws hl hws=>?_) (fun l s hs=>?_)
   ·exact pinit_mk f g l (plen_pos hl) hws (by omega) (fun v=>⟨u.globals ++ [⟨n.text,⟨tk,tp,l⟩,v,n.pos⟩],u.funcs⟩)
   ·simp only [meat_f hs,Bool.false_eq_true,if_false,mwant_f hs]
    exact ⟨_,rfl⟩
theorem ploop_mk (k g:Nat) (hg:3 * k + 40≤g):∀ (f f':Nat) (u:Un) (ts:List Tok),Wx ts→f<f'→Mk (ploop k f u ts) (mloop g f' u ⟨ts,0,0⟩)
 | 0,_,_,_,_,_=>trivial
 | f + 1,f',u,ts,hw,hf=>by
  obtain ⟨m,rfl⟩:∃ m,f'=m + 2:=⟨f' - 2,by omega⟩
  rw [ploop,mloop]
  simp only [rok_ok,Bool.true_and]
  split
  ·exact Mk.bind (pitem_mk k g u hw hg) (fun v us hu=>ploop_mk k g hg f (m + 1) v us hu (by omega)) (fun v s hs=>⟨v,by simp [mloop,hs.1]⟩)
  ·exact ⟨hw,rfl⟩
end Go.Proofs.YtdmacgoeikjdbaaGreatDoor

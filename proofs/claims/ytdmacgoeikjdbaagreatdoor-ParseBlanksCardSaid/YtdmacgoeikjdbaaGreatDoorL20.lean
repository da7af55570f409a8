/- What both parsers make of tokens that stand elsewhere is the same, but -/
import Derived.Test.YtdmacgoeikjdbaaGreatDoorL16
import Derived.Test.YtdmacgoeikjdbaaGreatDoorL19
import Derived.Test.YtdmacgoeikjdbaaGreatDoorL01
set_option linter.unusedSimpArgs false
set_option linter.unusedVariables false
namespace Go.Proofs.YtdmacgoeikjdbaaGreatDoor
open Go.RowKit
mutual
def bEx:Ex→Ex
 | .mk o t s n ks _=>.mk o t s n (bExs ks) 0
def bExs:List Ex→List Ex
 | []=>[]
 | x :: l=>bEx x :: bExs l
end
theorem bExs_map:∀ l:List Ex,bExs l=l.map bEx
 | []=>by simp [bExs]
 | x :: l=>by simp [bExs,bExs_map l]
theorem bEx_mk (o:Int) (t:Ty) (s:List UInt8) (n:Int) (ks:List Ex) (p:Int):bEx (.mk o t s n ks p)=.mk o t s n (ks.map bEx) 0:=by
 simp only [bEx,bExs_map]
mutual
def bSt:St→St
 | .mk o e b t s n _=>.mk o (e.map bEx) (bSts b) t s n 0
def bSts:List St→List St
 | []=>[]
 | x :: l=>bSt x :: bSts l
end
theorem bSts_map:∀ l:List St,bSts l=l.map bSt
 | []=>by simp [bSts]
 | x :: l=>by simp [bSts,bSts_map l]
theorem bSt_mk (o:Int) (e:List Ex) (b:List St) (t:Ty) (s:List UInt8) (n p:Int):bSt (.mk o e b t s n p)=.mk o (e.map bEx) (b.map bSt) t s n 0:=by
 simp only [bSt,bSts_map]
def bDe (d:De):De:=⟨d.name,d.ty,d.init,0⟩
def bFn (f:Fn):Fn:=⟨f.name,f.ret,f.params.map bDe,f.body.map bSt,f.locals.map bDe,0⟩
def bUn (u:Un):Un:=⟨u.globals.map bDe,u.funcs.map bFn⟩
section
variable (g:Int→Int)
def mvT (t:Tok):Tok:=⟨t.kind,t.text,t.n,g t.pos⟩
def mvF (f:Flt):Flt:=⟨f.err,g f.pos⟩
inductive Sh {α:Type} (R:α→α→Prop):Rs α→Rs α→Prop where
 | out:Sh R .out .out
 | bad (f:Flt):Sh R (.bad f) (.bad (mvF g f))
 | ok {x y:α} {ts:List Tok} (hr:R x y) (ht:ts ≠ []):Sh R (.ok x ts) (.ok y (ts.map (mvT g)))
abbrev bare {α β:Type} (f:α→β):α→α→Prop:=fun x y=>f x=f y
variable {g}
theorem Sh.bind {α β:Type} {R:α→α→Prop} {R2:β→β→Prop} {r r':Rs α} {k k':α→List Tok→Rs β} (hr:Sh g R r r') (hk:∀ x y ts,R x y→ts ≠ []→Sh g R2 (k x ts) (k' y (ts.map (mvT g)))):Sh g R2 (r.bind k) (r'.bind k'):=by
 cases hr with
 | out=>exact .out
 | bad f=>exact .bad f
 | ok hr ht=>exact hk _ _ _ hr ht
theorem hd_mv {ts:List Tok} (ht:ts ≠ []):hdT (ts.map (mvT g))=mvT g (hdT ts):=by
 cases ts with
 | nil=>exact absurd rfl ht
 | cons t l=>rfl
theorem hd_kind {ts:List Tok} (ht:ts ≠ []):(hdT (ts.map (mvT g))).kind=(hdT ts).kind:=by rw [hd_mv ht];rfl
theorem hd_text {ts:List Tok} (ht:ts ≠ []):(hdT (ts.map (mvT g))).text=(hdT ts).text:=by rw [hd_mv ht];rfl
theorem hd_n {ts:List Tok} (ht:ts ≠ []):(hdT (ts.map (mvT g))).n=(hdT ts).n:=by rw [hd_mv ht];rfl
theorem hd_pos {ts:List Tok} (ht:ts ≠ []):(hdT (ts.map (mvT g))).pos=g (hdT ts).pos:=by rw [hd_mv ht];rfl
theorem nx_ne {ts:List Tok} (ht:ts ≠ []):nx ts ≠ []:=by
 unfold nx
 split
 ·rename_i h
  intro e
  have:=congrArg List.length e
  simp at this
  omega
 ·exact ht
theorem nx_mv (ts:List Tok):nx (ts.map (mvT g))=(nx ts).map (mvT g):=by
 unfold nx
 rw [List.length_map]
 split
 ·rw [List.map_tail]
 ·rfl
theorem pis_mv (x:List UInt8) {ts:List Tok} (ht:ts ≠ []):pis x (ts.map (mvT g))=pis x ts:=by
 unfold pis
 rw [hd_mv ht]
 rfl
theorem ptyped_mv {ts:List Tok} (ht:ts ≠ []):ptyped (ts.map (mvT g))=ptyped ts:=by
 unfold ptyped
 rw [hd_mv ht]
 rfl
theorem one_kind (ts:List Tok):((ts.map (mvT g)).getD 1 noTokT).kind=(ts.getD 1 noTokT).kind:=by
 rcases ts with _ | ⟨a,_ | ⟨b,l⟩⟩ <;> rfl
theorem one_text (ts:List Tok):((ts.map (mvT g)).getD 1 noTokT).text=(ts.getD 1 noTokT).text:=by
 rcases ts with _ | ⟨a,_ | ⟨b,l⟩⟩ <;> rfl
theorem Sh.fail {α:Type} {R:α→α→Prop} (e:Int) {ts:List Tok} (ht:ts ≠ []):Sh g R (pfail e ts) (pfail e (ts.map (mvT g))):=by
 unfold pfail
 rw [hd_pos ht]
 exact .bad _
theorem Sh.take {α:Type} {R:α→α→Prop} (x:List UInt8) {ts:List Tok} (ht:ts ≠ []) {yes yes' no no':List Tok→Rs α} (hy:Sh g R (yes (nx ts)) (yes' ((nx ts).map (mvT g)))) (hn:Sh g R (no ts) (no' (ts.map (mvT g)))):Sh g R (ptake x ts yes no) (ptake x (ts.map (mvT g)) yes' no'):=by
 unfold ptake
 rw [pis_mv x ht,nx_mv]
 split
 ·exact hy
 ·exact hn
theorem Sh.ite {α:Type} {R:α→α→Prop} {c:Prop} [Decidable c] {r r' s s':Rs α} (h1:Sh g R r r') (h2:Sh g R s s'):Sh g R (if c then r else s) (if c then r' else s'):=by
 split
 ·exact h1
 ·exact h2
theorem pmust_sh (x:List UInt8) {ts:List Tok} (ht:ts ≠ []):Sh g Eq (pmust x ts) (pmust x (ts.map (mvT g))):=by
 unfold pmust
 rw [pis_mv x ht,nx_mv]
 exact Sh.ite (.ok rfl (nx_ne ht)) (Sh.fail _ ht)
theorem pkindTok_sh (k:Int) {ts:List Tok} (ht:ts ≠ []):Sh g (fun x y=>y=mvT g x) (pkindTok k ts) (pkindTok k (ts.map (mvT g))):=by
 unfold pkindTok
 rw [hd_kind ht,nx_mv,hd_mv ht]
 exact Sh.ite (.ok rfl (nx_ne ht)) (Sh.fail _ ht)
theorem pname_sh {ts:List Tok} (ht:ts ≠ []):Sh g (fun x y=>y=(x.1,g x.2)) (pname ts) (pname (ts.map (mvT g))):=
 (pkindTok_sh 1 ht).bind fun _ _ _ e h=>.ok (by rw [e];rfl) h
theorem pnumber_sh {ts:List Tok} (ht:ts ≠ []):Sh g Eq (pnumber ts) (pnumber (ts.map (mvT g))):=
 (pkindTok_sh 2 ht).bind fun _ _ _ e h=>.ok (by rw [e];rfl) h
theorem pvalue_sh {ts:List Tok} (ht:ts ≠ []):Sh g Eq (pvalue ts) (pvalue (ts.map (mvT g))):=
 Sh.take _ ht ((pnumber_sh (nx_ne ht)).bind fun _ _ _ e h=>.ok (by rw [e]) h) (pnumber_sh ht)
theorem pkindL_sh (u:Int):∀ (l:List (List UInt8)) (k:Int) {ts:List Tok},ts ≠ []→Sh g Eq (pkindL u l k ts) (pkindL u l k (ts.map (mvT g)))
 | [],_,_,ht=>Sh.fail _ ht
 | _ :: l,_,_,ht=>Sh.take _ ht (.ok rfl (nx_ne ht)) (pkindL_sh u l _ ht)
theorem pkind_sh {ts:List Tok} (ht:ts ≠ []):Sh g Eq (pkind ts) (pkind (ts.map (mvT g))):=
 Sh.take _ ht (.ok rfl (nx_ne ht)) (Sh.take _ ht (pkindL_sh _ _ _ (nx_ne ht)) (pkindL_sh _ _ _ ht))
theorem pstars_sh:∀ (f:Nat) (n:Int) {ts:List Tok},ts ≠ []→Sh g Eq (pstars f n ts) (pstars f n (ts.map (mvT g)))
 | 0,_,_,ht=>.ok rfl ht
 | f + 1,n,ts,ht=>by
  simp only [pstars]
  rw [pis_mv _ ht,nx_mv]
  exact Sh.ite (Sh.ite (Sh.fail _ ht) (pstars_sh f _ (nx_ne ht))) (.ok rfl ht)
theorem ptyp_sh {ts:List Tok} (ht:ts ≠ []):Sh g Eq (ptyp ts) (ptyp (ts.map (mvT g))):=
 (pkind_sh ht).bind fun _ _ _ e h=>(pstars_sh 5 0 h).bind fun _ _ _ e2 h=>.ok (by rw [e,e2]) h
theorem plength_sh {ts:List Tok} (ht:ts ≠ []):Sh g Eq (plength ts) (plength (ts.map (mvT g))):=by
 refine (pnumber_sh ht).bind fun n n' us e hu=>?_
 subst e
 refine Sh.ite ?_ ((pmust_sh _ hu).bind fun _ _ _ _ h=>.ok rfl h)
 rw [hd_pos ht]
 exact .bad _
theorem pvals_sh:∀ (f:Nat) (len:Int) (acc:List Int) {ts:List Tok},ts ≠ []→Sh g Eq (pvals f len acc ts) (pvals f len acc (ts.map (mvT g)))
 | 0,_,_,_,_=>.out
 | f + 1,len,acc,ts,ht=>by
  simp only [pvals]
  rw [pis_mv _ ht,hd_kind ht]
  refine Sh.ite (Sh.fail _ ht) ((pvalue_sh ht).bind fun v v' us e hu=>?_)
  subst e
  exact Sh.take _ hu (pvals_sh f _ _ (nx_ne hu)) (.ok rfl hu)
theorem pparams1_sh:∀ (f:Nat) (acc acc':List De) {ts:List Tok},acc.map bDe=acc'.map bDe→ts ≠ []→Sh g (bare (List.map bDe)) (pparams1 f acc ts) (pparams1 f acc' (ts.map (mvT g)))
 | 0,_,_,_,_,_=>.out
 | f + 1,acc,acc',ts,ha,ht=>by
  simp only [pparams1]
  have hl:acc.length=acc'.length:=by simpa using congrArg List.length ha
  rw [hl]
  refine Sh.ite (Sh.fail _ ht) ((ptyp_sh ht).bind fun t t' us e hu=>(pname_sh hu).bind fun n n' vs e2 hv=>?_)
  subst e e2
  have h2:(acc ++ [⟨n.1,t,[],n.2⟩]:List De).map bDe=(acc' ++ [⟨n.1,t,[],g n.2⟩]:List De).map bDe:=by
   rw [List.map_append,List.map_append,ha]
   rfl
  exact Sh.take _ hv (pparams1_sh f _ _ h2 (nx_ne hv)) (.ok h2 hv)
theorem pparams_sh (f:Nat) {ts:List Tok} (ht:ts ≠ []):Sh g (bare (List.map bDe)) (pparams f ts) (pparams f (ts.map (mvT g))):=by
 refine Sh.take _ ht (.ok rfl (nx_ne ht)) ?_
 show Sh g _ (if pis bVoid ts && _ then _ else _) (if pis bVoid (ts.map (mvT g)) && _ then _ else _)
 rw [pis_mv _ ht,one_kind,one_text,nx_mv,nx_mv]
 exact Sh.ite (.ok rfl (nx_ne (nx_ne ht))) ((pparams1_sh f [] [] rfl ht).bind fun l l' us e hu=>(pmust_sh _ hu).bind fun _ _ _ _ h=>.ok e h)
structure ShE (g:Int→Int) (f:Nat):Prop where
 expr:∀ (d:Int) {ts:List Tok},ts ≠ []→Sh g (bare bEx) (pexpr f d ts) (pexpr f d (ts.map (mvT g)))
 cond:∀ (d:Int) {ts:List Tok},ts ≠ []→Sh g (bare bEx) (pcond f d ts) (pcond f d (ts.map (mvT g)))
 binary:∀ (d:Int) (n:Nat) {ts:List Tok},ts ≠ []→Sh g (bare bEx) (pbinary f d n ts) (pbinary f d n (ts.map (mvT g)))
 binloop:∀ (d:Int) (n:Nat) (a b:Ex) {ts:List Tok},bEx a=bEx b→ts ≠ []→Sh g (bare bEx) (pbinloop f d n a ts) (pbinloop f d n b (ts.map (mvT g)))
 operand:∀ (d:Int) {ts:List Tok},ts ≠ []→Sh g (bare (List.map bEx)) (poperand f d ts) (poperand f d (ts.map (mvT g)))
 unary:∀ (d:Int) {ts:List Tok},ts ≠ []→Sh g (bare bEx) (punary f d ts) (punary f d (ts.map (mvT g)))
 postfix_:∀ (d:Int) {ts:List Tok},ts ≠ []→Sh g (bare bEx) (ppostfix f d ts) (ppostfix f d (ts.map (mvT g)))
 postloop:∀ (d:Int) (a b:Ex) {ts:List Tok},bEx a=bEx b→ts ≠ []→Sh g (bare bEx) (ppostloop f d a ts) (ppostloop f d b (ts.map (mvT g)))
 primary:∀ (d:Int) {ts:List Tok},ts ≠ []→Sh g (bare bEx) (pprimary f d ts) (pprimary f d (ts.map (mvT g)))
 args:∀ (d:Int) {ts:List Tok},ts ≠ []→Sh g (bare (List.map bEx)) (pargs f d ts) (pargs f d (ts.map (mvT g)))
 argloop:∀ (d:Int) (acc acc':List Ex) {ts:List Tok},acc.map bEx=acc'.map bEx→ts ≠ []→Sh g (bare (List.map bEx)) (pargloop f d acc ts) (pargloop f d acc' (ts.map (mvT g)))
theorem shE:∀ f:Nat,ShE g f
 | 0=>by
  constructor <;> intros <;> simp only [pexpr,pcond,pbinary,pbinloop,poperand,punary,ppostfix,ppostloop,pprimary,pargs,pargloop] <;> exact .out
 | f + 1=>by
  have ih:=shE f
  constructor
  ·intro d ts ht
   simp only [pexpr]
   refine Sh.ite (Sh.fail _ ht) ((ih.cond d ht).bind fun a a' us e hu=>?_)
   rw [hd_kind hu,hd_text hu,nx_mv,hd_pos hu]
   exact Sh.ite (.ok e hu) ((ih.expr _ (nx_ne hu)).bind fun b b' vs e2 hv=>.ok (by simp only [bare,bEx_mk,List.map_cons,List.map_nil,e,e2]) hv)
  ·intro d ts ht
   simp only [pcond]
   refine (ih.binary d 0 ht).bind fun a a' us e hu=>Sh.take _ hu ?_ (.ok e hu)
   refine (ih.expr _ (nx_ne hu)).bind fun b b' vs e2 hv=>(pmust_sh _ hv).bind fun _ _ ws _ hw=>Sh.ite (Sh.fail _ hw) ((ih.cond _ hw).bind fun c c' xs e3 hx=>?_)
   exact .ok (by simp only [bare,bEx_mk,List.map_cons,List.map_nil,e,e2,e3]) hx
  ·intro d n ts ht
   simp only [pbinary]
   exact Sh.ite (ih.unary d ht) ((ih.binary d _ ht).bind fun a a' us e hu=>ih.binloop d n a a' e hu)
  ·intro d n a b ts hab ht
   simp only [pbinloop]
   rw [hd_kind ht,hd_text ht,nx_mv,hd_pos ht]
   exact Sh.ite ((ih.binary d _ (nx_ne ht)).bind fun b b' us e hu=>ih.binloop d n _ _ (by simp only [bEx_mk,List.map_cons,List.map_nil,hab,e]) hu) (.ok hab ht)
  ·intro d ts ht
   simp only [poperand]
   exact Sh.ite (Sh.fail _ ht) ((ih.unary d ht).bind fun x x' us e hu=>.ok (by simp only [bare,List.map_cons,List.map_nil,e]) hu)
  ·intro d ts ht
   simp only [punary]
   rw [hd_kind ht,hd_text ht,nx_mv,hd_pos ht,pis_mv _ ht,ptyped_mv (nx_ne ht)]
   refine Sh.ite ((ih.operand _ (nx_ne ht)).bind fun k k' us e hu=>.ok (by simp only [bare,bEx_mk,e]) hu) (Sh.ite ?_ (Sh.take _ ht ?_ (ih.postfix_ d ht)))
   ·exact (ptyp_sh (nx_ne ht)).bind fun t t' us e hu=>(pmust_sh _ hu).bind fun _ _ vs _ hv=>(ih.operand _ hv).bind fun k k' ws e2 hw=>.ok (by simp only [bare,bEx_mk,e,e2]) hw
   ·exact (pmust_sh _ (nx_ne ht)).bind fun _ _ us _ hu=>(ptyp_sh hu).bind fun t t' vs e hv=>(pmust_sh _ hv).bind fun _ _ ws _ hw=>.ok (by simp only [bare,bEx_mk,e]) hw
  ·intro d ts ht
   simp only [ppostfix]
   exact (ih.primary d ht).bind fun a a' us e hu=>ih.postloop d a a' e hu
  ·intro d a b ts hab ht
   simp only [ppostloop]
   refine Sh.take _ ht ((ih.expr _ (nx_ne ht)).bind fun i i' us e hu=>(pmust_sh _ hu).bind fun _ _ vs _ hv=>ih.postloop d _ _ (by simp only [bEx_mk,List.map_cons,List.map_nil,hab,e]) hv) (Sh.take _ ht (ih.postloop d _ _ (by simp only [bEx_mk,List.map_cons,List.map_nil,hab]) (nx_ne ht)) (Sh.take _ ht (ih.postloop d _ _ (by simp only [bEx_mk,List.map_cons,List.map_nil,hab]) (nx_ne ht)) (.ok hab ht)))
  ·intro d ts ht
   simp only [pprimary]
   refine Sh.take _ ht ((ih.expr _ (nx_ne ht)).bind fun e e' us he hu=>(pmust_sh _ hu).bind fun _ _ vs _ hv=>.ok he hv) ?_
   rw [hd_kind ht,hd_n ht,hd_text ht,nx_mv,hd_pos ht]
   refine Sh.ite (.ok (by simp only [bare,bEx_mk]) (nx_ne ht)) (Sh.ite (Sh.take _ (nx_ne ht) ?_ (.ok (by simp only [bare,bEx_mk]) (nx_ne ht))) (Sh.fail _ ht))
   exact (ih.args _ (nx_ne (nx_ne ht))).bind fun k k' us e hu=>.ok (by simp only [bare,bEx_mk,e]) hu
  ·intro d ts ht
   simp only [pargs]
   exact Sh.take _ ht (.ok rfl (nx_ne ht)) (ih.argloop d [] [] rfl ht)
  ·intro d acc acc' ts ha ht
   simp only [pargloop]
   have hl:acc.length=acc'.length:=by simpa using congrArg List.length ha
   rw [hl]
   refine Sh.ite (Sh.fail _ ht) ((ih.expr d ht).bind fun x x' us e hu=>?_)
   have h2:(acc ++ [x]).map bEx=(acc' ++ [x']).map bEx:=by rw [List.map_append,List.map_append,ha,List.map_cons,List.map_cons,e]
   exact Sh.take _ hu (ih.argloop d _ _ h2 (nx_ne hu)) ((pmust_sh _ hu).bind fun _ _ vs _ hv=>.ok h2 hv)
theorem pparen_sh (f:Nat) (d:Int) {ts:List Tok} (ht:ts ≠ []):Sh g (bare bEx) (pparen f d ts) (pparen f d (ts.map (mvT g))):=
 (pmust_sh _ ht).bind fun _ _ _ _ h=>((shE f).expr d h).bind fun _ _ _ e h=>(pmust_sh _ h).bind fun _ _ _ _ h=>.ok e h
theorem pmaybe_sh (f:Nat) (d:Int) (x:List UInt8) {ts:List Tok} (ht:ts ≠ []):Sh g (bare bEx) (pmaybe f d x ts) (pmaybe f d x (ts.map (mvT g))):=
 Sh.take _ ht (.ok rfl (nx_ne ht)) (((shE f).expr d ht).bind fun _ _ _ e h=>(pmust_sh _ h).bind fun _ _ _ _ h=>.ok e h)
structure ShS (g:Int→Int) (f:Nat):Prop where
 block:∀ (d:Int) {ts:List Tok},ts ≠ []→Sh g (bare (List.map bSt)) (pblock f d ts) (pblock f d (ts.map (mvT g)))
 blkloop:∀ (d:Int) (acc acc':List St) {ts:List Tok},acc.map bSt=acc'.map bSt→ts ≠ []→Sh g (bare (List.map bSt)) (pblkloop f d acc ts) (pblkloop f d acc' (ts.map (mvT g)))
 stmt:∀ (d:Int) {ts:List Tok},ts ≠ []→Sh g (bare bSt) (pstmt f d ts) (pstmt f d (ts.map (mvT g)))
theorem shS:∀ f:Nat,ShS g f
 | 0=>by
  constructor <;> intros <;> simp only [pblock,pblkloop,pstmt] <;> exact .out
 | f + 1=>by
  have ih:=shS f
  have ie:ShE g f:=shE f
  constructor
  ·intro d ts ht
   simp only [pblock]
   exact (pmust_sh _ ht).bind fun _ _ us _ hu=>ih.blkloop d [] [] rfl hu
  ·intro d acc acc' ts ha ht
   simp only [pblkloop]
   refine Sh.take _ ht (.ok ha (nx_ne ht)) ?_
   show Sh g _ (if (hdT ts).kind == 0 then _ else _) (if (hdT (ts.map (mvT g))).kind == 0 then _ else _)
   rw [hd_kind ht]
   refine Sh.ite (Sh.fail _ ht) ((ih.stmt _ ht).bind fun x x' us e hu=>ih.blkloop d _ _ ?_ hu)
   rw [List.map_append,List.map_append,ha,List.map_cons,List.map_cons,e]
  ·intro d ts ht
   simp only [pstmt]
   rw [ptyped_mv ht,pis_mv _ ht,hd_kind ht,hd_text ht,one_kind,one_text,nx_mv,nx_mv]
   have hn:=nx_ne ht
   refine Sh.ite (Sh.fail _ ht) (Sh.ite ?_ (Sh.take _ ht (.ok (by simp only [bare,bSt_mk]) hn) (Sh.ite ?_ (Sh.take _ ht ?_ (Sh.take _ ht ?_ (Sh.take _ ht ?_ (Sh.take _ ht ?_ (Sh.take _ ht ?_ (Sh.take _ ht ?_ (Sh.take _ ht ?_ (Sh.take _ ht ?_ (Sh.take _ ht ?_ (Sh.take _ ht ?_ (Sh.take _ ht ?_ (Sh.ite ?_ ?_)))))))))))))))
   ·refine (ptyp_sh ht).bind fun t t' us e hu=>(pname_sh hu).bind fun n n' vs e2 hv=>Sh.take _ hv ?_ (Sh.take _ hv ?_ ?_)
    ·exact (plength_sh (nx_ne hv)).bind fun l l' ws e3 hw=>(pmust_sh _ hw).bind fun _ _ xs _ hx=>.ok (by simp only [bare,bSt_mk,e,e2,e3]) hx
    ·exact (ie.expr _ (nx_ne hv)).bind fun x x' ws e3 hw=>(pmust_sh _ hw).bind fun _ _ xs _ hx=>.ok (by simp only [bare,bSt_mk,List.map_cons,List.map_nil,e,e2,e3]) hx
    ·exact (pmust_sh _ hv).bind fun _ _ xs _ hx=>.ok (by simp only [bare,bSt_mk,e,e2]) hx
   ·exact (ih.block _ ht).bind fun b b' us e hu=>.ok (by simp only [bare,bSt_mk,e]) hu
   ·refine (pparen_sh f _ hn).bind fun x x' us e hu=>(ih.stmt _ hu).bind fun b b' vs e2 hv=>Sh.take _ hv ((ih.stmt _ (nx_ne hv)).bind fun c c' ws e3 hw=>?_) ?_
    ·exact .ok (by simp only [bare,bSt_mk,List.map_cons,List.map_nil,e,e2,e3]) hw
    ·exact .ok (by simp only [bare,bSt_mk,List.map_cons,List.map_nil,e,e2]) hv
   ·exact (pparen_sh f _ hn).bind fun x x' us e hu=>(ih.stmt _ hu).bind fun b b' vs e2 hv=>.ok (by simp only [bare,bSt_mk,List.map_cons,List.map_nil,e,e2]) hv
   ·exact (pparen_sh f _ hn).bind fun x x' us e hu=>(ih.stmt _ hu).bind fun b b' vs e2 hv=>.ok (by simp only [bare,bSt_mk,List.map_cons,List.map_nil,e,e2]) hv
   ·exact (ih.stmt _ hn).bind fun b b' us e hu=>(pmust_sh _ hu).bind fun _ _ vs _ hv=>(pparen_sh f _ hv).bind fun x x' ws e2 hw=>(pmust_sh _ hw).bind fun _ _ xs _ hx=>.ok (by simp only [bare,bSt_mk,List.map_cons,List.map_nil,e,e2]) hx
   ·exact (pmust_sh _ hn).bind fun _ _ us _ hu=>(pmaybe_sh f _ _ hu).bind fun a a' vs e hv=>(pmaybe_sh f _ _ hv).bind fun b b' ws e2 hw=>(pmaybe_sh f _ _ hw).bind fun c c' xs e3 hx=>(ih.stmt _ hx).bind fun s s' ys e4 hy=>.ok (by simp only [bare,bSt_mk,List.map_cons,List.map_nil,e,e2,e3,e4]) hy
   ·exact (pvalue_sh hn).bind fun v v' us e hu=>(pmust_sh _ hu).bind fun _ _ vs _ hv=>.ok (by simp only [bare,bSt_mk,e]) hv
   ·exact (pmust_sh _ hn).bind fun _ _ us _ hu=>.ok (by simp only [bare,bSt_mk]) hu
   ·exact (pmust_sh _ hn).bind fun _ _ us _ hu=>.ok (by simp only [bare,bSt_mk]) hu
   ·exact (pmust_sh _ hn).bind fun _ _ us _ hu=>.ok (by simp only [bare,bSt_mk]) hu
   ·exact Sh.take _ hn (.ok (by simp only [bare,bSt_mk]) (nx_ne hn)) ((ie.expr _ hn).bind fun x x' us e hu=>(pmust_sh _ hu).bind fun _ _ vs _ hv=>.ok (by simp only [bare,bSt_mk,List.map_cons,List.map_nil,e]) hv)
   ·exact (pname_sh hn).bind fun n n' us e hu=>(pmust_sh _ hu).bind fun _ _ vs _ hv=>.ok (by simp only [bare,bSt_mk,e]) hv
   ·exact .ok (by simp only [bare,bSt_mk]) (nx_ne hn)
   ·exact (ie.expr _ ht).bind fun x x' us e hu=>(pmust_sh _ hu).bind fun _ _ vs _ hv=>.ok (by simp only [bare,bSt_mk,List.map_cons,List.map_nil,e]) hv
theorem pinit_sh (f:Nat) (len:Int) {ts:List Tok} (ht:ts ≠ []):Sh g Eq (pinit f len ts) (pinit f len (ts.map (mvT g))):=by
 refine Sh.take _ ht (Sh.ite ((pvalue_sh (nx_ne ht)).bind fun v v' us e hu=>.ok (by rw [e]) hu) ?_) (.ok rfl ht)
 exact (pmust_sh _ (nx_ne ht)).bind fun _ _ us _ hu=>(pvals_sh f len [] hu).bind fun l l' vs e hv=>(pmust_sh _ hv).bind fun _ _ ws _ hw=>.ok e hw
theorem bUn_len {u v:Un} (h:bUn u=bUn v):u.globals.length=v.globals.length∧u.funcs.length=v.funcs.length:=by
 unfold bUn at h
 injection h with h1 h2
 exact ⟨by simpa using congrArg List.length h1,by simpa using congrArg List.length h2⟩
theorem pitem_sh (f:Nat) {u v:Un} (huv:bUn u=bUn v) {ts:List Tok} (ht:ts ≠ []):Sh g (bare bUn) (pitem f u ts) (pitem f v (ts.map (mvT g))):=by
 obtain ⟨l1,l2⟩:=bUn_len huv
 unfold bUn at huv
 injection huv with h1 h2
 refine (ptyp_sh ht).bind fun t t' us e hu=>(pname_sh hu).bind fun n n' vs e2 hv=>?_
 subst e e2
 refine Sh.take _ hv ?_ ?_
 ·rw [l2]
  refine Sh.ite (.bad _) ((pparams_sh f (nx_ne hv)).bind fun p p' ws e3 hw=>((shS f).block 1 hw).bind fun b b' xs e4 hx=>.ok ?_ hx)
  simp only [bare,bUn,List.map_append,h1,h2,List.map_cons,List.map_nil,bFn,e3,e4]
 ·rw [l1]
  refine Sh.ite (.bad _) ?_
  have hl:Sh g Eq (ptake [91] vs plength fun ts=>.ok 0 ts) (ptake [91] (vs.map (mvT g)) plength fun ts=>.ok 0 ts):=Sh.take _ hv (plength_sh (nx_ne hv)) (.ok rfl hv)
  refine hl.bind fun l l' ws e3 hw=>?_
  subst e3
  refine (pinit_sh f l hw).bind fun x x' xs e4 hx=>(pmust_sh _ hx).bind fun _ _ ys _ hy=>.ok ?_ hy
  simp only [bare,bUn,List.map_append,h1,h2,List.map_cons,List.map_nil,bDe,e4]
theorem ploop_sh (k:Nat):∀ (f:Nat) {u v:Un} {ts:List Tok},bUn u=bUn v→ts ≠ []→Sh g (bare bUn) (ploop k f u ts) (ploop k f v (ts.map (mvT g)))
 | 0,_,_,_,_,_=>.out
 | f + 1,u,v,ts,h,ht=>by
  simp only [ploop]
  rw [hd_kind ht]
  exact Sh.ite ((pitem_sh k h ht).bind fun x x' us e hu=>ploop_sh k f e hu) (.ok h ht)
end
end Go.Proofs.YtdmacgoeikjdbaaGreatDoor
namespace Go.Proofs.YtdmacgoeikjdbaaGreatDoor
open Go.RowKit
def GoodT (t:Tok):Prop:=(t.kind=4→t.text ∈ wordsR)∧(t.kind=3→t.text ∈ signsR)∧t.text.length≤2000∧t.kind ≠ 0
theorem good_ok {t:Tok} (h:GoodT t):TokOk t:=by
 have h1:∀ x ∈ wordsR,lookS x prefixes=0∧x ≠ [59]∧x ≠ [123]:=by decide
 have h2:∀ x ∈ signsR,(massigns x=rassigns x∧x ∉ typeWords)∧x ∉ stWords:=by decide
 exact ⟨fun hk=>(h1 _ (h.1 hk)).1,fun hk=>(h2 _ (h.2.1 hk)).1,fun hk=>(h1 _ (h.1 hk)).2,fun hk=>(h2 _ (h.2.1 hk)).2⟩
theorem signR_mem (l:List UInt8) (h:signR l ≠ []):signR l ∈ signsR:=by
 unfold signR at h ⊢
 cases hf:signsR.find? fun x=>x.isPrefixOf l with
 | none=>rw [hf] at h;exact absurd rfl h
 | some x=>exact List.mem_of_find?_eq_some hf
theorem tokenR_good (b:UInt8) (r:List UInt8) (p:Int) (hl:(b :: r).length≤2000) (h:(tokenR (b :: r)).2.2=0):GoodT { (tokenR (b :: r)).1 with pos:=p }:=by
 refine ⟨?_,?_,?_,tokenR_kind b r h⟩
 all_goals revert h;unfold tokenR nameR numberT
 ·split
  ·intro _
   simp only
   split
   ·rename_i hm;intro _;exact hm
   ·intro e;exact absurd e (by decide)
  ·split
   ·split
    ·intro e;exact absurd e (by decide)
    ·split
     ·intro e;exact absurd e (by decide)
     ·intro _ e;simp at e
   ·split
    ·intro e;exact absurd e (by decide)
    ·intro _ e;simp at e
 ·split
  ·intro _
   simp only
   split
   ·intro e;exact absurd e (by decide)
   ·intro e;exact absurd e (by decide)
  ·split
   ·split
    ·intro e;exact absurd e (by decide)
    ·split
     ·intro e;exact absurd e (by decide)
     ·intro _ e;simp at e
   ·split
    ·intro e;exact absurd e (by decide)
    ·rename_i hs;intro _ _;exact signR_mem _ hs
 ·split
  ·intro _
   simp only [List.length_take]
   have:=rl_le isBoth (b :: r)
   omega
  ·split
   ·split
    ·intro e;exact absurd e (by decide)
    ·split
     ·intro e;exact absurd e (by decide)
     ·intro _;simp
   ·split
    ·intro e;exact absurd e (by decide)
    ·rename_i hs
     intro _
     have h1:∀ x ∈ signsR,x.length≤2000:=by decide
     exact h1 _ (signR_mem _ hs)
theorem scanR_good:∀ (f:Nat) (l:List UInt8) (p:Nat) (acc:List Tok),l.length<f→l.length≤2000→(∀ t ∈ acc,GoodT t)→(scanR f l p acc).2.1=0 →
  ∃ ts e,(scanR f l p acc).1=ts ++ [e]∧e.kind=0∧e.text=[]∧e.pos=((p + l.length:Nat):Int)∧(∀ t ∈ ts,GoodT t)∧ts.length≤acc.length + l.length∧(scanR f l p acc).2.2=0
 | 0,_,_,_,h,_,_,_=>by omega
 | f + 1,[],p,acc,_,_,ha,_=>⟨acc,⟨0,[],0,p⟩,rfl,rfl,rfl,by simp,ha,by simp,rfl⟩
 | f + 1,b :: r,p,acc,h,hl,ha,he=>by
  simp only [List.length_cons] at h hl
  unfold scanR at he ⊢
  split at he
  ·rename_i hb
   rw [if_pos hb]
   obtain ⟨ts,e,h1,h2,h3,h4,h5,h6,h7⟩:=scanR_good f r (p + 1) acc (by omega) (by omega) ha he
   exact ⟨ts,e,h1,h2,h3,by rw [h4];simp only [List.length_cons];omega,h5,by simp only [List.length_cons];omega,h7⟩
  ·rename_i hb
   rw [if_neg hb]
   split at he
   ·rename_i hz
    rw [if_pos hz]
    have hp:=tokenR_pos b r hz
    have hle:=tokenR_le (b :: r) (by simp)
    simp only [List.length_cons] at hle
    obtain ⟨ts,e,h1,h2,h3,h4,h5,h6,h7⟩:=scanR_good f ((b :: r).drop (tokenR (b :: r)).2.1) (p + (tokenR (b :: r)).2.1) (acc ++ [{ (tokenR (b :: r)).1 with pos:=(p:Int) }]) (by simp only [List.length_drop,List.length_cons];omega) (by simp only [List.length_drop,List.length_cons];omega) (fun t ht=>by
     rcases List.mem_append.1 ht with ht | ht
     ·exact ha t ht
     ·simp only [List.mem_singleton] at ht
      subst ht
      exact tokenR_good b r _ (by simp;omega) hz) he
    refine ⟨ts,e,h1,h2,h3,?_,h5,?_,h7⟩
    ·rw [h4];simp only [List.length_drop,List.length_cons];omega
    ·simp only [List.length_append,List.length_drop,List.length_cons,List.length_nil] at h6 ⊢;omega
   ·rename_i hz
    exact absurd he hz
theorem wf_snoc:∀ (ts:List Tok) (e:Tok),(∀ t ∈ ts,t.kind ≠ 0)→e.kind=0→Wf (ts ++ [e])
 | [],_,_,he=>he
 | [t],_,h,he=>⟨h t (by simp),he⟩
 | t :: u :: l,e,h,he=>⟨h t (by simp),wf_snoc (u :: l) e (fun t ht=>h t (by simp only [List.mem_cons] at ht ⊢;exact .inr ht)) he⟩
structure TokFacts (l:List UInt8):Prop where
 wx:Wx (tokensT l).1
 le:(tokensT l).1.length≤2001
 zero:(tokensT l).2.2=0
 tx:∀ t ∈ (tokensT l).1,t.text.length≤1000000
 last:∃ ts e,(tokensT l).1=ts ++ [e]∧e.kind=0∧e.pos=(l.length:Int)∧∀ t ∈ ts,t.kind ≠ 0
theorem tokFacts {l:List UInt8} (h:(tokensT l).2.1=0):TokFacts l:=by
 have hl:l.length≤2000:=by
  apply Nat.le_of_not_lt
  intro hl
  rw [tokensT,if_pos hl] at h
  exact absurd h (by decide)
 rw [tokens_same] at h
 have hR:tokensR l=scanR (l.length + 1) l 0 []:=by unfold tokensR;rw [if_neg (by omega)]
 rw [hR] at h
 obtain ⟨ts,e,h1,h2,h3,h4,h5,h6,h7⟩:=scanR_good (l.length + 1) l 0 [] (by omega) hl (by simp) h
 simp only [List.length_nil,Nat.zero_add] at h6 h4
 have hE:(tokensT l).1=ts ++ [e]:=by rw [tokens_same,hR,h1]
 have hw:Wf (ts ++ [e]):=wf_snoc ts e (fun t ht=>(h5 t ht).2.2.2) h2
 refine ⟨?_,?_,by rw [tokens_same,hR,h7],?_,⟨ts,e,hE,h2,h4,fun t ht=>(h5 t ht).2.2.2⟩⟩
 ·rw [hE]
  refine ⟨hw,fun t ht=>?_⟩
  rcases List.mem_append.1 ht with ht | ht
  ·exact good_ok (h5 t ht)
  ·simp only [List.mem_singleton] at ht
   subst ht
   exact ⟨fun hk=>by omega,fun hk=>by omega,fun hk=>by omega,fun hk=>by omega⟩
 ·rw [hE];simp;omega
 ·rw [hE]
  intro t ht
  rcases List.mem_append.1 ht with ht | ht
  ·have:=(h5 t ht).2.2.1;omega
  ·simp only [List.mem_singleton] at ht
   rw [ht,h3]
   simp
theorem rl_app1 (p:Int→Bool) (hp:p 10=false):∀ l:List UInt8,rl p (l ++ [10])=rl p l
 | []=>by
  show rl p (10 :: [])=0
  rw [rl_cons,if_neg (by show ¬ p 10=true;rw [hp];simp)]
 | b :: l=>by
  rw [List.cons_append,rl_cons,rl_cons,rl_app1 p hp l]
theorem number_app1 (l:List UInt8):numberT (l ++ [10])=numberT l:=by
 have hr:=rl_app1 isDigit (by decide) l
 have hle:=rl_le isDigit l
 have hd:digits (l ++ [10])=digits l:=by
  unfold digits
  rw [hr,take_app _ _ _ hle]
 unfold numberT
 rw [hd,hr]
 split
 ·rfl
 ·have:(decide (rl isDigit l<(l ++ [10]).length) && isLetter ((l ++ [10]).getD (rl isDigit l) 0).toNat)=(decide (rl isDigit l<l.length) && isLetter (l.getD (rl isDigit l) 0).toNat):=by
   by_cases h:rl isDigit l<l.length
   ·rw [getD_app _ _ _ h]
    have:rl isDigit l<(l ++ [10]).length:=by simp;omega
    rw [decide_eq_true h,decide_eq_true this]
   ·have h2:rl isDigit l=l.length:=by omega
    rw [h2,List.getD_eq_getElem?_getD,List.getElem?_append_right (Nat.le_refl _)]
    simp
    decide
  rw [this]
theorem sign_app1 (l:List UInt8):signR (l ++ [10])=signR l:=by
 unfold signR
 have h:∀ L:List (List UInt8),(∀ x ∈ L,10 ∉ x)→(L.find? fun x=>x.isPrefixOf (l ++ [10]))=L.find? fun x=>x.isPrefixOf l:=by
  intro L
  induction L with
  | nil=>simp
  | cons x L ih=>
   intro hx
   have ih:=ih (fun y hy=>hx y (by simp [hy]))
   have h1:x.isPrefixOf (l ++ [10])=x.isPrefixOf l:=by
    rw [Bool.eq_iff_iff,isPrefixOf_take,isPrefixOf_take]
    constructor
    ·rintro ⟨h1,h2⟩
     have h3:x.length≤l.length:=by
      apply Nat.le_of_not_lt
      intro h4
      have h5:10 ∈ (l ++ [10]).take x.length:=by
       rw [List.take_append]
       obtain ⟨k,hk⟩:∃ k,x.length - l.length=k + 1:=⟨x.length - l.length - 1,by omega⟩
       rw [hk]
       simp
      rw [h2] at h5
      exact hx x (by simp) h5
     rw [take_app _ _ _ h3] at h2
     exact ⟨h3,h2⟩
    ·rintro ⟨h1,h2⟩
     exact ⟨by simp;omega,by rw [take_app _ _ _ h1,h2]⟩
   rw [List.find?_cons,List.find?_cons,h1,ih]
 rw [h signsR (by decide)]
theorem token_app1 (b:UInt8) (r:List UInt8):tokenR ((b :: r) ++ [10])=tokenR (b :: r):=by
 unfold tokenR nameR
 have hr:=rl_app1 isBoth (by decide) (b :: r)
 rw [number_app1,sign_app1,hr,take_app _ _ _ (rl_le isBoth (b :: r))]
 rfl
def shift1 (ts:List Tok):List Tok:=ts.map fun t=>shiftTok (if t.kind=0 then 3 else 2) t
theorem shift1_snoc (acc:List Tok) (t:Tok) (ht:t.kind ≠ 0):shift1 (acc ++ [t])=shift1 acc ++ [shiftTok 2 t]:=by
 simp [shift1,ht]
theorem scan_blanks1:∀ (f:Nat) (l:List UInt8) (p:Nat) (acc:List Tok),l.length + 2<f →
  scanR f (l ++ [10]) (p + 2) (shift1 acc)=(shift1 (scanR f l p acc).1,(scanR f l p acc).2.1,if (scanR f l p acc).2.1=0 then 0 else (scanR f l p acc).2.2 + 2)
 | 0,_,_,_,h=>by omega
 | f + 1,[],p,acc,h=>by
  simp only [List.length_nil] at h
  obtain ⟨f',rfl⟩:∃ f',f=f' + 1 + 1:=⟨f - 2,by omega⟩
  show scanR (f' + 1 + 1 + 1) (10 :: []) (p + 2) (shift1 acc)=_
  have e1:isBlank (10:UInt8).toNat=true:=by decide
  simp only [scanR,e1,if_true]
  simp [shift1,shiftTok]
  omega
 | f + 1,b :: r,p,acc,h=>by
  simp only [List.length_cons] at h
  rw [List.cons_append,scanR,scanR]
  by_cases hb:isBlank b.toNat=true
  ·rw [if_pos hb,if_pos hb]
   have:=scan_blanks1 f r (p + 1) acc (by omega)
   rw [show p + 2 + 1=p + 1 + 2 from by omega,this]
  ·rw [if_neg hb,if_neg hb,← List.cons_append,token_app1]
   by_cases he:(tokenR (b :: r)).2.2=0
   ·rw [if_pos he,if_pos he]
    have hp:=tokenR_pos b r he
    have hl:=tokenR_le (b :: r) (by simp)
    simp only [List.length_cons] at hl
    have hk:=tokenR_kind b r he
    have hd:(b :: r ++ [10]).drop (tokenR (b :: r)).2.1=(b :: r).drop (tokenR (b :: r)).2.1 ++ [10]:=by
     rw [List.drop_append]
     have:(tokenR (b :: r)).2.1 - (b :: r).length=0:=by simp only [List.length_cons];omega
     rw [this];rfl
    have ih:=scan_blanks1 f ((b :: r).drop (tokenR (b :: r)).2.1) (p + (tokenR (b :: r)).2.1) (acc ++ [{ (tokenR (b :: r)).1 with pos:=(p:Int) }]) (by simp only [List.length_drop,List.length_cons];omega)
    rw [shift1_snoc _ _ (by exact hk)] at ih
    rw [hd,show p + 2 + (tokenR (b :: r)).2.1=p + (tokenR (b :: r)).2.1 + 2 from by omega]
    have e:(shiftTok 2 { (tokenR (b :: r)).1 with pos:=(p:Int) })={ (tokenR (b :: r)).1 with pos:=((p + 2:Nat):Int) }:=by
     simp [shiftTok]
    rw [e] at ih
    exact ih
   ·rw [if_neg he,if_neg he]
    simp [shift1,he]
theorem tokens_blanks1 (l:List UInt8) (hl:l.length≤1000):tokensT (32 :: 32 :: (l ++ [10]))=(shift1 (tokensT l).1,(tokensT l).2.1,if (tokensT l).2.1=0 then 0 else (tokensT l).2.2 + 2):=by
 rw [tokens_same,tokens_same]
 have h1:tokensR (32 :: 32 :: (l ++ [10]))=scanR (l.length + 4) (32 :: 32 :: (l ++ [10])) 0 []:=by
  unfold tokensR;rw [if_neg (by simp;omega)];simp
 have h2:tokensR l=scanR (l.length + 3) l 0 []:=by
  unfold tokensR;rw [if_neg (by omega)]
  exact scanR_fuel _ _ _ _ _ (by omega) (by omega)
 rw [h1,h2]
 rw [scanR_fuel (l.length + 4) (l.length + 5) _ _ _ (by simp) (by simp)]
 rw [scanR,if_pos (by decide),scanR,if_pos (by decide)]
 have:=scan_blanks1 (l.length + 3) l 0 [] (by omega)
 simpa [shift1] using this
end Go.Proofs.YtdmacgoeikjdbaaGreatDoor

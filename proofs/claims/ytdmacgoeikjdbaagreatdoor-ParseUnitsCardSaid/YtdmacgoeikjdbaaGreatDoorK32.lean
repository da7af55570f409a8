/- What both parsers make of tokens: there is fuel enough, and what is le -/
import Derived.Test.YtdmacgoeikjdbaaGreatDoorK29
set_option linter.unusedSimpArgs false
set_option linter.unusedVariables false
namespace Go.Proofs.YtdmacgoeikjdbaaGreatDoor
open Go.RowKit
theorem Wf.nx {ts:List Tok} (h:Wf ts) (hk:(hdT ts).kind ≠ 0):Wf (nx ts)∧(nx ts).length + 1=ts.length:=by
 rcases ts with _ | ⟨t,_ | ⟨u,l⟩⟩
 ·exact h.elim
 ·exact absurd h hk
 ·refine ⟨h.2,?_⟩
  simp [Go.Proofs.YtdmacgoeikjdbaaGreatDoor.nx]
theorem Wf.pos {ts:List Tok} (h:Wf ts):1≤ts.length:=by
 rcases ts with _ | ⟨t,l⟩
 ·exact h.elim
 ·simp
theorem isT_kind {x:List UInt8} {t:Tok} (h:isT x t=true):t.kind ≠ 0:=by
 unfold isT at h
 intro e
 rw [e] at h
 simp at h
def Fine {α:Type} (m:Nat) (r:Rs α):Prop:=match r with
 | .out=>False
 | .bad _=>True
 | .ok _ ts=>Wf ts∧ts.length≤m
theorem Fine.bind {α β:Type} {m m':Nat} {r:Rs α} {k:α→List Tok→Rs β} (hr:Fine m r) (hk:∀ x us,Wf us→us.length≤m→Fine m' (k x us)):Fine m' (r.bind k):=by
 cases r with
 | out=>exact hr
 | bad f=>trivial
 | ok x ts=>exact hk x ts hr.1 hr.2
theorem Fine.take {α:Type} {m:Nat} {x:List UInt8} {ts:List Tok} (h:Wf ts) {yes no:List Tok→Rs α} (hy:Wf (nx ts)→(nx ts).length + 1=ts.length→Fine m (yes (nx ts))) (hn:Fine m (no ts)):Fine m (ptake x ts yes no):=by
 unfold ptake
 split
 ·rename_i hp
  obtain ⟨h1,h2⟩:=h.nx (isT_kind hp)
  exact hy h1 h2
 ·exact hn
theorem Fine.ite {α:Type} {m:Nat} {c:Prop} [Decidable c] {r s:Rs α} (h1:c→Fine m r) (h2:¬ c→Fine m s):Fine m (if c then r else s):=by
 split
 ·exact h1 ‹_›
 ·exact h2 ‹_›
theorem Fine.mono {α:Type} {m m':Nat} {r:Rs α} (h:Fine m r) (hm:m≤m'):Fine m' r:=by
 cases r with
 | out=>exact h
 | bad f=>trivial
 | ok x ts=>exact ⟨h.1,Nat.le_trans h.2 hm⟩
theorem pmust_fine (x:List UInt8) {ts:List Tok} (h:Wf ts):Fine (ts.length - 1) (pmust x ts):=by
 unfold pmust
 refine Fine.ite (fun hp=>?_) fun _=>trivial
 obtain ⟨h1,h2⟩:=h.nx (isT_kind hp)
 exact ⟨h1,by omega⟩
theorem pkindTok_fine {k:Int} (hk:k ≠ 0) {ts:List Tok} (h:Wf ts):Fine (ts.length - 1) (pkindTok k ts):=by
 unfold pkindTok
 refine Fine.ite (fun hp=>?_) fun _=>trivial
 obtain ⟨h1,h2⟩:=h.nx (by have:(hdT ts).kind=k:=(by simpa using hp);omega)
 exact ⟨h1,by omega⟩
theorem pname_fine {ts:List Tok} (h:Wf ts):Fine (ts.length - 1) (pname ts):=(pkindTok_fine (by decide) h).bind fun _ _ h hl=>⟨h,hl⟩
theorem pnumber_fine {ts:List Tok} (h:Wf ts):Fine (ts.length - 1) (pnumber ts):=(pkindTok_fine (by decide) h).bind fun _ _ h hl=>⟨h,hl⟩
theorem pvalue_fine {ts:List Tok} (h:Wf ts):Fine (ts.length - 1) (pvalue ts):=
 Fine.take h (fun h1 hl=>Fine.mono (m:=(nx ts).length - 1) ((pnumber_fine h1).bind fun _ _ h hl=>⟨h,hl⟩) (by omega)) (pnumber_fine h)
theorem pkindL_fine (u:Int):∀ (l:List (List UInt8)) (k:Int) {ts:List Tok},Wf ts→Fine (ts.length - 1) (pkindL u l k ts)
 | [],_,_,_=>trivial
 | _ :: l,_,_,h=>Fine.take h (fun h1 hl=>⟨h1,by omega⟩) (pkindL_fine u l _ h)
theorem pkind_fine {ts:List Tok} (h:Wf ts):Fine (ts.length - 1) (pkind ts):=
 Fine.take h (fun h1 hl=>⟨h1,by omega⟩) (Fine.take h (fun h1 hl=>(pkindL_fine _ _ _ h1).mono (by omega)) (pkindL_fine _ _ _ h))
theorem pstars_fine:∀ (f:Nat) (n:Int) {ts:List Tok},Wf ts→Fine ts.length (pstars f n ts)
 | 0,_,_,h=>⟨h,Nat.le_refl _⟩
 | f + 1,n,ts,h=>by
  simp only [pstars]
  refine Fine.ite (fun hp=>Fine.ite (fun _=>trivial) fun _=>?_) fun _=>⟨h,Nat.le_refl _⟩
  obtain ⟨h1,h2⟩:=h.nx (isT_kind hp)
  exact (pstars_fine f _ h1).mono (by omega)
theorem ptyp_fine {ts:List Tok} (h:Wf ts):Fine (ts.length - 1) (ptyp ts):=
 (pkind_fine h).bind fun _ _ h1 h2=>(pstars_fine 5 0 h1).bind fun _ _ h3 h4=>⟨h3,by omega⟩
theorem plength_fine {ts:List Tok} (h:Wf ts):Fine (ts.length - 1) (plength ts):=
 (pnumber_fine h).bind fun _ _ h1 h2=>Fine.ite (fun _=>trivial) fun _=>(pmust_fine _ h1).bind fun _ _ h3 h4=>⟨h3,by omega⟩
theorem pvals_fine:∀ (f:Nat) (len:Int) (acc:List Int) {ts:List Tok},Wf ts→ts.length<f→Fine (ts.length - 1) (pvals f len acc ts)
 | 0,_,_,_,_,hf=>absurd hf (by omega)
 | f + 1,len,acc,ts,h,hf=>by
  simp only [pvals]
  refine Fine.ite (fun _=>trivial) fun _=>(pvalue_fine h).bind fun v us h1 h2=>Fine.take h1 (fun h3 h4=>(pvals_fine f _ _ h3 ?_).mono (by omega)) ⟨h1,h2⟩
  have:=h.pos
  omega
theorem pparams1_fine:∀ (f:Nat) (acc:List De) {ts:List Tok},Wf ts→4<f + acc.length→0<f→acc.length≤4→Fine (ts.length - 1) (pparams1 f acc ts)
 | 0,_,_,_,_,hf,_=>absurd hf (by omega)
 | f + 1,acc,ts,h,hf,_,ha=>by
  simp only [pparams1]
  refine Fine.ite (fun _=>trivial) fun h4=>(ptyp_fine h).bind fun t us h1 h2=>(pname_fine h1).bind fun n vs h3 h5=>Fine.take h3 (fun h6 h7=>(pparams1_fine f _ h6 ?_ ?_ ?_).mono (by omega)) ⟨h3,by omega⟩
  ·simp only [List.length_append,List.length_cons,List.length_nil];omega
  ·omega
  ·simp only [List.length_append,List.length_cons,List.length_nil];omega
theorem pparams_fine (f:Nat) (hf:5≤f) {ts:List Tok} (h:Wf ts):Fine (ts.length - 1) (pparams f ts):=by
 refine Fine.take h (fun h1 h2=>⟨h1,by omega⟩) ?_
 refine Fine.ite (fun hp=>?_) fun _=>(pparams1_fine f [] h (by simp;omega) (by omega) (by simp)).bind fun l us h1 h2=>(pmust_fine _ h1).bind fun _ _ h3 h4=>⟨h3,by omega⟩
 simp only [Bool.and_eq_true] at hp
 obtain ⟨h1,h2⟩:=h.nx (isT_kind hp.1)
 have hk:(hdT (nx ts)).kind ≠ 0:=by
  have h3:(ts.getD 1 noTokT).kind=3:=by simpa using hp.2.1
  have h4:hdT (nx ts)=ts.getD 1 noTokT:=by
   rcases ts with _ | ⟨t,_ | ⟨u,l⟩⟩
   ·exact h.elim
   ·simp [nx] at h2
   ·simp [nx,hdT]
  rw [h4,h3]
  decide
 obtain ⟨h5,h6⟩:=h1.nx hk
 exact ⟨h5,by omega⟩
def bud (d:Int):Nat:=40 * (21 - d).toNat
theorem bud_succ {d:Int} (h:¬ 20<d):bud (d + 1) + 40≤bud d:=by unfold bud;omega
theorem sign_kind {ts:List Tok} {b:Bool} (h:((hdT ts).kind == 3 && b)=true):(hdT ts).kind ≠ 0:=by
 simp only [Bool.and_eq_true,beq_iff_eq] at h
 omega
theorem sign_kind2 {ts:List Tok} {b:Bool} (h:(((hdT ts).kind == 3 || (hdT ts).kind == 4) && b)=true):(hdT ts).kind ≠ 0:=by
 simp only [Bool.and_eq_true,Bool.or_eq_true,beq_iff_eq] at h
 omega
structure FnE (f:Nat):Prop where
 expr:∀ (d:Int) {ts:List Tok},Wf ts→bud d + ts.length + 20≤f→Fine (ts.length - 1) (pexpr f d ts)
 cond:∀ (d:Int) {ts:List Tok},Wf ts→¬ 20<d→bud d + ts.length + 19≤f→Fine (ts.length - 1) (pcond f d ts)
 binary:∀ (d:Int) (n:Nat) {ts:List Tok},Wf ts→¬ 20<d→n≤10→bud d + ts.length + 18≤f + n→Fine (ts.length - 1) (pbinary f d n ts)
 binloop:∀ (d:Int) (n:Nat) (a:Ex) {ts:List Tok},Wf ts→¬ 20<d→n<10→bud d + ts.length + 17≤f + n→Fine ts.length (pbinloop f d n a ts)
 operand:∀ (d:Int) {ts:List Tok},Wf ts→bud d + ts.length + 8≤f→Fine (ts.length - 1) (poperand f d ts)
 unary:∀ (d:Int) {ts:List Tok},Wf ts→¬ 20<d→bud d + ts.length + 7≤f→Fine (ts.length - 1) (punary f d ts)
 postfix_:∀ (d:Int) {ts:List Tok},Wf ts→¬ 20<d→bud d + ts.length + 6≤f→Fine (ts.length - 1) (ppostfix f d ts)
 postloop:∀ (d:Int) (a:Ex) {ts:List Tok},Wf ts→¬ 20<d→bud d + ts.length + 5≤f→Fine ts.length (ppostloop f d a ts)
 primary:∀ (d:Int) {ts:List Tok},Wf ts→¬ 20<d→bud d + ts.length + 5≤f→Fine (ts.length - 1) (pprimary f d ts)
 args:∀ (d:Int) {ts:List Tok},Wf ts→bud d + ts.length + 22≤f→Fine (ts.length - 1) (pargs f d ts)
 argloop:∀ (d:Int) (acc:List Ex) {ts:List Tok},Wf ts→bud d + ts.length + 21≤f→Fine (ts.length - 1) (pargloop f d acc ts)
theorem fineE:∀ f:Nat,FnE f
 | 0=>by
  constructor <;> intros <;> exfalso <;> omega
 | f + 1=>by
  have ih:=fineE f
  constructor
  ·intro d ts h hf
   simp only [pexpr]
   refine Fine.ite (fun _=>trivial) fun hd=>(ih.cond d h hd (by omega)).bind fun a us h1 h2=>?_
   have hb:=bud_succ hd
   refine Fine.ite (fun _=>⟨h1,h2⟩) fun hc=>?_
   have hk:(hdT us).kind ≠ 0:=by
    intro e
    rw [e] at hc
    exact hc (by simp)
   obtain ⟨h3,h4⟩:=h1.nx hk
   exact (ih.expr _ h3 (by omega)).bind fun b vs h5 h6=>⟨h5,by omega⟩
  ·intro d ts h hd hf
   simp only [pcond]
   have hb:=bud_succ hd
   refine (ih.binary d 0 h hd (by omega) (by omega)).bind fun a us h1 h2=>Fine.take h1 (fun h3 h4=>?_) ⟨h1,h2⟩
   refine (ih.expr _ h3 (by omega)).bind fun b vs h5 h6=>(pmust_fine _ h5).bind fun _ ws h7 h8=>Fine.ite (fun _=>trivial) fun hd1=>(ih.cond _ h7 hd1 (by omega)).bind fun c xs h9 h10=>⟨h9,by omega⟩
  ·intro d n ts h hd hn hf
   simp only [pbinary]
   refine Fine.ite (fun hn=>ih.unary d h hd (by omega)) fun hn=>(ih.binary d _ h hd (by omega) (by omega)).bind fun a us h1 h2=>(ih.binloop d n a h1 hd (by omega) (by omega)).mono (by omega)
  ·intro d n a ts h hd hn hf
   simp only [pbinloop]
   refine Fine.ite (fun hc=>?_) fun _=>⟨h,Nat.le_refl _⟩
   obtain ⟨h3,h4⟩:=h.nx (sign_kind hc)
   exact (ih.binary d _ h3 hd (by omega) (by omega)).bind fun b us h1 h2=>(ih.binloop d n _ h1 hd hn (by omega)).mono (by omega)
  ·intro d ts h hf
   simp only [poperand]
   exact Fine.ite (fun _=>trivial) fun hd=>(ih.unary d h hd (by omega)).bind fun x us h1 h2=>⟨h1,h2⟩
  ·intro d ts h hd hf
   simp only [punary]
   have hb:=bud_succ hd
   refine Fine.ite (fun hc=>?_) fun _=>Fine.ite (fun hc=>?_) fun _=>Fine.take h (fun h3 h4=>?_) (ih.postfix_ d h hd (by omega))
   ·obtain ⟨h3,h4⟩:=h.nx (sign_kind2 hc)
    exact (ih.operand _ h3 (by omega)).bind fun k us h1 h2=>⟨h1,by omega⟩
   ·simp only [Bool.and_eq_true] at hc
    obtain ⟨h3,h4⟩:=h.nx (isT_kind hc.1)
    exact (ptyp_fine h3).bind fun t us h1 h2=>(pmust_fine _ h1).bind fun _ vs h5 h6=>(ih.operand _ h5 (by omega)).bind fun k ws h7 h8=>⟨h7,by omega⟩
   ·exact (pmust_fine _ h3).bind fun _ us h1 h2=>(ptyp_fine h1).bind fun t vs h5 h6=>(pmust_fine _ h5).bind fun _ ws h7 h8=>⟨h7,by omega⟩
  ·intro d ts h hd hf
   simp only [ppostfix]
   exact (ih.primary d h hd (by omega)).bind fun a us h1 h2=>(ih.postloop d a h1 hd (by omega)).mono (by omega)
  ·intro d a ts h hd hf
   simp only [ppostloop]
   have hb:=bud_succ hd
   refine Fine.take h (fun h3 h4=>?_) (Fine.take h (fun h3 h4=>(ih.postloop d _ h3 hd (by omega)).mono (by omega)) (Fine.take h (fun h3 h4=>(ih.postloop d _ h3 hd (by omega)).mono (by omega)) ⟨h,Nat.le_refl _⟩))
   exact (ih.expr _ h3 (by omega)).bind fun i us h1 h2=>(pmust_fine _ h1).bind fun _ vs h5 h6=>(ih.postloop d _ h5 hd (by omega)).mono (by omega)
  ·intro d ts h hd hf
   simp only [pprimary]
   have hb:=bud_succ hd
   refine Fine.take h (fun h3 h4=>?_) ?_
   ·exact (ih.expr _ h3 (by omega)).bind fun e us h1 h2=>(pmust_fine _ h1).bind fun _ vs h5 h6=>⟨h5,by omega⟩
   ·refine Fine.ite (fun hc=>?_) fun _=>Fine.ite (fun hc=>?_) fun _=>trivial
    ·obtain ⟨h3,h4⟩:=h.nx (by have:(hdT ts).kind=2:=(by simpa using hc);omega)
     exact ⟨h3,by omega⟩
    ·obtain ⟨h3,h4⟩:=h.nx (by have:(hdT ts).kind=1:=(by simpa using hc);omega)
     exact Fine.take h3 (fun h5 h6=>(ih.args _ h5 (by omega)).bind fun k us h1 h2=>⟨h1,by omega⟩) ⟨h3,by omega⟩
  ·intro d ts h hf
   simp only [pargs]
   exact Fine.take h (fun h3 h4=>⟨h3,by omega⟩) (ih.argloop d [] h (by omega))
  ·intro d acc ts h hf
   simp only [pargloop]
   refine Fine.ite (fun _=>trivial) fun _=>(ih.expr d h (by omega)).bind fun x us h1 h2=>Fine.take h1 (fun h3 h4=>(ih.argloop d _ h3 ?_).mono (by omega)) ((pmust_fine _ h1).bind fun _ vs h5 h6=>⟨h5,by omega⟩)
   have:=h.pos
   omega
theorem pparen_fine {f:Nat} {d:Int} {ts:List Tok} (h:Wf ts) (hf:bud d + ts.length + 20≤f):Fine (ts.length - 1) (pparen f d ts):=
 (pmust_fine _ h).bind fun _ us h1 h2=>((fineE f).expr d h1 (by omega)).bind fun _ vs h3 h4=>(pmust_fine _ h3).bind fun _ ws h5 h6=>⟨h5,by omega⟩
theorem pmaybe_fine {f:Nat} {d:Int} {x:List UInt8} {ts:List Tok} (h:Wf ts) (hf:bud d + ts.length + 20≤f):Fine (ts.length - 1) (pmaybe f d x ts):=
 Fine.take h (fun h3 h4=>⟨h3,by omega⟩) (((fineE f).expr d h hf).bind fun _ vs h3 h4=>(pmust_fine _ h3).bind fun _ ws h5 h6=>⟨h5,by omega⟩)
structure FnS (f:Nat):Prop where
 block:∀ (d:Int) {ts:List Tok},Wf ts→¬ 20<d→bud d + ts.length + 29≤f→Fine (ts.length - 1) (pblock f d ts)
 blkloop:∀ (d:Int) (acc:List St) {ts:List Tok},Wf ts→¬ 20<d→bud d + ts.length + 28≤f→Fine (ts.length - 1) (pblkloop f d acc ts)
 stmt:∀ (d:Int) {ts:List Tok},Wf ts→bud d + ts.length + 30≤f→Fine (ts.length - 1) (pstmt f d ts)
theorem fineS:∀ f:Nat,FnS f
 | 0=>by
  constructor <;> intros <;> exfalso <;> omega
 | f + 1=>by
  have ih:=fineS f
  have ie:FnE f:=fineE f
  constructor
  ·intro d ts h hd hf
   simp only [pblock]
   exact (pmust_fine _ h).bind fun _ us h1 h2=>(ih.blkloop d [] h1 hd (by omega)).mono (by omega)
  ·intro d acc ts h hd hf
   simp only [pblkloop]
   have hb:=bud_succ hd
   refine Fine.take h (fun h3 h4=>⟨h3,by omega⟩) (Fine.ite (fun _=>trivial) fun _=>(ih.stmt _ h (by omega)).bind fun x us h1 h2=>(ih.blkloop d _ h1 hd ?_).mono (by omega))
   have:=h.pos
   omega
  ·intro d ts h hf
   simp only [pstmt]
   refine Fine.ite (fun _=>trivial) fun hd=>?_
   have hb:=bud_succ hd
   refine Fine.ite (fun hc=>?_) fun _=>Fine.take h (fun h3 h4=>⟨h3,by omega⟩) (Fine.ite (fun hc=>?_) fun _=>Fine.take h (fun h3 h4=>?_) (Fine.take h (fun h3 h4=>?_) (Fine.take h (fun h3 h4=>?_) (Fine.take h (fun h3 h4=>?_) (Fine.take h (fun h3 h4=>?_) (Fine.take h (fun h3 h4=>?_) (Fine.take h (fun h3 h4=>?_) (Fine.take h (fun h3 h4=>?_) (Fine.take h (fun h3 h4=>?_) (Fine.take h (fun h3 h4=>?_) (Fine.take h (fun h3 h4=>?_) (Fine.ite (fun hc=>?_) fun _=>?_))))))))))))
   ·refine (ptyp_fine h).bind fun t us h1 h2=>(pname_fine h1).bind fun n vs h5 h6=>Fine.take h5 (fun h7 h8=>?_) (Fine.take h5 (fun h7 h8=>?_) ?_)
    ·exact (plength_fine h7).bind fun l ws h9 h10=>(pmust_fine _ h9).bind fun _ xs h11 h12=>⟨h11,by omega⟩
    ·exact (ie.expr _ h7 (by omega)).bind fun x ws h9 h10=>(pmust_fine _ h9).bind fun _ xs h11 h12=>⟨h11,by omega⟩
    ·exact (pmust_fine _ h5).bind fun _ xs h11 h12=>⟨h11,by omega⟩
   ·exact (ih.block _ h hd (by omega)).bind fun b us h1 h2=>⟨h1,h2⟩
   ·exact (pparen_fine h3 (by omega)).bind fun x us h1 h2=>(ih.stmt _ h1 (by omega)).bind fun b vs h5 h6=>Fine.take h5 (fun h7 h8=>(ih.stmt _ h7 (by omega)).bind fun c ws h9 h10=>⟨h9,by omega⟩) ⟨h5,by omega⟩
   ·exact (pparen_fine h3 (by omega)).bind fun x us h1 h2=>(ih.stmt _ h1 (by omega)).bind fun b vs h5 h6=>⟨h5,by omega⟩
   ·exact (pparen_fine h3 (by omega)).bind fun x us h1 h2=>(ih.stmt _ h1 (by omega)).bind fun b vs h5 h6=>⟨h5,by omega⟩
   ·exact (ih.stmt _ h3 (by omega)).bind fun b us h1 h2=>(pmust_fine _ h1).bind fun _ vs h5 h6=>(pparen_fine h5 (by omega)).bind fun x ws h7 h8=>(pmust_fine _ h7).bind fun _ xs h9 h10=>⟨h9,by omega⟩
   ·exact (pmust_fine _ h3).bind fun _ us h1 h2=>(pmaybe_fine h1 (by omega)).bind fun a vs h5 h6=>(pmaybe_fine h5 (by omega)).bind fun b ws h7 h8=>(pmaybe_fine h7 (by omega)).bind fun c xs h9 h10=>(ih.stmt _ h9 (by omega)).bind fun s ys h11 h12=>⟨h11,by omega⟩
   ·exact (pvalue_fine h3).bind fun v us h1 h2=>(pmust_fine _ h1).bind fun _ vs h5 h6=>⟨h5,by omega⟩
   ·exact (pmust_fine _ h3).bind fun _ us h1 h2=>⟨h1,by omega⟩
   ·exact (pmust_fine _ h3).bind fun _ us h1 h2=>⟨h1,by omega⟩
   ·exact (pmust_fine _ h3).bind fun _ us h1 h2=>⟨h1,by omega⟩
   ·exact Fine.take h3 (fun h5 h6=>⟨h5,by omega⟩) ((ie.expr _ h3 (by omega)).bind fun x us h1 h2=>(pmust_fine _ h1).bind fun _ vs h5 h6=>⟨h5,by omega⟩)
   ·exact (pname_fine h3).bind fun n us h1 h2=>(pmust_fine _ h1).bind fun _ vs h5 h6=>⟨h5,by omega⟩
   ·simp only [Bool.and_eq_true,beq_iff_eq] at hc
    obtain ⟨h3,h4⟩:=h.nx (by omega)
    have hk:(hdT (nx ts)).kind ≠ 0:=by
     have h6:hdT (nx ts)=ts.getD 1 noTokT:=by
      rcases ts with _ | ⟨t,_ | ⟨u,l⟩⟩
      ·exact h.elim
      ·simp [nx] at h4
      ·simp [nx,hdT]
     rw [h6]
     omega
    obtain ⟨h5,h6⟩:=h3.nx hk
    exact ⟨h5,by omega⟩
   ·exact (ie.expr _ h (by omega)).bind fun x us h1 h2=>(pmust_fine _ h1).bind fun _ vs h5 h6=>⟨h5,by omega⟩
theorem pinit_fine (f:Nat) (len:Int) {ts:List Tok} (h:Wf ts) (hf:ts.length<f):Fine ts.length (pinit f len ts):=by
 refine Fine.take h (fun h3 h4=>Fine.ite (fun _=>(pvalue_fine h3).bind fun v us h1 h2=>⟨h1,by omega⟩) fun _=>?_) ⟨h,Nat.le_refl _⟩
 exact (pmust_fine _ h3).bind fun _ us h1 h2=>(pvals_fine f len [] h1 (by omega)).bind fun l vs h5 h6=>(pmust_fine _ h5).bind fun _ ws h7 h8=>⟨h7,by omega⟩
theorem pitem_fine {f:Nat} (u:Un) {ts:List Tok} (h:Wf ts) (hf:ts.length + 1000≤f):Fine (ts.length - 1) (pitem f u ts):=by
 have hb:bud 1=800:=by decide
 refine (ptyp_fine h).bind fun t us h1 h2=>(pname_fine h1).bind fun n vs h3 h4=>Fine.take h3 (fun h5 h6=>Fine.ite (fun _=>trivial) fun _=>?_) (Fine.ite (fun _=>trivial) fun _=>?_)
 ·exact (pparams_fine f (by omega) h5).bind fun p ws h7 h8=>((fineS f).block 1 h7 (by decide) (by omega)).bind fun b xs h9 h10=>⟨h9,by omega⟩
 ·have hl:Fine vs.length (ptake [91] vs plength fun ts=>.ok 0 ts):=Fine.take h3 (fun h5 h6=>(plength_fine h5).mono (by omega)) ⟨h3,Nat.le_refl _⟩
  exact hl.bind fun l ws h7 h8=>(pinit_fine f l h7 (by omega)).bind fun x xs h9 h10=>(pmust_fine _ h9).bind fun _ ys h11 h12=>⟨h11,by omega⟩
theorem ploop_fine (k:Nat):∀ (f:Nat) (u:Un) {ts:List Tok},Wf ts→ts.length + 1000≤k→ts.length≤f→Fine ts.length (ploop k f u ts)
 | 0,_,_,h,_,hf=>by
  have:=h.pos
  omega
 | f + 1,u,ts,h,hk,hf=>by
  simp only [ploop]
  refine Fine.ite (fun _=>(pitem_fine u h hk).bind fun x us h1 h2=>(ploop_fine k f x h1 (by omega) ?_).mono (by omega)) fun _=>⟨h,Nat.le_refl _⟩
  have:=h.pos
  omega
end Go.Proofs.YtdmacgoeikjdbaaGreatDoor

/- The program's parser: what each function that reads expressions asks a -/
import Derived.Test.YtdmacgoeikjdbaaGreatDoorL23
set_option linter.unusedSimpArgs false
set_option linter.unusedVariables false
set_option maxHeartbeats 16000000
namespace Go.Proofs.YtdmacgoeikjdbaaGreatDoor
open Go.RowKit Sx
abbrev sAss:Shp:=⟨2,.tup [.one (.v 0),.one (.v 1)],[],[],[],[],[]⟩
abbrev sPostX:Shp:=⟨8,.el (.agg [.v 0,.v 1,.v 2,.v 3,.v 4,.v 5,.v 6,.v 7]),[(6,8)],[(7,8)],[],[],[]⟩
def MEx (fn:FuncId) (fu:Int→RS→Option (Ex × RS)) (f:Nat):Prop:=∀ (g:Nat) (d:Int) (s s':RS) (x:Ex) (h0:QH) (w:World) (okk:Nat→Prop) (K:List Value→List D→QS→Prop),fu d s=some (x,s')→DepthOk d f→QR g ⟨s,h0⟩ w→(∀ k,okk k→g<k) →
 (∀ A c h,OkS ⟨s',h⟩→K (exV x A c) [kidsD x] ⟨s',h⟩)→Calls Tryz.prog fn #[ptrV g,.int .i64 d] w (PostQ g sEx okk w K)
def MExs (fn:FuncId) (fu:Int→RS→Option (List Ex × RS)) (f:Nat):Prop:=∀ (g:Nat) (d:Int) (s s':RS) (x:List Ex) (h0:QH) (w:World) (okk:Nat→Prop) (K:List Value→List D→QS→Prop),fu d s=some (x,s')→DepthOk d f→QR g ⟨s,h0⟩ w→(∀ k,okk k→g<k) →
 (∀ A c h,OkS ⟨s',h⟩→K [.slice A x.length c] [exsD x] ⟨s',h⟩)→Calls Tryz.prog fn #[ptrV g,.int .i64 d] w (PostQ g sExs okk w K)
def MBinOk (f:Nat):Prop:=∀ (g:Nat) (d:Int) (n:Nat) (s s':RS) (x:Ex) (h0:QH) (w:World) (okk:Nat→Prop) (K:List Value→List D→QS→Prop),n≤10→mbinary f d n s=some (x,s')→DepthOk d f→QR g ⟨s,h0⟩ w→(∀ k,okk k→g<k) →
 (∀ A c h,OkS ⟨s',h⟩→K (exV x A c) [kidsD x] ⟨s',h⟩)→Calls Tryz.prog 112 #[ptrV g,.int .i64 d,.int .i64 n] w (PostQ g sEx okk w K)
def MPostOk (f:Nat):Prop:=∀ (g:Nat) (d:Int) (a:Ex) (B:Option Addr) (e:Nat) (s s':RS) (x:Ex) (h0:QH) (w:World) (okk:Nat→Prop) (K:List Value→List D→QS→Prop),mpostloop f d a s=some (x,s')→DepthOk d f→QR g ⟨s,h0⟩ w→(∀ k,okk k→g<k) →
 Rep w okk (kidsD a) [.slice B a.kids.length e]→(∀ A c h,OkS ⟨s',h⟩→K (exV x A c) [kidsD x] ⟨s',h⟩)→Calls Tryz.prog 132 #[ptrV g,.agg (exC a B e).toArray,.int .i64 d] w (PostQ g sPostX okk w K)
def qEx (fn:FuncId) (fu:Nat→Int→RS→Option (Ex × RS)) (g:Nat) {F:Nat} (ih:∀ f,f≤F→MEx fn (fu f) f):Con0 Tryz.prog (QR g) g where
 f:=fn
 sh:=sEx
 W args _ σ K:=∃ f d x s',f≤F∧args=[ptrV g,.int .i64 d]∧fu f d σ.s=some (x,s')∧DepthOk d f∧∀ A c h,OkS ⟨s',h⟩→K (exV x A c) [kidsD x] ⟨s',h⟩
 ok args ds σ w okk K hg hR hokk _ _ hW:=by
  obtain ⟨f,d,x,s',hf,rfl,h1,h2,hK⟩:=hW
  exact ih f hf g d σ.s s' x σ.h w okk K h1 h2 hR hokk hK
def qExs (fn:FuncId) (fu:Nat→Int→RS→Option (List Ex × RS)) (g:Nat) {F:Nat} (ih:∀ f,f≤F→MExs fn (fu f) f):Con0 Tryz.prog (QR g) g where
 f:=fn
 sh:=sExs
 W args _ σ K:=∃ f d x s',f≤F∧args=[ptrV g,.int .i64 d]∧fu f d σ.s=some (x,s')∧DepthOk d f∧∀ A c h,OkS ⟨s',h⟩→K [.slice A x.length c] [exsD x] ⟨s',h⟩
 ok args ds σ w okk K hg hR hokk _ _ hW:=by
  obtain ⟨f,d,x,s',hf,rfl,h1,h2,hK⟩:=hW
  exact ih f hf g d σ.s s' x σ.h w okk K h1 h2 hR hokk hK
def qBin (g:Nat) {F:Nat} (ih:∀ f,f≤F→MBinOk f):Con0 Tryz.prog (QR g) g where
 f:=112
 sh:=sEx
 W args _ σ K:=∃ (f:Nat) (d:Int) (n:Nat) (x:Ex) (s':RS),f≤F∧args=[ptrV g,.int .i64 d,.int .i64 n]∧n≤10∧mbinary f d n σ.s=some (x,s')∧DepthOk d f∧∀ A c h,OkS ⟨s',h⟩→K (exV x A c) [kidsD x] ⟨s',h⟩
 ok args ds σ w okk K hg hR hokk _ _ hW:=by
  obtain ⟨f,d,n,x,s',hf,rfl,h0,h1,h2,hK⟩:=hW
  exact ih f hf g d n σ.s s' x σ.h w okk K h0 h1 h2 hR hokk hK
def qPost (g:Nat) {F:Nat} (ih:∀ f,f≤F→MPostOk f):Con0 Tryz.prog (QR g) g where
 f:=132
 sh:=sPostX
 W args ds σ K:=∃ (f:Nat) (d:Int) (a:Ex) (B:Option Addr) (e:Nat) (x:Ex) (s':RS),f≤F∧args=[ptrV g,.agg (exC a B e).toArray,.int .i64 d]∧ds=[kidsD a]∧mpostloop f d a σ.s=some (x,s')∧DepthOk d f∧∀ A c h,OkS ⟨s',h⟩→K (exV x A c) [kidsD x] ⟨s',h⟩
 ok args ds σ w okk K hg hR hokk hda _ hW:=by
  obtain ⟨f,d,a,B,e,x,s',hf,rfl,rfl,h1,h2,hK⟩:=hW
  obtain ⟨v,h5,h6⟩:=hda.2 0 (7,8) (kidsD a) rfl rfl
  have h5:some (Value.slice B a.kids.length e)=some v:=h5
  injection h5 with h5
  subst h5
  exact ih f hf g d a B e σ.s s' x σ.h w okk K h1 h2 hR hokk h6 hK
section
variable {g F f:Nat} {K:List Value→List D→QS→Prop} {ds:List D} {s s':RS} {h0:QH} {d:Int}
theorem w_pex {fn:FuncId} {fu:Nat→Int→RS→Option (Ex × RS)} {ih:∀ f,f≤F→MEx fn (fu f) f} {x:Ex} (hf:f≤F) (h1:fu f d s=some (x,s')) (h2:DepthOk d f) (h:∀ A c h,OkS ⟨s',h⟩→K (exV x A c) [kidsD x] ⟨s',h⟩):(qEx fn fu g ih).W [ptrV g,.int .i64 d] ds ⟨s,h0⟩ K:=⟨f,d,x,s',hf,rfl,h1,h2,h⟩
theorem w_pexs {fn:FuncId} {fu:Nat→Int→RS→Option (List Ex × RS)} {ih:∀ f,f≤F→MExs fn (fu f) f} {x:List Ex} (hf:f≤F) (h1:fu f d s=some (x,s')) (h2:DepthOk d f) (h:∀ A c h,OkS ⟨s',h⟩→K [.slice A x.length c] [exsD x] ⟨s',h⟩):(qExs fn fu g ih).W [ptrV g,.int .i64 d] ds ⟨s,h0⟩ K:=⟨f,d,x,s',hf,rfl,h1,h2,h⟩
theorem w_pbin {n:Nat} {ih:∀ f,f≤F→MBinOk f} {x:Ex} (hf:f≤F) (hn:n≤10) (h1:mbinary f d n s=some (x,s')) (h2:DepthOk d f) (h:∀ A c h,OkS ⟨s',h⟩→K (exV x A c) [kidsD x] ⟨s',h⟩):(qBin g ih).W [ptrV g,.int .i64 d,.int .i64 n] ds ⟨s,h0⟩ K:=⟨f,d,n,x,s',hf,rfl,hn,h1,h2,h⟩
theorem w_ppost {ih:∀ f,f≤F→MPostOk f} {a x:Ex} {B:Option Addr} {e:Nat} (hf:f≤F) (h1:mpostloop f d a s=some (x,s')) (h2:DepthOk d f) (h:∀ A c h,OkS ⟨s',h⟩→K (exV x A c) [kidsD x] ⟨s',h⟩):(qPost g ih).W [ptrV g,.agg (exC a B e).toArray,.int .i64 d] [kidsD a] ⟨s,h0⟩ K:=⟨f,d,a,B,e,x,s',hf,rfl,rfl,h1,h2,h⟩
end
def qAssigns (g:Nat):Con0 Tryz.prog (QR g) g where
 f:=103
 sh:=sAss
 W args _ σ K:=∃ x,x.length≤1000000∧args=[strB x]∧K [.int .i64 (massigns x),.bool (misAss x)] [] σ
 ok args ds σ w okk K hg hR hokk _ _ hW:=by
  obtain ⟨x,hx,rfl,hK⟩:=hW
  exact tell_postP (massigns_any x hx g w hR.2.2.2 hg) hR hK rfl rfl rfl (by simp [Value.oneCell'])
def qOperator (g:Nat):Con0 Tryz.prog (QR g) g where
 f:=122
 sh:=sAss
 W args _ σ K:=∃ n:Nat,n<10∧args=[ptrV g,.int .i64 n]∧∀ v,(((hdT σ.s.ts).kind == 3 && rlevel n (hdT σ.s.ts).text != 0)=true→v=rlevel n (hdT σ.s.ts).text)→K [.int .i64 v,.bool ((hdT σ.s.ts).kind == 3 && rlevel n (hdT σ.s.ts).text != 0)] [] σ
 ok args ds σ w okk K hg hR hokk _ _ hW:=by
  obtain ⟨n,hn,rfl,hK⟩:=hW
  exact (moperator_any n hn g σ w hR).mono fun e w' ⟨v,h1,he,hr,hk⟩=>⟨_,[],σ,_,hK v h1,rfl,he,rfl,rfl,by simp [Value.oneCell'],hr,hk,daOk_nil _ _ _⟩
section
variable {g:Nat} {K:List Value→List D→QS→Prop} {ds:List D} {s:RS} {h0:QH}
theorem w_passigns {x:List UInt8} (hx:x.length≤1000000) (h:K [.int .i64 (massigns x),.bool (misAss x)] [] ⟨s,h0⟩):(qAssigns g).W [strB x] ds ⟨s,h0⟩ K:=⟨x,hx,rfl,h⟩
theorem w_poperator {n:Nat} (hn:n<10) (h:∀ v,(((hdT s.ts).kind == 3 && rlevel n (hdT s.ts).text != 0)=true→v=rlevel n (hdT s.ts).text)→K [.int .i64 v,.bool ((hdT s.ts).kind == 3 && rlevel n (hdT s.ts).text != 0)] [] ⟨s,h0⟩):(qOperator g).W [ptrV g,.int .i64 n] ds ⟨s,h0⟩ K:=⟨n,hn,rfl,h⟩
end
end Go.Proofs.YtdmacgoeikjdbaaGreatDoor
namespace Go.Proofs.YtdmacgoeikjdbaaGreatDoor
open Go.RowKit Sx
def cfP_expr:Cfg:=⟨[(84,sUnit),(102,sEx),(14,sTok),(103,sAss),(65,sTok),(88,sEx)],[(100 * 100 + 6,8),(100 * 89 + 1,8),(100 * 89 + 2,9),(100 * 56 + 4,1),(100 * 60 + 4,6),(100 * 60 + 5,9),(100 * 60 + 6,6)],[],sEx,[],[]⟩
def TP_expr:Tree:=tW <| tV 0 1 <| tV 1 1 <| tW <| tO 2 <| tW <| .nd (.call 3 [.one (.v 11)] []) <| .nd (.pv (.bin .neq) [.v 10,jI 3]) <| .ite 16 (.ret [.v 2,.v 3,.v 4,.v 5,.v 6,.v 7,.v 8,.v 9] [jD 8 0]) (tT 15 <| .ite 17 (.ret [.v 2,.v 3,.v 4,.v 5,.v 6,.v 7,.v 8,.v 9] [jD 8 0]) (tO 4 <| tA 1 1 <| tV 5 22 <| tB 8 2 [rX 2 0,rX 23 1] <| .ret [jI 34,jI 0,jI 0,jI 0,jE,.v 14,.v 31,.v 13] [jD 31 2]))
theorem TP_expr_eq:fnS Tryz.prog cfP_expr [.one,.one] 88=some TP_expr:=by kernel_rfl
theorem mexpr_step (F:Nat) (ihc:∀ f,f≤F→MEx 102 (mcond f) f) (ihe:∀ f,f≤F→MEx 88 (mexpr f) f):MEx 88 (mexpr (F + 1)) (F + 1):=by
 intro g d s s' x h0 w okk K hx hd hr hok hK'
 have hK:∀ vs ds σ',((∃ A c,vs=exV x A c)∧ds=[kidsD x]∧σ'.s=s'∧OkS σ')→K vs ds σ':=fun vs ds σ' h=>by
  obtain ⟨⟨A,c,rfl⟩,rfl,rfl,h3⟩:=h
  exact hK' A c _ h3
 refine fn_ok (cf:=cfP_expr) [(qDeep g).x,(qEx 102 mcond g ihc).x,(qTok g).x,(qAssigns g).x,(qNext g).x,(qEx 88 mexpr g ihe).x] rfl mixed QR.stable TP_expr_eq (W:=fun args ds σ K'=>args=[ptrV g,.int .i64 d]∧ds=[]∧σ=⟨s,h0⟩∧K'=K)
  (fun args ds σ K hW=>by obtain ⟨rfl,_⟩:=hW;exact ⟨rfl,rfl,trivial⟩) ?_ [ptrV g,.int .i64 d] [] ⟨s,h0⟩ w okk K hr.lt hr hok (daOk_nil _ _ _) (by simp [Sx.flat,Value.cells,Value.oneCell',exC,strV8]) ⟨rfl,rfl,rfl,rfl⟩
 rintro args ds σ K' ⟨rfl,rfl,rfl,rfl⟩ _
 have hp0:=hr.1
 have hd1:=hd.1
 have hd2:=hd.2
 have hdd:=deeper hd
 rw [mexpr] at hx
 show Tree.holds _ _ _ _ (⟨Sx.flat [ptrV g,.int .i64 d],[],[],⟨s,h0⟩⟩:Env QS)
 simp only [Sx.flat,Value.cells,List.flatMap_cons,List.flatMap_nil,List.append_nil,List.cons_append,List.nil_append,Array.toList]
 refine h_new fun g1=>?_
 refine kc (h:=w_pdeep fun h2 p2=>?_)
 try simp only [bne,bS,↓reduceIte] at hx
 obtain ⟨⟨x3,s3⟩,e3,hx⟩:=Option.bind_eq_some_iff.1 hx
 simp only at hx
 refine kc (h:=w_pex (f:=F) (by omega) e3 ⟨by omega,by omega⟩ fun A3 c3 h3 p3=>?_)
 try simp only [aS,hdd.2]
 refine h_new fun g4=>?_
 refine kc (h:=w_ptok ?_)
 try simp only [aS,hdd.2]
 refine h_new fun g6=>?_
 refine kc (h:=w_passigns (OkS.htx p3) ?_)
 try simp only [aS,hdd.2]
 refine h_pv rfl rfl ?_
 try simp only [aS,hdd.2]
 refine h_ite rfl (fun q9=>?_) (fun q9=>?_)
 ·skip
  try dsimp only at q9
  try simp only [q9,bne,bS,↓reduceIte] at hx
  try simp only [q9,bne,bS,↓reduceIte] at hx
  obtain ⟨rfl,rfl⟩:=sP hx
  refine kr (h:=?_)
  refine hK _ _ _ ⟨⟨_,_,rfl⟩,?_,rfl,p3⟩
  first | rfl | (simp only [kidsD,Ex.kids,List.map,encEx_eq];done) | (simp only [kidsD,Ex.kids,List.map,encEx_eq];rfl) | (simp only [exsD,List.map,encEx_eq];done) | (simp only [exsD,List.map,encEx_eq];rfl) | (simp [kidsD,exsD,Ex.kids,encEx_eq];done)
 ·skip
  try dsimp only at q9
  try simp only [q9,bne,bS,↓reduceIte] at hx
  refine h_pv rfl rfl ?_
  try simp only [aS,hdd.2]
  refine h_ite rfl (fun q11=>?_) (fun q11=>?_)
  ·skip
   simp only [nS] at q11
   try simp only [q9,q11,bne,bS,↓reduceIte] at hx
   try simp only [q9,q11,bne,bS,↓reduceIte] at hx
   obtain ⟨rfl,rfl⟩:=sP hx
   refine kr (h:=?_)
   refine hK _ _ _ ⟨⟨_,_,rfl⟩,?_,rfl,p3⟩
   first | rfl | (simp only [kidsD,Ex.kids,List.map,encEx_eq];done) | (simp only [kidsD,Ex.kids,List.map,encEx_eq];rfl) | (simp only [exsD,List.map,encEx_eq];done) | (simp only [exsD,List.map,encEx_eq];rfl) | (simp [kidsD,exsD,Ex.kids,encEx_eq];done)
  ·skip
   simp only [nS] at q11
   try simp only [q9,q11,bne,bS,↓reduceIte] at hx
   refine kc (h:=w_pnext fun h12 p12=>?_)
   try simp only [aS,hdd.2]
   refine h_pv rfl rfl ?_
   try simp only [aS,hdd.2]
   try simp only [q9,q11,bne,bS,↓reduceIte] at hx
   obtain ⟨⟨x14,s14⟩,e14,hx⟩:=Option.bind_eq_some_iff.1 hx
   simp only at hx
   refine kc (h:=w_pex (f:=F) (by omega) e14 ⟨by omega,by omega⟩ fun A14 c14 h14 p14=>?_)
   try simp only [aS,hdd.2]
   refine kb (h:=fun g15=>?_)
   try simp only [aS,hdd.2]
   try simp only [q9,q11,bne,bS,↓reduceIte] at hx
   obtain ⟨rfl,rfl⟩:=sP hx
   refine kr (h:=?_)
   refine hK _ _ _ ⟨⟨_,_,rfl⟩,?_,rfl,p14⟩
   first | rfl | (simp only [kidsD,Ex.kids,List.map,encEx_eq];done) | (simp only [kidsD,Ex.kids,List.map,encEx_eq];rfl) | (simp only [exsD,List.map,encEx_eq];done) | (simp only [exsD,List.map,encEx_eq];rfl) | (simp [kidsD,exsD,Ex.kids,encEx_eq];done)
def cfP_cond:Cfg:=⟨[(112,sEx),(14,sTok),(67,sOne),(88,sEx),(70,sUnit),(84,sUnit),(102,sEx)],[(100 * 100 + 6,8),(100 * 89 + 1,8),(100 * 89 + 2,9),(100 * 56 + 4,1),(100 * 60 + 4,6),(100 * 60 + 5,9),(100 * 60 + 6,6)],[],sEx,[],[]⟩
def TP_cond:Tree:=tW <| .nd (.call 0 [.one (.v 0),.one (.v 1),.one (jI 0)] []) <| tW <| tO 1 <| tW <| tS 2 [63] <| tT 14 <| .ite 15 (.ret [.v 2,.v 3,.v 4,.v 5,.v 6,.v 7,.v 8,.v 9] [jD 8 0]) (tA 1 1 <| tV 3 16 <| tW <| tS 4 [58] <| tA 1 1 <| tV 5 25 <| tA 1 1 <| tV 6 26 <| tW <| tB 8 3 [rX 2 0,rX 17 1,rX 27 2] <| .ret [jI 33,jI 0,jI 0,jI 0,jE,jI 0,.v 35,.v 13] [jD 35 3])
theorem TP_cond_eq:fnS Tryz.prog cfP_cond [.one,.one] 102=some TP_cond:=by kernel_rfl
theorem mcond_step (F:Nat) (ihb:∀ f,f≤F→MBinOk f) (ihe:∀ f,f≤F→MEx 88 (mexpr f) f) (ihc:∀ f,f≤F→MEx 102 (mcond f) f):MEx 102 (mcond (F + 1)) (F + 1):=by
 intro g d s s' x h0 w okk K hx hd hr hok hK'
 have hK:∀ vs ds σ',((∃ A c,vs=exV x A c)∧ds=[kidsD x]∧σ'.s=s'∧OkS σ')→K vs ds σ':=fun vs ds σ' h=>by
  obtain ⟨⟨A,c,rfl⟩,rfl,rfl,h3⟩:=h
  exact hK' A c _ h3
 refine fn_ok (cf:=cfP_cond) [(qBin g ihb).x,(qTok g).x,(qEat g).x,(qEx 88 mexpr g ihe).x,(qWant g).x,(qDeep g).x,(qEx 102 mcond g ihc).x] rfl mixed QR.stable TP_cond_eq (W:=fun args ds σ K'=>args=[ptrV g,.int .i64 d]∧ds=[]∧σ=⟨s,h0⟩∧K'=K)
  (fun args ds σ K hW=>by obtain ⟨rfl,_⟩:=hW;exact ⟨rfl,rfl,trivial⟩) ?_ [ptrV g,.int .i64 d] [] ⟨s,h0⟩ w okk K hr.lt hr hok (daOk_nil _ _ _) (by simp [Sx.flat,Value.cells,Value.oneCell',exC,strV8]) ⟨rfl,rfl,rfl,rfl⟩
 rintro args ds σ K' ⟨rfl,rfl,rfl,rfl⟩ _
 have hp0:=hr.1
 have hd1:=hd.1
 have hd2:=hd.2
 have hdd:=deeper hd
 rw [mcond] at hx
 show Tree.holds _ _ _ _ (⟨Sx.flat [ptrV g,.int .i64 d],[],[],⟨s,h0⟩⟩:Env QS)
 simp only [Sx.flat,Value.cells,List.flatMap_cons,List.flatMap_nil,List.append_nil,List.cons_append,List.nil_append,Array.toList]
 refine h_new fun g1=>?_
 try simp only [bS,↓reduceIte] at hx
 obtain ⟨⟨x2,s2⟩,e2,hx⟩:=Option.bind_eq_some_iff.1 hx
 simp only at hx
 refine kc (h:=w_pbin (f:=F) (n:=0) (by omega) (by omega) e2 ⟨by omega,by omega⟩ fun A2 c2 h2 p2=>?_)
 try simp only [aS,hdd.2]
 refine h_new fun g3=>?_
 refine kc (h:=w_ptok ?_)
 try simp only [aS,hdd.2]
 refine h_new fun g5=>?_
 refine kc (h:=w_peat fun h6 p6=>?_)
 try simp only [aS,hdd.2]
 refine h_pv rfl rfl ?_
 try simp only [aS,hdd.2]
 refine h_ite rfl (fun q8=>?_) (fun q8=>?_)
 ·skip
  simp only [nS] at q8
  have z8:=meat_noS q8
  rw [z8] at p6
  rw [z8]
  try simp only [z8] at hx
  try simp only [q8,bS,↓reduceIte] at hx
  try simp only [q8,bS,↓reduceIte] at hx
  obtain ⟨rfl,rfl⟩:=sP hx
  refine kr (h:=?_)
  refine hK _ _ _ ⟨⟨_,_,rfl⟩,?_,rfl,p6⟩
  first | rfl | (simp only [kidsD,Ex.kids,List.map,encEx_eq];done) | (simp only [kidsD,Ex.kids,List.map,encEx_eq];rfl) | (simp only [exsD,List.map,encEx_eq];done) | (simp only [exsD,List.map,encEx_eq];rfl) | (simp [kidsD,exsD,Ex.kids,encEx_eq];done)
 ·skip
  simp only [nS] at q8
  try simp only [q8,bS,↓reduceIte] at hx
  refine h_pv rfl rfl ?_
  try simp only [aS,hdd.2]
  try simp only [q8,bS,↓reduceIte] at hx
  obtain ⟨⟨x10,s10⟩,e10,hx⟩:=Option.bind_eq_some_iff.1 hx
  simp only at hx
  refine kc (h:=w_pex (f:=F) (by omega) e10 ⟨by omega,by omega⟩ fun A10 c10 h10 p10=>?_)
  try simp only [aS,hdd.2]
  refine h_new fun g11=>?_
  refine kc (h:=w_pwant fun h12 p12=>?_)
  refine h_pv rfl rfl ?_
  try simp only [aS,hdd.2]
  refine kc (h:=w_pdeep fun h14 p14=>?_)
  refine h_pv rfl rfl ?_
  try simp only [aS,hdd.2]
  try simp only [q8,bS,↓reduceIte] at hx
  obtain ⟨⟨x16,s16⟩,e16,hx⟩:=Option.bind_eq_some_iff.1 hx
  simp only at hx
  refine kc (h:=w_pex (f:=F) (by omega) e16 ⟨by omega,by omega⟩ fun A16 c16 h16 p16=>?_)
  try simp only [aS,hdd.2]
  refine h_new fun g17=>?_
  refine kb (h:=fun g18=>?_)
  try simp only [aS,hdd.2]
  try simp only [q8,bS,↓reduceIte] at hx
  obtain ⟨rfl,rfl⟩:=sP hx
  refine kr (h:=?_)
  refine hK _ _ _ ⟨⟨_,_,rfl⟩,?_,rfl,p16⟩
  first | rfl | (simp only [kidsD,Ex.kids,List.map,encEx_eq];done) | (simp only [kidsD,Ex.kids,List.map,encEx_eq];rfl) | (simp only [exsD,List.map,encEx_eq];done) | (simp only [exsD,List.map,encEx_eq];rfl) | (simp [kidsD,exsD,Ex.kids,encEx_eq];done)
end Go.Proofs.YtdmacgoeikjdbaaGreatDoor
namespace Go.Proofs.YtdmacgoeikjdbaaGreatDoor
open Go.RowKit Sx
def cfP_binary:Cfg:=⟨[(121,sEx),(112,sEx),(14,sTok),(122,sAss),(65,sTok)],[(100 * 100 + 6,8),(100 * 89 + 1,8),(100 * 89 + 2,9),(100 * 56 + 4,1),(100 * 60 + 4,6),(100 * 60 + 5,9),(100 * 60 + 6,6)],[(0,⟨[(0,.el (.one (.v 0))),(1,.el (.one (.v 1))),(2,.el (.one (.v 2))),(6,.el (.one (.p 0 0))),(7,.el (.one (.p 1 0)))],[⟨0,100,xZ⟩,⟨1,100,vsFrom 3 8⟩],[⟨9,0,none⟩],11,2,1,45,[],[]⟩)],sEx,[],[]⟩
def Z3:Tree:=tO 2 <| tV 3 2 <| tT 16 <| .ite 17 (.ret [.v 3,.v 4,.v 5,.v 6,.v 7,.v 8,.v 9,.v 10] [jD 9 0]) (tO 4 <| tA 2 1 <| .nd (.call 1 [.one (.v 0),.one (.v 1),.one (.v 22)] []) <| tB 8 2 [rX 3 0,rX 23 1] <| .again 0 [.v 0,.v 1,.v 2,.v 15,jI 0,jI 0,jI 0,jE,jI 0,.v 31,.v 14] [jD 31 2])
def TP_binary:Tree:=tW <| .nd (.pv (.bin .gtr) [.v 2,jI 9]) <| .ite 3 (tV 0 1 <| .ret [.v 4,.v 5,.v 6,.v 7,.v 8,.v 9,.v 10,.v 11] [jD 10 0]) (tA 2 1 <| .nd (.call 1 [.one (.v 0),.one (.v 1),.one (.v 4)] []) <| tW <| .loop 0 2 [.v 0,.v 1,.v 2,.v 5,.v 6,.v 7,.v 8,.v 9,.v 10,.v 11,.v 12] [jD 11 0] Z3)
theorem TP_binary_eq:fnS Tryz.prog cfP_binary [.one,.one,.one] 112=some TP_binary:=by kernel_rfl
theorem mbin_step (F:Nat) (ihu:∀ f,f≤F→MEx 121 (munary f) f) (ihb:∀ f,f≤F→MBinOk f):MBinOk (F + 1):=by
 intro g d n s s' x h0 w okk K hn hx hd hr hok hK'
 have hK:∀ vs ds σ',((∃ A c,vs=exV x A c)∧ds=[kidsD x]∧σ'.s=s'∧OkS σ')→K vs ds σ':=fun vs ds σ' h=>by
  obtain ⟨⟨A,c,rfl⟩,rfl,rfl,h3⟩:=h
  exact hK' A c _ h3
 refine fn_ok (cf:=cfP_binary) [(qEx 121 munary g ihu).x,(qBin g ihb).x,(qTok g).x,(qOperator g).x,(qNext g).x] rfl mixed QR.stable TP_binary_eq (W:=fun args ds σ K'=>args=[ptrV g,.int .i64 d,.int .i64 n]∧ds=[]∧σ=⟨s,h0⟩∧K'=K)
  (fun args ds σ K hW=>by obtain ⟨rfl,_⟩:=hW;exact ⟨rfl,rfl,rfl,trivial⟩) ?_ [ptrV g,.int .i64 d,.int .i64 n] [] ⟨s,h0⟩ w okk K hr.lt hr hok (daOk_nil _ _ _) (by simp [Sx.flat,Value.cells,Value.oneCell',exC,strV8]) ⟨rfl,rfl,rfl,rfl⟩
 rintro args ds σ K' ⟨rfl,rfl,rfl,rfl⟩ _
 have hp0:=hr.1
 have hd1:=hd.1
 have hd2:=hd.2
 have hdd:=deeper hd
 have hn1:9 ≥ n→IntKind.i64.wrap ((n:Int) + 1)=((n + 1:Nat):Int):=fun h=>by rw [IntKind.wrap_i64];omega
 rw [mbinary] at hx
 show Tree.holds _ _ _ _ (⟨Sx.flat [ptrV g,.int .i64 d,.int .i64 n],[],[],⟨s,h0⟩⟩:Env QS)
 simp only [Sx.flat,Value.cells,List.flatMap_cons,List.flatMap_nil,List.append_nil,List.cons_append,List.nil_append,Array.toList]
 refine h_new fun g1=>?_
 refine h_pv rfl rfl ?_
 try simp only [aS,hdd.2,hn1]
 refine h_ite rfl (fun q3=>?_) (fun q3=>?_)
 ·skip
  try dsimp only at q3
  have qn:9<n:=by have:=q3;simp at this;omega
  rw [if_pos qn] at hx
  try simp only [q3,bS,↓reduceIte] at hx
  try simp only [q3,bS,↓reduceIte] at hx
  refine kc (h:=w_pex (f:=F)  (by omega) hx ⟨by omega,by omega⟩ fun A4 c4 h4 p4=>?_)
  try simp only [aS,hdd.2,hn1]
  refine kr (h:=?_)
  exact hK _ _ _ ⟨⟨_,_,rfl⟩,rfl,rfl,p4⟩
 ·skip
  try dsimp only at q3
  have qn:¬ 9<n:=by have:=q3;simp at this;omega
  rw [if_neg qn] at hx
  have hn1:=hn1 (by omega)
  try simp only [q3,bS,↓reduceIte] at hx
  refine h_pv rfl rfl ?_
  try simp only [aS,hdd.2,hn1]
  try simp only [q3,bS,↓reduceIte] at hx
  obtain ⟨⟨x6,s6⟩,e6,hx⟩:=Option.bind_eq_some_iff.1 hx
  simp only at hx
  refine kc (h:=w_pbin (f:=F) (n:=n + 1) (by omega) (by omega) e6 ⟨by omega,by omega⟩ fun A6 c6 h6 p6=>?_)
  try simp only [aS,hdd.2,hn1]
  refine h_new fun g7=>?_
  refine h_loop (fun k vs ds σ=>∃ (a:Ex) (A:Option Addr) (c:Nat),vs=ptrV g :: .int .i64 d :: .int .i64 n :: exV a A c∧ds=[kidsD a]∧OkS σ∧k≤F∧mbinloop k d n a σ.s=some (x,s')) F (by simp only [rowsD,ldens,dens,dens2,T2.den,L.den,CD.den,leafD,rowD,List.getElem?_cons_zero,List.getElem?_cons_succ] <;> rfl) (by simp only [rowsD,ldens,dens,dens2,T2.den,L.den,CD.den,leafD,rowD,List.getElem?_cons_zero,List.getElem?_cons_succ] <;> rfl) (fun vs ds σ ⟨a,A,c,_,_,_,_,h⟩=>by cases h) ⟨_,_,_,rfl,rfl,p6,Nat.le_refl _,hx⟩ ?_
  rintro k vs ds bl ⟨s,h0⟩ hbl ⟨a,A,c,rfl,rfl,hp0,hk,hx⟩
  rw [mbinloop] at hx
  simp only at hx
  try simp only [aS,hdd.2,hn1]
  refine kc (h:=w_ptok ?_)
  try simp only [aS,hdd.2,hn1]
  refine kc (h:=w_poperator (by omega) fun v9 hv9=>?_)
  try simp only [aS,hdd.2,hn1]
  refine h_pv rfl rfl ?_
  try simp only [aS,hdd.2,hn1]
  refine h_ite rfl (fun q11=>?_) (fun q11=>?_)
  ·skip
   simp only [nS] at q11
   try simp only [q11,bS,↓reduceIte] at hx
   try simp only [q11,bS,↓reduceIte] at hx
   obtain ⟨rfl,rfl⟩:=sP hx
   refine kr (h:=?_)
   refine hK _ _ _ ⟨⟨_,_,rfl⟩,?_,rfl,hp0⟩
   first | rfl | (simp only [kidsD,Ex.kids,List.map,encEx_eq];done) | (simp only [kidsD,Ex.kids,List.map,encEx_eq];rfl) | (simp only [exsD,List.map,encEx_eq];done) | (simp only [exsD,List.map,encEx_eq];rfl) | (simp [kidsD,exsD,Ex.kids,encEx_eq];done)
  ·skip
   simp only [nS] at q11
   try simp only [q11,bS,↓reduceIte] at hx
   obtain rfl:=hv9 q11
   refine kc (h:=w_pnext fun h12 p12=>?_)
   try simp only [aS,hdd.2,hn1]
   refine h_pv rfl rfl ?_
   try simp only [aS,hdd.2,hn1]
   try simp only [q11,bS,↓reduceIte] at hx
   obtain ⟨⟨x14,s14⟩,e14,hx⟩:=Option.bind_eq_some_iff.1 hx
   simp only at hx
   refine kc (h:=w_pbin (f:=k) (n:=n + 1) (by omega) (by omega) e14 ⟨by omega,by omega⟩ fun A14 c14 h14 p14=>?_)
   try simp only [aS,hdd.2,hn1]
   refine kb (h:=fun g15=>?_)
   try simp only [aS,hdd.2,hn1]
   try simp only [q11,bS,↓reduceIte] at hx
   refine ka (h:=?_)
   show (ite ((0:Nat)=0) _ _:List Value→List D→QS→Prop) _ _ _
   rw [if_pos rfl]
   refine ⟨_,_,_,rfl,?_,p14,by omega,hx⟩
   first | rfl | (simp only [kidsD,Ex.kids,List.map,encEx_eq];done) | (simp only [kidsD,Ex.kids,List.map,encEx_eq];rfl) | (simp [kidsD,exsD,Ex.kids,encEx_eq];done)
def cfP_operand:Cfg:=⟨[(84,sUnit),(121,sEx)],[(100 * 100 + 6,8),(100 * 89 + 1,8),(100 * 89 + 2,9),(100 * 56 + 4,1),(100 * 60 + 4,6),(100 * 60 + 5,9),(100 * 60 + 6,6)],[],sExs,[],[]⟩
def TP_operand:Tree:=tV 0 1 <| tV 1 1 <| tB 8 1 [rX 2 0] <| .ret [.v 10] [jD 10 1]
theorem TP_operand_eq:fnS Tryz.prog cfP_operand [.one,.one] 130=some TP_operand:=by kernel_rfl
theorem moperand_step (F:Nat) (ihu:∀ f,f≤F→MEx 121 (munary f) f):MExs 130 (moperand (F + 1)) (F + 1):=by
 intro g d s s' x h0 w okk K hx hd hr hok hK'
 have hK:∀ vs ds σ',((∃ A c,vs=[.slice A x.length c])∧ds=[exsD x]∧σ'.s=s'∧OkS σ')→K vs ds σ':=fun vs ds σ' h=>by
  obtain ⟨⟨A,c,rfl⟩,rfl,rfl,h3⟩:=h
  exact hK' A c _ h3
 refine fn_ok (cf:=cfP_operand) [(qDeep g).x,(qEx 121 munary g ihu).x] rfl mixed QR.stable TP_operand_eq (W:=fun args ds σ K'=>args=[ptrV g,.int .i64 d]∧ds=[]∧σ=⟨s,h0⟩∧K'=K)
  (fun args ds σ K hW=>by obtain ⟨rfl,_⟩:=hW;exact ⟨rfl,rfl,trivial⟩) ?_ [ptrV g,.int .i64 d] [] ⟨s,h0⟩ w okk K hr.lt hr hok (daOk_nil _ _ _) (by simp [Sx.flat,Value.cells,Value.oneCell',exC,strV8]) ⟨rfl,rfl,rfl,rfl⟩
 rintro args ds σ K' ⟨rfl,rfl,rfl,rfl⟩ _
 have hp0:=hr.1
 have hd1:=hd.1
 have hd2:=hd.2
 rw [moperand] at hx
 show Tree.holds _ _ _ _ (⟨Sx.flat [ptrV g,.int .i64 d],[],[],⟨s,h0⟩⟩:Env QS)
 simp only [Sx.flat,Value.cells,List.flatMap_cons,List.flatMap_nil,List.append_nil,List.cons_append,List.nil_append,Array.toList]
 refine kc (h:=w_pdeep fun h1 p1=>?_)
 try simp only [bS,↓reduceIte] at hx
 obtain ⟨⟨x2,s2⟩,e2,hx⟩:=Option.bind_eq_some_iff.1 hx
 simp only at hx
 refine kc (h:=w_pex (f:=F) (by omega) e2 ⟨by omega,by omega⟩ fun A2 c2 h2 p2=>?_)
 try simp only [aS,hdd.2]
 refine kb (h:=fun g3=>?_)
 try simp only [aS,hdd.2]
 try simp only [bS,↓reduceIte] at hx
 obtain ⟨rfl,rfl⟩:=sP hx
 refine kr (h:=?_)
 refine hK _ _ _ ⟨⟨_,_,rfl⟩,?_,rfl,p2⟩
 first | rfl | (simp only [kidsD,Ex.kids,List.map,encEx_eq];done) | (simp only [kidsD,Ex.kids,List.map,encEx_eq];rfl) | (simp only [exsD,List.map,encEx_eq];done) | (simp only [exsD,List.map,encEx_eq];rfl) | (simp [kidsD,exsD,Ex.kids,encEx_eq];done)
def cfP_cast:Cfg:=⟨[(65,sTok),(85,sOne),(26,sTy),(70,sUnit),(130,sExs),(88,sEx),(132,sPostX)],[(100 * 100 + 6,8),(100 * 89 + 1,8),(100 * 89 + 2,9),(100 * 56 + 4,1),(100 * 60 + 4,6),(100 * 60 + 5,9),(100 * 60 + 6,6)],[],sEx,[],[]⟩
def TP_cast_6:Tree:=tO 2 <| tW <| tS 3 [41] <| tA 1 1 <| tV 4 10 <| .ret [jI 9,.v 7,.v 8,.v 9,jE,jI 0,.v 11,.v 5] [jD 11 0]
def TP_cast_12:Tree:=tW <| tO 2 <| tS 3 [41] <| tA 1 1 <| tV 4 10 <| .ret [jI 9,.v 7,.v 8,.v 9,jE,jI 0,.v 11,.v 5] [jD 11 0]
def TP_cast:Tree:=tW <| tO 0 <| tW <| tO 1 <| .ite 6 (.both TP_cast_6 TP_cast_12) (tA 1 1 <| tV 5 7 <| tW <| tS 3 [41] <| .nd (.call 6 [.one (.v 0),.agg [.v 8,.v 9,.v 10,.v 11,.v 12,.v 13,.v 14,.v 15],.one (.v 1)] [jD 14 0]) <| .ret [.v 16,.v 17,.v 18,.v 19,.v 20,.v 21,.v 22,.v 23] [jD 22 1])
theorem TP_cast_eq:fnS Tryz.prog cfP_cast [.one,.one] 131=some TP_cast:=by kernel_rfl
theorem mcast_step (F:Nat) (iho:∀ f,f≤F→MExs 130 (moperand f) f) (ihe:∀ f,f≤F→MEx 88 (mexpr f) f) (ihp:∀ f,f≤F→MPostOk f):MEx 131 (mcast (F + 1)) (F + 1):=by
 intro g d s s' x h0 w okk K hx hd hr hok hK'
 have hK:∀ vs ds σ',((∃ A c,vs=exV x A c)∧ds=[kidsD x]∧σ'.s=s'∧OkS σ')→K vs ds σ':=fun vs ds σ' h=>by
  obtain ⟨⟨A,c,rfl⟩,rfl,rfl,h3⟩:=h
  exact hK' A c _ h3
 refine fn_ok (cf:=cfP_cast) [(qNext g).x,(qTyped g).x,(qTyp g).x,(qWant g).x,(qExs 130 moperand g iho).x,(qEx 88 mexpr g ihe).x,(qPost g ihp).x] rfl mixed QR.stable TP_cast_eq (W:=fun args ds σ K'=>args=[ptrV g,.int .i64 d]∧ds=[]∧σ=⟨s,h0⟩∧K'=K)
  (fun args ds σ K hW=>by obtain ⟨rfl,_⟩:=hW;exact ⟨rfl,rfl,trivial⟩) ?_ [ptrV g,.int .i64 d] [] ⟨s,h0⟩ w okk K hr.lt hr hok (daOk_nil _ _ _) (by simp [Sx.flat,Value.cells,Value.oneCell',exC,strV8]) ⟨rfl,rfl,rfl,rfl⟩
 rintro args ds σ K' ⟨rfl,rfl,rfl,rfl⟩ _
 have hp0:=hr.1
 have hd1:=hd.1
 have hd2:=hd.2
 have hdd:=deeper hd
 rw [mcast] at hx
 show Tree.holds _ _ _ _ (⟨Sx.flat [ptrV g,.int .i64 d],[],[],⟨s,h0⟩⟩:Env QS)
 simp only [Sx.flat,Value.cells,List.flatMap_cons,List.flatMap_nil,List.append_nil,List.cons_append,List.nil_append,Array.toList]
 refine h_new fun g1=>?_
 refine kc (h:=w_pnext fun h2 p2=>?_)
 try simp only [aS,hdd.2]
 refine h_new fun g3=>?_
 refine kc (h:=w_ptyped ?_)
 try simp only [aS,hdd.2]
 refine h_ite rfl (fun q5=>?_) (fun q5=>?_)
 ·skip
  try simp only [q5,bS,↓reduceIte] at hx
  refine h_both ?_ ?_
  ·unfold TP_cast_6
   refine kc (h:=w_ptyp fun h6 p6=>?_)
   try simp only [aS,hdd.2]
   refine h_new fun g7=>?_
   refine kc (h:=w_pwant fun h8 p8=>?_)
   refine h_pv rfl rfl ?_
   try simp only [aS,hdd.2]
   try simp only [q5,bS,↓reduceIte] at hx
   obtain ⟨⟨x10,s10⟩,e10,hx⟩:=Option.bind_eq_some_iff.1 hx
   simp only at hx
   refine kc (h:=w_pexs (f:=F) (by omega) e10 ⟨by omega,by omega⟩ fun A10 c10 h10 p10=>?_)
   try simp only [aS,hdd.2]
   try simp only [q5,bS,↓reduceIte] at hx
   obtain ⟨rfl,rfl⟩:=sP hx
   refine kr (h:=?_)
   refine hK _ _ _ ⟨⟨_,_,rfl⟩,?_,rfl,p10⟩
   first | rfl | (simp only [kidsD,Ex.kids,List.map,encEx_eq];done) | (simp only [kidsD,Ex.kids,List.map,encEx_eq];rfl) | (simp only [exsD,List.map,encEx_eq];done) | (simp only [exsD,List.map,encEx_eq];rfl) | (simp [kidsD,exsD,Ex.kids,encEx_eq];done)
  ·unfold TP_cast_12
   refine h_new fun g11=>?_
   refine kc (h:=w_ptyp fun h12 p12=>?_)
   try simp only [aS,hdd.2]
   refine kc (h:=w_pwant fun h13 p13=>?_)
   refine h_pv rfl rfl ?_
   try simp only [aS,hdd.2]
   try simp only [q5,bS,↓reduceIte] at hx
   obtain ⟨⟨x15,s15⟩,e15,hx⟩:=Option.bind_eq_some_iff.1 hx
   simp only at hx
   refine kc (h:=w_pexs (f:=F) (by omega) e15 ⟨by omega,by omega⟩ fun A15 c15 h15 p15=>?_)
   try simp only [aS,hdd.2]
   try simp only [q5,bS,↓reduceIte] at hx
   obtain ⟨rfl,rfl⟩:=sP hx
   refine kr (h:=?_)
   refine hK _ _ _ ⟨⟨_,_,rfl⟩,?_,rfl,p15⟩
   first | rfl | (simp only [kidsD,Ex.kids,List.map,encEx_eq];done) | (simp only [kidsD,Ex.kids,List.map,encEx_eq];rfl) | (simp only [exsD,List.map,encEx_eq];done) | (simp only [exsD,List.map,encEx_eq];rfl) | (simp [kidsD,exsD,Ex.kids,encEx_eq];done)
 ·skip
  try simp only [q5,bS,↓reduceIte] at hx
  refine h_pv rfl rfl ?_
  try simp only [aS,hdd.2]
  try simp only [q5,bS,↓reduceIte] at hx
  obtain ⟨⟨x17,s17⟩,e17,hx⟩:=Option.bind_eq_some_iff.1 hx
  simp only at hx
  refine kc (h:=w_pex (f:=F) (by omega) e17 ⟨by omega,by omega⟩ fun A17 c17 h17 p17=>?_)
  try simp only [aS,hdd.2]
  refine h_new fun g18=>?_
  refine kc (h:=w_pwant fun h19 p19=>?_)
  try simp only [q5,bS,↓reduceIte] at hx
  refine kc (h:=w_ppost (f:=F) (B:=A17) (e:=c17) (by omega) hx ⟨by omega,by omega⟩ fun A20 c20 h20 p20=>?_)
  try simp only [aS,hdd.2]
  refine kr (h:=?_)
  exact hK _ _ _ ⟨⟨_,_,rfl⟩,rfl,rfl,p20⟩
end Go.Proofs.YtdmacgoeikjdbaaGreatDoor

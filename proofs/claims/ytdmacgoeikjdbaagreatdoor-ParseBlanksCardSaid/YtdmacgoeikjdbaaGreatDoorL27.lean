/- The program's parser: expressions joined; brackets, perhaps none; what -/
import Derived.Test.YtdmacgoeikjdbaaGreatDoorL26
set_option linter.unusedSimpArgs false
set_option linter.unusedVariables false
set_option maxHeartbeats 16000000
namespace Go.Proofs.YtdmacgoeikjdbaaGreatDoor
open Go.RowKit Sx
structure MAllOk (f:Nat):Prop where
 e:MEx 88 (mexpr f) f
 c:MEx 102 (mcond f) f
 u:MEx 121 (munary f) f
 t:MEx 131 (mcast f) f
 r:MEx 133 (mprimary f) f
 o:MExs 130 (moperand f) f
 a:MExs 140 (margs f) f
 b:MBinOk f
 p:MPostOk f
theorem mall:∀ f,MAllOk f:=by
 intro f
 induction f using Nat.strongRecOn with
 | ind f ih=>
  cases f with
  | zero=>
   refine ⟨?_,?_,?_,?_,?_,?_,?_,?_,?_⟩
   ·intro g d s s' x h0 w okk K hx;rw [mexpr] at hx;cases hx
   ·intro g d s s' x h0 w okk K hx;rw [mcond] at hx;cases hx
   ·intro g d s s' x h0 w okk K hx;rw [munary] at hx;cases hx
   ·intro g d s s' x h0 w okk K hx;rw [mcast] at hx;cases hx
   ·intro g d s s' x h0 w okk K hx;rw [mprimary] at hx;cases hx
   ·intro g d s s' x h0 w okk K hx;rw [moperand] at hx;cases hx
   ·intro g d s s' x h0 w okk K hx;rw [margs] at hx;cases hx
   ·intro g d n s s' x h0 w okk K _ hx;rw [mbinary] at hx;cases hx
   ·intro g d a B e s s' x h0 w okk K hx;rw [mpostloop] at hx;cases hx
  | succ F=>
   exact ⟨mexpr_step F (fun f h=>(ih f (by omega)).c) (fun f h=>(ih f (by omega)).e),mcond_step F (fun f h=>(ih f (by omega)).b) (fun f h=>(ih f (by omega)).e) (fun f h=>(ih f (by omega)).c),munary_step F (fun f h=>(ih f (by omega)).o) (fun f h=>(ih f (by omega)).t) (fun f h=>(ih f (by omega)).r) (fun f h=>(ih f (by omega)).p),mcast_step F (fun f h=>(ih f (by omega)).o) (fun f h=>(ih f (by omega)).e) (fun f h=>(ih f (by omega)).p),mprimary_step F (fun f h=>(ih f (by omega)).a),moperand_step F (fun f h=>(ih f (by omega)).u),margs_step F (fun f h=>(ih f (by omega)).e),mbin_step F (fun f h=>(ih f (by omega)).u) (fun f h=>(ih f (by omega)).b),mpost_step F (fun f h=>(ih f (by omega)).e)⟩
def cfP_paren:Cfg:=⟨[(70,sUnit),(88,sEx)],[(100 * 100 + 6,8),(100 * 89 + 1,8),(100 * 89 + 2,9),(100 * 56 + 4,1),(100 * 60 + 4,6),(100 * 60 + 5,9),(100 * 60 + 6,6)],[],sEx,[],[]⟩
def TP_paren:Tree:=tW <| tS 0 [40] <| tV 1 1 <| tW <| tS 0 [41] <| .ret [.v 2,.v 3,.v 4,.v 5,.v 6,.v 7,.v 8,.v 9] [jD 8 0]
theorem TP_paren_eq:fnS Tryz.prog cfP_paren [.one,.one] 99=some TP_paren:=by kernel_rfl
theorem mparen_step (F:Nat) (ihe:∀ f,f≤F→MEx 88 (mexpr f) f):MEx 99 (mparen F) F:=by
 intro g d s s' x h0 w okk K hx hd hr hok hK'
 have hK:∀ vs ds σ',((∃ A c,vs=exV x A c)∧ds=[kidsD x]∧σ'.s=s'∧OkS σ')→K vs ds σ':=fun vs ds σ' h=>by
  obtain ⟨⟨A,c,rfl⟩,rfl,rfl,h3⟩:=h
  exact hK' A c _ h3
 refine fn_ok (cf:=cfP_paren) [(qWant g).x,(qEx 88 mexpr g ihe).x] rfl mixed QR.stable TP_paren_eq (W:=fun args ds σ K'=>args=[ptrV g,.int .i64 d]∧ds=[]∧σ=⟨s,h0⟩∧K'=K)
  (fun args ds σ K hW=>by obtain ⟨rfl,_⟩:=hW;exact ⟨rfl,rfl,trivial⟩) ?_ [ptrV g,.int .i64 d] [] ⟨s,h0⟩ w okk K hr.lt hr hok (daOk_nil _ _ _) (by simp [Sx.flat,Value.cells,Value.oneCell',exC,strV8]) ⟨rfl,rfl,rfl,rfl⟩
 rintro args ds σ K' ⟨rfl,rfl,rfl,rfl⟩ _
 have hp0:=hr.1
 have hd1:=hd.1
 have hd2:=hd.2
 rw [mparen] at hx
 show Tree.holds _ _ _ _ (⟨Sx.flat [ptrV g,.int .i64 d],[],[],⟨s,h0⟩⟩:Env QS)
 simp only [Sx.flat,Value.cells,List.flatMap_cons,List.flatMap_nil,List.append_nil,List.cons_append,List.nil_append,Array.toList]
 refine h_new fun g1=>?_
 refine kc (h:=w_pwant fun h2 p2=>?_)
 try simp only [bS,↓reduceIte] at hx
 obtain ⟨⟨x3,s3⟩,e3,hx⟩:=Option.bind_eq_some_iff.1 hx
 simp only at hx
 refine kc (h:=w_pex (f:=F) (by omega) e3 ⟨by omega,by omega⟩ fun A3 c3 h3 p3=>?_)
 try simp only [aS,List.length_nil]
 refine h_new fun g4=>?_
 refine kc (h:=w_pwant fun h5 p5=>?_)
 try simp only [bS,↓reduceIte] at hx
 obtain ⟨rfl,rfl⟩:=sP hx
 refine kr (h:=?_)
 refine hK _ _ _ ⟨⟨_,_,rfl⟩,?_,rfl,p5⟩
 first | rfl | (simp only [kidsD,Ex.kids,List.map,encEx_eq];done) | (simp only [kidsD,Ex.kids,List.map,encEx_eq];rfl) | (simp only [exsD,List.map,encEx_eq];done) | (simp only [exsD,List.map,encEx_eq];rfl) | (simp [kidsD,exsD,Ex.kids,encEx_eq];done)
def MPer (f:Nat):Prop:=∀ (g:Nat) (d:Int) (y:List UInt8) (s s':RS) (x:Ex) (h0:QH) (w:World) (okk:Nat→Prop) (K:List Value→List D→QS→Prop),mperhaps f d y s=some (x,s')→DepthOk d f→QR g ⟨s,h0⟩ w→(∀ k,okk k→g<k) →
 (∀ A c h,OkS ⟨s',h⟩→K (exV x A c) [kidsD x] ⟨s',h⟩)→Calls Tryz.prog 111 #[ptrV g,.int .i64 d,strB y] w (PostQ g sEx okk w K)
def cfP_perhaps:Cfg:=⟨[(28,sOne),(88,sEx)],[(100 * 100 + 6,8),(100 * 89 + 1,8),(100 * 89 + 2,9),(100 * 56 + 4,1),(100 * 60 + 4,6),(100 * 60 + 5,9),(100 * 60 + 6,6)],[],sEx,[],[]⟩
def TP_perhaps:Tree:=tW <| tV 0 2 <| .ite 3 (.ret [jI 0,jI 0,jI 0,jI 0,jE,jI 0,jN,jI 0] [jP 8]) (tV 1 1 <| .ret [.v 4,.v 5,.v 6,.v 7,.v 8,.v 9,.v 10,.v 11] [jD 10 0])
theorem TP_perhaps_eq:fnS Tryz.prog cfP_perhaps [.one,.one,.one] 111=some TP_perhaps:=by kernel_rfl
theorem mperhaps_step (F:Nat) (ihe:∀ f,f≤F→MEx 88 (mexpr f) f):MPer F:=by
 intro g d y s s' x h0 w okk K hx hd hr hok hK'
 have hK:∀ vs ds σ',((∃ A c,vs=exV x A c)∧ds=[kidsD x]∧σ'.s=s'∧OkS σ')→K vs ds σ':=fun vs ds σ' h=>by
  obtain ⟨⟨A,c,rfl⟩,rfl,rfl,h3⟩:=h
  exact hK' A c _ h3
 refine fn_ok (cf:=cfP_perhaps) [(qIs g).x,(qEx 88 mexpr g ihe).x] rfl mixed QR.stable TP_perhaps_eq (W:=fun args ds σ K'=>args=[ptrV g,.int .i64 d,strB y]∧ds=[]∧σ=⟨s,h0⟩∧K'=K)
  (fun args ds σ K hW=>by obtain ⟨rfl,_⟩:=hW;exact ⟨rfl,rfl,rfl,trivial⟩) ?_ [ptrV g,.int .i64 d,strB y] [] ⟨s,h0⟩ w okk K hr.lt hr hok (daOk_nil _ _ _) (by simp [Sx.flat,Value.cells,Value.oneCell',exC,strV8]) ⟨rfl,rfl,rfl,rfl⟩
 rintro args ds σ K' ⟨rfl,rfl,rfl,rfl⟩ _
 have hp0:=hr.1
 have hd1:=hd.1
 have hd2:=hd.2
 rw [mperhaps] at hx
 show Tree.holds _ _ _ _ (⟨Sx.flat [ptrV g,.int .i64 d,strB y],[],[],⟨s,h0⟩⟩:Env QS)
 simp only [Sx.flat,Value.cells,List.flatMap_cons,List.flatMap_nil,List.append_nil,List.cons_append,List.nil_append,Array.toList]
 refine h_new fun g1=>?_
 refine kc (h:=w_pis ?_)
 try simp only [aS,List.length_nil]
 refine h_ite rfl (fun q3=>?_) (fun q3=>?_)
 ·skip
  try simp only [q3,bS,↓reduceIte] at hx
  try simp only [q3,bS,↓reduceIte] at hx
  obtain ⟨rfl,rfl⟩:=sP hx
  refine kr (h:=?_)
  refine hK _ _ _ ⟨⟨_,_,rfl⟩,?_,rfl,hp0⟩
  first | rfl | (simp only [kidsD,Ex.kids,List.map,encEx_eq];done) | (simp only [kidsD,Ex.kids,List.map,encEx_eq];rfl) | (simp only [exsD,List.map,encEx_eq];done) | (simp only [exsD,List.map,encEx_eq];rfl) | (simp [kidsD,exsD,Ex.kids,encEx_eq];done)
 ·skip
  try simp only [q3,bS,↓reduceIte] at hx
  try simp only [q3,bS,↓reduceIte] at hx
  refine kc (h:=w_pex (f:=F)  (by omega) hx ⟨by omega,by omega⟩ fun A4 c4 h4 p4=>?_)
  try simp only [aS,List.length_nil]
  refine kr (h:=?_)
  exact hK _ _ _ ⟨⟨_,_,rfl⟩,rfl,rfl,p4⟩
theorem mparen_any (f:Nat):MEx 99 (mparen f) f:=mparen_step f fun f _=>(mall f).e
theorem mperhaps_any (f:Nat):MPer f:=mperhaps_step f fun f _=>(mall f).e
def qPerhaps (g:Nat):Con0 Tryz.prog (QR g) g where
 f:=111
 sh:=sEx
 W args _ σ K:=∃ f d y x s',args=[ptrV g,.int .i64 d,strB y]∧mperhaps f d y σ.s=some (x,s')∧DepthOk d f∧∀ A c h,OkS ⟨s',h⟩→K (exV x A c) [kidsD x] ⟨s',h⟩
 ok args ds σ w okk K hg hR hokk _ _ hW:=by
  obtain ⟨f,d,y,x,s',rfl,h1,h2,hK⟩:=hW
  exact mperhaps_any f g d y σ.s s' x σ.h w okk K h1 h2 hR hokk hK
def qParen (g:Nat):Con0 Tryz.prog (QR g) g where
 f:=99
 sh:=sEx
 W args _ σ K:=∃ f d x s',args=[ptrV g,.int .i64 d]∧mparen f d σ.s=some (x,s')∧DepthOk d f∧∀ A c h,OkS ⟨s',h⟩→K (exV x A c) [kidsD x] ⟨s',h⟩
 ok args ds σ w okk K hg hR hokk _ _ hW:=by
  obtain ⟨f,d,x,s',rfl,h1,h2,hK⟩:=hW
  exact mparen_any f g d σ.s s' x σ.h w okk K h1 h2 hR hokk hK
def qExpr (g:Nat):Con0 Tryz.prog (QR g) g where
 f:=88
 sh:=sEx
 W args _ σ K:=∃ f d x s',args=[ptrV g,.int .i64 d]∧mexpr f d σ.s=some (x,s')∧DepthOk d f∧∀ A c h,OkS ⟨s',h⟩→K (exV x A c) [kidsD x] ⟨s',h⟩
 ok args ds σ w okk K hg hR hokk _ _ hW:=by
  obtain ⟨f,d,x,s',rfl,h1,h2,hK⟩:=hW
  exact (mall f).e g d σ.s s' x σ.h w okk K h1 h2 hR hokk hK
abbrev sStP:Shp:=⟨9,.tup [],[(1,8),(2,9)],[(2,8),(3,9)],[(1,89,9)],[],[]⟩
abbrev stZ (p:Int):List Value:=[.int .i64 0,.slice none 0 0,.slice none 0 0,.int .i64 0,.int .i64 0,.int .i64 0,.string ⟨#[]⟩,.int .i64 0,.int .i64 p]
abbrev StpW (g:Nat) (fu:Int→Int→RS→Option (St × RS)) (f:Nat) (args:List Value) (ds:List D) (σ:QS) (K:List Value→List D→QS→Prop):Prop:=
 ∃ d p x s',args=[ptrV g,.agg (stZ p).toArray,.int .i64 d]∧ds=[.lst 8 [],.lst 9 []]∧fu d p σ.s=some (x,s')∧DepthOk d (f + 1)∧∀ A c B e h,OkS ⟨s',h⟩→K (stC x A c B e) [exsOf x,bodyOf x] ⟨s',h⟩
abbrev PostX (g:Nat) (sh:Shp) (okk X:Nat→Prop) (bl:List Nat) (w:World) (K:List Value→List D→QS→Prop) (e:Ending) (w':World):Prop:=
 ∃ vs ds' σ' r,∃ X':Nat→Prop,K vs ds' σ'∧sh.ret.den vs []=some r∧e=.returned r∧vs.length=sh.nv∧ds'.length=sh.fs.length∧(∀ u ∈ vs,u.oneCell'=true) ∧
   QR g σ' w'∧KeepX (fun k=>k=g ∨ X k) w w'∧IoOut w' sh.pt bl (vs.drop (sh.nv - ioN sh.pt))∧(∀ k,X' k→(X k ∨ w.heap.size≤k)∧k ∉ bl)∧DaOw w' (fun k=>(okk k ∨ X k ∨ w.heap.size≤k)∧¬ X' k∧k ∉ bl) X' vs sh.fs sh.fo ds'
def MStP (fn:FuncId) (fu:Int→Int→RS→Option (St × RS)) (f:Nat):Prop:=∀ (g:Nat) (args largs:List Value) (bl:List Nat) (ds:List D) (σ:QS) (w:World) (okk X:Nat→Prop) (K:List Value→List D→QS→Prop),
 g<w.heap.size→QR g σ w→(∀ k,okk k→g<k∧¬ X k)→(∀ k,X k→g<k∧k<w.heap.size)→bl.Nodup→IoIn w X sStP.pt bl args largs→DaOw w okk (fun k=>X k∧k ∉ bl) (Sx.flat largs) sStP.da sStP.ao ds→(∀ u ∈ Sx.flat largs,u.oneCell'=true)→StpW g fu f largs ds σ K →
 Calls Tryz.prog fn args.toArray w (PostX g sStP okk X bl w K)
def qStp (fn:FuncId) (fu:Nat→Int→Int→RS→Option (St × RS)) (g:Nat) {F:Nat} (ih:∀ f,f≤F→MStP fn (fu f) f):Con Tryz.prog (QR g) g where
 f:=fn
 sh:=sStP
 W args ds σ K:=∃ f,f≤F∧StpW g (fu f) f args ds σ K
 ok args largs bl ds σ w okk X K hG hR hok hX hbl hio hda h1 hW:=by
  obtain ⟨f,hf,hW⟩:=hW
  exact ih f hf g args largs bl ds σ w okk X K hG hR hok hX hbl hio hda h1 hW
def MStOk (f:Nat):Prop:=∀ (g:Nat) (d:Int) (s s':RS) (x:St) (h0:QH) (w:World) (okk:Nat→Prop) (K:List Value→List D→QS→Prop),mstmt f d s=some (x,s')→DepthOk d f→QR g ⟨s,h0⟩ w→(∀ k,okk k→g<k) →
 (∀ A c B e h,OkS ⟨s',h⟩→K (stC x A c B e) [exsOf x,bodyOf x] ⟨s',h⟩)→Calls Tryz.prog 72 #[ptrV g,.int .i64 d] w (PostQ g sSt okk w K)
def MBlkOk (f:Nat):Prop:=∀ (g:Nat) (d:Int) (s s':RS) (x:List St) (h0:QH) (w:World) (okk:Nat→Prop) (K:List Value→List D→QS→Prop),mblock f d s=some (x,s')→DepthOk d f→QR g ⟨s,h0⟩ w→(∀ k,okk k→g<k) →
 (∀ A c h,OkS ⟨s',h⟩→K [.slice A x.length c] [stsD x] ⟨s',h⟩)→Calls Tryz.prog 32 #[ptrV g,.int .i64 d] w (PostQ g sSts okk w K)
def qStmt (g:Nat) {F:Nat} (ih:∀ f,f≤F→MStOk f):Con0 Tryz.prog (QR g) g where
 f:=72
 sh:=sSt
 W args _ σ K:=∃ f d x s',f≤F∧args=[ptrV g,.int .i64 d]∧mstmt f d σ.s=some (x,s')∧DepthOk d f∧∀ A c B e h,OkS ⟨s',h⟩→K (stC x A c B e) [exsOf x,bodyOf x] ⟨s',h⟩
 ok args ds σ w okk K hg hR hokk _ _ hW:=by
  obtain ⟨f,d,x,s',hf,rfl,h1,h2,hK⟩:=hW
  exact ih f hf g d σ.s s' x σ.h w okk K h1 h2 hR hokk hK
def qBlock (g:Nat) {F:Nat} (ih:∀ f,f≤F→MBlkOk f):Con0 Tryz.prog (QR g) g where
 f:=32
 sh:=sSts
 W args _ σ K:=∃ f d x s',f≤F∧args=[ptrV g,.int .i64 d]∧mblock f d σ.s=some (x,s')∧DepthOk d f∧∀ A c h,OkS ⟨s',h⟩→K [.slice A x.length c] [stsD x] ⟨s',h⟩
 ok args ds σ w okk K hg hR hokk _ _ hW:=by
  obtain ⟨f,d,x,s',hf,rfl,h1,h2,hK⟩:=hW
  exact ih f hf g d σ.s s' x σ.h w okk K h1 h2 hR hokk hK
section
variable {g F f:Nat} {K:List Value→List D→QS→Prop} {ds:List D} {s s':RS} {h0:QH} {d:Int}
theorem w_pparen {x:Ex} (h1:mparen f d s=some (x,s')) (h2:DepthOk d f) (h:∀ A c h,OkS ⟨s',h⟩→K (exV x A c) [kidsD x] ⟨s',h⟩):(qParen g).W [ptrV g,.int .i64 d] ds ⟨s,h0⟩ K:=⟨f,d,x,s',rfl,h1,h2,h⟩
theorem w_pexpr {x:Ex} (h1:mexpr f d s=some (x,s')) (h2:DepthOk d f) (h:∀ A c h,OkS ⟨s',h⟩→K (exV x A c) [kidsD x] ⟨s',h⟩):(qExpr g).W [ptrV g,.int .i64 d] ds ⟨s,h0⟩ K:=⟨f,d,x,s',rfl,h1,h2,h⟩
theorem w_pperhaps {x:Ex} {y:List UInt8} (h1:mperhaps f d y s=some (x,s')) (h2:DepthOk d f) (h:∀ A c h,OkS ⟨s',h⟩→K (exV x A c) [kidsD x] ⟨s',h⟩):(qPerhaps g).W [ptrV g,.int .i64 d,strB y] ds ⟨s,h0⟩ K:=⟨f,d,y,x,s',rfl,h1,h2,h⟩
theorem w_pstmt {ih:∀ f,f≤F→MStOk f} {x:St} (hf:f≤F) (h1:mstmt f d s=some (x,s')) (h2:DepthOk d f) (h:∀ A c B e h,OkS ⟨s',h⟩→K (stC x A c B e) [exsOf x,bodyOf x] ⟨s',h⟩):(qStmt g ih).W [ptrV g,.int .i64 d] ds ⟨s,h0⟩ K:=⟨f,d,x,s',hf,rfl,h1,h2,h⟩
theorem w_pblock {ih:∀ f,f≤F→MBlkOk f} {x:List St} (hf:f≤F) (h1:mblock f d s=some (x,s')) (h2:DepthOk d f) (h:∀ A c h,OkS ⟨s',h⟩→K [.slice A x.length c] [stsD x] ⟨s',h⟩):(qBlock g ih).W [ptrV g,.int .i64 d] ds ⟨s,h0⟩ K:=⟨f,d,x,s',hf,rfl,h1,h2,h⟩
theorem w_pstp {fn:FuncId} {fu:Nat→Int→Int→RS→Option (St × RS)} {ih:∀ f,f≤F→MStP fn (fu f) f} {x:St} {p:Int} (hf:f≤F) (h1:fu f d p s=some (x,s')) (h2:DepthOk d (f + 1)) (h:∀ A c B e h,OkS ⟨s',h⟩→K (stC x A c B e) [exsOf x,bodyOf x] ⟨s',h⟩) :
  (qStp fn fu g ih).W [ptrV g,.agg (stZ p).toArray,.int .i64 d] [.lst 8 [],.lst 9 []] ⟨s,h0⟩ K:=⟨f,hf,d,p,x,s',rfl,rfl,h1,h2,h⟩
end
end Go.Proofs.YtdmacgoeikjdbaaGreatDoor
namespace Go.Proofs.YtdmacgoeikjdbaaGreatDoor
open Go.RowKit Sx
def cfP_decl:Cfg:=⟨[(26,sTy),(27,sTok),(66,sOne),(67,sOne),(88,sEx),(70,sUnit)],[(100 * 100 + 6,8),(100 * 89 + 1,8),(100 * 89 + 2,9),(100 * 56 + 4,1),(100 * 60 + 4,6),(100 * 60 + 5,9),(100 * 60 + 6,6)],[],sStP,[],[]⟩
def TP_decl:Tree:=tO 0 <| tI 1 1 <| tO 2 <| tQ 18 0 <| .ite 19 (tS 3 [61] <| .ite 20 (tA 10 1 <| tV 4 21 <| tB 8 1 [rX 22 2] <| tS 5 [59] <| .ret [jI 2,.v 30,.v 3,.v 11,.v 12,.v 18,.v 15,.v 8,.v 9] [jD 30 3,jD 3 1]) (tS 5 [59] <| .ret [jI 2,.v 2,.v 3,.v 11,.v 12,.v 18,.v 15,.v 8,.v 9] [jD 2 0,jD 3 1])) (tS 5 [59] <| .ret [jI 2,.v 2,.v 3,.v 11,.v 12,.v 18,.v 15,.v 8,.v 9] [jD 2 0,jD 3 1])
theorem TP_decl_eq:fnS Tryz.prog cfP_decl [.one,.ptr 89 9,.one] 86=some TP_decl:=by kernel_rfl
theorem mdecl_step (F:Nat) :MStP 86 (mdecl F) F:=by
 intro g args largs bl ds σ w okk X K hG hR hok hX hbl hio hda h1 hW
 obtain ⟨s,h0⟩:=σ
 refine fn_okX (cf:=cfP_decl) [(qTyp g).x,(qKind g).x,(qLength g).x,(qEat g).x,(qExpr g).x,(qWant g).x] rfl mixed QR.stable TP_decl_eq (W:=fun a' d' σ' K'=>a'=largs∧d'=ds∧σ'=⟨s,h0⟩∧K'=K)
  (fun a' d' σ' K' h=>by obtain ⟨rfl,_⟩:=h;obtain ⟨d,p,x,s',rfl,_⟩:=hW;exact ⟨rfl,⟨_,rfl,rfl⟩,rfl,trivial⟩) ?_ args largs bl ds ⟨s,h0⟩ w okk X K hG hR hok hX hbl hio hda h1 ⟨rfl,rfl,rfl,rfl⟩
 rintro a' d' σ' K' bl' ⟨rfl,rfl,rfl,rfl⟩ _ hbl'
 obtain ⟨d,p,x,s',rfl,rfl,hx,hd,hK'⟩:=hW
 obtain ⟨b,rfl⟩:∃ b,bl'=[b]:=by
  rcases bl' with _ | ⟨b,_ | ⟨c,l⟩⟩
  ·cases hbl'
  ·exact ⟨b,rfl⟩
  ·cases hbl'
 have hK:∀ vs ds σ',((∃ A c B e,vs=stC x A c B e)∧ds=[exsOf x,bodyOf x]∧σ'.s=s'∧OkS σ')→K' vs ds σ':=fun vs ds σ' h=>by
  obtain ⟨⟨A,c,B,e,rfl⟩,rfl,rfl,h3⟩:=h
  exact hK' A c B e _ h3
 have hp0:=hR.1
 have hd1:=hd.1
 have hd2:=hd.2
 have hdd:=deeper hd
 clear hda hio h1 hok hX hR hbl
 simp only [mdecl] at hx
 show Tree.holds _ _ _ _ (⟨Sx.flat [ptrV g,.agg (stZ p).toArray,.int .i64 d],[b],[.lst 8 [],.lst 9 []],⟨s,h0⟩⟩:Env QS)
 simp only [Sx.flat,Value.cells,List.flatMap_cons,List.flatMap_nil,List.append_nil,List.cons_append,List.nil_append,Array.toList]
 refine kc (h:=w_ptyp fun h1 p1=>?_)
 try simp only [aS,hdd.2]
 refine kc (h:=w_pkind fun h2 p2=>?_)
 try simp only [aS,hdd.2]
 refine kc (h:=w_plength fun h3 p3=>?_)
 try simp only [aS,hdd.2]
 refine h_pv rfl rfl ?_
 try simp only [aS,hdd.2]
 refine h_ite rfl (fun q5=>?_) (fun q5=>?_)
 ·skip
  try dsimp only at q5
  try simp only [q5,bS,↓reduceIte] at hx
  refine kc (h:=w_peat fun h6 p6=>?_)
  try simp only [aS,hdd.2]
  refine h_ite rfl (fun q7=>?_) (fun q7=>?_)
  ·skip
   try simp only [q5,q7,bS,↓reduceIte] at hx
   refine h_pv rfl rfl ?_
   try simp only [aS,hdd.2]
   try simp only [q5,q7,bS,↓reduceIte] at hx
   obtain ⟨⟨x9,s9⟩,e9,hx⟩:=Option.bind_eq_some_iff.1 hx
   simp only at hx
   refine kc (h:=w_pexpr (f:=F)  e9 ⟨by omega,by omega⟩ fun A9 c9 h9 p9=>?_)
   try simp only [aS,hdd.2]
   refine kb (h:=fun g10=>?_)
   try simp only [aS,hdd.2]
   refine kc (h:=w_pwant fun h11 p11=>?_)
   try simp only [q5,q7,bS,↓reduceIte] at hx
   obtain ⟨rfl,rfl⟩:=sP hx
   refine kr (h:=?_)
   refine hK _ _ _ ⟨⟨_,_,_,_,rfl⟩,?_,rfl,p11⟩
   exact lF
  ·skip
   have z7:=meat_noS q7
   rw [z7] at p6
   rw [z7]
   try simp only [z7] at hx
   try simp only [q5,q7,bS,↓reduceIte] at hx
   refine kc (h:=w_pwant fun h12 p12=>?_)
   try simp only [q5,q7,bS,↓reduceIte] at hx
   obtain ⟨rfl,rfl⟩:=sP hx
   refine kr (h:=?_)
   refine hK _ _ _ ⟨⟨_,_,_,_,rfl⟩,?_,rfl,p12⟩
   exact lF
 ·skip
  try dsimp only at q5
  try simp only [q5,bS,↓reduceIte] at hx
  refine kc (h:=w_pwant fun h13 p13=>?_)
  try simp only [q5,bS,↓reduceIte] at hx
  obtain ⟨rfl,rfl⟩:=sP hx
  refine kr (h:=?_)
  refine hK _ _ _ ⟨⟨_,_,_,_,rfl⟩,?_,rfl,p13⟩
  exact lF
def cfP_short:Cfg:=⟨[(67,sOne),(69,sOne),(27,sTok),(28,sOne),(88,sEx),(70,sUnit)],[(100 * 100 + 6,8),(100 * 89 + 1,8),(100 * 89 + 2,9),(100 * 56 + 4,1),(100 * 60 + 4,6),(100 * 60 + 5,9),(100 * 60 + 6,6)],[],sStP,[],[]⟩
def Z19:Tree:=tS 0 [103,111,116,111] <| .ite 15 (tI 2 1 <| tS 5 [59] <| .ret [jI 14,.v 2,.v 3,.v 4,.v 5,.v 6,.v 17,.v 8,.v 9] [jD 2 0,jD 3 1]) (tS 0 [114,101,116,117,114,110] <| .ite 16 (tS 3 [59] <| tT 17 <| .ite 18 (tA 10 1 <| tV 4 19 <| tB 8 1 [rX 20 2] <| tS 5 [59] <| .ret [jI 13,.v 28,.v 3,.v 4,.v 5,.v 6,.v 7,.v 8,.v 9] [jD 28 3,jD 3 1]) (tS 5 [59] <| .ret [jI 13,.v 2,.v 3,.v 4,.v 5,.v 6,.v 7,.v 8,.v 9] [jD 2 0,jD 3 1])) (tA 10 1 <| tV 4 17 <| tB 8 1 [rX 18 2] <| tS 5 [59] <| .ret [jI 1,.v 26,.v 3,.v 4,.v 5,.v 6,.v 7,.v 8,.v 9] [jD 26 3,jD 3 1]))
def Z18:Tree:=tS 0 [99,111,110,116,105,110,117,101] <| .ite 14 (tS 5 [59] <| .ret [jI 12,.v 2,.v 3,.v 4,.v 5,.v 6,.v 7,.v 8,.v 9] [jD 2 0,jD 3 1]) Z19
def Z17:Tree:=tS 0 [98,114,101,97,107] <| .ite 13 (tS 5 [59] <| .ret [jI 11,.v 2,.v 3,.v 4,.v 5,.v 6,.v 7,.v 8,.v 9] [jD 2 0,jD 3 1]) Z18
def Z16:Tree:=tS 0 [100,101,102,97,117,108,116] <| .ite 12 (tS 5 [58] <| .ret [jI 10,.v 2,.v 3,.v 4,.v 5,.v 6,.v 7,.v 8,.v 9] [jD 2 0,jD 3 1]) Z17
def TP_short:Tree:=tS 0 [99,97,115,101] <| .ite 11 (tO 1 <| tS 5 [58] <| .ret [jI 9,.v 2,.v 3,.v 4,.v 5,.v 6,.v 7,.v 12,.v 9] [jD 2 0,jD 3 1]) Z16
theorem TP_short_eq:fnS Tryz.prog cfP_short [.one,.ptr 89 9,.one] 101=some TP_short:=by kernel_rfl
theorem mshort_step (F:Nat) :MStP 101 (mshort F) F:=by
 intro g args largs bl ds σ w okk X K hG hR hok hX hbl hio hda h1 hW
 obtain ⟨s,h0⟩:=σ
 refine fn_okX (cf:=cfP_short) [(qEat g).x,(qNumber g).x,(qKind g).x,(qIs g).x,(qExpr g).x,(qWant g).x] rfl mixed QR.stable TP_short_eq (W:=fun a' d' σ' K'=>a'=largs∧d'=ds∧σ'=⟨s,h0⟩∧K'=K)
  (fun a' d' σ' K' h=>by obtain ⟨rfl,_⟩:=h;obtain ⟨d,p,x,s',rfl,_⟩:=hW;exact ⟨rfl,⟨_,rfl,rfl⟩,rfl,trivial⟩) ?_ args largs bl ds ⟨s,h0⟩ w okk X K hG hR hok hX hbl hio hda h1 ⟨rfl,rfl,rfl,rfl⟩
 rintro a' d' σ' K' bl' ⟨rfl,rfl,rfl,rfl⟩ _ hbl'
 obtain ⟨d,p,x,s',rfl,rfl,hx,hd,hK'⟩:=hW
 obtain ⟨b,rfl⟩:∃ b,bl'=[b]:=by
  rcases bl' with _ | ⟨b,_ | ⟨c,l⟩⟩
  ·cases hbl'
  ·exact ⟨b,rfl⟩
  ·cases hbl'
 have hK:∀ vs ds σ',((∃ A c B e,vs=stC x A c B e)∧ds=[exsOf x,bodyOf x]∧σ'.s=s'∧OkS σ')→K' vs ds σ':=fun vs ds σ' h=>by
  obtain ⟨⟨A,c,B,e,rfl⟩,rfl,rfl,h3⟩:=h
  exact hK' A c B e _ h3
 have hp0:=hR.1
 have hd1:=hd.1
 have hd2:=hd.2
 have hdd:=deeper hd
 clear hda hio h1 hok hX hR hbl
 simp only [mshort,bIf,bElse,bWhile,bSwitch,bDo,bFor,bCase,bDefault,bBreak,bContinue,bReturn,bGoto] at hx
 show Tree.holds _ _ _ _ (⟨Sx.flat [ptrV g,.agg (stZ p).toArray,.int .i64 d],[b],[.lst 8 [],.lst 9 []],⟨s,h0⟩⟩:Env QS)
 simp only [Sx.flat,Value.cells,List.flatMap_cons,List.flatMap_nil,List.append_nil,List.cons_append,List.nil_append,Array.toList]
 refine kc (h:=w_peat fun h1 p1=>?_)
 try simp only [aS,hdd.2]
 refine h_ite rfl (fun q2=>?_) (fun q2=>?_)
 ·skip
  try simp only [q2,bB,bS,↓reduceIte] at hx
  refine kc (h:=w_pnumber fun h3 p3=>?_)
  try simp only [aS,hdd.2]
  refine kc (h:=w_pwant fun h4 p4=>?_)
  try simp only [q2,bB,bS,↓reduceIte] at hx
  obtain ⟨rfl,rfl⟩:=sP hx
  refine kr (h:=?_)
  refine hK _ _ _ ⟨⟨_,_,_,_,rfl⟩,?_,rfl,p4⟩
  exact lF
 ·skip
  have z2:=meat_noS q2
  rw [z2] at p1
  rw [z2]
  try simp only [z2] at hx
  try simp only [q2,bB,bS,↓reduceIte] at hx
  refine kc (h:=w_peat fun h5 p5=>?_)
  try simp only [aS,hdd.2]
  refine h_ite rfl (fun q6=>?_) (fun q6=>?_)
  ·skip
   try simp only [q2,q6,bB,bS,↓reduceIte] at hx
   refine kc (h:=w_pwant fun h7 p7=>?_)
   try simp only [q2,q6,bB,bS,↓reduceIte] at hx
   obtain ⟨rfl,rfl⟩:=sP hx
   refine kr (h:=?_)
   refine hK _ _ _ ⟨⟨_,_,_,_,rfl⟩,?_,rfl,p7⟩
   exact lF
  ·skip
   have z6:=meat_noS q6
   rw [z6] at p5
   rw [z6]
   try simp only [z6] at hx
   try simp only [q2,q6,bB,bS,↓reduceIte] at hx
   refine kc (h:=w_peat fun h8 p8=>?_)
   try simp only [aS,hdd.2]
   refine h_ite rfl (fun q9=>?_) (fun q9=>?_)
   ·skip
    try simp only [q2,q6,q9,bB,bS,↓reduceIte] at hx
    refine kc (h:=w_pwant fun h10 p10=>?_)
    try simp only [q2,q6,q9,bB,bS,↓reduceIte] at hx
    obtain ⟨rfl,rfl⟩:=sP hx
    refine kr (h:=?_)
    refine hK _ _ _ ⟨⟨_,_,_,_,rfl⟩,?_,rfl,p10⟩
    exact lF
   ·skip
    have z9:=meat_noS q9
    rw [z9] at p8
    rw [z9]
    try simp only [z9] at hx
    try simp only [q2,q6,q9,bB,bS,↓reduceIte] at hx
    refine kc (h:=w_peat fun h11 p11=>?_)
    try simp only [aS,hdd.2]
    refine h_ite rfl (fun q12=>?_) (fun q12=>?_)
    ·skip
     try simp only [q2,q6,q9,q12,bB,bS,↓reduceIte] at hx
     refine kc (h:=w_pwant fun h13 p13=>?_)
     try simp only [q2,q6,q9,q12,bB,bS,↓reduceIte] at hx
     obtain ⟨rfl,rfl⟩:=sP hx
     refine kr (h:=?_)
     refine hK _ _ _ ⟨⟨_,_,_,_,rfl⟩,?_,rfl,p13⟩
     exact lF
    ·skip
     have z12:=meat_noS q12
     rw [z12] at p11
     rw [z12]
     try simp only [z12] at hx
     try simp only [q2,q6,q9,q12,bB,bS,↓reduceIte] at hx
     refine kc (h:=w_peat fun h14 p14=>?_)
     try simp only [aS,hdd.2]
     refine h_ite rfl (fun q15=>?_) (fun q15=>?_)
     ·skip
      try simp only [q2,q6,q9,q12,q15,bB,bS,↓reduceIte] at hx
      refine kc (h:=w_pkind fun h16 p16=>?_)
      try simp only [aS,hdd.2]
      refine kc (h:=w_pwant fun h17 p17=>?_)
      try simp only [q2,q6,q9,q12,q15,bB,bS,↓reduceIte] at hx
      obtain ⟨rfl,rfl⟩:=sP hx
      refine kr (h:=?_)
      refine hK _ _ _ ⟨⟨_,_,_,_,rfl⟩,?_,rfl,p17⟩
      exact lF
     ·skip
      have z15:=meat_noS q15
      rw [z15] at p14
      rw [z15]
      try simp only [z15] at hx
      try simp only [q2,q6,q9,q12,q15,bB,bS,↓reduceIte] at hx
      refine kc (h:=w_peat fun h18 p18=>?_)
      try simp only [aS,hdd.2]
      refine h_ite rfl (fun q19=>?_) (fun q19=>?_)
      ·skip
       try simp only [q2,q6,q9,q12,q15,q19,bB,bS,↓reduceIte] at hx
       refine kc (h:=w_pis ?_)
       try simp only [aS,hdd.2]
       refine h_pv rfl rfl ?_
       try simp only [aS,hdd.2]
       refine h_ite rfl (fun q22=>?_) (fun q22=>?_)
       ·skip
        simp only [nS] at q22
        try simp only [q2,q6,q9,q12,q15,q19,q22,bB,bS,↓reduceIte] at hx
        refine h_pv rfl rfl ?_
        try simp only [aS,hdd.2]
        try simp only [q2,q6,q9,q12,q15,q19,q22,bB,bS,↓reduceIte] at hx
        obtain ⟨⟨x24,s24⟩,e24,hx⟩:=Option.bind_eq_some_iff.1 hx
        simp only at hx
        refine kc (h:=w_pexpr (f:=F)  e24 ⟨by omega,by omega⟩ fun A24 c24 h24 p24=>?_)
        try simp only [aS,hdd.2]
        refine kb (h:=fun g25=>?_)
        try simp only [aS,hdd.2]
        refine kc (h:=w_pwant fun h26 p26=>?_)
        try simp only [q2,q6,q9,q12,q15,q19,q22,bB,bS,↓reduceIte] at hx
        obtain ⟨rfl,rfl⟩:=sP hx
        refine kr (h:=?_)
        refine hK _ _ _ ⟨⟨_,_,_,_,rfl⟩,?_,rfl,p26⟩
        exact lF
       ·skip
        simp only [nS] at q22
        try simp only [q2,q6,q9,q12,q15,q19,q22,bB,bS,↓reduceIte] at hx
        refine kc (h:=w_pwant fun h27 p27=>?_)
        try simp only [q2,q6,q9,q12,q15,q19,q22,bB,bS,↓reduceIte] at hx
        obtain ⟨rfl,rfl⟩:=sP hx
        refine kr (h:=?_)
        refine hK _ _ _ ⟨⟨_,_,_,_,rfl⟩,?_,rfl,p27⟩
        exact lF
      ·skip
       have z19:=meat_noS q19
       rw [z19] at p18
       rw [z19]
       try simp only [z19] at hx
       try simp only [q2,q6,q9,q12,q15,q19,bB,bS,↓reduceIte] at hx
       refine h_pv rfl rfl ?_
       try simp only [aS,hdd.2]
       try simp only [q2,q6,q9,q12,q15,q19,bB,bS,↓reduceIte] at hx
       obtain ⟨⟨x29,s29⟩,e29,hx⟩:=Option.bind_eq_some_iff.1 hx
       simp only at hx
       refine kc (h:=w_pexpr (f:=F)  e29 ⟨by omega,by omega⟩ fun A29 c29 h29 p29=>?_)
       try simp only [aS,hdd.2]
       refine kb (h:=fun g30=>?_)
       try simp only [aS,hdd.2]
       refine kc (h:=w_pwant fun h31 p31=>?_)
       try simp only [q2,q6,q9,q12,q15,q19,bB,bS,↓reduceIte] at hx
       obtain ⟨rfl,rfl⟩:=sP hx
       refine kr (h:=?_)
       refine hK _ _ _ ⟨⟨_,_,_,_,rfl⟩,?_,rfl,p31⟩
       exact lF
end Go.Proofs.YtdmacgoeikjdbaaGreatDoor

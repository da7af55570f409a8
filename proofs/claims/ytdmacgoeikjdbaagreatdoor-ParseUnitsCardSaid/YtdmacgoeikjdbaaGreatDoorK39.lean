/- The program's parser: signs of two. The program's parser: what each fu -/
import Derived.Test.YtdmacgoeikjdbaaGreatDoorK38
set_option linter.unusedSimpArgs false
set_option linter.unusedVariables false
set_option maxHeartbeats 16000000
namespace Go.Proofs.YtdmacgoeikjdbaaGreatDoor
open Go.RowKit Sx
def lookI (n:Int):List (Int × Int)→Int
 | []=>0
 | (k,v) :: l=>if k=n then v else lookI n l
theorem mapI_at (n:Int):∀ l:List (Int × Int),(mapI l).atKey (.int .i64 n) (.lit (.int .i64 0))=.lit (.int .i64 (lookI n l))
 | []=>rfl
 | p :: l=>by
  have h1:=mapI_at n l
  have hk:WideAt.IsKeyLit (.int .i64 p.1):=by trivial
  unfold mapI
  rw [List.foldr_cons]
  change DataW.atKey ((mapI l).put _ _) _ _=_
  by_cases e:p.1=n
  ·subst e
   rw [Maps.atKey_put_same (mapI_isMap l) hk]
   simp [lookI]
  ·have hne:(Lit.int .i64 n) ≠ Lit.int .i64 p.1:=by
    intro h
    injection h with _ h
    exact e h.symm
   rw [Maps.atKey_put_other hne,h1]
   simp [lookI,e]
theorem level_key:∀ n,n<10→∀ p ∈ levels.getD n [],p.1 ∈ sgnL:=by decide
theorem level_op:∀ y ∈ sgnL,∀ n:Nat,n<10→(lookI (15 + sIdx y) levelR == (n:Int))=(rlevel n y != 0)∧((rlevel n y != 0)=true→15 + sIdx y=rlevel n y):=by decide
theorem level_none {x:List UInt8} {n:Nat} (hn:n<10) (h:x ∉ sgnL):rlevel n x=0:=lookS_zero fun p hp he=>h (he ▸ level_key n hn p hp)
theorem level_calls (n:Int) (hn:15≤n∧n≤32) (w:World):Calls Tryz.prog 134 #[.int .i64 n] w (fun e w'=>e=.returned (.int .i64 (lookI n levelR))∧Below w.heap.size w w'):=
 (level_any n hn w).mono fun e w' ⟨c,h1,h2,h3⟩=>by
  rw [mapI_at] at h1
  injection h1 with h1
  injection h1 with _ h1
  subst h1
  exact ⟨h2,h3⟩
set_option maxRecDepth 8000 in
theorem moperator_any (n:Nat) (hn:n<10) (g:Nat) (σ:QS) (w:World) (hr:QR g σ w):Calls Tryz.prog 122 #[ptrV g,.int .i64 n] w (fun e w'=>∃ v,(((hdT σ.s.ts).kind == 3 && rlevel n (hdT σ.s.ts).text != 0)=true→v=rlevel n (hdT σ.s.ts).text)∧e=.returned (.tuple #[.int .i64 v,.bool ((hdT σ.s.ts).kind == 3 && rlevel n (hdT σ.s.ts).text != 0)])∧QR g σ w'∧KeepM g w w'):=by
 have htok:=tok_calls hr
 have hlt:=hr.lt
 obtain ⟨⟨kd,tx,m,ps⟩,ht⟩:∃ t,hdT σ.s.ts=t:=⟨_,rfl⟩
 simp only [ht,Tok.val,tokVal] at htok
 simp only [ht]
 obtain ⟨i,hi⟩:∃ i,sIdx tx=i:=⟨_,rfl⟩
 obtain ⟨bk,hbk⟩:∃ b,(kd == 3)=b:=⟨_,rfl⟩
 obtain ⟨br,hbr⟩:∃ b,(rlevel n tx != 0)=b:=⟨_,rfl⟩
 obtain ⟨lv,hlv⟩:∃ v,lookI (15 + i) levelR=v:=⟨_,rfl⟩
 have hix:∀ (w:World) (b c:Nat),BlkIs w b 9 sgnCells→Calls Tryz.prog 110 #[.slice (some ⟨b,0,none⟩) 18 c,strB tx] w (fun e w'=>e=.returned (.int .i64 i)∧w'=w):=fun w b c h=>by rw [← hi];exact sgnIdx_any tx h
 have hi1:i<0→br=false:=fun h=>by
  rw [← hbr,level_none hn (fun hm=>by have:=(mass_ne _ hm).2.1;rw [hi] at this;omega)];rfl
 have hi2:0≤i→i<18∧(lv == (n:Int))=br∧(br=true→15 + i=rlevel n tx):=fun h=>by
  have hm:tx ∈ sgnL:=by
   by_cases hm:tx ∈ sgnL
   ·exact hm
   ·have:=sIdx_neg hm
    rw [hi] at this
    omega
  have h1:=level_op tx hm n hn
  rw [hi,hlv,hbr] at h1
  have h2:=(mass_ne tx hm).2.2
  rw [hi] at h2
  exact ⟨h2,h1⟩
 have HI1:=Lib.hid hi1
 have HI2:=Lib.hid hi2
 rw [hbk,hbr]
 obtain ⟨rl,hrl⟩:∃ v,rlevel n tx=v:=⟨_,rfl⟩
 rw [hrl] at HI2 ⊢
 have HLV:=Lib.hid hlv
 have HBK:=Lib.hid hbk
 clear hi1 hi2 hrl hbr hlv hbk hi
 obtain ⟨Q,hQ⟩:∃ Q:Ending→World→Prop,Hid ((fun e w'=>∃ v,((bk && br)=true→v=rl)∧e=.returned (.tuple #[.int .i64 v,.bool (bk && br)])∧QR g σ w'∧KeepM g w w')=Q):=⟨_,Lib.hid rfl⟩
 rw [hQ.out]
 go_enter Tryz.func122,Tryz.ntmps122
 go_wp2_with fail
 refine htok.mono ?_
 rintro e w2 ⟨rfl,r2,k2⟩
 clear htok hr
 go_upto_region 2 with fail
 have hb0:=below_alloc w2 (.cells #[.int .i64 kd,.string ⟨tx.toArray⟩,.int .i64 m,.int .i64 ps] 43)
 have z5:BlkIs (w2.alloc (.cells #[.int .i64 kd,.string ⟨tx.toArray⟩,.int .i64 m,.int .i64 ps] 43)) w2.heap.size 43 #[.int .i64 kd,.string ⟨tx.toArray⟩,.int .i64 m,.int .i64 ps]:=BlkIs.fresh _ _ _
 have r3:=r2.below hb0
 have hk3:=k2.trans (KeepM.of hb0)
 have hg3:=r2.lt
 obtain ⟨w3,hw3⟩:∃ w3,w3=w2.alloc (.cells #[.int .i64 kd,.string ⟨tx.toArray⟩,.int .i64 m,.int .i64 ps] 43):=⟨_,rfl⟩
 rw [← hw3] at z5 r3 hk3 ⊢
 clear hw3 hb0 r2 k2
 have c1:w3.cell? ⟨w2.heap.size,1,none⟩=some (.string ⟨tx.toArray⟩):=by rw [z5.cell];rfl
 have hs3:=z5.lt
 refine beginH (fun W'=>Below w3.heap.size w3 W') (by kernel_rfl) ((Below.refl _ _).drew) (fun hHeld=>?_)
 refine takeH (i:=1) (d:=some 12) (v:=.pointer (some ⟨w2.heap.size,1,none⟩)) (by kernel_rfl) rfl rfl rfl (fun _ _ _ h=>h) hHeld (fun W hSw=>by go_simp) ?_
 simp only [Act.put,List.setIfInBounds_toArray,List.set_cons_zero,List.set_cons_succ]
 refine takeH (i:=2) (d:=some 13) (v:=.string ⟨tx.toArray⟩) (by kernel_rfl) rfl rfl rfl (fun _ _ _ h=>h) hHeld (fun W hSw=>by have x0:=(hSw.cell (p:=⟨w2.heap.size,1,none⟩) (by show w2.heap.size<_;omega)).trans c1;go_simp) ?_
 simp only [Act.put,List.setIfInBounds_toArray,List.set_cons_zero,List.set_cons_succ]
 refine onlyH (i:=0) (d:=some 11) (by kernel_rfl) rfl rfl rfl (fun K' hK=>?_)
 refine wp_go_call 114 _ _ rfl #[] rfl (fun W'=>by go_simp) (sgnWords_any _ (r3.below hHeld).2.2.2.2.2.choose_spec.2.2) (fun e wg he=>?_)
 obtain ⟨rfl,hw4⟩:=he
 have hz:BlkIs wg w3.heap.size 9 sgnCells:=by rw [hw4];exact BlkIs.fresh_at rfl
 refine ⟨_,rfl,hK.out _ _ (by rw [hw4];exact hHeld.trans ((below_alloc _ _).mono hHeld.size)) (fun hHeld=>?_)⟩
 clear hw4
 simp only [Act.put,List.setIfInBounds_toArray,List.set_cons_zero,List.set_cons_succ]
 refine onlyH (i:=3) (d:=some 14) (by kernel_rfl) rfl rfl rfl (fun K' hK=>?_)
 refine wp_go_call 110 _ _ rfl #[.slice (some ⟨w3.heap.size,0,none⟩) 18 18,strB tx] rfl (fun W'=>by go_simp) (hix _ _ _ hz) (fun e wh he=>?_)
 obtain ⟨rfl,rfl⟩:=he
 clear hz hix
 refine ⟨_,rfl,hK.out _ _ hHeld (fun hHeld=>?_)⟩
 simp only [Act.put,List.setIfInBounds_toArray,List.set_cons_zero,List.set_cons_succ]
 refine takeH (i:=4) (d:=some 7) (v:=.int .i64 i) (by kernel_rfl) rfl rfl rfl (fun _ _ _ h=>h) hHeld (fun W hSw=>by go_simp) ?_
 simp only [Act.put,List.setIfInBounds_toArray,List.set_cons_zero,List.set_cons_succ]
 refine wpAnyH_done (by kernel_rfl) ?_ _
 have z5:=z5.below hHeld hs3
 have r4:=r3.below hHeld
 have hk4:=hk3.trans (KeepM.of hHeld)
 have c0:wh.cell? ⟨w2.heap.size,0,none⟩=some (.int .i64 kd):=by rw [z5.cell];rfl
 go_step
 go_step
 cases bk
 ·have hk:¬ kd=3:=by simpa using HBK.out
  have hQ2:Q (.returned (.tuple #[.int .i64 0,.bool false])) wh:=by
   rw [← hQ.out]
   exact ⟨0,fun h=>(by cases h),rfl,r4,hk4⟩
  clear hQ HBK HI1 HI2 HLV r4 hk4
  go_wp2_with fail
  exact hQ2
 ·have hk:kd=3:=by simpa using HBK.out
  subst hk
  clear HBK
  by_cases hi0:i<0
  ·have hbr:=HI1.out hi0
   have hQ2:Q (.returned (.tuple #[.int .i64 0,.bool false])) wh:=by
    rw [← hQ.out,hbr]
    exact ⟨0,fun h=>(by cases h),rfl,r4,hk4⟩
   clear hQ HI1 HI2 HLV r4 hk4
   go_wp2_with fail
   exact hQ2
  ·obtain ⟨h18,hb1,hb2⟩:=HI2.out (by omega)
   have hip:0≤i:=by omega
   have hlc:=fun w=>level_calls (15 + i) (by omega) w
   rw [HLV.out] at hlc
   clear HI1 HI2 HLV hi0
   have hQ2:∀ w',Below wh.heap.size wh w'→Q (.returned (.tuple #[.int .i64 (15 + i),.bool br])) w':=by
    intro w' hb
    rw [← hQ.out]
    exact ⟨15 + i,fun h=>hb2 (by simpa using h),by simp,r4.below hb,hk4.trans (KeepM.of hb)⟩
   have hQ2:=Lib.hid hQ2
   have hb1:=Lib.hid hb1
   clear hQ hb2 r4 hk4
   go_wp2_with fail
   refine (hlc _).mono ?_
   rintro e w5 ⟨rfl,hb5⟩
   go_wp2_with fail
   all_goals first | exact hb5 | (have h5:=hQ2.out _ hb5;rw [← hb1.out] at h5;exact h5)
end Go.Proofs.YtdmacgoeikjdbaaGreatDoor
namespace Go.Proofs.YtdmacgoeikjdbaaGreatDoor
open Go.RowKit Sx
abbrev sAss:Shp:=⟨2,.tup [.one (.v 0),.one (.v 1)],[],[],[],[],[]⟩
abbrev sPostX:Shp:=⟨8,.el (.agg [.v 0,.v 1,.v 2,.v 3,.v 4,.v 5,.v 6,.v 7]),[(6,8)],[(7,8)],[],[],[]⟩
def MEx (fn:FuncId) (fu:Int→RS→Option (Ex × RS)) (f:Nat):Prop:=∀ (g:Nat) (d:Int) (s s':RS) (x:Ex) (h0:QH) (w:World) (okk:Nat→Prop) (K:List Value→List D→QS→Prop),fu d s=some (x,s')→DepthOk d f→QR g ⟨s,h0⟩ w→(∀ k,okk k→g<k) →
 (∀ A c h,OkS ⟨s',h⟩→K (exV x A c) [kidsD x] ⟨s',h⟩)→Calls Tryz.prog fn #[ptrV g,.int .i64 d] w (PostQ g sEx okk w K)
def MExs (fn:FuncId) (fu:Int→RS→Option (List Ex × RS)) (f:Nat):Prop:=∀ (g:Nat) (d:Int) (s s':RS) (x:List Ex) (h0:QH) (w:World) (okk:Nat→Prop) (K:List Value→List D→QS→Prop),fu d s=some (x,s')→DepthOk d f→QR g ⟨s,h0⟩ w→(∀ k,okk k→g<k) →
 (∀ A c h,OkS ⟨s',h⟩→K [.slice A x.length c] [exsD x] ⟨s',h⟩)→Calls Tryz.prog fn #[ptrV g,.int .i64 d] w (PostQ g sExs okk w K)
def MBinOk (f:Nat):Prop:=∀ (g:Nat) (d:Int) (n:Nat) (s s':RS) (x:Ex) (h0:QH) (w:World) (okk:Nat→Prop) (K:List Value→List D→QS→Prop),n≤10→mbinary f d n s=some (x,s')→DepthOk d f→QR g ⟨s,h0⟩ w→(∀ k,okk k→g<k) →
 (∀ A c h,OkS ⟨s',h⟩→K (exV x A c) [kidsD x] ⟨s',h⟩)→Calls Tryz.prog 112 #[ptrV g,.int .i64 d,.int .i64 n] w (PostQ g sEx okk w K)
def MPostOk (f:Nat):Prop:=∀ (g:Nat) (d:Int) (a:Ex) (B:Option Addr) (e:Nat) (s s':RS) (x:Ex) (h0:QH) (w:World) (okk:Nat→Prop) (K:List Value→List D→QS→Prop),mpostloop f d a s=some (x,s')→DepthOk d f→QR g ⟨s,h0⟩ w→(∀ k,okk k→g<k) →
 Rep w okk (kidsD a) [.slice B a.kids.length e]→(∀ A c h,OkS ⟨s',h⟩→K (exV x A c) [kidsD x] ⟨s',h⟩)→Calls Tryz.prog 132 #[ptrV g,.agg (exC a B e).toArray,.int .i64 d] w (PostQ g sPostX okk w K)
def qEx (fn:FuncId) (fu:Nat→Int→RS→Option (Ex × RS)) (g:Nat) {F:Nat} (ih:∀ f,f≤F→MEx fn (fu f) f):Con0 Tryz.prog (QR g) g where
 f:=fn
 sh:=sEx
 W args _ σ K:=∃ f d x s',f≤F∧args=[ptrV g,.int .i64 d]∧fu f d σ.s=some (x,s')∧DepthOk d f∧∀ A c h,OkS ⟨s',h⟩→K (exV x A c) [kidsD x] ⟨s',h⟩
 ok args ds σ w okk K hg hR hokk _ _ hW:=by
  obtain ⟨f,d,x,s',hf,rfl,h1,h2,hK⟩:=hW
  exact ih f hf g d σ.s s' x σ.h w okk K h1 h2 hR hokk hK
def qExs (fn:FuncId) (fu:Nat→Int→RS→Option (List Ex × RS)) (g:Nat) {F:Nat} (ih:∀ f,f≤F→MExs fn (fu f) f):Con0 Tryz.prog (QR g) g where
 f:=fn
 sh:=sExs
 W args _ σ K:=∃ f d x s',f≤F∧args=[ptrV g,.int .i64 d]∧fu f d σ.s=some (x,s')∧DepthOk d f∧∀ A c h,OkS ⟨s',h⟩→K [.slice A x.length c] [exsD x] ⟨s',h⟩
 ok args ds σ w okk K hg hR hokk _ _ hW:=by
  obtain ⟨f,d,x,s',hf,rfl,h1,h2,hK⟩:=hW
  exact ih f hf g d σ.s s' x σ.h w okk K h1 h2 hR hokk hK
def qBin (g:Nat) {F:Nat} (ih:∀ f,f≤F→MBinOk f):Con0 Tryz.prog (QR g) g where
 f:=112
 sh:=sEx
 W args _ σ K:=∃ (f:Nat) (d:Int) (n:Nat) (x:Ex) (s':RS),f≤F∧args=[ptrV g,.int .i64 d,.int .i64 n]∧n≤10∧mbinary f d n σ.s=some (x,s')∧DepthOk d f∧∀ A c h,OkS ⟨s',h⟩→K (exV x A c) [kidsD x] ⟨s',h⟩
 ok args ds σ w okk K hg hR hokk _ _ hW:=by
  obtain ⟨f,d,n,x,s',hf,rfl,h0,h1,h2,hK⟩:=hW
  exact ih f hf g d n σ.s s' x σ.h w okk K h0 h1 h2 hR hokk hK
def qPost (g:Nat) {F:Nat} (ih:∀ f,f≤F→MPostOk f):Con0 Tryz.prog (QR g) g where
 f:=132
 sh:=sPostX
 W args ds σ K:=∃ (f:Nat) (d:Int) (a:Ex) (B:Option Addr) (e:Nat) (x:Ex) (s':RS),f≤F∧args=[ptrV g,.agg (exC a B e).toArray,.int .i64 d]∧ds=[kidsD a]∧mpostloop f d a σ.s=some (x,s')∧DepthOk d f∧∀ A c h,OkS ⟨s',h⟩→K (exV x A c) [kidsD x] ⟨s',h⟩
 ok args ds σ w okk K hg hR hokk hda _ hW:=by
  obtain ⟨f,d,a,B,e,x,s',hf,rfl,rfl,h1,h2,hK⟩:=hW
  obtain ⟨v,h5,h6⟩:=hda.2 0 (7,8) (kidsD a) rfl rfl
  have h5:some (Value.slice B a.kids.length e)=some v:=h5
  injection h5 with h5
  subst h5
  exact ih f hf g d a B e σ.s s' x σ.h w okk K h1 h2 hR hokk h6 hK
section
variable {g F f:Nat} {K:List Value→List D→QS→Prop} {ds:List D} {s s':RS} {h0:QH} {d:Int}
theorem w_pex {fn:FuncId} {fu:Nat→Int→RS→Option (Ex × RS)} {ih:∀ f,f≤F→MEx fn (fu f) f} {x:Ex} (hf:f≤F) (h1:fu f d s=some (x,s')) (h2:DepthOk d f) (h:∀ A c h,OkS ⟨s',h⟩→K (exV x A c) [kidsD x] ⟨s',h⟩):(qEx fn fu g ih).W [ptrV g,.int .i64 d] ds ⟨s,h0⟩ K:=⟨f,d,x,s',hf,rfl,h1,h2,h⟩
theorem w_pexs {fn:FuncId} {fu:Nat→Int→RS→Option (List Ex × RS)} {ih:∀ f,f≤F→MExs fn (fu f) f} {x:List Ex} (hf:f≤F) (h1:fu f d s=some (x,s')) (h2:DepthOk d f) (h:∀ A c h,OkS ⟨s',h⟩→K [.slice A x.length c] [exsD x] ⟨s',h⟩):(qExs fn fu g ih).W [ptrV g,.int .i64 d] ds ⟨s,h0⟩ K:=⟨f,d,x,s',hf,rfl,h1,h2,h⟩
theorem w_pbin {n:Nat} {ih:∀ f,f≤F→MBinOk f} {x:Ex} (hf:f≤F) (hn:n≤10) (h1:mbinary f d n s=some (x,s')) (h2:DepthOk d f) (h:∀ A c h,OkS ⟨s',h⟩→K (exV x A c) [kidsD x] ⟨s',h⟩):(qBin g ih).W [ptrV g,.int .i64 d,.int .i64 n] ds ⟨s,h0⟩ K:=⟨f,d,n,x,s',hf,rfl,hn,h1,h2,h⟩
theorem w_ppost {ih:∀ f,f≤F→MPostOk f} {a x:Ex} {B:Option Addr} {e:Nat} (hf:f≤F) (h1:mpostloop f d a s=some (x,s')) (h2:DepthOk d f) (h:∀ A c h,OkS ⟨s',h⟩→K (exV x A c) [kidsD x] ⟨s',h⟩):(qPost g ih).W [ptrV g,.agg (exC a B e).toArray,.int .i64 d] [kidsD a] ⟨s,h0⟩ K:=⟨f,d,a,B,e,x,s',hf,rfl,rfl,h1,h2,h⟩
end
def qAssigns (g:Nat):Con0 Tryz.prog (QR g) g where
 f:=103
 sh:=sAss
 W args _ σ K:=∃ x,x.length≤1000000∧args=[strB x]∧K [.int .i64 (massigns x),.bool (misAss x)] [] σ
 ok args ds σ w okk K hg hR hokk _ _ hW:=by
  obtain ⟨x,hx,rfl,hK⟩:=hW
  exact tell_postP (massigns_any x hx g w hR.2.2.2 hg) hR hK rfl rfl rfl (by simp [Value.oneCell'])
def qOperator (g:Nat):Con0 Tryz.prog (QR g) g where
 f:=122
 sh:=sAss
 W args _ σ K:=∃ n:Nat,n<10∧args=[ptrV g,.int .i64 n]∧∀ v,(((hdT σ.s.ts).kind == 3 && rlevel n (hdT σ.s.ts).text != 0)=true→v=rlevel n (hdT σ.s.ts).text)→K [.int .i64 v,.bool ((hdT σ.s.ts).kind == 3 && rlevel n (hdT σ.s.ts).text != 0)] [] σ
 ok args ds σ w okk K hg hR hokk _ _ hW:=by
  obtain ⟨n,hn,rfl,hK⟩:=hW
  exact (moperator_any n hn g σ w hR).mono fun e w' ⟨v,h1,he,hr,hk⟩=>⟨_,[],σ,_,hK v h1,rfl,he,rfl,rfl,by simp [Value.oneCell'],hr,hk,daOk_nil _ _ _⟩
section
variable {g:Nat} {K:List Value→List D→QS→Prop} {ds:List D} {s:RS} {h0:QH}
theorem w_passigns {x:List UInt8} (hx:x.length≤1000000) (h:K [.int .i64 (massigns x),.bool (misAss x)] [] ⟨s,h0⟩):(qAssigns g).W [strB x] ds ⟨s,h0⟩ K:=⟨x,hx,rfl,h⟩
theorem w_poperator {n:Nat} (hn:n<10) (h:∀ v,(((hdT s.ts).kind == 3 && rlevel n (hdT s.ts).text != 0)=true→v=rlevel n (hdT s.ts).text)→K [.int .i64 v,.bool ((hdT s.ts).kind == 3 && rlevel n (hdT s.ts).text != 0)] [] ⟨s,h0⟩):(qOperator g).W [ptrV g,.int .i64 n] ds ⟨s,h0⟩ K:=⟨n,hn,rfl,h⟩
end
end Go.Proofs.YtdmacgoeikjdbaaGreatDoor
namespace Go.Proofs.YtdmacgoeikjdbaaGreatDoor
open Go.RowKit Sx
def cfP_expr:Cfg:=⟨[(84,sUnit),(102,sEx),(14,sTok),(103,sAss),(65,sTok),(88,sEx)],[(100 * 100 + 6,8),(100 * 89 + 1,8),(100 * 89 + 2,9),(100 * 56 + 4,1),(100 * 60 + 4,6),(100 * 60 + 5,9),(100 * 60 + 6,6)],[],sEx,[],[]⟩
def TP_expr:Tree:=tW <| tV 0 1 <| tV 1 1 <| tW <| tO 2 <| tW <| .nd (.call 3 [.one (.v 11)] []) <| .nd (.pv (.bin .neq) [.v 10,jI 3]) <| .ite 16 (.ret [.v 2,.v 3,.v 4,.v 5,.v 6,.v 7,.v 8,.v 9] [jD 8 0]) (tT 15 <| .ite 17 (.ret [.v 2,.v 3,.v 4,.v 5,.v 6,.v 7,.v 8,.v 9] [jD 8 0]) (tO 4 <| tA 1 1 <| tV 5 22 <| tB 8 2 [rX 2 0,rX 23 1] <| .ret [jI 34,jI 0,jI 0,jI 0,jE,.v 14,.v 31,.v 13] [jD 31 2]))
theorem TP_expr_eq:fnS Tryz.prog cfP_expr [.one,.one] 88=some TP_expr:=by kernel_rfl
theorem mexpr_step (F:Nat) (ihc:∀ f,f≤F→MEx 102 (mcond f) f) (ihe:∀ f,f≤F→MEx 88 (mexpr f) f):MEx 88 (mexpr (F + 1)) (F + 1):=by
 intro g d s s' x h0 w okk K hx hd hr hok hK'
 have hK:∀ vs ds σ',((∃ A c,vs=exV x A c)∧ds=[kidsD x]∧σ'.s=s'∧OkS σ')→K vs ds σ':=fun vs ds σ' h=>by
  obtain ⟨⟨A,c,rfl⟩,rfl,rfl,h3⟩:=h
  exact hK' A c _ h3
 refine fn_ok (cf:=cfP_expr) [(qDeep g).x,(qEx 102 mcond g ihc).x,(qTok g).x,(qAssigns g).x,(qNext g).x,(qEx 88 mexpr g ihe).x] rfl mixed QR.stable TP_expr_eq (W:=fun args ds σ K'=>args=[ptrV g,.int .i64 d]∧ds=[]∧σ=⟨s,h0⟩∧K'=K)
  (fun args ds σ K hW=>by obtain ⟨rfl,_⟩:=hW;exact ⟨rfl,rfl,trivial⟩) ?_ [ptrV g,.int .i64 d] [] ⟨s,h0⟩ w okk K hr.lt hr hok (daOk_nil _ _ _) (by simp [Sx.flat,Value.cells,Value.oneCell',exC,strV8]) ⟨rfl,rfl,rfl,rfl⟩
 rintro args ds σ K' ⟨rfl,rfl,rfl,rfl⟩ _
 have hp0:=hr.1
 have hd1:=hd.1
 have hd2:=hd.2
 have hdd:=deeper hd
 rw [mexpr] at hx
 show Tree.holds _ _ _ _ (⟨Sx.flat [ptrV g,.int .i64 d],[],[],⟨s,h0⟩⟩:Env QS)
 simp only [Sx.flat,Value.cells,List.flatMap_cons,List.flatMap_nil,List.append_nil,List.cons_append,List.nil_append,Array.toList]
 refine h_new fun g1=>?_
 refine kc (h:=w_pdeep fun h2 p2=>?_)
 try simp only [bne,bS,↓reduceIte] at hx
 obtain ⟨⟨x3,s3⟩,e3,hx⟩:=Option.bind_eq_some_iff.1 hx
 simp only at hx
 refine kc (h:=w_pex (f:=F) (by omega) e3 ⟨by omega,by omega⟩ fun A3 c3 h3 p3=>?_)
 try simp only [aS,hdd.2]
 refine h_new fun g4=>?_
 refine kc (h:=w_ptok ?_)
 try simp only [aS,hdd.2]
 refine h_new fun g6=>?_
 refine kc (h:=w_passigns (OkS.htx p3) ?_)
 try simp only [aS,hdd.2]
 refine h_pv rfl rfl ?_
 try simp only [aS,hdd.2]
 refine h_ite rfl (fun q9=>?_) (fun q9=>?_)
 ·skip
  try dsimp only at q9
  try simp only [q9,bne,bS,↓reduceIte] at hx
  try simp only [q9,bne,bS,↓reduceIte] at hx
  obtain ⟨rfl,rfl⟩:=sP hx
  refine kr (h:=?_)
  refine hK _ _ _ ⟨⟨_,_,rfl⟩,?_,rfl,p3⟩
  first | rfl | (simp only [kidsD,Ex.kids,List.map,encEx_eq];done) | (simp only [kidsD,Ex.kids,List.map,encEx_eq];rfl) | (simp only [exsD,List.map,encEx_eq];done) | (simp only [exsD,List.map,encEx_eq];rfl) | (simp [kidsD,exsD,Ex.kids,encEx_eq];done)
 ·skip
  try dsimp only at q9
  try simp only [q9,bne,bS,↓reduceIte] at hx
  refine h_pv rfl rfl ?_
  try simp only [aS,hdd.2]
  refine h_ite rfl (fun q11=>?_) (fun q11=>?_)
  ·skip
   simp only [nS] at q11
   try simp only [q9,q11,bne,bS,↓reduceIte] at hx
   try simp only [q9,q11,bne,bS,↓reduceIte] at hx
   obtain ⟨rfl,rfl⟩:=sP hx
   refine kr (h:=?_)
   refine hK _ _ _ ⟨⟨_,_,rfl⟩,?_,rfl,p3⟩
   first | rfl | (simp only [kidsD,Ex.kids,List.map,encEx_eq];done) | (simp only [kidsD,Ex.kids,List.map,encEx_eq];rfl) | (simp only [exsD,List.map,encEx_eq];done) | (simp only [exsD,List.map,encEx_eq];rfl) | (simp [kidsD,exsD,Ex.kids,encEx_eq];done)
  ·skip
   simp only [nS] at q11
   try simp only [q9,q11,bne,bS,↓reduceIte] at hx
   refine kc (h:=w_pnext fun h12 p12=>?_)
   try simp only [aS,hdd.2]
   refine h_pv rfl rfl ?_
   try simp only [aS,hdd.2]
   try simp only [q9,q11,bne,bS,↓reduceIte] at hx
   obtain ⟨⟨x14,s14⟩,e14,hx⟩:=Option.bind_eq_some_iff.1 hx
   simp only at hx
   refine kc (h:=w_pex (f:=F) (by omega) e14 ⟨by omega,by omega⟩ fun A14 c14 h14 p14=>?_)
   try simp only [aS,hdd.2]
   refine kb (h:=fun g15=>?_)
   try simp only [aS,hdd.2]
   try simp only [q9,q11,bne,bS,↓reduceIte] at hx
   obtain ⟨rfl,rfl⟩:=sP hx
   refine kr (h:=?_)
   refine hK _ _ _ ⟨⟨_,_,rfl⟩,?_,rfl,p14⟩
   first | rfl | (simp only [kidsD,Ex.kids,List.map,encEx_eq];done) | (simp only [kidsD,Ex.kids,List.map,encEx_eq];rfl) | (simp only [exsD,List.map,encEx_eq];done) | (simp only [exsD,List.map,encEx_eq];rfl) | (simp [kidsD,exsD,Ex.kids,encEx_eq];done)
def cfP_cond:Cfg:=⟨[(112,sEx),(14,sTok),(67,sOne),(88,sEx),(70,sUnit),(84,sUnit),(102,sEx)],[(100 * 100 + 6,8),(100 * 89 + 1,8),(100 * 89 + 2,9),(100 * 56 + 4,1),(100 * 60 + 4,6),(100 * 60 + 5,9),(100 * 60 + 6,6)],[],sEx,[],[]⟩
def TP_cond:Tree:=tW <| .nd (.call 0 [.one (.v 0),.one (.v 1),.one (jI 0)] []) <| tW <| tO 1 <| tW <| tS 2 [63] <| tT 14 <| .ite 15 (.ret [.v 2,.v 3,.v 4,.v 5,.v 6,.v 7,.v 8,.v 9] [jD 8 0]) (tA 1 1 <| tV 3 16 <| tW <| tS 4 [58] <| tA 1 1 <| tV 5 25 <| tA 1 1 <| tV 6 26 <| tW <| tB 8 3 [rX 2 0,rX 17 1,rX 27 2] <| .ret [jI 33,jI 0,jI 0,jI 0,jE,jI 0,.v 35,.v 13] [jD 35 3])
theorem TP_cond_eq:fnS Tryz.prog cfP_cond [.one,.one] 102=some TP_cond:=by kernel_rfl
theorem mcond_step (F:Nat) (ihb:∀ f,f≤F→MBinOk f) (ihe:∀ f,f≤F→MEx 88 (mexpr f) f) (ihc:∀ f,f≤F→MEx 102 (mcond f) f):MEx 102 (mcond (F + 1)) (F + 1):=by
 intro g d s s' x h0 w okk K hx hd hr hok hK'
 have hK:∀ vs ds σ',((∃ A c,vs=exV x A c)∧ds=[kidsD x]∧σ'.s=s'∧OkS σ')→K vs ds σ':=fun vs ds σ' h=>by
  obtain ⟨⟨A,c,rfl⟩,rfl,rfl,h3⟩:=h
  exact hK' A c _ h3
 refine fn_ok (cf:=cfP_cond) [(qBin g ihb).x,(qTok g).x,(qEat g).x,(qEx 88 mexpr g ihe).x,(qWant g).x,(qDeep g).x,(qEx 102 mcond g ihc).x] rfl mixed QR.stable TP_cond_eq (W:=fun args ds σ K'=>args=[ptrV g,.int .i64 d]∧ds=[]∧σ=⟨s,h0⟩∧K'=K)
  (fun args ds σ K hW=>by obtain ⟨rfl,_⟩:=hW;exact ⟨rfl,rfl,trivial⟩) ?_ [ptrV g,.int .i64 d] [] ⟨s,h0⟩ w okk K hr.lt hr hok (daOk_nil _ _ _) (by simp [Sx.flat,Value.cells,Value.oneCell',exC,strV8]) ⟨rfl,rfl,rfl,rfl⟩
 rintro args ds σ K' ⟨rfl,rfl,rfl,rfl⟩ _
 have hp0:=hr.1
 have hd1:=hd.1
 have hd2:=hd.2
 have hdd:=deeper hd
 rw [mcond] at hx
 show Tree.holds _ _ _ _ (⟨Sx.flat [ptrV g,.int .i64 d],[],[],⟨s,h0⟩⟩:Env QS)
 simp only [Sx.flat,Value.cells,List.flatMap_cons,List.flatMap_nil,List.append_nil,List.cons_append,List.nil_append,Array.toList]
 refine h_new fun g1=>?_
 try simp only [bS,↓reduceIte] at hx
 obtain ⟨⟨x2,s2⟩,e2,hx⟩:=Option.bind_eq_some_iff.1 hx
 simp only at hx
 refine kc (h:=w_pbin (f:=F) (n:=0) (by omega) (by omega) e2 ⟨by omega,by omega⟩ fun A2 c2 h2 p2=>?_)
 try simp only [aS,hdd.2]
 refine h_new fun g3=>?_
 refine kc (h:=w_ptok ?_)
 try simp only [aS,hdd.2]
 refine h_new fun g5=>?_
 refine kc (h:=w_peat fun h6 p6=>?_)
 try simp only [aS,hdd.2]
 refine h_pv rfl rfl ?_
 try simp only [aS,hdd.2]
 refine h_ite rfl (fun q8=>?_) (fun q8=>?_)
 ·skip
  simp only [nS] at q8
  have z8:=meat_noS q8
  rw [z8] at p6
  rw [z8]
  try simp only [z8] at hx
  try simp only [q8,bS,↓reduceIte] at hx
  try simp only [q8,bS,↓reduceIte] at hx
  obtain ⟨rfl,rfl⟩:=sP hx
  refine kr (h:=?_)
  refine hK _ _ _ ⟨⟨_,_,rfl⟩,?_,rfl,p6⟩
  first | rfl | (simp only [kidsD,Ex.kids,List.map,encEx_eq];done) | (simp only [kidsD,Ex.kids,List.map,encEx_eq];rfl) | (simp only [exsD,List.map,encEx_eq];done) | (simp only [exsD,List.map,encEx_eq];rfl) | (simp [kidsD,exsD,Ex.kids,encEx_eq];done)
 ·skip
  simp only [nS] at q8
  try simp only [q8,bS,↓reduceIte] at hx
  refine h_pv rfl rfl ?_
  try simp only [aS,hdd.2]
  try simp only [q8,bS,↓reduceIte] at hx
  obtain ⟨⟨x10,s10⟩,e10,hx⟩:=Option.bind_eq_some_iff.1 hx
  simp only at hx
  refine kc (h:=w_pex (f:=F) (by omega) e10 ⟨by omega,by omega⟩ fun A10 c10 h10 p10=>?_)
  try simp only [aS,hdd.2]
  refine h_new fun g11=>?_
  refine kc (h:=w_pwant fun h12 p12=>?_)
  refine h_pv rfl rfl ?_
  try simp only [aS,hdd.2]
  refine kc (h:=w_pdeep fun h14 p14=>?_)
  refine h_pv rfl rfl ?_
  try simp only [aS,hdd.2]
  try simp only [q8,bS,↓reduceIte] at hx
  obtain ⟨⟨x16,s16⟩,e16,hx⟩:=Option.bind_eq_some_iff.1 hx
  simp only at hx
  refine kc (h:=w_pex (f:=F) (by omega) e16 ⟨by omega,by omega⟩ fun A16 c16 h16 p16=>?_)
  try simp only [aS,hdd.2]
  refine h_new fun g17=>?_
  refine kb (h:=fun g18=>?_)
  try simp only [aS,hdd.2]
  try simp only [q8,bS,↓reduceIte] at hx
  obtain ⟨rfl,rfl⟩:=sP hx
  refine kr (h:=?_)
  refine hK _ _ _ ⟨⟨_,_,rfl⟩,?_,rfl,p16⟩
  first | rfl | (simp only [kidsD,Ex.kids,List.map,encEx_eq];done) | (simp only [kidsD,Ex.kids,List.map,encEx_eq];rfl) | (simp only [exsD,List.map,encEx_eq];done) | (simp only [exsD,List.map,encEx_eq];rfl) | (simp [kidsD,exsD,Ex.kids,encEx_eq];done)
end Go.Proofs.YtdmacgoeikjdbaaGreatDoor

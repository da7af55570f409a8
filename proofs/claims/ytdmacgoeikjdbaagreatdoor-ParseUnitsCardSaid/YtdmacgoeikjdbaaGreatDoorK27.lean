/- The reference's parser: statements joined; a program so far, as it lie -/
import Derived.Test.YtdmacgoeikjdbaaGreatDoorK26
import Derived.Test.YtdmacgoeikjdbaaGreatDoorK21
set_option linter.unusedSimpArgs false
set_option linter.unusedVariables false
namespace Go.Proofs.YtdmacgoeikjdbaaGreatDoor
open Go.RowKit Sx
theorem rsall:∀ f,RStmtOk f∧RBlockOk f:=by
 intro f
 induction f using Nat.strongRecOn with
 | ind f ih=>
  cases f with
  | zero=>
   refine ⟨?_,?_⟩
   ·intro d s s' x g gv fv w hx;rw [rstmt] at hx;cases hx
   ·intro d s s' x g gv fv w hx;rw [rblock] at hx;cases hx
  | succ F=>
   exact ⟨rstmt_step F (fun f h=>(ih f (by omega)).2) (fun f _=>(rall f).e) (fun f h=>(ih f (by omega)).1),rblock_step F (fun f h=>(ih f (by omega)).1)⟩
def conFailAt (g:Nat) (gv fv:Value):Con0 Tryz.prog (RR g gv fv) g where
 f:=42
 sh:=sUnit
 W args _ σ K:=∃ e p,args=[ptrV g,.int .i64 e,.int .i64 p]∧∀ h,0<(rfailAt e p σ.s).ts.length→K [] [] ⟨rfailAt e p σ.s,h⟩
 ok args ds σ w okk K hg hR _ _ _ hW:=by
  obtain ⟨e,p,rfl,hK⟩:=hW
  exact do_post (rfailAt_any g gv fv σ.s e p w hR.rd) hK rfl rfl rfl (by simp)
def conParams (g:Nat) (gv fv:Value):Con0 Tryz.prog (RR g gv fv) g where
 f:=44
 sh:=sDes
 W args _ σ K:=∃ f x s',args=[ptrV g]∧rparams f σ.s=some (x,s')∧∀ A c h,0<s'.ts.length→K [.slice A x.length c] [desD x] ⟨s',h⟩
 ok args ds σ w okk K hg hR _ _ _ hW:=by
  obtain ⟨f,x,s',rfl,h1,hK⟩:=hW
  exact lst_post g gv fv (rparams_any f σ.s s' x g gv fv w h1 hR.rd) hK
def conBlock1 (g:Nat) (gv fv:Value):Con0 Tryz.prog (RR g gv fv) g where
 f:=46
 sh:=sSts
 W args _ σ K:=∃ f d x s',args=[ptrV g,.int .i64 d]∧rblock f d σ.s=some (x,s')∧DepthOk d f∧∀ A c h,0<s'.ts.length→K [.slice A x.length c] [stsD x] ⟨s',h⟩
 ok args ds σ w okk K hg hR _ _ _ hW:=by
  obtain ⟨f,d,x,s',rfl,h1,h2,hK⟩:=hW
  exact sts_post g gv fv ((rsall f).2 d σ.s s' x g gv fv w h1 h2 hR.rd) hK
section
variable {g:Nat} {gv fv:Value} {K:List Value→List D→RH→Prop} {ds:List D} {s:RS} {h0:Hd}
theorem w_failat {e p:Int} (h:∀ h,0<(rfailAt e p s).ts.length→K [] [] ⟨rfailAt e p s,h⟩):(conFailAt g gv fv).W [ptrV g,.int .i64 e,.int .i64 p] ds ⟨s,h0⟩ K:=⟨e,p,rfl,h⟩
theorem w_params {f:Nat} {x:List De} {s':RS} (h1:rparams f s=some (x,s')) (h:∀ A c h,0<s'.ts.length→K [.slice A x.length c] [desD x] ⟨s',h⟩):(conParams g gv fv).W [ptrV g] ds ⟨s,h0⟩ K:=⟨f,x,s',rfl,h1,h⟩
theorem w_block1 {f:Nat} {d:Int} {x:List St} {s':RS} (h1:rblock f d s=some (x,s')) (h2:DepthOk d f) (h:∀ A c h,0<s'.ts.length→K [.slice A x.length c] [stsD x] ⟨s',h⟩):(conBlock1 g gv fv).W [ptrV g,.int .i64 d] ds ⟨s,h0⟩ K:=⟨f,d,x,s',rfl,h1,h2,h⟩
end
abbrev gsD (u:Un):D:=.lst 6 (u.globals.map encDe)
abbrev fnsD (u:Un):D:=.lst 8 (u.funcs.map encFn)
structure UOk (w:World) (g:Nat) (gv fv:Value) (u:Un):Prop where
 ga:Own w 0 (fun k=>g<k∧gv.ownBlock ≠ some k∧fv.ownBlock ≠ some k) 56 6 gv (u.globals.map encDe)
 fa:Own w 0 (fun k=>g<k∧gv.ownBlock ≠ some k∧fv.ownBlock ≠ some k) 60 8 fv (u.funcs.map encFn)
 gg:∀ k,gv.ownBlock=some k→g<k
 gf:∀ k,fv.ownBlock=some k→g<k
 ne:∀ k,gv.ownBlock=some k→fv.ownBlock ≠ some k
abbrev UX (g:Nat) (gv fv:Value) (k:Nat):Prop:=k=g ∨ gv.ownBlock=some k ∨ fv.ownBlock=some k
theorem own_lt_size {w:World} {ok:Nat→Prop} {e:TypeId} {z:Nat} {v:Value} {ds:List D} (h:Own w 0 ok e z v ds) {k:Nat} (hk:v.ownBlock=some k):k<w.heap.size:=by
 obtain ⟨xs,h1,_⟩:=h
 exact (h1.lt k hk).2
theorem own_one {w:World} {ok:Nat→Prop} {e:TypeId} {z:Nat} {v:Value} {ds:List D} (h:Own w 0 ok e z v ds):v.oneCell'=true∧∃ A c,v=.slice A ds.length c:=by
 obtain ⟨xs,h1,_⟩:=h
 rcases h1.2 with ⟨rfl,h2⟩ | ⟨g,cap,cur,rfl,_⟩
 ·exact ⟨rfl,none,0,by rw [h2]⟩
 ·exact ⟨rfl,_,_,rfl⟩
theorem UOk.keep {w w':World} {g:Nat} {gv fv:Value} {u:Un} (h:UOk w g gv fv u) (hk:KeepM g w w'):UOk w' g gv fv u:=by
 have key:∀ {e:TypeId} {z:Nat} {v:Value} {ds:List D},Own w 0 (fun k=>g<k∧gv.ownBlock ≠ some k∧fv.ownBlock ≠ some k) e z v ds→(∀ k,v.ownBlock=some k→g<k)→Own w' 0 (fun k=>g<k∧gv.ownBlock ≠ some k∧fv.ownBlock ≠ some k) e z v ds:=fun {e z v ds} ho hg=>by
  obtain ⟨xs,h1,h2⟩:=ho
  refine ⟨xs,⟨h1.1,?_⟩,Cells.keep (fun _ h _=>h) (fun k hk2 hl=>hk.block k (by have:=hk2.1.1;omega) hl) h2⟩
  rcases h1.2 with h3 | ⟨q,cap,cur,hv,hb,hh,hr⟩
  ·exact .inl h3
  ·exact .inr ⟨q,cap,cur,hv,hb,(hk.block q (by have:=hg q (by rw [hv];rfl);omega) (lt_of_block hh)).trans hh,hr⟩
 exact ⟨key h.ga h.gg,key h.fa h.gf,h.gg,h.gf,h.ne⟩
abbrev own2:List Fc:=[⟨1,0,some (56,6)⟩,⟨2,1,some (60,8)⟩]
abbrev RT:Unit→World→Prop:=fun _ _=>True
def ctxE (w:World) (g b:Nat) (gv fv:Value) (h1:0<g) (h2:g<w.heap.size) (h3:g<b) (h4:∀ k,gv.ownBlock=some k→g<k) (h5:∀ k,fv.ownBlock=some k→g<k):Ctx RT where
 G:=0
 w0:=w
 okb k:=g≤k
 Gx _:=False
 X k:=k=g ∨ k=b ∨ gv.ownBlock=some k ∨ fv.ownBlock=some k
 io:=[g]
 hG:=by omega
 hb k hk:=by
  rcases hk with (rfl | rfl | hk | hk) | hk
  ·exact Nat.le_refl _
  ·omega
  ·have:=h4 k hk;omega
  ·have:=h5 k hk;omega
  ·omega
 hg k hk:=by omega
 hR _ _ _ _ _ _:=trivial
def stB (tb:Nat) (TB:TypeId) (lsB:List L) (fsB:List Fc) (nv nd:Nat):Sx.St:=⟨[(0,.el (.one (.p 0 0))),(tb,.el (.one (.p 1 0)))],[⟨0,49,[.v 0,.v 1,.v 2,.v 3,.v 4]⟩,⟨1,TB,lsB⟩],own2 ++ fsB,nv,2,nd,149,[],[0]⟩
def stE:Sx.St:=⟨[(0,.el (.one (.p 0 0)))],[⟨0,49,[.v 0,.v 1,.v 2,.v 3,.v 4]⟩],own2,5,1,2,149,[],[0]⟩
theorem end_mm {w w':World} {g b:Nat} {gv fv:Value} {u:Un} {s:RS} {hd:Hd} (hu:UOk w g gv fv u) (hk:KeepM g w w') (hr:RR g gv fv ⟨s,hd⟩ w') (hb:w.heap.size≤b) (hg:g<w.heap.size) (h0:0<g)
  {tb:Nat} {TB:TypeId} {lsB:List L} {fsB:List Fc} {vb csB:List Value} {db:List D} (hbl:BlkIs w' b TB csB.toArray) (hls:dens ([hdV s.ts.length hd,gv,fv,.int .i64 s.err,.int .i64 s.pos] ++ vb) [g,b] lsB=some csB) (hone:∀ u ∈ vb,u.oneCell'=true) (hc1:∀ u ∈ csB,u.oneCell'=true)
  (hfs:∀ f ∈ fsB,f.own=none∧∃ v d,([hdV s.ts.length hd,gv,fv,.int .i64 s.err,.int .i64 s.pos] ++ vb)[f.l]?=some v∧([gsD u,fnsD u] ++ db)[f.d]?=some d∧Rep w' (fun k=>w.heap.size≤k∧k ≠ b) d [v]) :
  Mm (ctxE w' g b gv fv h0 (Nat.lt_of_lt_of_le hg hk.size) (Nat.lt_of_lt_of_le hg hb) hu.gg hu.gf) (⟨[hdV s.ts.length hd,gv,fv,.int .i64 s.err,.int .i64 s.pos] ++ vb,[g,b],[gsD u,fnsD u] ++ db,()⟩:Env Unit) (stB tb TB lsB fsB (5 + vb.length) (2 + db.length)) w':=by
 have hu':=hu.keep hk
 have hbl2:=hbl.lt
 have o1:∀ k,gv.ownBlock=some k→k<w.heap.size:=fun k hk=>own_lt_size hu.ga hk
 have o2:∀ k,fv.ownBlock=some k→k<w.heap.size:=fun k hk=>own_lt_size hu.fa hk
 have hoa:∀ f ∈ own2 ++ fsB,∀ k,ownAt (⟨[hdV s.ts.length hd,gv,fv,.int .i64 s.err,.int .i64 s.pos] ++ vb,[g,b],[gsD u,fnsD u] ++ db,()⟩:Env Unit) f k→(f.l=1∧gv.ownBlock=some k) ∨ (f.l=2∧fv.ownBlock=some k):=fun f hf k ho=>by
  rcases List.mem_append.1 hf with hf | hf
  ·simp only [own2,List.mem_cons,List.not_mem_nil,or_false] at hf
   rcases hf with rfl | rfl
   ·obtain ⟨_,v,h1,h2⟩:=ho
    have h1:some gv=some v:=h1
    injection h1 with h1
    subst h1
    exact .inl ⟨rfl,h2⟩
   ·obtain ⟨_,v,h1,h2⟩:=ho
    have h1:some fv=some v:=h1
    injection h1 with h1
    subst h1
    exact .inr ⟨rfl,h2⟩
  ·have:=ho.1
   rw [(hfs f hf).1] at this
   cases this
 have hokE:∀ k,(g<k∧k ≠ b∧gv.ownBlock ≠ some k∧fv.ownBlock ≠ some k)→okE (ctxE w' g b gv fv h0 (Nat.lt_of_lt_of_le hg hk.size) (Nat.lt_of_lt_of_le hg hb) hu.gg hu.gf) (⟨[hdV s.ts.length hd,gv,fv,.int .i64 s.err,.int .i64 s.pos] ++ vb,[g,b],[gsD u,fnsD u] ++ db,()⟩:Env Unit) (own2 ++ fsB) k:=fun k ⟨h1,h2,h3,h4⟩=>by
  refine ⟨Nat.le_of_lt h1,fun hm=>?_,fun f hf ho=>?_⟩
  ·have hm:k ∈ [g,b]:=hm
   simp only [List.mem_cons,List.not_mem_nil,or_false] at hm
   omega
  ·rcases hoa f hf k ho with ⟨_,h5⟩ | ⟨_,h5⟩
   ·exact h3 h5
   ·exact h4 h5
 have hlow:∀ {e:TypeId} {z:Nat} {v:Value} {ds:List D},Own w 0 (fun k=>g<k∧gv.ownBlock ≠ some k∧fv.ownBlock ≠ some k) e z v ds→(∀ k,v.ownBlock=some k→g<k)→Own w' 0 (fun k=>g<k∧k ≠ b∧gv.ownBlock ≠ some k∧fv.ownBlock ≠ some k) e z v ds:=fun {e z v ds} ho hgv=>by
  have ho:=ho.imp (ok':=fun k=>g<k∧k ≠ b∧gv.ownBlock ≠ some k∧fv.ownBlock ≠ some k) fun k hk hl=>⟨hk.1,by omega,hk.2⟩
  obtain ⟨xs,h1,h2⟩:=ho
  refine ⟨xs,⟨h1.1,?_⟩,Cells.keep (fun _ h _=>h) (fun k hk2 hl=>hk.block k (by have:=hk2.1.1;omega) hl) h2⟩
  rcases h1.2 with h3 | ⟨q,cap,cur,hv,hb,hh,hr⟩
  ·exact .inl h3
  ·exact .inr ⟨q,cap,cur,hv,hb,(hk.block q (by have:=hgv q (by rw [hv];rfl);omega) (lt_of_block hh)).trans hh,hr⟩
 refine ⟨by simp [stB];omega,rfl,by simp [stB];omega,fun v hv=>?_,?_,fun k hk=>?_,fun B hB=>?_,fun f hf=>?_,fun f hf k ho hm=>?_,fun f hf f' hf' k ho ho'=>?_,trivial,KeepX.refl _ _,fun x hx=>(by cases hx),fun i b' hi=>?_⟩
 ·rcases List.mem_append.1 hv with hv | hv
  ·simp only [List.mem_cons,List.not_mem_nil,or_false] at hv
   rcases hv with rfl | rfl | rfl | rfl | rfl
   ·rfl
   ·exact (own_one hu.ga).1
   ·exact (own_one hu.fa).1
   ·rfl
   ·rfl
  ·exact hone v hv
 ·show [g,b].Nodup
  simp
  omega
 ·have hk:k ∈ [g,b]:=hk
  simp only [List.mem_cons,List.not_mem_nil,or_false] at hk
  rcases hk with rfl | rfl
  ·exact ⟨.inl (.inl rfl),hr.rd.lt⟩
  ·exact ⟨.inl (.inr (.inl rfl)),hbl2⟩
 ·simp only [stB,List.mem_cons,List.not_mem_nil,or_false] at hB
  rcases hB with rfl | rfl
  ·refine ⟨g,[hdV s.ts.length hd,gv,fv,.int .i64 s.err,.int .i64 s.pos],rfl,rfl,hr.2.2.1,fun v hv=>?_⟩
   simp only [List.mem_cons,List.not_mem_nil,or_false] at hv
   rcases hv with rfl | rfl | rfl | rfl | rfl
   ·rfl
   ·exact (own_one hu.ga).1
   ·exact (own_one hu.fa).1
   ·rfl
   ·rfl
  ·exact ⟨b,csB,rfl,hls,hbl,hc1⟩
 ·have hf':f ∈ own2 ++ fsB:=hf
  rcases List.mem_append.1 hf' with hf | hf
  ·simp only [own2,List.mem_cons,List.not_mem_nil,or_false] at hf
   rcases hf with rfl | rfl
   ·exact ⟨gv,gsD u,rfl,rfl,_,rfl,(hlow hu.ga hu.gg).imp fun k hk _=>hokE k hk,fun k hk=>.inl (.inr (.inr (.inl hk)))⟩
   ·exact ⟨fv,fnsD u,rfl,rfl,_,rfl,(hlow hu.fa hu.gf).imp fun k hk _=>hokE k hk,fun k hk=>.inl (.inr (.inr (.inr hk)))⟩
  ·obtain ⟨h1,v,d,h2,h3,h4⟩:=hfs f hf
   refine ⟨v,d,h2,h3,?_⟩
   rw [h1]
   exact h4.imp fun k hk2 _=>hokE k ⟨by omega,hk2.2,fun h=>by have:=o1 k h;omega,fun h=>by have:=o2 k h;omega⟩
 ·have hm:k ∈ [g,b]:=hm
  simp only [List.mem_cons,List.not_mem_nil,or_false] at hm
  rcases hoa f hf k ho with ⟨_,h5⟩ | ⟨_,h5⟩
  ·have:=hu.gg k h5
   have:=o1 k h5
   omega
  ·have:=hu.gf k h5
   have:=o2 k h5
   omega
 ·rcases hoa f hf k ho with ⟨i1,h5⟩ | ⟨i1,h5⟩
  ·rcases hoa f' hf' k ho' with ⟨i2,h6⟩ | ⟨i2,h6⟩
   ·rw [i1,i2]
   ·exact (hu.ne k h5 h6).elim
  ·rcases hoa f' hf' k ho' with ⟨i2,h6⟩ | ⟨i2,h6⟩
   ·exact (hu.ne k h6 h5).elim
   ·rw [i1,i2]
 ·cases i with
  | zero=>
   have hi:some 0=some b':=hi
   injection hi with hi
   subst hi
   exact ⟨g,rfl,rfl⟩
  | succ i=>
   have hi:([]:List Nat)[i]?=some b':=hi
   simp at hi
theorem end_done {w w' w2:World} {g b:Nat} {gv fv:Value} {u u':Un} {s:RS} {hd:Hd} (hu:UOk w g gv fv u) (hk:KeepM g w w') (hr:RR g gv fv ⟨s,hd⟩ w') (hb:w.heap.size≤b) (hg:g<w.heap.size) (h0:0<g)
  {va:List Value} {bl:List Nat} {dd:List D} {gv' fv':Value} (hm:Mm (ctxE w' g b gv fv h0 (Nat.lt_of_lt_of_le hg hk.size) (Nat.lt_of_lt_of_le hg hb) hu.gg hu.gf) (⟨va,bl,dd,()⟩:Env Unit) stE w2) (hva:va=[hdV s.ts.length hd,gv',fv',.int .i64 s.err,.int .i64 s.pos]) (hdd:dd=[gsD u',fnsD u']) :
  RdQ w2 g gv' fv' s∧UOk w2 g gv' fv' u'∧KeepX (UX g gv fv) w w2:=by
 subst hva hdd
 obtain ⟨g1,i1,i2⟩:=hm.io 0 0 rfl
 have i1:some g=some g1:=i1
 injection i1 with i1
 subst i1
 have i2:bl[0]?=some g:=i2
 have hgb:g ∈ bl:=List.mem_of_getElem? i2
 have hkeep:∀ k,k<g→w2.heap[k]?=w'.heap[k]?:=fun k hlt=>hm.keep.block k (fun hx=>by
  rcases hx with hx | hx | hx | hx | hx
  ·exact hx
  ·omega
  ·omega
  ·have:=hu.gg k hx;omega
  ·have:=hu.gf k hx;omega) (by have:=hr.rd.lt;show k<w'.heap.size;omega)
 obtain ⟨g2,cs,j1,j2,j3,_⟩:=hm.mem ⟨0,49,[.v 0,.v 1,.v 2,.v 3,.v 4]⟩ (by simp [stE])
 have j1:bl[0]?=some g2:=j1
 rw [i2] at j1
 injection j1 with j1
 subst j1
 simp only [dens,L.den,List.getElem?_cons_zero,List.getElem?_cons_succ,Option.some.injEq] at j2
 subst j2
 have hnwg:∀ k,(ctxE w' g b gv fv h0 (Nat.lt_of_lt_of_le hg hk.size) (Nat.lt_of_lt_of_le hg hb) hu.gg hu.gf).nw k→k ≠ g→g<k:=fun k hn hne=>by
  rcases hn with (hn | hn | hn | hn) | hn
  ·exact (hne hn).elim
  ·omega
  ·exact hu.gg k hn
  ·exact hu.gf k hn
  ·have:=hr.rd.lt
   have hn:w'.heap.size≤k:=hn
   omega
 have hoa1:∀ k,gv'.ownBlock=some k→ownAt (⟨[hdV s.ts.length hd,gv',fv',.int .i64 s.err,.int .i64 s.pos],bl,[gsD u',fnsD u'],()⟩:Env Unit) ⟨1,0,some (56,6)⟩ k:=fun k h=>⟨rfl,gv',rfl,h⟩
 have hoa2:∀ k,fv'.ownBlock=some k→ownAt (⟨[hdV s.ts.length hd,gv',fv',.int .i64 s.err,.int .i64 s.pos],bl,[gsD u',fnsD u'],()⟩:Env Unit) ⟨2,1,some (60,8)⟩ k:=fun k h=>⟨rfl,fv',rfl,h⟩
 have m1:(⟨1,0,some (56,6)⟩:Fc) ∈ stE.fs:=by simp [stE,own2]
 have m2:(⟨2,1,some (60,8)⟩:Fc) ∈ stE.fs:=by simp [stE,own2]
 have hok:∀ k,okE (ctxE w' g b gv fv h0 (Nat.lt_of_lt_of_le hg hk.size) (Nat.lt_of_lt_of_le hg hb) hu.gg hu.gf) (⟨[hdV s.ts.length hd,gv',fv',.int .i64 s.err,.int .i64 s.pos],bl,[gsD u',fnsD u'],()⟩:Env Unit) stE.fs k→g<k∧gv'.ownBlock ≠ some k∧fv'.ownBlock ≠ some k:=fun k ⟨h1,h2,h3⟩=>by
  have h1:g≤k:=h1
  refine ⟨?_,fun h=>h3 _ m1 (hoa1 k h),fun h=>h3 _ m2 (hoa2 k h)⟩
  have:k ≠ g:=fun e=>h2 (e ▸ hgb)
  omega
 refine ⟨⟨hr.1,hr.2.1,_,_,j3,Rep.keep (fun _ h _=>h) (fun k hk2 _=>hkeep k hk2) _ _ hr.2.2.2⟩,⟨?_,?_,fun k h=>?_,fun k h=>?_,fun k h h'=>?_⟩,?_⟩
 ·obtain ⟨v,d,k1,k2,k3⟩:=hm.fs _ m1
  have k1:some gv'=some v:=k1
  have k2:some (gsD u')=some d:=k2
  injection k1 with k1
  injection k2 with k2
  subst k1 k2
  obtain ⟨l,k4,k5,_⟩:=k3
  injection k4 with _ k4
  subst k4
  exact k5.imp fun k hk _=>hok k hk
 ·obtain ⟨v,d,k1,k2,k3⟩:=hm.fs _ m2
  have k1:some fv'=some v:=k1
  have k2:some (fnsD u')=some d:=k2
  injection k1 with k1
  injection k2 with k2
  subst k1 k2
  obtain ⟨l,k4,k5,_⟩:=k3
  injection k4 with _ k4
  subst k4
  exact k5.imp fun k hk _=>hok k hk
 ·exact hnwg k (hm.own_lt m1 (hoa1 k h)).1 fun e=>hm.own _ m1 k (hoa1 k h) (e ▸ hgb)
 ·exact hnwg k (hm.own_lt m2 (hoa2 k h)).1 fun e=>hm.own _ m2 k (hoa2 k h) (e ▸ hgb)
 ·have:=hm.ownd _ m1 _ m2 k (hoa1 k h) (hoa2 k h')
  cases this
 ·have hs:=hm.keep.size
  refine ⟨hm.keep.os.trans hk.os,hm.keep.tape.trans hk.tape,hm.keep.output.trans hk.output,Nat.le_trans hk.size hs,fun k hx hl=>(hm.keep.block k (fun hy=>?_) (Nat.lt_of_lt_of_le hl hk.size)).trans (hk.block k (fun e=>hx (.inl e)) hl)⟩
  rcases hy with hy | hy | hy | hy | hy
  ·exact hy
  ·exact hx (.inl hy)
  ·omega
  ·exact hx (.inr (.inl hy))
  ·exact hx (.inr (.inr hy))
end Go.Proofs.YtdmacgoeikjdbaaGreatDoor
namespace Go.Proofs.YtdmacgoeikjdbaaGreatDoor
open Go.RowKit Sx
def cfE:Cfg:=⟨[],[(100 * 100 + 6,8),(100 * 89 + 1,8),(100 * 89 + 2,9),(100 * 56 + 4,1),(100 * 60 + 4,6),(100 * 60 + 5,9),(100 * 60 + 6,6)],[],sUnit,[],[]⟩
def TI13:Tree:=.nd (.bs 8 1 true [[(.v 5,.leaf),(.v 6,.leaf),(.v 7,.leaf),(.v 8,.leaf),(.v 9,.dat 2),(.v 10,.dat 3),(.c (.slice none 0 0),.nil 6),(.v 11,.leaf)]]) <|
 .nd (.app 8 (.dat 1) 4) <| .again 1000000 [.v 0,.v 1,.v 13,.v 3,.v 4] [(.v 1,.dat 0),(.v 13,.dat 5)]
abbrev stI13:Sx.St:=stB 5 60 [.v 5,.v 6,.v 7,.v 8,.v 9,.v 10,.c (.slice none 0 0),.v 11] [⟨9,2,none⟩,⟨10,3,none⟩] 12 4
theorem TI13_all:(regsT 13 (bodyT Tryz.prog 17)).map (fun x=>pieceS Tryz.prog cfE (.region 13 x.1 x.2) stI13 stE)=[some TI13]:=by kernel_rfl
def TI31:Tree:=.nd (.bs 6 1 true [[(.v 5,.leaf),(.v 6,.leaf),(.v 7,.leaf),(.v 8,.leaf),(.v 9,.dat 2),(.v 10,.leaf)]]) <|
 .nd (.app 6 (.dat 0) 3) <| .again 1000000 [.v 0,.v 12,.v 2,.v 3,.v 4] [(.v 12,.dat 4),(.v 2,.dat 1)]
abbrev stI31:Sx.St:=stB 6 56 [.v 5,.v 6,.v 7,.v 8,.v 9,.v 10] [⟨9,2,none⟩] 11 3
theorem TI31_all:(regsT 31 (bodyT Tryz.prog 17)).map (fun x=>pieceS Tryz.prog cfE (.region 31 x.1 x.2) stI31 stE)=[some TI31]:=by kernel_rfl
section
variable {w w':World} {g b:Nat} {gv fv:Value} {u:Un} {s:RS} {hd:Hd} {a:Act}
theorem tms_B {E:Env Unit} {tb:Nat} {TB:TypeId} {lsB:List L} {fsB:List Fc} {nv nd:Nat} (hb:E.blks=[g,b]) (hsz:a.tmps.size=149) (hdf:a.defers=[]) (h0:a.tmps[0]?=some (ptrV g)) (h5:a.tmps[tb]?=some (ptrV b)):Tms E (stB tb TB lsB fsB nv nd) a:=by
 refine ⟨hsz,hdf,fun t sv ht=>?_⟩
 have ht:=lookN_mem ht
 simp only [stB,List.mem_cons,List.not_mem_nil,or_false,Prod.mk.injEq] at ht
 rcases ht with ⟨rfl,rfl⟩ | ⟨rfl,rfl⟩
 ·exact ⟨ptrV g,by simp [SV.den,T2.den,L.den,hb],h0⟩
 ·exact ⟨ptrV b,by simp [SV.den,T2.den,L.den,hb],h5⟩
abbrev EndQ (w:World) (g:Nat) (gv fv:Value) (s:RS) (u':Un) (e:Exit) (a:Act) (w2:World):Prop:=e=.normal∧a.defers=[]∧∃ gv' fv',RdQ w2 g gv' fv' s∧UOk w2 g gv' fv' u'∧KeepX (UX g gv fv) w w2
theorem tail13 {ops:Array Oper} {bb:Bool} (hpc:pieceS Tryz.prog cfE (.region 13 ops bb) stI13 stE=some TI13) (hu:UOk w g gv fv u) (hk:KeepM g w w') (hr:RR g gv fv ⟨s,hd⟩ w') (hb:w.heap.size≤b) (hg:g<w.heap.size) (h0:0<g) (hn:u.funcs.length≤8) (hsz:a.tmps.size=149) (hdf:a.defers=[]) (ht0:a.tmps[0]?=some (ptrV g)) (ht5:a.tmps[5]?=some (ptrV b))
  {name:List UInt8} {ty:Ty} {params:List De} {body:List St} {pos:Int} {A B:Option Addr} {c d:Nat} (hbl:BlkIs w' b 60 #[strB name,.int .i64 ty.kind,.int .i64 ty.ptr,.int .i64 ty.len,.slice A params.length c,.slice B body.length d,.slice none 0 0,.int .i64 pos])
  (h1:Rep w' (fun k=>w.heap.size≤k∧k ≠ b) (desD params) [.slice A params.length c]) (h2:Rep w' (fun k=>w.heap.size≤k∧k ≠ b) (stsD body) [.slice B body.length d]) :
  (Code.region 13 ops bb).wp Tryz.prog (EndQ w g gv fv s ⟨u.globals,u.funcs ++ [⟨name,ty,params,body,[],pos⟩]⟩) a w':=by
 have hm:=end_mm (tb:=5) (TB:=60) (lsB:=[.v 5,.v 6,.v 7,.v 8,.v 9,.v 10,.c (.slice none 0 0),.v 11]) (fsB:=[⟨9,2,none⟩,⟨10,3,none⟩]) (vb:=[strB name,.int .i64 ty.kind,.int .i64 ty.ptr,.int .i64 ty.len,.slice A params.length c,.slice B body.length d,.int .i64 pos]) (db:=[desD params,stsD body]) hu hk hr hb hg h0 hbl rfl (by simp [Value.oneCell']) (by simp [Value.oneCell'])
  (fun f hf=>by
   simp only [List.mem_cons,List.not_mem_nil,or_false] at hf
   rcases hf with rfl | rfl
   ·exact ⟨rfl,_,_,rfl,rfl,h1⟩
   ·exact ⟨rfl,_,_,rfl,rfl,h2⟩)
 have hw:=piece_ok (V:=fun va dd _=>∃ fv',va=[hdV s.ts.length hd,gv,fv',.int .i64 s.err,.int .i64 s.pos]∧dd=[gsD u,fnsD ⟨u.globals,u.funcs ++ [⟨name,ty,params,body,[],pos⟩]⟩]) [] ⟨rfl,.inl rfl⟩ mixed rfl hpc ?_ (tms_B rfl hsz hdf ht0 ht5) hm
 ·refine wp_mono_region hw fun e a w2 ⟨he,va,dd,bl,σ,hbl,⟨fv',hva,hdd⟩,hT,hM⟩=>⟨he,hT.df,gv,fv',?_⟩
  have:=end_done hu hk hr hb hg h0 hM hva (u':=⟨u.globals,u.funcs ++ [⟨name,ty,params,body,[],pos⟩]⟩) hdd
  exact this
 ·unfold TI13
  refine h_bs (by simp only [rowsD,ldens,L.den,CD.den,leafD,rowD,List.cons_append,List.nil_append,List.getElem?_cons_zero,List.getElem?_cons_succ] <;> rfl) fun g2=>?_
  simp only [List.cons_append,List.nil_append]
  refine h_app rfl rfl (by simp only [List.length_map,List.length_cons,List.length_nil];omega) fun A2 c2=>?_
  simp only [List.cons_append,List.nil_append]
  refine h_again (by simp only [dens,L.den,List.getElem?_cons_zero,List.getElem?_cons_succ] <;> rfl) (by simp only [ldens,L.den,CD.den,List.getElem?_cons_zero,List.getElem?_cons_succ] <;> rfl) ⟨_,rfl,?_⟩
  simp [gsD,fnsD,encFn]
theorem tail31 {ops:Array Oper} {bb:Bool} (hpc:pieceS Tryz.prog cfE (.region 31 ops bb) stI31 stE=some TI31) (hu:UOk w g gv fv u) (hk:KeepM g w w') (hr:RR g gv fv ⟨s,hd⟩ w') (hb:w.heap.size≤b) (hg:g<w.heap.size) (h0:0<g) (hn:u.globals.length≤16) (hsz:a.tmps.size=149) (hdf:a.defers=[]) (ht0:a.tmps[0]?=some (ptrV g)) (ht5:a.tmps[6]?=some (ptrV b))
  {name:List UInt8} {ty:Ty} {init:List Int} {pos:Int} {A:Option Addr} {c:Nat} (hbl:BlkIs w' b 56 #[strB name,.int .i64 ty.kind,.int .i64 ty.ptr,.int .i64 ty.len,.slice A init.length c,.int .i64 pos])
  (h1:Rep w' (fun k=>w.heap.size≤k∧k ≠ b) (.lst 1 (init.map (.int .i64))) [.slice A init.length c]) :
  (Code.region 31 ops bb).wp Tryz.prog (EndQ w g gv fv s ⟨u.globals ++ [⟨name,ty,init,pos⟩],u.funcs⟩) a w':=by
 have hm:=end_mm (tb:=6) (TB:=56) (lsB:=[.v 5,.v 6,.v 7,.v 8,.v 9,.v 10]) (fsB:=[⟨9,2,none⟩]) (vb:=[strB name,.int .i64 ty.kind,.int .i64 ty.ptr,.int .i64 ty.len,.slice A init.length c,.int .i64 pos]) (db:=[.lst 1 (init.map (.int .i64))]) hu hk hr hb hg h0 hbl rfl (by simp [Value.oneCell']) (by simp [Value.oneCell'])
  (fun f hf=>by
   simp only [List.mem_cons,List.not_mem_nil,or_false] at hf
   subst hf
   exact ⟨rfl,_,_,rfl,rfl,h1⟩)
 have hw:=piece_ok (V:=fun va dd _=>∃ gv',va=[hdV s.ts.length hd,gv',fv,.int .i64 s.err,.int .i64 s.pos]∧dd=[gsD ⟨u.globals ++ [⟨name,ty,init,pos⟩],u.funcs⟩,fnsD u]) [] ⟨rfl,.inl rfl⟩ mixed rfl hpc ?_ (tms_B rfl hsz hdf ht0 ht5) hm
 ·refine wp_mono_region hw fun e a w2 ⟨he,va,dd,bl,σ,hbl,⟨gv',hva,hdd⟩,hT,hM⟩=>⟨he,hT.df,gv',fv,?_⟩
  have:=end_done hu hk hr hb hg h0 hM hva (u':=⟨u.globals ++ [⟨name,ty,init,pos⟩],u.funcs⟩) hdd
  exact this
 ·unfold TI31
  refine h_bs (by simp only [rowsD,ldens,L.den,CD.den,leafD,rowD,List.cons_append,List.nil_append,List.getElem?_cons_zero,List.getElem?_cons_succ] <;> rfl) fun g2=>?_
  simp only [List.cons_append,List.nil_append]
  refine h_app rfl rfl (by simp only [List.length_map,List.length_cons,List.length_nil];omega) fun A2 c2=>?_
  simp only [List.cons_append,List.nil_append]
  refine h_again (by simp only [dens,L.den,List.getElem?_cons_zero,List.getElem?_cons_succ] <;> rfl) (by simp only [ldens,L.den,CD.den,List.getElem?_cons_zero,List.getElem?_cons_succ] <;> rfl) ⟨_,rfl,?_⟩
  simp [gsD,fnsD,encDe]
end
end Go.Proofs.YtdmacgoeikjdbaaGreatDoor

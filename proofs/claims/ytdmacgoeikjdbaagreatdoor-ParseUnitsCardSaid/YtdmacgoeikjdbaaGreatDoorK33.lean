/- The reference's parser: a program. The reference's parser: it answers -/
import Derived.Test.YtdmacgoeikjdbaaGreatDoorK29
import Derived.Test.YtdmacgoeikjdbaaGreatDoorK31
import Derived.Test.YtdmacgoeikjdbaaGreatDoorK32
import Derived.Test.YtdmacgoeikjdbaaGreatDoorK02
import Derived.Outline
set_option linter.unusedSimpArgs false
set_option linter.unusedVariables false
set_option maxHeartbeats 4000000
namespace Go.Proofs.YtdmacgoeikjdbaaGreatDoor
open Go.RowKit Sx
abbrev noUn:Un:=⟨[],[]⟩
def parseT (r:List Tok × Int × Int):Un × Int × Int:=
 if r.2.1 ≠ 0 then (noUn,r.2.1,r.2.2)
 else match ploop 4000 2500 noUn r.1 with
  | .ok u _=>(u,0,0)
  | .bad f=>(noUn,f.err,f.pos)
  | .out=>(noUn,0,0)
def unV (u:Un) (A:Option Addr) (c:Nat) (B:Option Addr) (d:Nat):Value:=.agg #[.slice A u.globals.length c,.slice B u.funcs.length d]
def ParsePost (w:World) (r:Un × Int × Int) (e:Ending) (w':World):Prop:=∃ A c B d,e=.returned (.tuple #[unV r.1 A c B d,.agg #[.int .i64 r.2.1,.int .i64 r.2.2]]) ∧
 Rep w' (fun k=>w.heap.size≤k) (gsD r.1) [.slice A r.1.globals.length c]∧Rep w' (fun k=>w.heap.size≤k) (fnsD r.1) [.slice B r.1.funcs.length d]∧Below w.heap.size w w'
theorem ritem_len {f:Nat} {u u':Un} {s s':RS} (hx:ritem f u s=some (u',s')) (h1:u.funcs.length≤8) (h2:u.globals.length≤16):u'.funcs.length≤8∧u'.globals.length≤16:=by
 unfold ritem at hx
 simp only at hx
 split at hx
 ·cases hx;exact ⟨h1,h2⟩
 split at hx
 ·split at hx
  ·cases hx;exact ⟨h1,h2⟩
  ·obtain ⟨p,_,hx⟩:=Option.bind_eq_some_iff.1 hx
   generalize (if (rok p.2 && !ris [123] p.2)=true then rfail 4 p.2 else p.2)=s1 at hx
   split at hx
   ·obtain ⟨b,_,hx⟩:=Option.bind_eq_some_iff.1 hx
    cases hx
    exact ⟨by simp;omega,h2⟩
   ·cases hx
    exact ⟨by simp;omega,h2⟩
 ·split at hx
  ·cases hx;exact ⟨h1,h2⟩
  ·obtain ⟨p,_,hx⟩:=Option.bind_eq_some_iff.1 hx
   cases hx
   exact ⟨h1,by simp;omega⟩
theorem least_ex {P:Nat→Prop} (h:∃ n,P n):∃ m,P m∧∀ k,P k→m≤k:=by
 obtain ⟨n,hn⟩:=h
 induction n using Nat.strongRecOn with
 | ind n ih=>
  by_cases hx:∃ k,k<n∧P k
  ·obtain ⟨k,hk,hp⟩:=hx
   exact ih k hk hp
  ·exact ⟨n,hn,fun k hk=>Nat.le_of_not_lt fun hl=>hx ⟨k,hl,hk⟩⟩
open Classical in
noncomputable def leastOf (P:Nat→Prop):Nat:=if h:∃ n,P n then Classical.choose (least_ex h) else 0
theorem leastOf_spec {P:Nat→Prop} (h:∃ n,P n):P (leastOf P)∧∀ k,P k→leastOf P≤k:=by
 unfold leastOf
 rw [dif_pos h]
 exact Classical.choose_spec (least_ex h)
def outOf (q:Un × RS):Un × Int × Int:=if q.2.err ≠ 0 then (noUn,q.2.err,q.2.pos) else (q.1,0,0)
def ItemsRel (w:World) (g:Nat) (q:Un × RS) (wr:World) (f:Nat):Prop:=
 ∃ (u:Un) (s:RS) (gv fv:Value),RdQ wr g gv fv s∧UOk wr g gv fv u∧(u.funcs.length≤8∧u.globals.length≤16)∧rloop 900000 f u s=some q∧Below w.heap.size w wr ∧
  BlkIs wr w.heap.size 27 #[.slice none 0 0,.slice none 0 0]∧BlkIs wr (w.heap.size + 1) 29 #[.int .i64 0,.int .i64 0]
theorem ItemsRel.step {w wr w':World} {g:Nat} {gv fv:Value} {u:Un} (hu:UOk wr g gv fv u) (hg:w.heap.size + 1<g) (hs:w.heap.size + 2≤wr.heap.size) (hk:KeepX (UX g gv fv) wr w'):Below (w.heap.size + 2) wr w'∧∀ b t cs,b<w.heap.size + 2→BlkIs wr b t cs→BlkIs w' b t cs:=by
 have hx:∀ k,k<w.heap.size + 2→¬ UX g gv fv k:=fun k hl hx=>by
  rcases hx with h | h | h
  ·omega
  ·have:=hu.gg k h;omega
  ·have:=hu.gf k h;omega
 exact ⟨⟨hk.os,hk.tape,hk.output,hk.size,fun k hl=>hk.block k (hx k hl) (by omega)⟩,fun b t cs hl hb=>(hk.block b (hx b hl) hb.lt).trans hb⟩
theorem wp_store2 {P:Program} {op:Oper} {a:Act} {w:World} {K:Act→World→Prop} {Q:Exit→Act→World→Prop} (ty:TypeId) (x y:Operand) (ho:op.op=.store ty x y) (g:Nat) (hx:a.eval x=.pointer (some ⟨g,0,none⟩)) (v1 v2:Value) (hy:a.eval y=.agg #[v1,v2]) {t:TypeId} {c1 c2:Value} (hb:BlkIs w g t #[c1,c2])
  (hi:(P.info? ty).map (·.size)=some 2) (h1:v1.oneCell'=true) (h2:v2.oneCell'=true) (h:∀ w',BlkIs w' g t #[v1,v2]→KeepM g w w'→K (a.put op.dst undef) w'):op.wp P a w K Q:=by
 refine wp_store_mid ty x y ho g 0 #[v1,v2] hx hy (fun j hj=>?_) hi (by simp [h1,h2]) (h _ ((hb.put 0 v1).put 1 v2) (((KeepM.refl _ _).own 0 v1).own 1 v2))
 have hj:j<2:=hj
 have:j=0 ∨ j=1:=by omega
 rcases this with rfl | rfl
 ·exact ⟨by rw [Nat.add_zero,hb.cell 0];rfl,hb.frozen 0⟩
 ·exact ⟨by rw [hb.cell 1];rfl,hb.frozen 1⟩
set_option maxRecDepth 8000 in
theorem rparse_bad (s:ByteArray) (ts:List Tok) (er ps:Int) (he:er ≠ 0) (w:World) (hT:∀ W,Calls Tryz.prog 16 #[.string s] W (TokensPost W.heap.size W (ts,er,ps))) :
  Calls Tryz.prog 7 #[.string s] w (ParsePost w (noUn,er,ps)):=by
 have he2:(er != 0)=true:=by simpa using he
 have he:=Lib.hid he
 go_enter Tryz.func7,Tryz.ntmps7
 go_wp2_with fail
 refine (hT _).mono ?_
 rintro e w1 ⟨v,rfl,hrow,hb1⟩
 simp only at hrow ⊢
 have hs1:=hb1.size
 simp at hs1
 have k2:BlkIs w1 w.heap.size 27 #[.slice none 0 0,.slice none 0 0]:=((BlkIs.fresh _ _ _).alloc _).below hb1 (by simp;omega)
 have k3:BlkIs w1 (w.heap.size + 1) 29 #[.int .i64 0,.int .i64 0]:=(BlkIs.fresh_at (by simp)).below hb1 (by simp)
 have l2:=k2.lt
 have l3:=k3.lt
 have hbw:Below w.heap.size w w1:=Below.trans (Below.alloc (below_alloc _ _) (by simp) _) (hb1.mono (by simp;omega))
 go_wp2_with fail
 refine anyJ_begin 3 (fun W=>BlkIs W w1.heap.size 29 #[.int .i64 er,.int .i64 ps]) (by kernel_rfl) (BlkIs.fresh _ _ _).drew (fun hHeld=>?_)
 refine take (i:=0) (d:=some 15) (v:=.agg #[.slice none 0 0,.slice none 0 0]) (by kernel_rfl) rfl rfl rfl (fun _ _ _ h=>h) hHeld (fun W hSw=>by go_simp) ?_
 simp only [Act.put,List.setIfInBounds_toArray,List.set_cons_zero,List.set_cons_succ]
 refine take (i:=1) (d:=some 16) (v:=.agg #[.int .i64 er,.int .i64 ps]) (by kernel_rfl) rfl rfl rfl (fun _ _ _ h=>h) hHeld (fun W hSw=>by have x0:W.cell? ⟨w1.heap.size,0,none⟩=some (.int .i64 er):=BlkIs.cell hSw 0;have x1:W.cell? ⟨w1.heap.size,1,none⟩=some (.int .i64 ps):=BlkIs.cell hSw 1;go_simp) ?_
 simp only [Act.put,List.setIfInBounds_toArray,List.set_cons_zero,List.set_cons_succ]
 refine anyJ_only (i:=2) (d:=none) (by kernel_rfl) rfl rfl rfl (fun K' hK=>?_)
 refine wp_store2 27 _ _ rfl w.heap.size rfl (.slice none 0 0) (.slice none 0 0) rfl ((k2.alloc _).drew) (by kernel_rfl) rfl rfl (fun w2 b2 m2=>?_)
 have b2f:BlkIs w2 w1.heap.size 29 #[.int .i64 er,.int .i64 ps]:=BlkIs.keepM hHeld m2 (by omega)
 have b2r:BlkIs w2 (w.heap.size + 1) 29 #[.int .i64 0,.int .i64 0]:=BlkIs.keepM ((k3.alloc _).drew) m2 (by omega)
 have hb2:Below w.heap.size w w2:=(Below.drew (Below.alloc hbw (by omega) _)).trans (m2.below (by simp;omega))
 refine hK.out _ _ (fun _=>b2f) (fun hHeld=>?_)
 simp only [Act.put,List.setIfInBounds_toArray,List.set_cons_zero,List.set_cons_succ]
 refine anyJ_only (i:=3) (d:=none) (by kernel_rfl) rfl rfl rfl (fun K' hK=>?_)
 refine wp_store2 29 _ _ rfl (w.heap.size + 1) rfl (.int .i64 er) (.int .i64 ps) rfl b2r (by kernel_rfl) rfl rfl (fun w3 b3 m3=>?_)
 have b3u:=BlkIs.keepM b2 m3 (by omega)
 have hb3:Below w.heap.size w w3:=hb2.trans ((m3.below (Nat.le_of_lt b2r.lt)).mono (by omega))
 refine hK.out _ _ (fun h=>absurd rfl h) (fun _=>?_)
 simp only [Act.put,List.setIfInBounds_toArray,List.set_cons_zero,List.set_cons_succ]
 refine anyJ_done (by kernel_rfl) ?_ _
 go_wp2_with fail
 have z0:=b3u.cell 0
 have z1:=b3u.cell 1
 have z2:=b3.cell 0
 have z3:=b3.cell 1
 simp at z0 z1 z2 z3
 refine bodyPost_ret (v:=.tuple #[.agg #[.slice none 0 0,.slice none 0 0],.agg #[.int .i64 er,.int .i64 ps]]) (by simp [results,Tryz.results7,go_sem,z0,z1,z2,z3]) rfl ?_
 exact ⟨none,0,none,0,rfl,rep_none,rep_none,hb3⟩
theorem own_lt_size0 {w:World} {B:Nat} {v:Value} {ts:List Tok} (h:TokRow w B v ts) {k:Nat} (hk:v.ownBlock=some k):k<w.heap.size:=by
 rcases h.2 with ⟨hv,_⟩ | ⟨g,cap,cur,hv,hb,hh,_⟩
 ·rw [hv] at hk;cases hk
 ·rw [hv] at hk
  injection hk with hk
  subst hk
  exact lt_of_block hh
theorem tok_rep {w:World} {B:Nat} {v:Value} {ts:List Tok} (h:TokRow w B v ts):Rep w (fun k=>k<w.heap.size) (.lst 4 (ts.map encTok)) [v]:=by
 have hc:∀ ts:List Tok,Cells w (fun g=>g<w.heap.size∧some g ≠ v.ownBlock) 4 (ts.map encTok) (flat ts):=fun ts=>by
  induction ts with
  | nil=>rfl
  | cons t l ih=>exact ⟨t.cells,flat l,by simp [flat],rfl,rep_tok.2 rfl,ih⟩
 have ho:Own w B (fun g=>g<w.heap.size) 43 4 v (ts.map encTok):=⟨flat ts,by rw [List.length_map];exact h,hc ts⟩
 exact own_rep_ne ho (fun k h=>h) fun k hk=>own_lt_size0 h hk
set_option maxRecDepth 8000 in
theorem rparse_good (s:ByteArray) (ts:List Tok) (w:World) (hT:∀ W,Calls Tryz.prog 16 #[.string s] W (TokensPost W.heap.size W (ts,0,0))) (hW:Wf ts∧ts.length≤2001) (q:Un × RS) (hq:rloop 900000 2502 noUn ⟨ts,0,0⟩=some q) :
  Calls Tryz.prog 7 #[.string s] w (ParsePost w (outOf q)):=by
 go_enter Tryz.func7,Tryz.ntmps7
 go_wp2_with fail
 refine (hT _).mono ?_
 rintro e w1 ⟨v,rfl,hrow,hb1⟩
 simp only at hrow ⊢
 have hs1:=hb1.size
 simp at hs1
 have k2:BlkIs w1 w.heap.size 27 #[.slice none 0 0,.slice none 0 0]:=((BlkIs.fresh _ _ _).alloc _).below hb1 (by simp;omega)
 have k3:BlkIs w1 (w.heap.size + 1) 29 #[.int .i64 0,.int .i64 0]:=(BlkIs.fresh_at (by simp)).below hb1 (by simp)
 have l2:=k2.lt
 have l3:=k3.lt
 have hbw:Below w.heap.size w w1:=Below.trans (Below.alloc (below_alloc _ _) (by simp) _) (hb1.mono (by simp;omega))
 obtain ⟨A,c,rfl,hrw⟩:=hrow.form
 go_wp2_with fail
 have hts:0<ts.length:=by
  have:=hW.1
  rcases ts with _ | ⟨t,l⟩
  ·exact this.elim
  ·simp
 have hrep:Rep w1 (fun k=>k<w1.heap.size) (.lst 4 (ts.map encTok)) [.slice A ts.length c]:=tok_rep hrow
 obtain ⟨g,hg⟩:∃ g,Hid (w1.heap.size + 1=g):=⟨_,Lib.hid rfl⟩
 rw [hg.out]
 have hgl:w.heap.size + 2<g:=by have:=hg.out;omega
 go_loopw [20] (fun _ wr=>∃ f,ItemsRel w g q wr f) (fun _ wr=>leastOf (ItemsRel w g q wr))
 case atStart=>
  have hgg:g=(w1.alloc (.cells #[.int .i64 0,.int .i64 0] 29)).heap.size:=by simp;exact hg.out.symm
  refine ⟨2502,noUn,⟨ts,0,0⟩,.slice none 0 0,.slice none 0 0,⟨hts,⟨hW.2,hW.1⟩,A,c,BlkIs.fresh_at hgg,?_⟩,⟨Own.nil _ _ _ _ _,Own.nil _ _ _ _ _,fun k h=>(by cases h),fun k h=>(by cases h),fun k h=>(by cases h)⟩,⟨by simp,by simp⟩,hq,Below.alloc (Below.alloc hbw (by omega) _) (by simp;omega) _,(k2.alloc _).alloc _,(k3.alloc _).alloc _⟩
  exact Rep.keep (fun k h hl=>by first | (have:=hg.out;omega) | (simp;omega)) (fun k h hl=>by
   rw [Below.heap_alloc _ _ _ (by simp;omega),Below.heap_alloc _ _ _ h]) _ _ hrep
 case round=>
  obtain ⟨hm,hmin⟩:=leastOf_spec hrel
  clear hrel hmin
  obtain ⟨f,hf⟩:∃ f,Hid (leastOf (ItemsRel w g q wr)=f):=⟨_,Lib.hid rfl⟩
  rw [hf.out] at hm
  obtain ⟨u,st,gv,fv,hr,hu,hn,hx,hb,kr2,kr3⟩:=hm
  obtain ⟨f,rfl⟩:∃ f',f=f' + 1:=by
   cases f with
   | zero=>rw [rloop] at hx;cases hx
   | succ f=>exact ⟨f,rfl⟩
  rw [rloop] at hx
  obtain ⟨A2,c2,q2,off2,t0,rfl,hq2,hqg2,hc2,tk,_,_,_⟩:=hr.tok 0 hr.1
  obtain ⟨hr0,hr2,A3,c3,hblk,hrp⟩:=Lib.hid hr |>.out
  have e3:w.heap.size=w.heap.size:=rfl
  have ce:=hblk.cell 3
  simp at ce
  have hgw:=hblk.lt
  rw [← hdT_get hr.1] at tk
  simp only [Nat.mul_zero,Nat.add_zero] at tk
  obtain ⟨n,hnn⟩:∃ n,Hid (st.ts.length=n):=⟨_,Lib.hid rfl⟩
  have hn2:=hr.2.1.1
  rw [hnn.out] at t0 hn2 hc2 hr0
  by_cases h1:st.err=0
  ·have hok:rok st=true:=by simp [rok,h1]
   rw [hok,Bool.true_and] at hx
   rw [h1] at ce
   by_cases h2:(hdT st.ts).kind=0
   ·have e2:((hdT st.ts).kind != 0)=false:=by simpa using h2
    rw [e2] at hx
    rw [h2] at tk
    have hO:outOf q=(u,0,0):=by
     have hq:q=(u,st):=by injection hx with hx;exact hx.symm
     rw [hq,outOf,if_neg (by simpa using h1)]
    have hO:=Lib.hid hO
    obtain ⟨er,her⟩:∃ k,st.err=k:=⟨_,rfl⟩
    obtain ⟨ps,hps⟩:∃ k,st.pos=k:=⟨_,rfl⟩
    rw [her,hps,hnn.out] at hblk
    have hb:=Lib.hid hb
    obtain ⟨_,Ag,cg,rfl⟩:=own_one hu.ga
    obtain ⟨_,Af,cf,rfl⟩:=own_one hu.fa
    have HU:=Lib.hid hu
    obtain ⟨gn,hgn⟩:∃ k,Hid ((u.globals.map encDe).length=k):=⟨_,Lib.hid rfl⟩
    obtain ⟨fn,hfn⟩:∃ k,Hid ((u.funcs.map encFn).length=k):=⟨_,Lib.hid rfl⟩
    rw [hgn.out,hfn.out] at hblk
    clear hx h2 hq e2
    have h1:=Lib.hid h1
    have c1:=hblk.cell 1
    have c2:=hblk.cell 2
    simp at c1 c2
    have f20:=kr2.frozen 0
    have f21:=kr2.frozen 1
    have f30:=kr3.frozen 0
    have f31:=kr3.frozen 1
    have c20:=kr2.cell 0
    have c21:=kr2.cell 1
    have c30:=kr3.cell 0
    have c31:=kr3.cell 1
    simp at c20 c21 c30 c31
    have lz2:=kr2.lt
    have lz3:=kr3.lt
    go_wp2_with fail
    have k2':=(((kr2.put 0 (.slice Ag gn cg)).put 1 (.slice Af fn cf)).far (p:=⟨w.heap.size + 1,0,none⟩) (by simp) (.int .i64 0)).far (p:=⟨w.heap.size + 1,1,none⟩) (by simp) (.int .i64 0)
    have k3':=(((kr3.far (p:=⟨w.heap.size,0,none⟩) (by simp) (.slice Ag gn cg)).far (p:=⟨w.heap.size,1,none⟩) (by simp) (.slice Af fn cf)).put 0 (.int .i64 0)).put 1 (.int .i64 0)
    have z0:=k2'.cell 0
    have z1:=k2'.cell 1
    have z2:=k3'.cell 0
    have z3:=k3'.cell 1
    simp at z0 z1 z2 z3
    refine bodyPost_ret (v:=.tuple #[.agg #[.slice Ag gn cg,.slice Af fn cf],.agg #[.int .i64 0,.int .i64 0]]) (by simp [results,Tryz.results7,go_sem,z0,z1,z2,z3]) rfl ?_
    have hx:∀ (z:Nat) (v:Value) (ds:List D) (W:World),Rep wr (fun k=>g<k) (.lst z ds) [v]→Rep ((((wr.setCell ⟨w.heap.size,0,none⟩ (.slice Ag gn cg)).setCell ⟨w.heap.size,1,none⟩ (.slice Af fn cf)).setCell ⟨w.heap.size + 1,0,none⟩ (.int .i64 0)).setCell ⟨w.heap.size + 1,1,none⟩ (.int .i64 0)) (fun k=>w.heap.size≤k) (.lst z ds) [v]:=fun z v ds W h=>
     Rep.keep (fun k h _=>by omega) (fun k h hl=>(heap_setCell_other _ _ _ _ (by simp;omega)).trans ((heap_setCell_other _ _ _ _ (by simp;omega)).trans ((heap_setCell_other _ _ _ _ (by simp;omega)).trans (heap_setCell_other _ _ _ _ (by simp;omega))))) _ _ h
    have r1:=hx 6 _ _ wr (own_rep_ne HU.out.ga (fun k h=>h.1) HU.out.gg)
    have r2:=hx 8 _ _ wr (own_rep_ne HU.out.fa (fun k h=>h.1) HU.out.gf)
    have hbz:Below w.heap.size w ((((wr.setCell ⟨w.heap.size,0,none⟩ (.slice Ag gn cg)).setCell ⟨w.heap.size,1,none⟩ (.slice Af fn cf)).setCell ⟨w.heap.size + 1,0,none⟩ (.int .i64 0)).setCell ⟨w.heap.size + 1,1,none⟩ (.int .i64 0)):=Below.setCell (Below.setCell (Below.setCell (Below.setCell hb.out (by simp) _) (by simp) _) (by simp) _) (by simp) _
    have q1:u.globals.length=gn:=by rw [← hgn.out,List.length_map]
    have q2:u.funcs.length=fn:=by rw [← hfn.out,List.length_map]
    rw [hgn.out] at r1
    rw [hfn.out] at r2
    subst q1 q2
    first
     | exact ⟨Ag,cg,Af,cf,rfl,r1,r2,hbz⟩
     | (rw [hO.out];exact ⟨Ag,cg,Af,cf,rfl,r1,r2,hbz⟩)
   ·have e2:((hdT st.ts).kind != 0)=true:=by simpa using h2
    rw [e2] at hx
    simp only [if_true] at hx
    obtain ⟨⟨u2,st2⟩,hi,hx⟩:=Option.bind_eq_some_iff.1 hx
    simp only at hx
    obtain ⟨kd,hkd⟩:∃ k,(hdT st.ts).kind=k:=⟨_,rfl⟩
    rw [hkd] at tk e2
    clear hkd h2
    have HI:=fun W hr hu=>Lib.hid (ritem_any 900000 (Nat.le_refl _) u u2 st st2 g gv fv W hi hr hu (by omega) hn.1 hn.2)
    have hlen:=Lib.hid (ritem_len hi hn.1 hn.2)
    have hx:=Lib.hid hx
    have HU:=Lib.hid hu
    have hr:=Lib.hid hr
    have hb:=Lib.hid hb
    clear hi hn hu hblk hrp
    go_wp2_with fail
    refine ((HI _ hr.out HU.out).out).mono ?_
    rintro e w2 ⟨rfl,gv',fv',r2,u2k,k2x⟩
    have hstep:=ItemsRel.step (w:=w) HU.out (by omega) (by omega) k2x
    go_wp2_with fail
    go_roundw
    case rel=>exact ⟨f,u2,st2,gv',fv',r2,u2k,hlen.out,hx.out,hb.out.trans (hstep.1.mono (by omega)),hstep.2 _ _ _ (by omega) kr2,hstep.2 _ _ _ (by omega) kr3⟩
    case measure=>
     have:=(leastOf_spec (P:=ItemsRel w g q w2) ⟨f,u2,st2,gv',fv',r2,u2k,hlen.out,hx.out,hb.out.trans (hstep.1.mono (by omega)),hstep.2 _ _ _ (by omega) kr2,hstep.2 _ _ _ (by omega) kr3⟩).2 f ⟨u2,st2,gv',fv',r2,u2k,hlen.out,hx.out,hb.out.trans (hstep.1.mono (by omega)),hstep.2 _ _ _ (by omega) kr2,hstep.2 _ _ _ (by omega) kr3⟩
     have:=hf.out
     omega
  ·have hok:rok st=false:=by simpa [rok] using h1
   rw [hok] at hx
   have hq:q=(u,st):=by injection hx with hx;exact hx.symm
   have hO:outOf q=(noUn,st.err,st.pos):=by rw [hq,outOf,if_pos h1]
   have hO:=Lib.hid hO
   obtain ⟨er,her⟩:∃ k,st.err=k:=⟨_,rfl⟩
   obtain ⟨ps,hps⟩:∃ k,st.pos=k:=⟨_,rfl⟩
   rw [her] at ce h1
   rw [her,hps,hnn.out] at hblk
   have hb:=Lib.hid hb
   clear hx hq
   have e1:(er == 0)=false:=by simpa using h1
   have e2:(er != 0)=true:=by simpa using h1
   clear h1
   go_upto_region 8 with fail
   refine anyJ_begin 6 (fun W=>BlkIs W g 49 #[.slice A3 n c3,gv,fv,.int .i64 er,.int .i64 ps]) (by kernel_rfl) hblk.drew (fun hHeld=>?_)
   refine take (i:=0) (d:=some 44) (v:=.agg #[.slice none 0 0,.slice none 0 0]) (by kernel_rfl) rfl rfl rfl (fun _ _ _ h=>h) hHeld (fun W hSw=>by go_simp) ?_
   simp only [Act.put,List.setIfInBounds_toArray,List.set_cons_zero,List.set_cons_succ]
   refine take (i:=1) (d:=some 45) (v:=.pointer (some ⟨g,0,none⟩)) (by kernel_rfl) rfl rfl rfl (fun _ _ _ h=>h) hHeld (fun W hSw=>by go_simp) ?_
   simp only [Act.put,List.setIfInBounds_toArray,List.set_cons_zero,List.set_cons_succ]
   refine take (i:=2) (d:=some 46) (v:=.pointer (some ⟨g,0,none⟩)) (by kernel_rfl) rfl rfl rfl (fun _ _ _ h=>h) hHeld (fun W hSw=>by go_simp) ?_
   simp only [Act.put,List.setIfInBounds_toArray,List.set_cons_zero,List.set_cons_succ]
   refine take (i:=3) (d:=some 47) (v:=.pointer (some ⟨g,3,none⟩)) (by kernel_rfl) rfl rfl rfl (fun _ _ _ h=>h) hHeld (fun W hSw=>by go_simp) ?_
   simp only [Act.put,List.setIfInBounds_toArray,List.set_cons_zero,List.set_cons_succ]
   refine take (i:=4) (d:=some 48) (v:=.agg #[.int .i64 er,.int .i64 ps]) (by kernel_rfl) rfl rfl rfl (fun _ _ _ h=>h) hHeld (fun W hSw=>by have x0:W.cell? ⟨g,3,none⟩=some (.int .i64 er):=BlkIs.cell hSw 3;have x1:W.cell? ⟨g,4,none⟩=some (.int .i64 ps):=BlkIs.cell hSw 4;go_simp) ?_
   simp only [Act.put,List.setIfInBounds_toArray,List.set_cons_zero,List.set_cons_succ]
   refine anyJ_only (i:=5) (d:=none) (by kernel_rfl) rfl rfl rfl (fun K' hK=>?_)
   refine wp_store2 27 _ _ rfl w.heap.size rfl (.slice none 0 0) (.slice none 0 0) rfl kr2.drew (by kernel_rfl) rfl rfl (fun w2 b2 m2=>?_)
   have b2f:=BlkIs.keepM hHeld m2 (by omega)
   have b2r:BlkIs w2 (w.heap.size + 1) 29 #[.int .i64 0,.int .i64 0]:=BlkIs.keepM kr3.drew m2 (by omega)
   have hb2:Below w.heap.size w w2:=hb.out.drew.trans (m2.below (Nat.le_of_lt kr2.drew.lt))
   refine hK.out _ _ (fun _=>b2f) (fun hHeld=>?_)
   simp only [Act.put]
   refine anyJ_only (i:=6) (d:=none) (by kernel_rfl) rfl rfl rfl (fun K' hK=>?_)
   refine wp_store2 29 _ _ rfl (w.heap.size + 1) rfl (.int .i64 er) (.int .i64 ps) rfl b2r (by kernel_rfl) rfl rfl (fun w3 b3 m3=>?_)
   have b3u:=BlkIs.keepM b2 m3 (by omega)
   have hb3:Below w.heap.size w w3:=hb2.trans ((m3.below (Nat.le_of_lt b2r.lt)).mono (by omega))
   refine hK.out _ _ (fun h=>absurd rfl h) (fun _=>?_)
   simp only [Act.put]
   refine anyJ_done (by kernel_rfl) ?_ _
   go_wp2_with fail
   have z0:=b3u.cell 0
   have z1:=b3u.cell 1
   have z2:=b3.cell 0
   have z3:=b3.cell 1
   simp at z0 z1 z2 z3
   refine bodyPost_ret (v:=.tuple #[.agg #[.slice none 0 0,.slice none 0 0],.agg #[.int .i64 er,.int .i64 ps]]) (by simp [results,Tryz.results7,go_sem,z0,z1,z2,z3]) rfl ?_
   have hx:ParsePost w (noUn,er,ps) (.returned (.tuple #[.agg #[.slice none 0 0,.slice none 0 0],.agg #[.int .i64 er,.int .i64 ps]])) w3:=⟨none,0,none,0,rfl,rep_none,rep_none,hb3⟩
   first
    | exact hx
    | (rw [hO.out,her,hps];exact hx)
end Go.Proofs.YtdmacgoeikjdbaaGreatDoor
namespace Go.Proofs.YtdmacgoeikjdbaaGreatDoor
open Go.RowKit Sx
theorem rparse_any (s:ByteArray) (r:List Tok × Int × Int) (w:World) (hT:∀ W,Calls Tryz.prog 16 #[.string s] W (TokensPost W.heap.size W r)) (hW:r.2.1=0→Wf r.1∧r.1.length≤2001∧r.2.2=0) :
  Calls Tryz.prog 7 #[.string s] w (ParsePost w (parseT r)):=by
 obtain ⟨ts,er,ps⟩:=r
 by_cases he:er=0
 ·subst he
  obtain ⟨h1,h2,h3⟩:=hW rfl
  have h3:ps=0:=h3
  subst h3
  have hl:=ploop_lk 4000 900000 (by omega) 2500 2502 noUn ts (by omega)
  have hf:=ploop_fine 4000 2500 noUn h1 (by omega) (by omega)
  have hp:parseT (ts,0,0)=match ploop 4000 2500 noUn ts with
   | .ok u _=>(u,0,0)
   | .bad f=>(noUn,f.err,f.pos)
   | .out=>(noUn,0,0):=by unfold parseT;exact if_neg (by simp)
  rw [hp]
  cases hq:ploop 4000 2500 noUn ts with
  | out=>rw [hq] at hf;exact hf.elim
  | bad f=>
   rw [hq] at hl
   obtain ⟨e1,x,us,e2⟩:=hl
   have:=rparse_good s ts w hT ⟨h1,h2⟩ _ e2
   rw [outOf,if_pos e1] at this
   exact this
  | ok u us=>
   rw [hq] at hl
   have hl:rloop 900000 2502 noUn ⟨ts,0,0⟩=some (u,⟨us,0,0⟩):=hl
   have:=rparse_good s ts w hT ⟨h1,h2⟩ _ hl
   rw [outOf,if_neg (by simp)] at this
   exact this
 ·rw [parseT,if_pos he]
  exact rparse_bad s ts er ps he w hT
end Go.Proofs.YtdmacgoeikjdbaaGreatDoor
namespace Go.Proofs.YtdmacgoeikjdbaaGreatDoor
open Go.RowKit
def mfailAt (e p:Int) (s:RS):RS:=if rok s then ⟨[s.ts.getLastD noTokT],e,p⟩ else s
def mfail (e:Int) (s:RS):RS:=mfailAt e (hdT s.ts).pos s
def mnext (s:RS):RS:=if (hdT s.ts).kind != 0 then ⟨s.ts.tail,s.err,s.pos⟩ else s
def meat (x:List UInt8) (s:RS):Bool × RS:=if ris x s then (true,mnext s) else (false,s)
def mwant (x:List UInt8) (s:RS):RS:=if (meat x s).1 then (meat x s).2 else mfail 4 (meat x s).2
def mkind (k:Int) (s:RS):Tok × RS:=if (hdT s.ts).kind != k then (noTokT,mfail 4 s) else (hdT s.ts,mnext s)
def mdeep (d:Int) (s:RS):RS:=if 20<d then mfail 2 s else s
def intWords:List (List UInt8):=[bChar,bShort,bInt,bLong]
def mtyped (s:RS):Bool:=ris bVoid s || (ris bUnsigned s || ((hdT s.ts).kind == 4 && decide ((hdT s.ts).text ∈ intWords)))
def mkindL (u:Int):List (List UInt8)→Int→RS→Int × RS
 | [],_,s=>(0,mfail 4 s)
 | w :: l,k,s=>if (meat w s).1 then (k + u,(meat w s).2) else mkindL u l (k + 2) (meat w s).2
def mbase (s:RS):Int × RS:=
 if (meat bVoid s).1 then (0,(meat bVoid s).2)
 else mkindL (if (meat bUnsigned (meat bVoid s).2).1 then 1 else 0) intWords 1 (meat bUnsigned (meat bVoid s).2).2
def mstars:Nat→Int→RS→Int × RS
 | 0,n,s=>(n,s)
 | f + 1,n,s=>if ris [42] s then (if n == 3 then (n,mfail 2 s) else mstars f (n + 1) (mnext s)) else (n,s)
def mtyp (s:RS):Ty × RS:=(⟨(mbase s).1,(mstars 5 0 (mbase s).2).1,0⟩,(mstars 5 0 (mbase s).2).2)
def mnumber (s:RS):Int × RS:=
 (if (meat [45] s).1 then wrap64 (-(mkind 2 (meat [45] s).2).1.n) else (mkind 2 (meat [45] s).2).1.n,(mkind 2 (meat [45] s).2).2)
def mbetween (n p:Int) (s:RS):RS:=if rok s && (decide (n<1) || decide (64<n)) then mfailAt 10 p s else s
def mlength (s:RS):Int × RS:=
 if (meat [91] s).1 then ((mkind 2 (meat [91] s).2).1.n,mwant [93] (mbetween (mkind 2 (meat [91] s).2).1.n (hdT (meat [91] s).2.ts).pos (mkind 2 (meat [91] s).2).2))
 else (0,(meat [91] s).2)
def mfull (k len:Int) (s:RS):RS:=if k == len && (ris [45] s || (hdT s.ts).kind == 2) then mfail 10 s else s
def mvals:Nat→Int→List Int→RS→Option (List Int × RS)
 | 0,_,_,_=>none
 | f + 1,len,acc,s=>
  if rok s then
   let v:=mnumber (mfull acc.length len s)
   if (meat [44] v.2).1 then mvals f len (acc ++ [v.1]) (meat [44] v.2).2 else some (acc ++ [v.1],mwant [125] (meat [44] v.2).2)
  else some (acc,s)
def mvalues (f:Nat) (len:Int) (s:RS):Option (List Int × RS):=mvals f len [] (mwant [123] s)
def mnothing (s:RS):Bool × RS:=
 meat [41] (if ris bVoid s && ((s.ts.getD 1 noTokT).kind == 3 && (s.ts.getD 1 noTokT).text == [41]) then mnext s else s)
def mparams1:Nat→List De→RS→Option (List De × RS)
 | 0,_,_=>none
 | f + 1,acc,s=>
  if rok s then
   if acc.length=4 then some (acc,mfail 2 s)
   else
    let t:=mtyp s
    let n:=mkind 1 t.2
    let d:De:=⟨n.1.text,t.1,[],n.1.pos⟩
    if (meat [44] n.2).1 then mparams1 f (acc ++ [d]) (meat [44] n.2).2 else some (acc ++ [d],mwant [41] (meat [44] n.2).2)
  else some (acc,s)
def mparams (f:Nat) (s:RS):Option (List De × RS):=
 let s1:=mnothing (mwant [40] s)
 if s1.1 then some ([],s1.2) else mparams1 f [] s1.2
def massL:List (List UInt8 × Int):=assignL ++ [([60,61,61],23),([62,61,61],25),([61,61,61],26),([33,61,61],27)]
def massigns (x:List UInt8):Int:=lookS x massL
def misAss (x:List UInt8):Bool:=x == [61] || massigns x != 0
mutual
def mexpr:Nat→Int→RS→Option (Ex × RS)
 | 0,_,_=>none
 | f + 1,d,s=>(mcond f d (mdeep d s)).bind fun a=>
  if (hdT a.2.ts).kind != 3 || !misAss (hdT a.2.ts).text then some a
  else (mexpr f (d + 1) (mnext a.2)).bind fun b=>some (.mk 34 noTy [] (massigns (hdT a.2.ts).text) [a.1,b.1] (hdT a.2.ts).pos,b.2)
def mcond:Nat→Int→RS→Option (Ex × RS)
 | 0,_,_=>none
 | f + 1,d,s=>(mbinary f d 0 s).bind fun a=>
  if (meat [63] a.2).1 then
   (mexpr f (d + 1) (meat [63] a.2).2).bind fun b=>(mcond f (d + 1) (mdeep (d + 1) (mwant [58] b.2))).bind fun c=>some (.mk 33 noTy [] 0 [a.1,b.1,c.1] (hdT a.2.ts).pos,c.2)
  else some (a.1,(meat [63] a.2).2)
def mbinary:Nat→Int→Nat→RS→Option (Ex × RS)
 | 0,_,_,_=>none
 | f + 1,d,n,s=>if 9<n then munary f d s else (mbinary f d (n + 1) s).bind fun a=>mbinloop f d n a.1 a.2
def mbinloop:Nat→Int→Nat→Ex→RS→Option (Ex × RS)
 | 0,_,_,_,_=>none
 | f + 1,d,n,a,s=>
  if (hdT s.ts).kind == 3 && rlevel n (hdT s.ts).text != 0 then
   (mbinary f d (n + 1) (mnext s)).bind fun b=>mbinloop f d n (.mk (rlevel n (hdT s.ts).text) noTy [] 0 [a,b.1] (hdT s.ts).pos) b.2
  else some (a,s)
def moperand:Nat→Int→RS→Option (List Ex × RS)
 | 0,_,_=>none
 | f + 1,d,s=>(munary f d (mdeep d s)).bind fun x=>some ([x.1],x.2)
def munary:Nat→Int→RS→Option (Ex × RS)
 | 0,_,_=>none
 | f + 1,d,s=>
  if lookS (hdT s.ts).text prefixes != 0 && (hdT s.ts).kind == 3 then
   (moperand f (d + 1) (mnext s)).bind fun k=>some (.mk (lookS (hdT s.ts).text prefixes) noTy [] 0 k.1 (hdT s.ts).pos,k.2)
  else if (meat bSizeof s).1 then
   let s1:=mwant [40] (meat bSizeof s).2
   some (.mk 10 (mtyp s1).1 [] 0 [] (hdT s.ts).pos,mwant [41] (mtyp s1).2)
  else
   let s1:=(meat bSizeof s).2
   if ris [40] s1 then mcast f d s1
   else (mprimary f d s1).bind fun a=>mpostloop f d a.1 a.2
def mcast:Nat→Int→RS→Option (Ex × RS)
 | 0,_,_=>none
 | f + 1,d,s=>
  let s1:=mnext s
  if mtyped s1 then (moperand f (d + 1) (mwant [41] (mtyp s1).2)).bind fun k=>some (.mk 9 (mtyp s1).1 [] 0 k.1 (hdT s.ts).pos,k.2)
  else (mexpr f (d + 1) s1).bind fun e=>mpostloop f d e.1 (mwant [41] e.2)
def mpostloop:Nat→Int→Ex→RS→Option (Ex × RS)
 | 0,_,_,_=>none
 | f + 1,d,a,s=>
  if (meat [91] s).1 then (mexpr f (d + 1) (meat [91] s).2).bind fun i=>mpostloop f d (.mk 3 noTy [] 0 [a,i.1] (hdT s.ts).pos) (mwant [93] i.2)
  else if (meat [43,43] (meat [91] s).2).1 then mpostloop f d (.mk 13 noTy [] 0 [a] (hdT s.ts).pos) (meat [43,43] (meat [91] s).2).2
  else if (meat [45,45] (meat [43,43] (meat [91] s).2).2).1 then mpostloop f d (.mk 14 noTy [] 0 [a] (hdT s.ts).pos) (meat [45,45] (meat [43,43] (meat [91] s).2).2).2
  else some (a,(meat [45,45] (meat [43,43] (meat [91] s).2).2).2)
def mprimary:Nat→Int→RS→Option (Ex × RS)
 | 0,_,_=>none
 | f + 1,d,s=>
  if (hdT s.ts).kind == 2 then some (.mk 1 noTy [] (hdT s.ts).n [] (hdT s.ts).pos,mnext s)
  else if (hdT s.ts).kind == 1 then
   let s1:=mnext s
   if (meat [40] s1).1 then (margs f (d + 1) (meat [40] s1).2).bind fun k=>some (.mk 35 noTy (hdT s.ts).text 0 k.1 (hdT s.ts).pos,k.2)
   else some (.mk 2 noTy (hdT s.ts).text 0 [] (hdT s.ts).pos,(meat [40] s1).2)
  else some (noEx,mfail 4 s)
def margs:Nat→Int→RS→Option (List Ex × RS)
 | 0,_,_=>none
 | f + 1,d,s=>if (meat [41] s).1 then some ([],(meat [41] s).2) else margloop f d [] (meat [41] s).2
def margloop:Nat→Int→List Ex→RS→Option (List Ex × RS)
 | 0,_,_,_=>none
 | f + 1,d,acc,s=>
  if rok s then
   if acc.length=4 then some (acc,mfail 2 s)
   else (mexpr f d s).bind fun x=>if (meat [44] x.2).1 then margloop f d (acc ++ [x.1]) (meat [44] x.2).2 else some (acc ++ [x.1],mwant [41] (meat [44] x.2).2)
  else some (acc,s)
end
def mparen (f:Nat) (d:Int) (s:RS):Option (Ex × RS):=(mexpr f d (mwant [40] s)).bind fun e=>some (e.1,mwant [41] e.2)
def mperhaps (f:Nat) (d:Int) (x:List UInt8) (s:RS):Option (Ex × RS):=if ris x s then some (noEx,s) else mexpr f d s
def mdecl (f:Nat) (d p:Int) (s:RS):Option (St × RS):=
 let ty:=mtyp s
 let n:=mkind 1 ty.2
 let l:=mlength n.2
 if l.1 == 0 then
  if (meat [61] l.2).1 then (mexpr f (d + 1) (meat [61] l.2).2).bind fun e=>some (.mk 2 [e.1] [] ⟨ty.1.kind,ty.1.ptr,l.1⟩ n.1.text 0 p,mwant [59] e.2)
  else some (.mk 2 [] [] ⟨ty.1.kind,ty.1.ptr,l.1⟩ n.1.text 0 p,mwant [59] (meat [61] l.2).2)
 else some (.mk 2 [] [] ⟨ty.1.kind,ty.1.ptr,l.1⟩ n.1.text 0 p,mwant [59] l.2)
def mshort (f:Nat) (d p:Int) (s:RS):Option (St × RS):=
 if (meat bCase s).1 then
  let v:=mnumber (meat bCase s).2
  some (.mk 9 [] [] noTy [] v.1 p,mwant [58] v.2)
 else
 let s:=(meat bCase s).2
 if (meat bDefault s).1 then some (.mk 10 [] [] noTy [] 0 p,mwant [58] (meat bDefault s).2)
 else
 let s:=(meat bDefault s).2
 if (meat bBreak s).1 then some (.mk 11 [] [] noTy [] 0 p,mwant [59] (meat bBreak s).2)
 else
 let s:=(meat bBreak s).2
 if (meat bContinue s).1 then some (.mk 12 [] [] noTy [] 0 p,mwant [59] (meat bContinue s).2)
 else
 let s:=(meat bContinue s).2
 if (meat bGoto s).1 then
  let n:=mkind 1 (meat bGoto s).2
  some (.mk 14 [] [] noTy n.1.text 0 p,mwant [59] n.2)
 else
 let s:=(meat bGoto s).2
 if (meat bReturn s).1 then
  let s1:=(meat bReturn s).2
  if ris [59] s1 then some (.mk 13 [] [] noTy [] 0 p,mwant [59] s1)
  else (mexpr f (d + 1) s1).bind fun e=>some (.mk 13 [e.1] [] noTy [] 0 p,mwant [59] e.2)
 else
 let s:=(meat bReturn s).2
 (mexpr f (d + 1) s).bind fun e=>some (.mk 1 [e.1] [] noTy [] 0 p,mwant [59] e.2)
mutual
def mblock:Nat→Int→RS→Option (List St × RS)
 | 0,_,_=>none
 | f + 1,d,s=>mblkloop f d [] (mwant [123] s)
def mblkloop:Nat→Int→List St→RS→Option (List St × RS)
 | 0,_,_,_=>none
 | f + 1,d,acc,s=>
  if rok s && !ris [125] s then
   if (hdT s.ts).kind == 0 then some (acc,mwant [125] (mfail 4 s))
   else (mstmt f (d + 1) s).bind fun x=>mblkloop f d (acc ++ [x.1]) x.2
  else some (acc,mwant [125] s)
def mfor:Nat→Int→Int→RS→Option (St × RS)
 | 0,_,_,_=>none
 | f + 1,d,p,s=>(mperhaps f (d + 1) [59] (mwant [40] s)).bind fun a=>(mperhaps f (d + 1) [59] (mwant [59] a.2)).bind fun b=>(mperhaps f (d + 1) [41] (mwant [59] b.2)).bind fun c=>
  (mstmt f (d + 1) (mwant [41] c.2)).bind fun x=>some (.mk 7 [a.1,b.1,c.1] [x.1] noTy [] 0 p,x.2)
def mword:Nat→Int→Int→RS→Option (St × RS)
 | 0,_,_,_=>none
 | f + 1,d,p,s=>
  if (meat bIf s).1 then
   (mparen f (d + 1) (meat bIf s).2).bind fun e=>(mstmt f (d + 1) e.2).bind fun b=>
    if (meat bElse b.2).1 then (mstmt f (d + 1) (meat bElse b.2).2).bind fun c=>some (.mk 4 [e.1] [b.1,c.1] noTy [] 0 p,c.2)
    else some (.mk 4 [e.1] [b.1] noTy [] 0 p,(meat bElse b.2).2)
  else
  let s:=(meat bIf s).2
  if (meat bWhile s).1 then (mparen f (d + 1) (meat bWhile s).2).bind fun e=>(mstmt f (d + 1) e.2).bind fun b=>some (.mk 5 [e.1] [b.1] noTy [] 0 p,b.2)
  else
  let s:=(meat bWhile s).2
  if (meat bSwitch s).1 then (mparen f (d + 1) (meat bSwitch s).2).bind fun e=>(mstmt f (d + 1) e.2).bind fun b=>some (.mk 8 [e.1] [b.1] noTy [] 0 p,b.2)
  else
  let s:=(meat bSwitch s).2
  if (meat bDo s).1 then (mstmt f (d + 1) (meat bDo s).2).bind fun b=>(mparen f (d + 1) (mwant bWhile b.2)).bind fun e=>some (.mk 6 [e.1] [b.1] noTy [] 0 p,mwant [59] e.2)
  else
  let s:=(meat bDo s).2
  if (meat bFor s).1 then mfor f d p (meat bFor s).2
  else mshort f d p (meat bFor s).2
def mstmt:Nat→Int→RS→Option (St × RS)
 | 0,_,_=>none
 | f + 1,d,s0=>
  let s:=mdeep d s0
  let t:=hdT s.ts
  if t.kind == 4 then
   if mtyped s then mdecl f d t.pos s else mword f d t.pos s
  else if (meat [59] s).1 then some (.mk 16 [] [] noTy [] 0 t.pos,(meat [59] s).2)
  else
   let s1:=(meat [59] s).2
   if ris [123] s1 then (mblock f d s1).bind fun b=>some (.mk 3 [] b.1 noTy [] 0 t.pos,b.2)
   else if t.kind == 1 && ((s1.ts.getD 1 noTokT).kind == 3 && (s1.ts.getD 1 noTokT).text == [58]) then some (.mk 15 [] [] noTy t.text 0 t.pos,mnext (mnext s1))
   else (mexpr f (d + 1) s1).bind fun e=>some (.mk 1 [e.1] [] noTy [] 0 t.pos,mwant [59] e.2)
end
def mglobal (f:Nat) (u:Un) (nm:List UInt8) (t:Ty) (p:Int) (s:RS):Option (Un × RS):=
 if u.globals.length=16 then some (u,mfailAt 2 p s)
 else
  let l:=mlength s
  if (meat [61] l.2).1 then
   if 0<l.1 then (mvalues f l.1 (meat [61] l.2).2).bind fun v=>some (⟨u.globals ++ [⟨nm,⟨t.kind,t.ptr,l.1⟩,v.1,p⟩],u.funcs⟩,mwant [59] v.2)
   else
    let v:=mnumber (meat [61] l.2).2
    some (⟨u.globals ++ [⟨nm,⟨t.kind,t.ptr,l.1⟩,[v.1],p⟩],u.funcs⟩,mwant [59] v.2)
  else some (⟨u.globals ++ [⟨nm,⟨t.kind,t.ptr,l.1⟩,[],p⟩],u.funcs⟩,mwant [59] (meat [61] l.2).2)
def mitem (f:Nat) (u:Un) (s:RS):Option (Un × RS):=
 let t:=mtyp s
 let n:=mkind 1 t.2
 if !rok n.2 then some (u,n.2)
 else if !ris [40] n.2 then mglobal f u n.1.text t.1 n.1.pos n.2
 else if u.funcs.length=8 then some (u,mfailAt 2 n.1.pos n.2)
 else (mparams f n.2).bind fun p=>(mblock f 1 p.2).bind fun b=>some (⟨u.globals,u.funcs ++ [⟨n.1.text,t.1,p.1,b.1,[],n.1.pos⟩]⟩,b.2)
def mloop (g:Nat):Nat→Un→RS→Option (Un × RS)
 | 0,_,_=>none
 | f + 1,u,s=>if rok s && (hdT s.ts).kind != 0 then (mitem g u s).bind fun r=>mloop g f r.1 r.2 else some (u,s)
end Go.Proofs.YtdmacgoeikjdbaaGreatDoor

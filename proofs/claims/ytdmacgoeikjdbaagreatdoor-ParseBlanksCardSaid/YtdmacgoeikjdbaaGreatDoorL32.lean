/- The program's parser: a program. -/
import Derived.Test.YtdmacgoeikjdbaaGreatDoorL31
import Derived.Outline
set_option linter.unusedSimpArgs false
set_option linter.unusedVariables false
set_option maxHeartbeats 4000000
namespace Go.Proofs.YtdmacgoeikjdbaaGreatDoor
open Go.RowKit Sx
theorem LibW.mono {g g':Nat} {w:World} (h:LibW g w) (hg:g≤g'):LibW g' w:=by
 obtain ⟨h0,h1,k,h2,h3,h4⟩:=h
 exact ⟨by omega,h1,k,h2,by omega,h4⟩
theorem Sx.KeepX.belowX {X:Nat→Prop} {B:Nat} {w w':World} (h:KeepX X w w') (hB:B≤w.heap.size) (hX:∀ k,X k→B≤k):Below B w w':=
 ⟨h.os,h.tape,h.output,h.size,fun k hl=>h.block k (fun hx=>by have:=hX k hx;omega) (by omega)⟩
theorem BlkIs.keepX {X:Nat→Prop} {g:Nat} {t:TypeId} {cs:Array Value} {w w':World} (h:BlkIs w g t cs) (hk:KeepX X w w') (hg:¬ X g):BlkIs w' g t cs:=(hk.block g hg h.lt).trans h
set_option maxRecDepth 8000 in
theorem pparse_bad (s:ByteArray) (ts:List Tok) (er ps:Int) (he:er ≠ 0) (w:World) (hT:∀ W,Below w.heap.size w W→Calls Tryz.prog 12 #[.string s] W (TokensPost W.heap.size W (ts,er,ps))) :
  Calls Tryz.prog 6 #[.string s] w (ParsePost w (noUn,er,ps)):=by
 have he2:(er != 0)=true:=by simpa using he
 have he:=Lib.hid he
 go_enter Tryz.func6,Tryz.ntmps6
 go_wp2_with fail
 refine (hT _ (Below.alloc (below_alloc _ _) (by simp) _)).mono ?_
 rintro e w1 ⟨v,rfl,hrow,hb1⟩
 simp only at hrow ⊢
 have hs1:=hb1.size
 simp at hs1
 have k2:BlkIs w1 w.heap.size 27 #[.slice none 0 0,.slice none 0 0]:=((BlkIs.fresh _ _ _).alloc _).below hb1 (by simp;omega)
 have k3:BlkIs w1 (w.heap.size + 1) 29 #[.int .i64 0,.int .i64 0]:=(BlkIs.fresh_at (by simp)).below hb1 (by simp)
 have l2:=k2.lt
 have l3:=k3.lt
 have hbw:Below w.heap.size w w1:=Below.trans (Below.alloc (below_alloc _ _) (by simp) _) (hb1.mono (by simp;omega))
 go_wp2_with fail
 refine anyJ_begin 3 (fun W=>BlkIs W w1.heap.size 29 #[.int .i64 er,.int .i64 ps]) (by kernel_rfl) (BlkIs.fresh _ _ _).drew (fun hHeld=>?_)
 refine take (i:=0) (d:=some 16) (v:=.agg #[.slice none 0 0,.slice none 0 0]) (by kernel_rfl) rfl rfl rfl (fun _ _ _ h=>h) hHeld (fun W hSw=>by go_simp) ?_
 simp only [Act.put,List.setIfInBounds_toArray,List.set_cons_zero,List.set_cons_succ]
 refine take (i:=1) (d:=some 17) (v:=.agg #[.int .i64 er,.int .i64 ps]) (by kernel_rfl) rfl rfl rfl (fun _ _ _ h=>h) hHeld (fun W hSw=>by have x0:W.cell? ⟨w1.heap.size,0,none⟩=some (.int .i64 er):=BlkIs.cell hSw 0;have x1:W.cell? ⟨w1.heap.size,1,none⟩=some (.int .i64 ps):=BlkIs.cell hSw 1;go_simp) ?_
 simp only [Act.put,List.setIfInBounds_toArray,List.set_cons_zero,List.set_cons_succ]
 refine anyJ_only (i:=2) (d:=none) (by kernel_rfl) rfl rfl rfl (fun K' hK=>?_)
 refine wp_store2 27 _ _ rfl w.heap.size rfl (.slice none 0 0) (.slice none 0 0) rfl ((k2.alloc _).drew) (by kernel_rfl) rfl rfl (fun w2 b2 m2=>?_)
 have b2f:BlkIs w2 w1.heap.size 29 #[.int .i64 er,.int .i64 ps]:=BlkIs.keepM hHeld m2 (by omega)
 have b2r:BlkIs w2 (w.heap.size + 1) 29 #[.int .i64 0,.int .i64 0]:=BlkIs.keepM ((k3.alloc _).drew) m2 (by omega)
 have hb2:Below w.heap.size w w2:=(Below.drew (Below.alloc hbw (by omega) _)).trans (m2.below (by simp;omega))
 refine hK.out _ _ (fun _=>b2f) (fun hHeld=>?_)
 simp only [Act.put,List.setIfInBounds_toArray,List.set_cons_zero,List.set_cons_succ]
 refine anyJ_only (i:=3) (d:=none) (by kernel_rfl) rfl rfl rfl (fun K' hK=>?_)
 refine wp_store2 29 _ _ rfl (w.heap.size + 1) rfl (.int .i64 er) (.int .i64 ps) rfl b2r (by kernel_rfl) rfl rfl (fun w3 b3 m3=>?_)
 have b3u:=BlkIs.keepM b2 m3 (by omega)
 have hb3:Below w.heap.size w w3:=hb2.trans ((m3.below (Nat.le_of_lt b2r.lt)).mono (by omega))
 refine hK.out _ _ (fun h=>absurd rfl h) (fun _=>?_)
 simp only [Act.put,List.setIfInBounds_toArray,List.set_cons_zero,List.set_cons_succ]
 refine anyJ_done (by kernel_rfl) ?_ _
 go_wp2_with fail
 have z0:=b3u.cell 0
 have z1:=b3u.cell 1
 have z2:=b3.cell 0
 have z3:=b3.cell 1
 simp at z0 z1 z2 z3
 refine bodyPost_ret (v:=.tuple #[.agg #[.slice none 0 0,.slice none 0 0],.agg #[.int .i64 er,.int .i64 ps]]) (by simp [results,Tryz.results6,go_sem,z0,z1,z2,z3]) rfl ?_
 exact ⟨none,0,none,0,rfl,rep_none,rep_none,hb3⟩
theorem tok_field0 (kd:Int) (tx:List UInt8) (nn tp:Int) (w:World):Sem.run Tryz.prog (Instr.field 43 (.agg #[.int .i64 kd,.string ⟨tx.toArray⟩,.int .i64 nn,.int .i64 tp]) 0) w=.ok (.int .i64 kd) w:=by kernel_rfl
def ProgRel (w:World) (g:Nat) (q:Un × RS) (wr:World) (f:Nat):Prop:=
 ∃ (u:Un) (s:RS) (h:QH) (gv fv:Value),QR g ⟨s,h⟩ wr∧BlkIs wr (g + 1) 27 #[gv,fv]∧UOk wr (g + 1) gv fv u∧(u.funcs.length≤8∧u.globals.length≤16)∧mloop 900000 f u s=some q∧Below w.heap.size w wr ∧
  BlkIs wr w.heap.size 27 #[.slice none 0 0,.slice none 0 0]∧BlkIs wr (w.heap.size + 1) 29 #[.int .i64 0,.int .i64 0]
theorem ProgRel.keep {w wr w':World} {g:Nat} {q:Un × RS} {f:Nat} {u:Un} {s:RS} {h:QH} {gv fv:Value} (hg:w.heap.size + 2≤g) (hk:KeepM g wr w') (hbl:BlkIs wr (g + 1) 27 #[gv,fv]) (hu:UOk wr (g + 1) gv fv u) (hb:Below w.heap.size w wr)
  (k2:BlkIs wr w.heap.size 27 #[.slice none 0 0,.slice none 0 0]) (k3:BlkIs wr (w.heap.size + 1) 29 #[.int .i64 0,.int .i64 0]) :
  BlkIs w' (g + 1) 27 #[gv,fv]∧UOk w' (g + 1) gv fv u∧Below w.heap.size w w'∧BlkIs w' w.heap.size 27 #[.slice none 0 0,.slice none 0 0]∧BlkIs w' (w.heap.size + 1) 29 #[.int .i64 0,.int .i64 0]:=by
 have hl:=hbl.lt
 have hkX:KeepX (fun k=>k=g) wr w':=KeepX.ofM hk rfl
 have hown:∀ {e:TypeId} {z:Nat} {v:Value} {ds:List D},Own wr 0 (fun k=>g + 1<k∧gv.ownBlock ≠ some k∧fv.ownBlock ≠ some k) e z v ds→(∀ k,v.ownBlock=some k→g + 1<k)→Own w' 0 (fun k=>g + 1<k∧gv.ownBlock ≠ some k∧fv.ownBlock ≠ some k) e z v ds:=fun {e z v ds} ho hgt=>by
  obtain ⟨xs,h1,h2⟩:=ho
  refine ⟨xs,⟨h1.1,?_⟩,Cells.keep (fun _ h _=>h) (fun k hk2 hl=>hk.block k (by have:=hk2.1.1;omega) hl) h2⟩
  rcases h1.2 with h3 | ⟨q,cap,cur,hv,hb,hh,hr⟩
  ·exact .inl h3
  ·exact .inr ⟨q,cap,cur,hv,hb,(hk.block q (by have:=hgt q (by rw [hv];rfl);omega) (lt_of_block hh)).trans hh,hr⟩
 exact ⟨hbl.keepM hk (by omega),⟨hown hu.ga hu.gg,hown hu.fa hu.gf,hu.gg,hu.gf,hu.ne⟩,hb.trans ((hk.below (by omega)).mono (by omega)),k2.keepM hk (by omega),k3.keepM hk (by omega)⟩
set_option maxRecDepth 8000 in
theorem pparse_good (s:ByteArray) (ts:List Tok) (w:World) (hL:LibW w.heap.size w) (hT:∀ W,Below w.heap.size w W→Calls Tryz.prog 12 #[.string s] W (TokensPost W.heap.size W (ts,0,0))) (hW:Wf ts∧ts.length≤2001) (htx:∀ t ∈ ts,t.text.length≤1000000) (q:Un × RS) (hq:mloop 900000 2501 noUn ⟨ts,0,0⟩=some q) :
  Calls Tryz.prog 6 #[.string s] w (ParsePost w (outOf q)):=by
 go_enter Tryz.func6,Tryz.ntmps6
 go_wp2_with fail
 refine (hT _ (Below.alloc (below_alloc _ _) (by simp) _)).mono ?_
 rintro e w1 ⟨v,rfl,hrow,hb1⟩
 simp only at hrow ⊢
 have hs1:=hb1.size
 simp at hs1
 have k2:BlkIs w1 w.heap.size 27 #[.slice none 0 0,.slice none 0 0]:=((BlkIs.fresh _ _ _).alloc _).below hb1 (by simp;omega)
 have k3:BlkIs w1 (w.heap.size + 1) 29 #[.int .i64 0,.int .i64 0]:=(BlkIs.fresh_at (by simp)).below hb1 (by simp)
 have l2:=k2.lt
 have l3:=k3.lt
 have hbw:Below w.heap.size w w1:=Below.trans (Below.alloc (below_alloc _ _) (by simp) _) (hb1.mono (by simp;omega))
 have hts:0<ts.length:=by
  have:=hW.1
  rcases ts with _ | ⟨t,l⟩
  ·exact this.elim
  ·simp
 obtain ⟨q0,c,rfl,hq0⟩:∃ q0 c,v=.slice (some ⟨q0,0,none⟩) ts.length c∧q0<w1.heap.size:=by
  rcases hrow.2 with ⟨_,h0⟩ | ⟨q0,cap,cur,hv,hb,hh,_⟩
  ·omega
  ·exact ⟨q0,cap,hv,lt_of_block hh⟩
 have hrep:Rep w1 (fun k=>k<w1.heap.size) (.lst 4 (ts.map encTok)) [.slice (some ⟨q0,0,none⟩) ts.length c]:=tok_rep hrow
 have hL1:LibW w1.heap.size w1:=(hL.stable (fun k hk=>hbw.block k hk)).mono (by omega)
 go_wp2_with fail
 obtain ⟨g,hg⟩:∃ g,Hid (w1.heap.size + 1=g):=⟨_,Lib.hid rfl⟩
 have hgl:w.heap.size + 2<g:=by have:=hg.out;omega
 have hgg2:w1.heap.size + 1 + 1=g + 1:=by have:=hg.out;omega
 simp only [hgg2]
 simp only [hg.out]
 clear hgg2
 go_loopw [22] (fun _ wr=>∃ f,ProgRel w g q wr f) (fun _ wr=>leastOf (ProgRel w g q wr))
 case atStart=>
  have hgg:g=(w1.alloc (.cells #[.int .i64 0,.int .i64 0] 29)).heap.size:=by simp;exact hg.out.symm
  refine ⟨2501,noUn,⟨ts,0,0⟩,⟨q0,0,c,0,ts⟩,.slice none 0 0,.slice none 0 0,⟨⟨hts,hW.2,hW.1,rfl,htx⟩,?_,?_,?_⟩,?_,⟨Own.nil _ _ _ _ _,Own.nil _ _ _ _ _,fun k h=>(by cases h),fun k h=>(by cases h),fun k h=>(by cases h)⟩,⟨by simp,by simp⟩,hq,?_,?_,?_⟩
  ·exact (BlkIs.fresh_at hgg).alloc _
  ·exact Rep.keep (fun k h hl=>by have:=hg.out;omega) (fun k h hl=>by
    rw [Below.heap_alloc _ _ _ (by simp;omega),Below.heap_alloc _ _ _ (by simp;omega),Below.heap_alloc _ _ _ h]) _ _ hrep
  ·refine LibW.mono (hL1.stable fun k hk=>?_) (by have:=hg.out;omega)
   rw [Below.heap_alloc _ _ _ (by simp;omega),Below.heap_alloc _ _ _ (by simp;omega),Below.heap_alloc _ _ _ hk]
  ·exact BlkIs.fresh_at (by simp;exact hg.out.symm)
  ·exact Below.alloc (Below.alloc (Below.alloc hbw (by omega) _) (by simp;omega) _) (by simp;omega) _
  ·exact ((k2.alloc _).alloc _).alloc _
  ·exact ((k3.alloc _).alloc _).alloc _
 case round=>
  obtain ⟨hm,hmin⟩:=leastOf_spec hrel
  clear hrel hmin
  obtain ⟨f,hf⟩:∃ f,Hid (leastOf (ProgRel w g q wr)=f):=⟨_,Lib.hid rfl⟩
  rw [hf.out] at hm
  obtain ⟨u,st,h,gv,fv,hr,hbl,hu,hn,hx,hb,kr2,kr3⟩:=hm
  obtain ⟨f,rfl⟩:∃ f',f=f' + 1:=by
   cases f with
   | zero=>rw [mloop] at hx;cases hx
   | succ f=>exact ⟨f,rfl⟩
  rw [mloop] at hx
  have HB:=bad_calls hr
  have HT:=fun W (hr:QR g ⟨st,h⟩ W)=>tok_calls hr
  obtain ⟨⟨kd,tx,nn,tp⟩,htk⟩:∃ t,hdT st.ts=t:=⟨_,rfl⟩
  simp only [htk] at HT hx
  clear htk
  simp only [Tok.val,tokVal] at HT
  have HR:=Lib.hid hr
  have hfld:=fun W=>tok_field0 kd tx nn tp W
  by_cases hok:rok st=true
  ·simp only [hok,Bool.not_true] at HB
   simp only [hok,Bool.true_and] at hx
   by_cases h2:kd=0
   ·have e2:(kd != 0)=false:=by simpa using h2
    simp only [e2,Bool.false_eq_true,if_false] at hx
    injection hx with hx
    have he0:st.err=0:=by simpa [rok] using hok
    have hO:=Lib.hid (show outOf q=(u,0,0) by rw [← hx,outOf,if_neg (by simpa using he0)])
    subst h2
    clear hx e2 hr
    have HU:=Lib.hid hu
    have HBL:=Lib.hid hbl
    have hb:=Lib.hid hb
    have K2:=Lib.hid kr2
    have K3:=Lib.hid kr3
    clear hu hbl kr2 kr3
    go_wp2_with fail
    refine HB.mono ?_
    rintro e w2 ⟨rfl,r2,m2⟩
    go_wp2_with fail
    refine (HT _ r2).mono ?_
    rintro e w3 ⟨rfl,r3,m3⟩
    obtain ⟨bl3,u3,b3,k23,k33⟩:=ProgRel.keep (q:=q) (f:=f) (s:=st) (h:=h) (by omega) (m2.trans m3) HBL.out HU.out hb.out K2.out K3.out
    have HB4:=bad_calls r3
    have hok4:rok (⟨st,h⟩:QS).s=true:=hok
    rw [hok4,Bool.not_true] at HB4
    have HB4:=Lib.hid HB4
    have U3:=Lib.hid u3
    have B3:=Lib.hid bl3
    have K23:=Lib.hid k23
    have K33:=Lib.hid k33
    have HB3:=Lib.hid b3
    clear r2 m2 m3 bl3 u3 b3 k23 k33 hok4
    go_wp2_with fail
    refine HB4.out.mono ?_
    rintro e w4 ⟨rfl,r4,m4⟩
    obtain ⟨bl4,u4,b4,k24,k34⟩:=ProgRel.keep (q:=q) (f:=f) (s:=st) (h:=h) (by omega) m4 B3.out U3.out HB3.out K23.out K33.out
    obtain ⟨_,Ag,cg,rfl⟩:=own_one u4.ga
    obtain ⟨_,Af,cf,rfl⟩:=own_one u4.fa
    have r1:=own_rep_ne u4.ga (fun k h=>h.1) u4.gg
    have r2:=own_rep_ne u4.fa (fun k h=>h.1) u4.gf
    have HR1:=Lib.hid r1
    have HR2:=Lib.hid r2
    obtain ⟨gn,hgn⟩:∃ k,Hid ((u.globals.map encDe).length=k):=⟨_,Lib.hid rfl⟩
    obtain ⟨fn,hfn⟩:∃ k,Hid ((u.funcs.map encFn).length=k):=⟨_,Lib.hid rfl⟩
    rw [hgn.out,hfn.out] at bl4
    clear r1 r2 u4 r4 m4
    have c1:=bl4.cell 0
    have c2:=bl4.cell 1
    simp at c1 c2
    have f20:=k24.frozen 0
    have f21:=k24.frozen 1
    have f30:=k34.frozen 0
    have f31:=k34.frozen 1
    have c20:=k24.cell 0
    have c21:=k24.cell 1
    have c30:=k34.cell 0
    have c31:=k34.cell 1
    simp at c20 c21 c30 c31
    have lz2:=k24.lt
    have lz3:=k34.lt
    have HB5:=Lib.hid b4
    clear b4
    go_wp2_with fail
    have k2':=(((k24.put 0 (.slice Ag gn cg)).put 1 (.slice Af fn cf)).far (p:=⟨w.heap.size + 1,0,none⟩) (by simp) (.int .i64 0)).far (p:=⟨w.heap.size + 1,1,none⟩) (by simp) (.int .i64 0)
    have k3':=(((k34.far (p:=⟨w.heap.size,0,none⟩) (by simp) (.slice Ag gn cg)).far (p:=⟨w.heap.size,1,none⟩) (by simp) (.slice Af fn cf)).put 0 (.int .i64 0)).put 1 (.int .i64 0)
    have z0:=k2'.cell 0
    have z1:=k2'.cell 1
    have z2:=k3'.cell 0
    have z3:=k3'.cell 1
    simp at z0 z1 z2 z3
    refine bodyPost_ret (v:=.tuple #[.agg #[.slice Ag gn cg,.slice Af fn cf],.agg #[.int .i64 0,.int .i64 0]]) (by simp [results,Tryz.results6,go_sem,z0,z1,z2,z3]) rfl ?_
    have hx:∀ (z:Nat) (v:Value) (ds:List D),Rep w4 (fun k=>g + 1<k) (.lst z ds) [v]→Rep ((((w4.setCell ⟨w.heap.size,0,none⟩ (.slice Ag gn cg)).setCell ⟨w.heap.size,1,none⟩ (.slice Af fn cf)).setCell ⟨w.heap.size + 1,0,none⟩ (.int .i64 0)).setCell ⟨w.heap.size + 1,1,none⟩ (.int .i64 0)) (fun k=>w.heap.size≤k) (.lst z ds) [v]:=fun z v ds h=>
     Rep.keep (fun k h _=>by omega) (fun k h hl=>(heap_setCell_other _ _ _ _ (by simp;omega)).trans ((heap_setCell_other _ _ _ _ (by simp;omega)).trans ((heap_setCell_other _ _ _ _ (by simp;omega)).trans (heap_setCell_other _ _ _ _ (by simp;omega))))) _ _ h
    have r1:=hx 6 _ _ HR1.out
    have r2:=hx 8 _ _ HR2.out
    have hbz:Below w.heap.size w ((((w4.setCell ⟨w.heap.size,0,none⟩ (.slice Ag gn cg)).setCell ⟨w.heap.size,1,none⟩ (.slice Af fn cf)).setCell ⟨w.heap.size + 1,0,none⟩ (.int .i64 0)).setCell ⟨w.heap.size + 1,1,none⟩ (.int .i64 0)):=Below.setCell (Below.setCell (Below.setCell (Below.setCell HB5.out (by simp) _) (by simp) _) (by simp) _) (by simp) _
    have q1:u.globals.length=gn:=by rw [← hgn.out,List.length_map]
    have q2:u.funcs.length=fn:=by rw [← hfn.out,List.length_map]
    rw [hgn.out] at r1
    rw [hfn.out] at r2
    subst q1 q2
    first
     | exact ⟨Ag,cg,Af,cf,rfl,r1,r2,hbz⟩
     | (rw [hO.out];exact ⟨Ag,cg,Af,cf,rfl,r1,r2,hbz⟩)
   ·have e2:(kd != 0)=true:=by simpa using h2
    simp only [e2,if_true] at hx
    obtain ⟨⟨u2,st2⟩,hi,hx⟩:=Option.bind_eq_some_iff.1 hx
    simp only at hx
    have HI:=fun W h gv fv hr hb hu=>Lib.hid (witem_any u u2 st st2 g (g + 1) gv fv W h hi hr hb hu (by omega) hn.1 hn.2)
    have hlen:=Lib.hid (mitem_len hi hn.1 hn.2)
    have hx:=Lib.hid hx
    have HU:=Lib.hid hu
    have HBL:=Lib.hid hbl
    have hb:=Lib.hid hb
    have K2:=Lib.hid kr2
    have K3:=Lib.hid kr3
    clear hi hn hu hbl hr kr2 kr3 h2
    go_wp2_with fail
    refine HB.mono ?_
    rintro e w2 ⟨rfl,r2,m2⟩
    go_wp2_with fail
    refine (HT _ r2).mono ?_
    rintro e w3 ⟨rfl,r3,m3⟩
    obtain ⟨bl3,u3,b3,k23,k33⟩:=ProgRel.keep (q:=q) (f:=f) (s:=st) (h:=h) (by omega) (m2.trans m3) HBL.out HU.out hb.out K2.out K3.out
    have HI3:=HI _ _ _ _ r3 bl3 u3
    have U3:=Lib.hid u3
    have K23:=Lib.hid k23
    have K33:=Lib.hid k33
    have HB3:=Lib.hid b3
    have L3:=Lib.hid bl3.lt
    clear r2 m2 m3 bl3 u3 b3 k23 k33 r3 HI
    go_wp2_with fail
    refine HI3.out.mono ?_
    rintro e w4 ⟨rfl,gv',fv',h',r4,bl4,u4,kx⟩
    have hX:∀ k,(k=g ∨ UX (g + 1) gv fv k)→g≤k:=fun k hk=>by
     rcases hk with rfl | rfl | hk | hk
     ·omega
     ·omega
     ·have:=U3.out.gg k hk;omega
     ·have:=U3.out.gf k hk;omega
    have hsz:=L3.out
    have hR2:∀ f',mloop 900000 f' u2 st2=some q→ProgRel w g q w4 f':=fun f' hx=>⟨u2,st2,h',gv',fv',r4,bl4,u4,hlen.out,hx,HB3.out.trans ((kx.belowX (by omega) hX).mono (by omega)),K23.out.keepX kx (fun h=>by have:=hX _ h;omega),K33.out.keepX kx (fun h=>by have:=hX _ h;omega)⟩
    clear r4 bl4 u4 kx HI3
    go_wp2_with fail
    go_roundw
    case rel=>exact ⟨f,hR2 f hx.out⟩
    case measure=>
     have:=(leastOf_spec (P:=ProgRel w g q w4) ⟨f,hR2 f hx.out⟩).2 f (hR2 f hx.out)
     have:=hf.out
     omega
  ·have hok:rok st=false:=by simpa using hok
   simp only [hok,Bool.not_false] at HB
   simp only [hok,Bool.false_and,Bool.false_eq_true,if_false] at hx
   injection hx with hx
   have h1:st.err ≠ 0:=by simpa [rok] using hok
   have hO:=Lib.hid (show outOf q=(noUn,st.err,st.pos) by rw [← hx,outOf,if_pos h1])
   clear hx hr HT
   have HU:=Lib.hid hu
   have HBL:=Lib.hid hbl
   have hb:=Lib.hid hb
   have K2:=Lib.hid kr2
   have K3:=Lib.hid kr3
   clear hu hbl kr2 kr3
   go_wp2_with fail
   refine HB.mono ?_
   rintro e w2 ⟨rfl,r2,m2⟩
   obtain ⟨bl3,u3,b3,k23,k33⟩:=ProgRel.keep (q:=q) (f:=f) (s:=st) (h:=h) (by omega) m2 HBL.out HU.out hb.out K2.out K3.out
   have HB4:=bad_calls r2
   have hok4:rok (⟨st,h⟩:QS).s=false:=hok
   rw [hok4,Bool.not_false] at HB4
   have HB4:=Lib.hid HB4
   have U3:=Lib.hid u3
   have B3:=Lib.hid bl3
   have K23:=Lib.hid k23
   have K33:=Lib.hid k33
   have HB3:=Lib.hid b3
   clear r2 m2 bl3 u3 b3 k23 k33 hok4
   go_wp2_with fail
   refine HB4.out.mono ?_
   rintro e w4 ⟨rfl,r4,m4⟩
   obtain ⟨bl4,u4,b4,k24,k34⟩:=ProgRel.keep (q:=q) (f:=f) (s:=st) (h:=h) (by omega) m4 B3.out U3.out HB3.out K23.out K33.out
   have hblk:=r4.2.1
   obtain ⟨er,her⟩:∃ k,st.err=k:=⟨_,rfl⟩
   obtain ⟨ps,hps⟩:∃ k,st.pos=k:=⟨_,rfl⟩
   simp only [her,hps] at hblk
   clear bl4 u4 r4 m4 h1
   go_upto_region 9 with fail
   refine anyJ_begin 6 (fun W=>BlkIs W g 41 #[allV h,.int .i64 h.at_,.int .i64 er,.int .i64 ps]) (by kernel_rfl) hblk.drew (fun hHeld=>?_)
   refine take (i:=0) (d:=some 35) (v:=.agg #[.slice none 0 0,.slice none 0 0]) (by kernel_rfl) rfl rfl rfl (fun _ _ _ h=>h) hHeld (fun W hSw=>by go_simp) ?_
   simp only [Act.put,List.setIfInBounds_toArray,List.set_cons_zero,List.set_cons_succ]
   refine take (i:=1) (d:=some 36) (v:=.pointer (some ⟨g,0,none⟩)) (by kernel_rfl) rfl rfl rfl (fun _ _ _ h=>h) hHeld (fun W hSw=>by go_simp) ?_
   simp only [Act.put,List.setIfInBounds_toArray,List.set_cons_zero,List.set_cons_succ]
   refine take (i:=2) (d:=some 37) (v:=.pointer (some ⟨g,0,none⟩)) (by kernel_rfl) rfl rfl rfl (fun _ _ _ h=>h) hHeld (fun W hSw=>by go_simp) ?_
   simp only [Act.put,List.setIfInBounds_toArray,List.set_cons_zero,List.set_cons_succ]
   refine take (i:=3) (d:=some 38) (v:=.pointer (some ⟨g,2,none⟩)) (by kernel_rfl) rfl rfl rfl (fun _ _ _ h=>h) hHeld (fun W hSw=>by go_simp) ?_
   simp only [Act.put,List.setIfInBounds_toArray,List.set_cons_zero,List.set_cons_succ]
   refine take (i:=4) (d:=some 39) (v:=.agg #[.int .i64 er,.int .i64 ps]) (by kernel_rfl) rfl rfl rfl (fun _ _ _ h=>h) hHeld (fun W hSw=>by have x0:W.cell? ⟨g,2,none⟩=some (.int .i64 er):=BlkIs.cell hSw 2;have x1:W.cell? ⟨g,3,none⟩=some (.int .i64 ps):=BlkIs.cell hSw 3;go_simp) ?_
   simp only [Act.put,List.setIfInBounds_toArray,List.set_cons_zero,List.set_cons_succ]
   refine anyJ_only (i:=5) (d:=none) (by kernel_rfl) rfl rfl rfl (fun K' hK=>?_)
   refine wp_store2 27 _ _ rfl w.heap.size rfl (.slice none 0 0) (.slice none 0 0) rfl k24.drew (by kernel_rfl) rfl rfl (fun w5 b5 m5=>?_)
   have b5f:=BlkIs.keepM hHeld m5 (by omega)
   have b5r:BlkIs w5 (w.heap.size + 1) 29 #[.int .i64 0,.int .i64 0]:=BlkIs.keepM k34.drew m5 (by omega)
   have hb5:Below w.heap.size w w5:=b4.drew.trans (m5.below (Nat.le_of_lt k24.drew.lt))
   refine hK.out _ _ (fun _=>b5f) (fun hHeld=>?_)
   simp only [Act.put]
   refine anyJ_only (i:=6) (d:=none) (by kernel_rfl) rfl rfl rfl (fun K' hK=>?_)
   refine wp_store2 29 _ _ rfl (w.heap.size + 1) rfl (.int .i64 er) (.int .i64 ps) rfl b5r (by kernel_rfl) rfl rfl (fun w6 b6 m6=>?_)
   have b6u:=BlkIs.keepM b5 m6 (by omega)
   have hb6:Below w.heap.size w w6:=hb5.trans ((m6.below (Nat.le_of_lt b5r.lt)).mono (by omega))
   refine hK.out _ _ (fun h=>absurd rfl h) (fun _=>?_)
   simp only [Act.put]
   refine anyJ_done (by kernel_rfl) ?_ _
   go_wp2_with fail
   have z0:=b6u.cell 0
   have z1:=b6u.cell 1
   have z2:=b6.cell 0
   have z3:=b6.cell 1
   simp at z0 z1 z2 z3
   refine bodyPost_ret (v:=.tuple #[.agg #[.slice none 0 0,.slice none 0 0],.agg #[.int .i64 er,.int .i64 ps]]) (by simp [results,Tryz.results6,go_sem,z0,z1,z2,z3]) rfl ?_
   have hx:ParsePost w (noUn,er,ps) (.returned (.tuple #[.agg #[.slice none 0 0,.slice none 0 0],.agg #[.int .i64 er,.int .i64 ps]])) w6:=⟨none,0,none,0,rfl,rep_none,rep_none,hb6⟩
   first
    | exact hx
    | (rw [hO.out,her,hps];exact hx)
theorem LibW.cell {g:Nat} {w:World} (h:LibW g w):∃ m,w.cell? ⟨0,0,none⟩=some (.int .i64 m):=h.2.1
theorem pparse_any (s:ByteArray) (hs:s.size≤9223372036854775807) (w:World) (hL:LibW w.heap.size w):Calls Tryz.prog 6 #[.string s] w (ParsePost w (parseT (tokensT s.data.toList))):=by
 have hT:∀ W,Below w.heap.size w W→Calls Tryz.prog 12 #[.string s] W (TokensPost W.heap.size W (tokensT s.data.toList)):=fun W hb=>by
  by_cases hl:s.size≤2000
  ·have hLW:LibW w.heap.size W:=hL.stable fun k hk=>hb.block k hk
   obtain ⟨m,hm⟩:=hLW.cell
   exact tokens_any s hl W m hm (by have:=hL.1;have:=hb.size;omega)
  ·have:tokensT s.data.toList=([],2,0):=by
    unfold tokensT
    rw [if_pos (by simp;omega)]
   rw [this]
   exact tokens_long s (by omega) W hs
 by_cases he:(tokensT s.data.toList).2.1=0
 ·have hf:=tokFacts he
  obtain ⟨⟨ts,er,ps⟩,hr⟩:∃ r,tokensT s.data.toList=r:=⟨_,rfl⟩
  obtain ⟨hwx,hle,hz,htx,_⟩:=hf
  rw [hr] at hT he hwx hle hz htx ⊢
  simp only at he hz hwx hle htx
  subst he hz
  have hl:=ploop_mk 4000 900000 (by omega) 2500 2501 noUn ts hwx (by omega)
  have hfi:=ploop_fine 4000 2500 noUn hwx.1 (by omega) (by omega)
  have hp:parseT (ts,0,0)=match ploop 4000 2500 noUn ts with
   | .ok u _=>(u,0,0)
   | .bad f=>(noUn,f.err,f.pos)
   | .out=>(noUn,0,0):=by unfold parseT;exact if_neg (by simp)
  rw [hp]
  cases hq:ploop 4000 2500 noUn ts with
  | out=>rw [hq] at hfi;exact hfi.elim
  | bad f=>
   rw [hq] at hl
   obtain ⟨e1,x,us,_,e2⟩:=hl
   have:=pparse_good s ts w hL hT ⟨hwx.1,hle⟩ htx _ e2
   rw [outOf,if_pos e1] at this
   exact this
  | ok u us=>
   rw [hq] at hl
   have:=pparse_good s ts w hL hT ⟨hwx.1,hle⟩ htx _ hl.2
   rw [outOf,if_neg (by simp)] at this
   exact this
 ·obtain ⟨⟨ts,er,ps⟩,hr⟩:∃ r,tokensT s.data.toList=r:=⟨_,rfl⟩
  rw [hr] at hT he ⊢
  rw [parseT,if_pos he]
  exact pparse_bad s ts er ps he w hT
end Go.Proofs.YtdmacgoeikjdbaaGreatDoor

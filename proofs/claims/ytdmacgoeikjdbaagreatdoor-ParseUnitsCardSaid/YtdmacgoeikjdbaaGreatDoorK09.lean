/- The reference's parser: expressions. (printed by gen_pbk.py) -/
import Derived.Test.YtdmacgoeikjdbaaGreatDoorK08
import Derived.Test.YtdmacgoeikjdbaaGreatDoorK02
set_option maxHeartbeats 16000000
namespace Go.Proofs.YtdmacgoeikjdbaaGreatDoor
open Go.RowKit
set_option maxRecDepth 100000 in
theorem wp_exs {o:Oper} {a:Act} {K:Act→World→Prop} {Q:Exit→Act→World→Prop} {w:World} (n:Nat) (parts:Array (Nat × Operand)) (ho:o.op=.buildSlice 87 n parts) (Vs:List Value) (rows:List (Array Value)) (hV:Vs=rows.map Value.agg)
  (hpi:parts.toList.map (·.1)=List.range' 0 parts.toList.length) (hpv:parts.toList.map (fun p=>a.eval p.2)=Vs) (hs:∀ r ∈ rows,r.size=8) (hn:rows.length=n) (h0:0<n) (h1:n≤100)
  (h:∀ w':World,Below w.heap.size w w'→(∀ (l:List Ex) (ok:Nat→Prop),AllEx w ok l rows→Rep w' (fun k=>ok k ∨ w.heap.size≤k) (.lst 8 (l.map encEx)) [.slice (some ⟨w.heap.size,0,none⟩) n n])→K (a.put o.dst (.slice (some ⟨w.heap.size,0,none⟩) n n)) w'):Oper.wp Tryz.prog o a w K Q:=by
 subst hV
 have h:=h _ (below_alloc w (.cells (rows.flatMap (·.toList)).toArray 100)) (fun l ok hA=>by
  have hl:=hA.length
  have:=hA.slice (by omega)
  rw [show l.length=n by omega] at this
  exact this)
 obtain ⟨i0,hi0,hz0,hz1,hz2⟩:=info_parts ex_info
 refine wp_buildSlice 87 100 n parts ho _ i0 _ Tryz.underlying87 hi0 hz0 (by rw [hz1];omega) (by rw [hz1];omega) ?_ h
 rw [parts_row a parts _ hpi hpv,hz1]
 have h2:∀ v ∈ rows.map Value.agg,v.cells.size=8:=fun v hv=>by
  obtain ⟨r,hr,rfl⟩:=List.mem_map.1 hv
  exact hs r hr
 rw [Great.fill_whole (by decide) _ _ h2 (by simp [hn])]
 congr 2
 rw [List.flatMap_map]
 rfl
theorem AllEx.below {w w':World} {ok:Nat→Prop} (hb:Below w.heap.size w w'):∀ {l:List Ex} {m:List (Array Value)},AllEx w ok l m→AllEx w' ok l m
 | [],[],_=>trivial
 | [],_ :: _,h=>h.elim
 | _ :: _,[],h=>h.elim
 | _ :: _,_ :: _,h=>⟨h.1,h.2.1.below hb,AllEx.below hb h.2.2⟩
set_option maxRecDepth 100000 in
theorem rexpr_step (f:Nat) (ihc:RCondOk f) (ihe:RExprOk f):RExprOk (f + 1):=by
 intro d s s' x g gv fv w hx hd hr
 rw [rexpr] at hx
 obtain ⟨⟨a,s1⟩,h1,h2⟩:=Option.bind_eq_some_iff.1 hx
 simp only at h2
 have hd1:=hd.1
 have hd2:=hd.2
 have hca:=fun W hq=>ihc d (rdeep d s) s1 a g gv fv W h1 ⟨hd1,by omega⟩ hq
 have H2:=Lib.hid h2
 clear hx h1 h2 hd
 have hl:=hr.lt
 have hb0:=below_alloc w (.cells exZ 100)
 have y0:BlkIs (w.alloc (.cells exZ 100)) w.heap.size 100 exZ:=BlkIs.fresh _ _ _
 have r0:=hr.below hb0
 have k00:=KeepM.of (gm:=g) hb0
 obtain ⟨gy,hgy⟩:∃ x,Hid (w.heap.size=x):=⟨_,Lib.hid rfl⟩
 have hgyw:w.heap.size≤gy:=Nat.le_of_eq hgy.out
 have hgy2:g<gy:=by omega
 rw [hgy.out] at y0
 clear hr hb0
 obtain ⟨w0,hw0⟩:∃ W,Hid (w.alloc (.cells exZ 100)=W):=⟨_,Lib.hid rfl⟩
 rw [hw0.out] at y0 r0 k00
 have ho:=rok_any g gv fv s w0 r0
 rcases rdeep_cases d s with ⟨o1,c1⟩ | ⟨o1,o2,c1⟩ | ⟨o1,o2,c1⟩
 ·rw [o1] at ho
  rw [c1] at hca
  go_enter Tryz.func90,Tryz.ntmps90
  go_wp2_with fail
  rw [hw0.out,hgy.out]
  refine ho.mono ?_
  rintro e w1 ⟨rfl,rfl⟩
  obtain ⟨w1,rfl⟩:∃ W:World,w0=W:=⟨_,rfl⟩
  have y1:=y0
  have r1:=r0
  have k01:=k00
  clear y0 r0 k00 ho hw0 c1 o1
  go_wp2_with fail
  refine (hca _ r1).mono ?_
  rintro e w2 ⟨V1,X1,hV1,hS1,rfl,hA2,kk,r2⟩
  have hsz2:=y1.lt
  have y2:=y1.keepM kk (by omega)
  have k02:=k01.trans kk
  have hA2:=hA2.imp (ok':=fun k=>gy<k) (fun k hk _=>by omega)
  clear y1 r1 k01 kk hsz2 hca
  go_upto_region 4 with (refine wpList_storeV rfl 100 (.tmp 5) (.tmp 18) rfl _ V1 X1 hV1.out rfl rfl 100 _ (BlkIs.fresh _ _ _) (by rw [hS1];exact ex_size) (by rw [hS1];rfl) (Rep.one _ _ hA2) (fun w3 kz z3=>?_))
  have bb:=below_box kz
  have y3:=y2.below bb y2.lt
  have hA3:=hA2.below bb
  have k03:=k02.trans (KeepM.of bb)
  have r3:=r2.below bb
  obtain ⟨g5,hg5⟩:∃ x,Hid (w2.heap.size=x):=⟨_,Lib.hid rfl⟩
  have hg5l:gy<g5:=by rw [← hg5.out];exact y2.lt
  rw [hg5.out] at z3 ⊢
  clear y2 hA2 r2 k02 kz bb
  obtain ⟨c,q,off,n,c0,hn,hn2,hc,hq,hl2,t0,t1,t2,t3⟩:=r3.first
  obtain ⟨t,ht⟩:∃ t,Hid (hdT s1.ts=t):=⟨_,Lib.hid rfl⟩
  rw [ht.out] at t0 t1 t2 t3
  have H3:=H2.out
  rw [ht.out] at H3
  obtain ⟨k,tx,m,p⟩:=t
  simp only at t0 t1 t2 t3 H3
  have bb:=below_alloc w3 (.cells #[.int .i64 k,.string ⟨tx.toArray⟩,.int .i64 m,.int .i64 p] 43)
  have q4:=BlkIs.fresh w3 43 #[.int .i64 k,.string ⟨tx.toArray⟩,.int .i64 m,.int .i64 p]
  have y4:=y3.below bb y3.lt
  have z4:=z3.below bb z3.lt
  have hA4:=hA3.below bb
  have k04:=k03.trans (KeepM.of bb)
  have r4:=r3.below bb
  obtain ⟨g6,hg6⟩:∃ x,Hid (w3.heap.size=x):=⟨_,Lib.hid rfl⟩
  have hg6l:g5<g6:=by rw [← hg6.out];exact z3.lt
  rw [hg6.out] at q4
  go_upto_region 5 with fail
  rw [hg6.out]
  clear y3 z3 hA3 r3 k03 c0 hn hn2 hc hq hl2 t0 t1 t2 t3
  obtain ⟨w5,hw5⟩:∃ W,w3.alloc (.cells #[.int .i64 k,.string ⟨tx.toArray⟩,.int .i64 m,.int .i64 p] 43)=W:=⟨_,rfl⟩
  rw [hw5] at y4 z4 q4 hA4 r4 k04 ⊢
  clear hw5 bb
  have y5:=y4
  have z5:=z4
  have q5:=q4
  have hA5:=hA4
  have r5:=r4
  have k05:=k04
  clear y4 z4 q4 hA4 r4 k04
  have lz:=z5.lt
  have ly:=y5.lt
  have lq:=q5.lt
  have q0:w5.cell? ⟨g6,0,none⟩=some (.int .i64 k):=q5.cell 0
  have q1:w5.cell? ⟨g6,1,none⟩=some (.string ⟨tx.toArray⟩):=q5.cell 1
  have ho1:=rok_any g gv fv s1 w5 r5
  have has:=fun W=>rassigns_any tx W
  obtain ⟨A,hAs⟩:∃ A,Hid (rassigns tx=A):=⟨_,Lib.hid rfl⟩
  rw [hAs.out] at has H3
  cases hk1:rok s1
  ·rw [hk1] at ho1 H3
   rw [Bool.not_false,Bool.true_or,if_pos rfl] at H3
   injection H3 with H3
   injection H3 with e1 e2
   subst e1 e2
   go_wp2_with fail
   refine ho1.mono ?_
   rintro e w8 ⟨rfl,rfl⟩
   go_upto_region 6 with fail
   go_step
   refine wpList_loadV rfl 100 (.tmp 5) rfl g5 V1 X1 hV1.out rfl 100 _ z5 Tryz.underlying100 rfl (by rw [hS1];exact ex_size) ?_
   go_wp2_with (refine wpList_storeV rfl 100 (.tmp 4) (.tmp 44) rfl gy V1 X1 hV1.out rfl rfl 100 _ y5 (by rw [hS1];exact ex_size) (by rw [hS1];rfl) (Rep.one _ _ (hA5)) (fun w9 k9 y9=>?_))
   refine bodyPost_ret (results_cell_row rfl _ _ gy 100 X1 (0,0) _ rfl y9 Tryz.underlying100 rfl (by rw [hS1];exact ex_size)) rfl ?_
   refine ⟨_,X1,Lib.hid rfl,hS1,rfl,((hA5).keepM k9 (fun j hj=>by omega)).imp (fun j hj _=>by omega),(k05).box k9 hgyw,(r5).box k9 hgy2⟩
  ·rw [hk1] at ho1 H3
   rw [Bool.not_true,Bool.false_or] at H3
   by_cases hk3:k=3
   ·subst hk3
    rw [show ((3:Int) != 3)=false from rfl,Bool.false_or] at H3
    by_cases htx:tx=[61]
    ·subst htx
     rw [show (([61]:List UInt8) != [61])=false from rfl,Bool.false_and,if_neg (by decide)] at H3
     obtain ⟨⟨b,s2⟩,h1,h2⟩:=Option.bind_eq_some_iff.1 H3
     injection h2 with h2
     injection h2 with e1 e2
     subst e1 e2
     have hea:=fun W hq=>ihe (d + 1) (rnext s1) s2 b g gv fv W h1 ⟨by omega,by omega⟩ hq
     clear h1 H3 H2
     go_wp2_with fail
     refine ho1.mono ?_
     rintro e w8 ⟨rfl,rfl⟩
     go_wp2_with fail
     refine (rnext_any g gv fv s1 _ r5).mono ?_
     rintro e w6 ⟨rfl,kk,r6⟩
     have y6:=y5.keepM kk (by omega)
     have z6:=z5.keepM kk (by omega)
     have q6:=q5.keepM kk (by omega)
     have hA6:=hA5.keepM kk (fun j hj=>by omega)
     have k06:=k05.trans kk
     clear y5 z5 q5 hA5 r5 k05 kk
     go_wp2_with fail
     refine (hea _ r6).mono ?_
     rintro e w7 ⟨V2,X2,hV2,hS2,rfl,hB7,kk,r7⟩
     have hsz7:=y6.lt
     have y7:=y6.keepM kk (by omega)
     have z7:=z6.keepM kk (by omega)
     have q7:=q6.keepM kk (by omega)
     have hA7:=hA6.keepM kk (fun j hj=>by omega)
     have k07:=k06.trans kk
     have hB7:=hB7.imp (ok':=fun k=>gy<k) (fun k hk _=>by omega)
     clear y6 z6 q6 hA6 r6 k06 kk hsz7 hea
     go_upto_region 8 with (refine wpList_storeV rfl 100 (.tmp 7) (.tmp 50) rfl _ V2 X2 hV2.out rfl rfl 100 _ (BlkIs.fresh _ _ _) (by rw [hS2];exact ex_size) (by rw [hS2];rfl) (Rep.one _ _ hB7) (fun w8 kz u8=>?_))
     have bb:=below_box kz
     have y8:=y7.below bb y7.lt
     have z8:=z7.below bb z7.lt
     have q8:=q7.below bb q7.lt
     have hA8:=hA7.below bb
     have hB8:=hB7.below bb
     have k08:=k07.trans (KeepM.of bb)
     have r8:=r7.below bb
     obtain ⟨g7,hg7⟩:∃ x,Hid (w7.heap.size=x):=⟨_,Lib.hid rfl⟩
     have hg7l:g6<g7:=by rw [← hg7.out];exact q7.lt
     rw [hg7.out] at u8 ⊢
     clear y7 z7 q7 hA7 hB7 r7 k07 kz bb
     have lz:=z8.lt
     have ly:=y8.lt
     have lq:=q8.lt
     have lu:=u8.lt
     have c1:w8.cell? ⟨g6,1,none⟩=some (.string ⟨([61]:List UInt8).toArray⟩):=q8.cell 1
     have c3:w8.cell? ⟨g6,3,none⟩=some (.int .i64 p):=q8.cell 3
     have hA:AllEx w8 (fun k=>gy<k) [a,b] [X1,X2]:=⟨hS1,hA8,hS2,hB8,trivial⟩
     refine anyJ_begin 9 (fun W=>Below w8.heap.size w8 W) (by kernel_rfl) ((Below.refl _ _).drew) (fun hHeld=>?_)
     refine take (i:=0) (d:=some 51) (v:=.pointer (some ⟨g6,1,none⟩)) (by kernel_rfl) rfl rfl rfl (fun _ _ _ h=>h) hHeld (fun W hSw=>by go_simp) ?_
     simp only [Act.put,List.setIfInBounds_toArray,List.set_cons_zero,List.set_cons_succ]
     refine take (i:=1) (d:=some 52) (v:=.string ⟨([61]:List UInt8).toArray⟩) (by kernel_rfl) rfl rfl rfl (fun _ _ _ h=>h) hHeld (fun W hSw=>by have x:=(hSw.cell (p:=⟨g6,1,none⟩) lq).trans c1;go_simp) ?_
     simp only [Act.put,List.setIfInBounds_toArray,List.set_cons_zero,List.set_cons_succ]
     refine take (i:=3) (d:=some 54) (v:=V1) (by kernel_rfl) rfl rfl rfl (fun _ _ _ h=>h) hHeld (fun W hSw=>by rw [hV1.out];exact exec_load_row rfl rfl (z8.below hSw lz) Tryz.underlying100 rfl (by rw [hS1];exact ex_size)) ?_
     simp only [Act.put,List.setIfInBounds_toArray,List.set_cons_zero,List.set_cons_succ]
     refine take (i:=4) (d:=some 55) (v:=V2) (by kernel_rfl) rfl rfl rfl (fun _ _ _ h=>h) hHeld (fun W hSw=>by rw [hV2.out];exact exec_load_row rfl rfl (u8.below hSw lu) Tryz.underlying100 rfl (by rw [hS2];exact ex_size)) ?_
     simp only [Act.put,List.setIfInBounds_toArray,List.set_cons_zero,List.set_cons_succ]
     refine take (i:=6) (d:=some 57) (v:=.pointer (some ⟨g6,3,none⟩)) (by kernel_rfl) rfl rfl rfl (fun _ _ _ h=>h) hHeld (fun W hSw=>by go_simp) ?_
     simp only [Act.put,List.setIfInBounds_toArray,List.set_cons_zero,List.set_cons_succ]
     refine take (i:=7) (d:=some 58) (v:=.int .i64 p) (by kernel_rfl) rfl rfl rfl (fun _ _ _ h=>h) hHeld (fun W hSw=>by have x:=(hSw.cell (p:=⟨g6,3,none⟩) lq).trans c3;go_simp) ?_
     simp only [Act.put,List.setIfInBounds_toArray,List.set_cons_zero,List.set_cons_succ]
     refine anyJ_two (i:=2) (j:=5) (d:=some 53) (d2:=some 56) (by kernel_rfl) rfl rfl rfl rfl rfl rfl (fun K' hK=>?_) (fun K' hK=>?_)
     ·refine wp_go_call 105 _ _ rfl #[.string ⟨([61]:List UInt8).toArray⟩] rfl (fun W=>by go_simp) (has _) (fun e wc he=>?_)
      obtain ⟨rfl,hbc⟩:=he
      refine ⟨_,rfl,hK.out _ _ (fun _=>hHeld.trans (hbc.mono hHeld.size)) (fun hHeld=>?_)⟩
      have hHeld:=hHeld (by decide)
      simp only [Act.put,List.setIfInBounds_toArray,List.set_cons_zero,List.set_cons_succ]
      refine anyJ_only (i:=5) (d:=some 56) (by kernel_rfl) rfl rfl rfl (fun K' hK=>?_)
      refine wp_exs 2 _ rfl [V1,V2] [X1,X2] (by rw [hV1.out,hV2.out];rfl) rfl rfl hA.sizes rfl (by decide) (by decide) (fun ws hbs hss=>?_)
      have hs1:=hss _ _ (AllEx.below hHeld hA)
      have hz:=hHeld.size
      obtain ⟨gs,hgs⟩:∃ x,Hid (wc.heap.size=x):=⟨_,Lib.hid rfl⟩
      rw [hgs.out] at hs1 ⊢
      have hgsl:w8.heap.size≤gs:=by rw [← hgs.out];exact hz
      refine hK.out _ _ (fun _=>hHeld.trans (hbs.mono hz)) (fun hHeld=>?_)
      have hHeld:=hHeld (by decide)
      simp only [Act.put,List.setIfInBounds_toArray,List.set_cons_zero,List.set_cons_succ]
      refine take (i:=8) (d:=some 59) (v:=.agg #[.int .i64 34,.int .i64 0,.int .i64 0,.int .i64 0,.string ⟨#[]⟩,.int .i64 A,.slice (some ⟨gs,0,none⟩) 2 2,.int .i64 p]) (by kernel_rfl) rfl rfl rfl (fun _ _ _ h=>h) hHeld (fun W hSw=>by go_simp) ?_
      simp only [Act.put,List.setIfInBounds_toArray,List.set_cons_zero,List.set_cons_succ]
      have yz:=y8.below hHeld ly
      refine anyJ_only (i:=9) (d:=none) (by kernel_rfl) rfl rfl rfl (fun K' hK=>?_)
      refine wp_store_row 100 (.tmp 4) (.tmp 59) rfl gy #[.int .i64 34,.int .i64 0,.int .i64 0,.int .i64 0,.string ⟨#[]⟩,.int .i64 A,.slice (some ⟨gs,0,none⟩) 2 2,.int .i64 p] rfl rfl 100 _ yz ex_size rfl (by simp [Value.oneCell']) (hK.out _ _ (fun h=>absurd rfl h) (fun _=>?_))
      refine anyJ_done (by kernel_rfl) ?_ _
      simp only [Act.put]
      have k9:=(KeepM.refl gy ws).ownRow #[.int .i64 34,.int .i64 0,.int .i64 0,.int .i64 0,.string ⟨#[]⟩,.int .i64 A,.slice (some ⟨gs,0,none⟩) 2 2,.int .i64 p]
      have y9:BlkIs (World.setRow ws gy #[.int .i64 34,.int .i64 0,.int .i64 0,.int .i64 0,.string ⟨#[]⟩,.int .i64 A,.slice (some ⟨gs,0,none⟩) 2 2,.int .i64 p]) gy 100 #[.int .i64 34,.int .i64 0,.int .i64 0,.int .i64 0,.string ⟨#[]⟩,.int .i64 A,.slice (some ⟨gs,0,none⟩) 2 2,.int .i64 p]:=setRow_heap _ _ _ _ _ _ yz
      go_wp2_with fail
      refine bodyPost_ret (results_cell_row rfl _ _ gy 100 _ (0,0) _ rfl y9 Tryz.underlying100 rfl ex_size) rfl ?_
      refine ⟨_,_,Lib.hid rfl,rfl,rfl,?_,(k08.trans (KeepM.of hHeld)).box k9 hgyw,(r8.below hHeld).box k9 hgy2⟩
      have hs2:=(hs1).keepM k9 (fun j hj=>by omega)
      exact rep_ex.2 ⟨some ⟨gs,0,none⟩,2,rfl,hs2.imp (fun j hj _=>by omega)⟩
     ·refine wp_exs 2 _ rfl [V1,V2] [X1,X2] (by rw [hV1.out,hV2.out];rfl) rfl rfl hA.sizes rfl (by decide) (by decide) (fun ws hbs hss=>?_)
      have hs1:=hss _ _ (AllEx.below hHeld hA)
      have hz:=hHeld.size
      obtain ⟨gs,hgs⟩:∃ x,Hid (w8.drew.heap.size=x):=⟨_,Lib.hid rfl⟩
      rw [hgs.out] at hs1 ⊢
      have hgsl:w8.heap.size≤gs:=by rw [← hgs.out];exact hz
      refine hK.out _ _ (fun _=>hHeld.trans (hbs.mono hz)) (fun hHeld=>?_)
      have hHeld:=hHeld (by decide)
      simp only [Act.put,List.setIfInBounds_toArray,List.set_cons_zero,List.set_cons_succ]
      refine anyJ_only (i:=2) (d:=some 53) (by kernel_rfl) rfl rfl rfl (fun K' hK=>?_)
      refine wp_go_call 105 _ _ rfl #[.string ⟨([61]:List UInt8).toArray⟩] rfl (fun W=>by go_simp) (has _) (fun e wc he=>?_)
      obtain ⟨rfl,hbc⟩:=he
      refine ⟨_,rfl,hK.out _ _ (fun _=>hHeld.trans (hbc.mono hHeld.size)) (fun hHeld=>?_)⟩
      have hHeld:=hHeld (by decide)
      simp only [Act.put,List.setIfInBounds_toArray,List.set_cons_zero,List.set_cons_succ]
      refine take (i:=8) (d:=some 59) (v:=.agg #[.int .i64 34,.int .i64 0,.int .i64 0,.int .i64 0,.string ⟨#[]⟩,.int .i64 A,.slice (some ⟨gs,0,none⟩) 2 2,.int .i64 p]) (by kernel_rfl) rfl rfl rfl (fun _ _ _ h=>h) hHeld (fun W hSw=>by go_simp) ?_
      simp only [Act.put,List.setIfInBounds_toArray,List.set_cons_zero,List.set_cons_succ]
      have yz:=y8.below hHeld ly
      refine anyJ_only (i:=9) (d:=none) (by kernel_rfl) rfl rfl rfl (fun K' hK=>?_)
      refine wp_store_row 100 (.tmp 4) (.tmp 59) rfl gy #[.int .i64 34,.int .i64 0,.int .i64 0,.int .i64 0,.string ⟨#[]⟩,.int .i64 A,.slice (some ⟨gs,0,none⟩) 2 2,.int .i64 p] rfl rfl 100 _ yz ex_size rfl (by simp [Value.oneCell']) (hK.out _ _ (fun h=>absurd rfl h) (fun _=>?_))
      refine anyJ_done (by kernel_rfl) ?_ _
      simp only [Act.put]
      have k9:=(KeepM.refl gy wc).ownRow #[.int .i64 34,.int .i64 0,.int .i64 0,.int .i64 0,.string ⟨#[]⟩,.int .i64 A,.slice (some ⟨gs,0,none⟩) 2 2,.int .i64 p]
      have y9:BlkIs (World.setRow wc gy #[.int .i64 34,.int .i64 0,.int .i64 0,.int .i64 0,.string ⟨#[]⟩,.int .i64 A,.slice (some ⟨gs,0,none⟩) 2 2,.int .i64 p]) gy 100 #[.int .i64 34,.int .i64 0,.int .i64 0,.int .i64 0,.string ⟨#[]⟩,.int .i64 A,.slice (some ⟨gs,0,none⟩) 2 2,.int .i64 p]:=setRow_heap _ _ _ _ _ _ yz
      go_wp2_with fail
      refine bodyPost_ret (results_cell_row rfl _ _ gy 100 _ (0,0) _ rfl y9 Tryz.underlying100 rfl ex_size) rfl ?_
      refine ⟨_,_,Lib.hid rfl,rfl,rfl,?_,(k08.trans (KeepM.of hHeld)).box k9 hgyw,(r8.below hHeld).box k9 hgy2⟩
      have hs2:=(hs1.below hbc).keepM k9 (fun j hj=>by omega)
      exact rep_ex.2 ⟨some ⟨gs,0,none⟩,2,rfl,hs2.imp (fun j hj _=>by omega)⟩
    ·have e1:(tx == [61])=false:=by simpa using htx
     have e2:(tx != [61])=true:=by simpa using htx
     rw [e2,Bool.true_and] at H3
     clear htx
     by_cases hA0:A=0
     ·subst hA0
      rw [show ((0:Int) == 0)=true from rfl,if_pos rfl] at H3
      injection H3 with H3
      injection H3 with e1 e2
      subst e1 e2
      go_wp2_with fail
      refine ho1.mono ?_
      rintro e w8 ⟨rfl,rfl⟩
      go_wp2_with fail
      refine (has _).mono ?_
      rintro e w7 ⟨rfl,hb7⟩
      go_upto_region 6 with fail
      go_step
      refine wpList_loadV rfl 100 (.tmp 5) rfl g5 V1 X1 hV1.out rfl 100 _ (z5.below hb7 lz) Tryz.underlying100 rfl (by rw [hS1];exact ex_size) ?_
      go_wp2_with (refine wpList_storeV rfl 100 (.tmp 4) (.tmp 44) rfl gy V1 X1 hV1.out rfl rfl 100 _ (y5.below hb7 ly) (by rw [hS1];exact ex_size) (by rw [hS1];rfl) (Rep.one _ _ (hA5.below hb7)) (fun w9 k9 y9=>?_))
      refine bodyPost_ret (results_cell_row rfl _ _ gy 100 X1 (0,0) _ rfl y9 Tryz.underlying100 rfl (by rw [hS1];exact ex_size)) rfl ?_
      refine ⟨_,X1,Lib.hid rfl,hS1,rfl,((hA5.below hb7).keepM k9 (fun j hj=>by omega)).imp (fun j hj _=>by omega),(k05.trans (KeepM.of hb7)).box k9 hgyw,(r5.below hb7).box k9 hgy2⟩
     ·have e3:(A == 0)=false:=by simpa using hA0
      rw [e3,if_neg (by decide)] at H3
      obtain ⟨⟨b,s2⟩,h1,h2⟩:=Option.bind_eq_some_iff.1 H3
      injection h2 with h2
      injection h2 with e1 e2
      subst e1 e2
      have hea:=fun W hq=>ihe (d + 1) (rnext s1) s2 b g gv fv W h1 ⟨by omega,by omega⟩ hq
      clear h1 H3 H2
      go_wp2_with fail
      refine ho1.mono ?_
      rintro e w8 ⟨rfl,rfl⟩
      go_wp2_with fail
      refine (has _).mono ?_
      rintro e w6 ⟨rfl,bb⟩
      have y6:=y5.below bb y5.lt
      have z6:=z5.below bb z5.lt
      have q6:=q5.below bb q5.lt
      have hA6:=hA5.below bb
      have k06:=k05.trans (KeepM.of bb)
      have r6:=r5.below bb
      clear bb y5 z5 q5 hA5 r5 k05 lz ly lq q0 q1 ho1
      go_wp2_with fail
      refine (rnext_any g gv fv s1 _ r6).mono ?_
      rintro e w7 ⟨rfl,kk,r7⟩
      have y7:=y6.keepM kk (by omega)
      have z7:=z6.keepM kk (by omega)
      have q7:=q6.keepM kk (by omega)
      have hA7:=hA6.keepM kk (fun j hj=>by omega)
      have k07:=k06.trans kk
      clear y6 z6 q6 hA6 r6 k06 kk
      go_wp2_with fail
      refine (hea _ r7).mono ?_
      rintro e w8 ⟨V2,X2,hV2,hS2,rfl,hB8,kk,r8⟩
      have hsz8:=y7.lt
      have y8:=y7.keepM kk (by omega)
      have z8:=z7.keepM kk (by omega)
      have q8:=q7.keepM kk (by omega)
      have hA8:=hA7.keepM kk (fun j hj=>by omega)
      have k08:=k07.trans kk
      have hB8:=hB8.imp (ok':=fun k=>gy<k) (fun k hk _=>by omega)
      clear y7 z7 q7 hA7 r7 k07 kk hsz8 hea
      go_upto_region 8 with (refine wpList_storeV rfl 100 (.tmp 7) (.tmp 50) rfl _ V2 X2 hV2.out rfl rfl 100 _ (BlkIs.fresh _ _ _) (by rw [hS2];exact ex_size) (by rw [hS2];rfl) (Rep.one _ _ hB8) (fun w9 kz u9=>?_))
      have bb:=below_box kz
      have y9:=y8.below bb y8.lt
      have z9:=z8.below bb z8.lt
      have q9:=q8.below bb q8.lt
      have hA9:=hA8.below bb
      have hB9:=hB8.below bb
      have k09:=k08.trans (KeepM.of bb)
      have r9:=r8.below bb
      obtain ⟨g7,hg7⟩:∃ x,Hid (w8.heap.size=x):=⟨_,Lib.hid rfl⟩
      have hg7l:g6<g7:=by rw [← hg7.out];exact q8.lt
      rw [hg7.out] at u9 ⊢
      clear y8 z8 q8 hA8 hB8 r8 k08 kz bb
      have lz:=z9.lt
      have ly:=y9.lt
      have lq:=q9.lt
      have lu:=u9.lt
      have c1:w9.cell? ⟨g6,1,none⟩=some (.string ⟨tx.toArray⟩):=q9.cell 1
      have c3:w9.cell? ⟨g6,3,none⟩=some (.int .i64 p):=q9.cell 3
      have hA:AllEx w9 (fun k=>gy<k) [a,b] [X1,X2]:=⟨hS1,hA9,hS2,hB9,trivial⟩
      refine anyJ_begin 9 (fun W=>Below w9.heap.size w9 W) (by kernel_rfl) ((Below.refl _ _).drew) (fun hHeld=>?_)
      refine take (i:=0) (d:=some 51) (v:=.pointer (some ⟨g6,1,none⟩)) (by kernel_rfl) rfl rfl rfl (fun _ _ _ h=>h) hHeld (fun W hSw=>by go_simp) ?_
      simp only [Act.put,List.setIfInBounds_toArray,List.set_cons_zero,List.set_cons_succ]
      refine take (i:=1) (d:=some 52) (v:=.string ⟨tx.toArray⟩) (by kernel_rfl) rfl rfl rfl (fun _ _ _ h=>h) hHeld (fun W hSw=>by have x:=(hSw.cell (p:=⟨g6,1,none⟩) lq).trans c1;go_simp) ?_
      simp only [Act.put,List.setIfInBounds_toArray,List.set_cons_zero,List.set_cons_succ]
      refine take (i:=3) (d:=some 54) (v:=V1) (by kernel_rfl) rfl rfl rfl (fun _ _ _ h=>h) hHeld (fun W hSw=>by rw [hV1.out];exact exec_load_row rfl rfl (z9.below hSw lz) Tryz.underlying100 rfl (by rw [hS1];exact ex_size)) ?_
      simp only [Act.put,List.setIfInBounds_toArray,List.set_cons_zero,List.set_cons_succ]
      refine take (i:=4) (d:=some 55) (v:=V2) (by kernel_rfl) rfl rfl rfl (fun _ _ _ h=>h) hHeld (fun W hSw=>by rw [hV2.out];exact exec_load_row rfl rfl (u9.below hSw lu) Tryz.underlying100 rfl (by rw [hS2];exact ex_size)) ?_
      simp only [Act.put,List.setIfInBounds_toArray,List.set_cons_zero,List.set_cons_succ]
      refine take (i:=6) (d:=some 57) (v:=.pointer (some ⟨g6,3,none⟩)) (by kernel_rfl) rfl rfl rfl (fun _ _ _ h=>h) hHeld (fun W hSw=>by go_simp) ?_
      simp only [Act.put,List.setIfInBounds_toArray,List.set_cons_zero,List.set_cons_succ]
      refine take (i:=7) (d:=some 58) (v:=.int .i64 p) (by kernel_rfl) rfl rfl rfl (fun _ _ _ h=>h) hHeld (fun W hSw=>by have x:=(hSw.cell (p:=⟨g6,3,none⟩) lq).trans c3;go_simp) ?_
      simp only [Act.put,List.setIfInBounds_toArray,List.set_cons_zero,List.set_cons_succ]
      refine anyJ_two (i:=2) (j:=5) (d:=some 53) (d2:=some 56) (by kernel_rfl) rfl rfl rfl rfl rfl rfl (fun K' hK=>?_) (fun K' hK=>?_)
      ·refine wp_go_call 105 _ _ rfl #[.string ⟨tx.toArray⟩] rfl (fun W=>by go_simp) (has _) (fun e wc he=>?_)
       obtain ⟨rfl,hbc⟩:=he
       refine ⟨_,rfl,hK.out _ _ (fun _=>hHeld.trans (hbc.mono hHeld.size)) (fun hHeld=>?_)⟩
       have hHeld:=hHeld (by decide)
       simp only [Act.put,List.setIfInBounds_toArray,List.set_cons_zero,List.set_cons_succ]
       refine anyJ_only (i:=5) (d:=some 56) (by kernel_rfl) rfl rfl rfl (fun K' hK=>?_)
       refine wp_exs 2 _ rfl [V1,V2] [X1,X2] (by rw [hV1.out,hV2.out];rfl) rfl rfl hA.sizes rfl (by decide) (by decide) (fun ws hbs hss=>?_)
       have hs1:=hss _ _ (AllEx.below hHeld hA)
       have hz:=hHeld.size
       obtain ⟨gs,hgs⟩:∃ x,Hid (wc.heap.size=x):=⟨_,Lib.hid rfl⟩
       rw [hgs.out] at hs1 ⊢
       have hgsl:w9.heap.size≤gs:=by rw [← hgs.out];exact hz
       refine hK.out _ _ (fun _=>hHeld.trans (hbs.mono hz)) (fun hHeld=>?_)
       have hHeld:=hHeld (by decide)
       simp only [Act.put,List.setIfInBounds_toArray,List.set_cons_zero,List.set_cons_succ]
       refine take (i:=8) (d:=some 59) (v:=.agg #[.int .i64 34,.int .i64 0,.int .i64 0,.int .i64 0,.string ⟨#[]⟩,.int .i64 A,.slice (some ⟨gs,0,none⟩) 2 2,.int .i64 p]) (by kernel_rfl) rfl rfl rfl (fun _ _ _ h=>h) hHeld (fun W hSw=>by go_simp) ?_
       simp only [Act.put,List.setIfInBounds_toArray,List.set_cons_zero,List.set_cons_succ]
       have yz:=y9.below hHeld ly
       refine anyJ_only (i:=9) (d:=none) (by kernel_rfl) rfl rfl rfl (fun K' hK=>?_)
       refine wp_store_row 100 (.tmp 4) (.tmp 59) rfl gy #[.int .i64 34,.int .i64 0,.int .i64 0,.int .i64 0,.string ⟨#[]⟩,.int .i64 A,.slice (some ⟨gs,0,none⟩) 2 2,.int .i64 p] rfl rfl 100 _ yz ex_size rfl (by simp [Value.oneCell']) (hK.out _ _ (fun h=>absurd rfl h) (fun _=>?_))
       refine anyJ_done (by kernel_rfl) ?_ _
       simp only [Act.put]
       have k9:=(KeepM.refl gy ws).ownRow #[.int .i64 34,.int .i64 0,.int .i64 0,.int .i64 0,.string ⟨#[]⟩,.int .i64 A,.slice (some ⟨gs,0,none⟩) 2 2,.int .i64 p]
       have y9:BlkIs (World.setRow ws gy #[.int .i64 34,.int .i64 0,.int .i64 0,.int .i64 0,.string ⟨#[]⟩,.int .i64 A,.slice (some ⟨gs,0,none⟩) 2 2,.int .i64 p]) gy 100 #[.int .i64 34,.int .i64 0,.int .i64 0,.int .i64 0,.string ⟨#[]⟩,.int .i64 A,.slice (some ⟨gs,0,none⟩) 2 2,.int .i64 p]:=setRow_heap _ _ _ _ _ _ yz
       go_wp2_with fail
       refine bodyPost_ret (results_cell_row rfl _ _ gy 100 _ (0,0) _ rfl y9 Tryz.underlying100 rfl ex_size) rfl ?_
       refine ⟨_,_,Lib.hid rfl,rfl,rfl,?_,(k09.trans (KeepM.of hHeld)).box k9 hgyw,(r9.below hHeld).box k9 hgy2⟩
       have hs2:=(hs1).keepM k9 (fun j hj=>by omega)
       exact rep_ex.2 ⟨some ⟨gs,0,none⟩,2,rfl,hs2.imp (fun j hj _=>by omega)⟩
      ·refine wp_exs 2 _ rfl [V1,V2] [X1,X2] (by rw [hV1.out,hV2.out];rfl) rfl rfl hA.sizes rfl (by decide) (by decide) (fun ws hbs hss=>?_)
       have hs1:=hss _ _ (AllEx.below hHeld hA)
       have hz:=hHeld.size
       obtain ⟨gs,hgs⟩:∃ x,Hid (w9.drew.heap.size=x):=⟨_,Lib.hid rfl⟩
       rw [hgs.out] at hs1 ⊢
       have hgsl:w9.heap.size≤gs:=by rw [← hgs.out];exact hz
       refine hK.out _ _ (fun _=>hHeld.trans (hbs.mono hz)) (fun hHeld=>?_)
       have hHeld:=hHeld (by decide)
       simp only [Act.put,List.setIfInBounds_toArray,List.set_cons_zero,List.set_cons_succ]
       refine anyJ_only (i:=2) (d:=some 53) (by kernel_rfl) rfl rfl rfl (fun K' hK=>?_)
       refine wp_go_call 105 _ _ rfl #[.string ⟨tx.toArray⟩] rfl (fun W=>by go_simp) (has _) (fun e wc he=>?_)
       obtain ⟨rfl,hbc⟩:=he
       refine ⟨_,rfl,hK.out _ _ (fun _=>hHeld.trans (hbc.mono hHeld.size)) (fun hHeld=>?_)⟩
       have hHeld:=hHeld (by decide)
       simp only [Act.put,List.setIfInBounds_toArray,List.set_cons_zero,List.set_cons_succ]
       refine take (i:=8) (d:=some 59) (v:=.agg #[.int .i64 34,.int .i64 0,.int .i64 0,.int .i64 0,.string ⟨#[]⟩,.int .i64 A,.slice (some ⟨gs,0,none⟩) 2 2,.int .i64 p]) (by kernel_rfl) rfl rfl rfl (fun _ _ _ h=>h) hHeld (fun W hSw=>by go_simp) ?_
       simp only [Act.put,List.setIfInBounds_toArray,List.set_cons_zero,List.set_cons_succ]
       have yz:=y9.below hHeld ly
       refine anyJ_only (i:=9) (d:=none) (by kernel_rfl) rfl rfl rfl (fun K' hK=>?_)
       refine wp_store_row 100 (.tmp 4) (.tmp 59) rfl gy #[.int .i64 34,.int .i64 0,.int .i64 0,.int .i64 0,.string ⟨#[]⟩,.int .i64 A,.slice (some ⟨gs,0,none⟩) 2 2,.int .i64 p] rfl rfl 100 _ yz ex_size rfl (by simp [Value.oneCell']) (hK.out _ _ (fun h=>absurd rfl h) (fun _=>?_))
       refine anyJ_done (by kernel_rfl) ?_ _
       simp only [Act.put]
       have k9:=(KeepM.refl gy wc).ownRow #[.int .i64 34,.int .i64 0,.int .i64 0,.int .i64 0,.string ⟨#[]⟩,.int .i64 A,.slice (some ⟨gs,0,none⟩) 2 2,.int .i64 p]
       have y9:BlkIs (World.setRow wc gy #[.int .i64 34,.int .i64 0,.int .i64 0,.int .i64 0,.string ⟨#[]⟩,.int .i64 A,.slice (some ⟨gs,0,none⟩) 2 2,.int .i64 p]) gy 100 #[.int .i64 34,.int .i64 0,.int .i64 0,.int .i64 0,.string ⟨#[]⟩,.int .i64 A,.slice (some ⟨gs,0,none⟩) 2 2,.int .i64 p]:=setRow_heap _ _ _ _ _ _ yz
       go_wp2_with fail
       refine bodyPost_ret (results_cell_row rfl _ _ gy 100 _ (0,0) _ rfl y9 Tryz.underlying100 rfl ex_size) rfl ?_
       refine ⟨_,_,Lib.hid rfl,rfl,rfl,?_,(k09.trans (KeepM.of hHeld)).box k9 hgyw,(r9.below hHeld).box k9 hgy2⟩
       have hs2:=(hs1.below hbc).keepM k9 (fun j hj=>by omega)
       exact rep_ex.2 ⟨some ⟨gs,0,none⟩,2,rfl,hs2.imp (fun j hj _=>by omega)⟩
   ·have e1:(k == 3)=false:=by simpa using hk3
    have e2:(k != 3)=true:=by simpa using hk3
    rw [e2,Bool.true_or,if_pos rfl] at H3
    clear hk3
    injection H3 with H3
    injection H3 with e1 e2
    subst e1 e2
    go_wp2_with fail
    refine ho1.mono ?_
    rintro e w8 ⟨rfl,rfl⟩
    go_upto_region 6 with fail
    go_step
    refine wpList_loadV rfl 100 (.tmp 5) rfl g5 V1 X1 hV1.out rfl 100 _ z5 Tryz.underlying100 rfl (by rw [hS1];exact ex_size) ?_
    go_wp2_with (refine wpList_storeV rfl 100 (.tmp 4) (.tmp 44) rfl gy V1 X1 hV1.out rfl rfl 100 _ y5 (by rw [hS1];exact ex_size) (by rw [hS1];rfl) (Rep.one _ _ (hA5)) (fun w9 k9 y9=>?_))
    refine bodyPost_ret (results_cell_row rfl _ _ gy 100 X1 (0,0) _ rfl y9 Tryz.underlying100 rfl (by rw [hS1];exact ex_size)) rfl ?_
    refine ⟨_,X1,Lib.hid rfl,hS1,rfl,((hA5).keepM k9 (fun j hj=>by omega)).imp (fun j hj _=>by omega),(k05).box k9 hgyw,(r5).box k9 hgy2⟩
 ·rw [o1] at ho
  rw [c1] at hca
  have o3:decide ((20:Int)<d)=false:=by simpa using o2
  clear o2
  go_enter Tryz.func90,Tryz.ntmps90
  go_wp2_with fail
  rw [hw0.out,hgy.out]
  refine ho.mono ?_
  rintro e w1 ⟨rfl,rfl⟩
  obtain ⟨w1,rfl⟩:∃ W:World,w0=W:=⟨_,rfl⟩
  have y1:=y0
  have r1:=r0
  have k01:=k00
  clear y0 r0 k00 ho hw0 c1 o1
  go_wp2_with fail
  refine (hca _ r1).mono ?_
  rintro e w2 ⟨V1,X1,hV1,hS1,rfl,hA2,kk,r2⟩
  have hsz2:=y1.lt
  have y2:=y1.keepM kk (by omega)
  have k02:=k01.trans kk
  have hA2:=hA2.imp (ok':=fun k=>gy<k) (fun k hk _=>by omega)
  clear y1 r1 k01 kk hsz2 hca
  go_upto_region 4 with (refine wpList_storeV rfl 100 (.tmp 5) (.tmp 18) rfl _ V1 X1 hV1.out rfl rfl 100 _ (BlkIs.fresh _ _ _) (by rw [hS1];exact ex_size) (by rw [hS1];rfl) (Rep.one _ _ hA2) (fun w3 kz z3=>?_))
  have bb:=below_box kz
  have y3:=y2.below bb y2.lt
  have hA3:=hA2.below bb
  have k03:=k02.trans (KeepM.of bb)
  have r3:=r2.below bb
  obtain ⟨g5,hg5⟩:∃ x,Hid (w2.heap.size=x):=⟨_,Lib.hid rfl⟩
  have hg5l:gy<g5:=by rw [← hg5.out];exact y2.lt
  rw [hg5.out] at z3 ⊢
  clear y2 hA2 r2 k02 kz bb
  obtain ⟨c,q,off,n,c0,hn,hn2,hc,hq,hl2,t0,t1,t2,t3⟩:=r3.first
  obtain ⟨t,ht⟩:∃ t,Hid (hdT s1.ts=t):=⟨_,Lib.hid rfl⟩
  rw [ht.out] at t0 t1 t2 t3
  have H3:=H2.out
  rw [ht.out] at H3
  obtain ⟨k,tx,m,p⟩:=t
  simp only at t0 t1 t2 t3 H3
  have bb:=below_alloc w3 (.cells #[.int .i64 k,.string ⟨tx.toArray⟩,.int .i64 m,.int .i64 p] 43)
  have q4:=BlkIs.fresh w3 43 #[.int .i64 k,.string ⟨tx.toArray⟩,.int .i64 m,.int .i64 p]
  have y4:=y3.below bb y3.lt
  have z4:=z3.below bb z3.lt
  have hA4:=hA3.below bb
  have k04:=k03.trans (KeepM.of bb)
  have r4:=r3.below bb
  obtain ⟨g6,hg6⟩:∃ x,Hid (w3.heap.size=x):=⟨_,Lib.hid rfl⟩
  have hg6l:g5<g6:=by rw [← hg6.out];exact z3.lt
  rw [hg6.out] at q4
  go_upto_region 5 with fail
  rw [hg6.out]
  clear y3 z3 hA3 r3 k03 c0 hn hn2 hc hq hl2 t0 t1 t2 t3
  obtain ⟨w5,hw5⟩:∃ W,w3.alloc (.cells #[.int .i64 k,.string ⟨tx.toArray⟩,.int .i64 m,.int .i64 p] 43)=W:=⟨_,rfl⟩
  rw [hw5] at y4 z4 q4 hA4 r4 k04 ⊢
  clear hw5 bb
  have y5:=y4
  have z5:=z4
  have q5:=q4
  have hA5:=hA4
  have r5:=r4
  have k05:=k04
  clear y4 z4 q4 hA4 r4 k04
  have lz:=z5.lt
  have ly:=y5.lt
  have lq:=q5.lt
  have q0:w5.cell? ⟨g6,0,none⟩=some (.int .i64 k):=q5.cell 0
  have q1:w5.cell? ⟨g6,1,none⟩=some (.string ⟨tx.toArray⟩):=q5.cell 1
  have ho1:=rok_any g gv fv s1 w5 r5
  have has:=fun W=>rassigns_any tx W
  obtain ⟨A,hAs⟩:∃ A,Hid (rassigns tx=A):=⟨_,Lib.hid rfl⟩
  rw [hAs.out] at has H3
  cases hk1:rok s1
  ·rw [hk1] at ho1 H3
   rw [Bool.not_false,Bool.true_or,if_pos rfl] at H3
   injection H3 with H3
   injection H3 with e1 e2
   subst e1 e2
   go_wp2_with fail
   refine ho1.mono ?_
   rintro e w8 ⟨rfl,rfl⟩
   go_upto_region 6 with fail
   go_step
   refine wpList_loadV rfl 100 (.tmp 5) rfl g5 V1 X1 hV1.out rfl 100 _ z5 Tryz.underlying100 rfl (by rw [hS1];exact ex_size) ?_
   go_wp2_with (refine wpList_storeV rfl 100 (.tmp 4) (.tmp 44) rfl gy V1 X1 hV1.out rfl rfl 100 _ y5 (by rw [hS1];exact ex_size) (by rw [hS1];rfl) (Rep.one _ _ (hA5)) (fun w9 k9 y9=>?_))
   refine bodyPost_ret (results_cell_row rfl _ _ gy 100 X1 (0,0) _ rfl y9 Tryz.underlying100 rfl (by rw [hS1];exact ex_size)) rfl ?_
   refine ⟨_,X1,Lib.hid rfl,hS1,rfl,((hA5).keepM k9 (fun j hj=>by omega)).imp (fun j hj _=>by omega),(k05).box k9 hgyw,(r5).box k9 hgy2⟩
  ·rw [hk1] at ho1 H3
   rw [Bool.not_true,Bool.false_or] at H3
   by_cases hk3:k=3
   ·subst hk3
    rw [show ((3:Int) != 3)=false from rfl,Bool.false_or] at H3
    by_cases htx:tx=[61]
    ·subst htx
     rw [show (([61]:List UInt8) != [61])=false from rfl,Bool.false_and,if_neg (by decide)] at H3
     obtain ⟨⟨b,s2⟩,h1,h2⟩:=Option.bind_eq_some_iff.1 H3
     injection h2 with h2
     injection h2 with e1 e2
     subst e1 e2
     have hea:=fun W hq=>ihe (d + 1) (rnext s1) s2 b g gv fv W h1 ⟨by omega,by omega⟩ hq
     clear h1 H3 H2
     go_wp2_with fail
     refine ho1.mono ?_
     rintro e w8 ⟨rfl,rfl⟩
     go_wp2_with fail
     refine (rnext_any g gv fv s1 _ r5).mono ?_
     rintro e w6 ⟨rfl,kk,r6⟩
     have y6:=y5.keepM kk (by omega)
     have z6:=z5.keepM kk (by omega)
     have q6:=q5.keepM kk (by omega)
     have hA6:=hA5.keepM kk (fun j hj=>by omega)
     have k06:=k05.trans kk
     clear y5 z5 q5 hA5 r5 k05 kk
     go_wp2_with fail
     refine (hea _ r6).mono ?_
     rintro e w7 ⟨V2,X2,hV2,hS2,rfl,hB7,kk,r7⟩
     have hsz7:=y6.lt
     have y7:=y6.keepM kk (by omega)
     have z7:=z6.keepM kk (by omega)
     have q7:=q6.keepM kk (by omega)
     have hA7:=hA6.keepM kk (fun j hj=>by omega)
     have k07:=k06.trans kk
     have hB7:=hB7.imp (ok':=fun k=>gy<k) (fun k hk _=>by omega)
     clear y6 z6 q6 hA6 r6 k06 kk hsz7 hea
     go_upto_region 8 with (refine wpList_storeV rfl 100 (.tmp 7) (.tmp 50) rfl _ V2 X2 hV2.out rfl rfl 100 _ (BlkIs.fresh _ _ _) (by rw [hS2];exact ex_size) (by rw [hS2];rfl) (Rep.one _ _ hB7) (fun w8 kz u8=>?_))
     have bb:=below_box kz
     have y8:=y7.below bb y7.lt
     have z8:=z7.below bb z7.lt
     have q8:=q7.below bb q7.lt
     have hA8:=hA7.below bb
     have hB8:=hB7.below bb
     have k08:=k07.trans (KeepM.of bb)
     have r8:=r7.below bb
     obtain ⟨g7,hg7⟩:∃ x,Hid (w7.heap.size=x):=⟨_,Lib.hid rfl⟩
     have hg7l:g6<g7:=by rw [← hg7.out];exact q7.lt
     rw [hg7.out] at u8 ⊢
     clear y7 z7 q7 hA7 hB7 r7 k07 kz bb
     have lz:=z8.lt
     have ly:=y8.lt
     have lq:=q8.lt
     have lu:=u8.lt
     have c1:w8.cell? ⟨g6,1,none⟩=some (.string ⟨([61]:List UInt8).toArray⟩):=q8.cell 1
     have c3:w8.cell? ⟨g6,3,none⟩=some (.int .i64 p):=q8.cell 3
     have hA:AllEx w8 (fun k=>gy<k) [a,b] [X1,X2]:=⟨hS1,hA8,hS2,hB8,trivial⟩
     refine anyJ_begin 9 (fun W=>Below w8.heap.size w8 W) (by kernel_rfl) ((Below.refl _ _).drew) (fun hHeld=>?_)
     refine take (i:=0) (d:=some 51) (v:=.pointer (some ⟨g6,1,none⟩)) (by kernel_rfl) rfl rfl rfl (fun _ _ _ h=>h) hHeld (fun W hSw=>by go_simp) ?_
     simp only [Act.put,List.setIfInBounds_toArray,List.set_cons_zero,List.set_cons_succ]
     refine take (i:=1) (d:=some 52) (v:=.string ⟨([61]:List UInt8).toArray⟩) (by kernel_rfl) rfl rfl rfl (fun _ _ _ h=>h) hHeld (fun W hSw=>by have x:=(hSw.cell (p:=⟨g6,1,none⟩) lq).trans c1;go_simp) ?_
     simp only [Act.put,List.setIfInBounds_toArray,List.set_cons_zero,List.set_cons_succ]
     refine take (i:=3) (d:=some 54) (v:=V1) (by kernel_rfl) rfl rfl rfl (fun _ _ _ h=>h) hHeld (fun W hSw=>by rw [hV1.out];exact exec_load_row rfl rfl (z8.below hSw lz) Tryz.underlying100 rfl (by rw [hS1];exact ex_size)) ?_
     simp only [Act.put,List.setIfInBounds_toArray,List.set_cons_zero,List.set_cons_succ]
     refine take (i:=4) (d:=some 55) (v:=V2) (by kernel_rfl) rfl rfl rfl (fun _ _ _ h=>h) hHeld (fun W hSw=>by rw [hV2.out];exact exec_load_row rfl rfl (u8.below hSw lu) Tryz.underlying100 rfl (by rw [hS2];exact ex_size)) ?_
     simp only [Act.put,List.setIfInBounds_toArray,List.set_cons_zero,List.set_cons_succ]
     refine take (i:=6) (d:=some 57) (v:=.pointer (some ⟨g6,3,none⟩)) (by kernel_rfl) rfl rfl rfl (fun _ _ _ h=>h) hHeld (fun W hSw=>by go_simp) ?_
     simp only [Act.put,List.setIfInBounds_toArray,List.set_cons_zero,List.set_cons_succ]
     refine take (i:=7) (d:=some 58) (v:=.int .i64 p) (by kernel_rfl) rfl rfl rfl (fun _ _ _ h=>h) hHeld (fun W hSw=>by have x:=(hSw.cell (p:=⟨g6,3,none⟩) lq).trans c3;go_simp) ?_
     simp only [Act.put,List.setIfInBounds_toArray,List.set_cons_zero,List.set_cons_succ]
     refine anyJ_two (i:=2) (j:=5) (d:=some 53) (d2:=some 56) (by kernel_rfl) rfl rfl rfl rfl rfl rfl (fun K' hK=>?_) (fun K' hK=>?_)
     ·refine wp_go_call 105 _ _ rfl #[.string ⟨([61]:List UInt8).toArray⟩] rfl (fun W=>by go_simp) (has _) (fun e wc he=>?_)
      obtain ⟨rfl,hbc⟩:=he
      refine ⟨_,rfl,hK.out _ _ (fun _=>hHeld.trans (hbc.mono hHeld.size)) (fun hHeld=>?_)⟩
      have hHeld:=hHeld (by decide)
      simp only [Act.put,List.setIfInBounds_toArray,List.set_cons_zero,List.set_cons_succ]
      refine anyJ_only (i:=5) (d:=some 56) (by kernel_rfl) rfl rfl rfl (fun K' hK=>?_)
      refine wp_exs 2 _ rfl [V1,V2] [X1,X2] (by rw [hV1.out,hV2.out];rfl) rfl rfl hA.sizes rfl (by decide) (by decide) (fun ws hbs hss=>?_)
      have hs1:=hss _ _ (AllEx.below hHeld hA)
      have hz:=hHeld.size
      obtain ⟨gs,hgs⟩:∃ x,Hid (wc.heap.size=x):=⟨_,Lib.hid rfl⟩
      rw [hgs.out] at hs1 ⊢
      have hgsl:w8.heap.size≤gs:=by rw [← hgs.out];exact hz
      refine hK.out _ _ (fun _=>hHeld.trans (hbs.mono hz)) (fun hHeld=>?_)
      have hHeld:=hHeld (by decide)
      simp only [Act.put,List.setIfInBounds_toArray,List.set_cons_zero,List.set_cons_succ]
      refine take (i:=8) (d:=some 59) (v:=.agg #[.int .i64 34,.int .i64 0,.int .i64 0,.int .i64 0,.string ⟨#[]⟩,.int .i64 A,.slice (some ⟨gs,0,none⟩) 2 2,.int .i64 p]) (by kernel_rfl) rfl rfl rfl (fun _ _ _ h=>h) hHeld (fun W hSw=>by go_simp) ?_
      simp only [Act.put,List.setIfInBounds_toArray,List.set_cons_zero,List.set_cons_succ]
      have yz:=y8.below hHeld ly
      refine anyJ_only (i:=9) (d:=none) (by kernel_rfl) rfl rfl rfl (fun K' hK=>?_)
      refine wp_store_row 100 (.tmp 4) (.tmp 59) rfl gy #[.int .i64 34,.int .i64 0,.int .i64 0,.int .i64 0,.string ⟨#[]⟩,.int .i64 A,.slice (some ⟨gs,0,none⟩) 2 2,.int .i64 p] rfl rfl 100 _ yz ex_size rfl (by simp [Value.oneCell']) (hK.out _ _ (fun h=>absurd rfl h) (fun _=>?_))
      refine anyJ_done (by kernel_rfl) ?_ _
      simp only [Act.put]
      have k9:=(KeepM.refl gy ws).ownRow #[.int .i64 34,.int .i64 0,.int .i64 0,.int .i64 0,.string ⟨#[]⟩,.int .i64 A,.slice (some ⟨gs,0,none⟩) 2 2,.int .i64 p]
      have y9:BlkIs (World.setRow ws gy #[.int .i64 34,.int .i64 0,.int .i64 0,.int .i64 0,.string ⟨#[]⟩,.int .i64 A,.slice (some ⟨gs,0,none⟩) 2 2,.int .i64 p]) gy 100 #[.int .i64 34,.int .i64 0,.int .i64 0,.int .i64 0,.string ⟨#[]⟩,.int .i64 A,.slice (some ⟨gs,0,none⟩) 2 2,.int .i64 p]:=setRow_heap _ _ _ _ _ _ yz
      go_wp2_with fail
      refine bodyPost_ret (results_cell_row rfl _ _ gy 100 _ (0,0) _ rfl y9 Tryz.underlying100 rfl ex_size) rfl ?_
      refine ⟨_,_,Lib.hid rfl,rfl,rfl,?_,(k08.trans (KeepM.of hHeld)).box k9 hgyw,(r8.below hHeld).box k9 hgy2⟩
      have hs2:=(hs1).keepM k9 (fun j hj=>by omega)
      exact rep_ex.2 ⟨some ⟨gs,0,none⟩,2,rfl,hs2.imp (fun j hj _=>by omega)⟩
     ·refine wp_exs 2 _ rfl [V1,V2] [X1,X2] (by rw [hV1.out,hV2.out];rfl) rfl rfl hA.sizes rfl (by decide) (by decide) (fun ws hbs hss=>?_)
      have hs1:=hss _ _ (AllEx.below hHeld hA)
      have hz:=hHeld.size
      obtain ⟨gs,hgs⟩:∃ x,Hid (w8.drew.heap.size=x):=⟨_,Lib.hid rfl⟩
      rw [hgs.out] at hs1 ⊢
      have hgsl:w8.heap.size≤gs:=by rw [← hgs.out];exact hz
      refine hK.out _ _ (fun _=>hHeld.trans (hbs.mono hz)) (fun hHeld=>?_)
      have hHeld:=hHeld (by decide)
      simp only [Act.put,List.setIfInBounds_toArray,List.set_cons_zero,List.set_cons_succ]
      refine anyJ_only (i:=2) (d:=some 53) (by kernel_rfl) rfl rfl rfl (fun K' hK=>?_)
      refine wp_go_call 105 _ _ rfl #[.string ⟨([61]:List UInt8).toArray⟩] rfl (fun W=>by go_simp) (has _) (fun e wc he=>?_)
      obtain ⟨rfl,hbc⟩:=he
      refine ⟨_,rfl,hK.out _ _ (fun _=>hHeld.trans (hbc.mono hHeld.size)) (fun hHeld=>?_)⟩
      have hHeld:=hHeld (by decide)
      simp only [Act.put,List.setIfInBounds_toArray,List.set_cons_zero,List.set_cons_succ]
      refine take (i:=8) (d:=some 59) (v:=.agg #[.int .i64 34,.int .i64 0,.int .i64 0,.int .i64 0,.string ⟨#[]⟩,.int .i64 A,.slice (some ⟨gs,0,none⟩) 2 2,.int .i64 p]) (by kernel_rfl) rfl rfl rfl (fun _ _ _ h=>h) hHeld (fun W hSw=>by go_simp) ?_
      simp only [Act.put,List.setIfInBounds_toArray,List.set_cons_zero,List.set_cons_succ]
      have yz:=y8.below hHeld ly
      refine anyJ_only (i:=9) (d:=none) (by kernel_rfl) rfl rfl rfl (fun K' hK=>?_)
      refine wp_store_row 100 (.tmp 4) (.tmp 59) rfl gy #[.int .i64 34,.int .i64 0,.int .i64 0,.int .i64 0,.string ⟨#[]⟩,.int .i64 A,.slice (some ⟨gs,0,none⟩) 2 2,.int .i64 p] rfl rfl 100 _ yz ex_size rfl (by simp [Value.oneCell']) (hK.out _ _ (fun h=>absurd rfl h) (fun _=>?_))
      refine anyJ_done (by kernel_rfl) ?_ _
      simp only [Act.put]
      have k9:=(KeepM.refl gy wc).ownRow #[.int .i64 34,.int .i64 0,.int .i64 0,.int .i64 0,.string ⟨#[]⟩,.int .i64 A,.slice (some ⟨gs,0,none⟩) 2 2,.int .i64 p]
      have y9:BlkIs (World.setRow wc gy #[.int .i64 34,.int .i64 0,.int .i64 0,.int .i64 0,.string ⟨#[]⟩,.int .i64 A,.slice (some ⟨gs,0,none⟩) 2 2,.int .i64 p]) gy 100 #[.int .i64 34,.int .i64 0,.int .i64 0,.int .i64 0,.string ⟨#[]⟩,.int .i64 A,.slice (some ⟨gs,0,none⟩) 2 2,.int .i64 p]:=setRow_heap _ _ _ _ _ _ yz
      go_wp2_with fail
      refine bodyPost_ret (results_cell_row rfl _ _ gy 100 _ (0,0) _ rfl y9 Tryz.underlying100 rfl ex_size) rfl ?_
      refine ⟨_,_,Lib.hid rfl,rfl,rfl,?_,(k08.trans (KeepM.of hHeld)).box k9 hgyw,(r8.below hHeld).box k9 hgy2⟩
      have hs2:=(hs1.below hbc).keepM k9 (fun j hj=>by omega)
      exact rep_ex.2 ⟨some ⟨gs,0,none⟩,2,rfl,hs2.imp (fun j hj _=>by omega)⟩
    ·have e1:(tx == [61])=false:=by simpa using htx
     have e2:(tx != [61])=true:=by simpa using htx
     rw [e2,Bool.true_and] at H3
     clear htx
     by_cases hA0:A=0
     ·subst hA0
      rw [show ((0:Int) == 0)=true from rfl,if_pos rfl] at H3
      injection H3 with H3
      injection H3 with e1 e2
      subst e1 e2
      go_wp2_with fail
      refine ho1.mono ?_
      rintro e w8 ⟨rfl,rfl⟩
      go_wp2_with fail
      refine (has _).mono ?_
      rintro e w7 ⟨rfl,hb7⟩
      go_upto_region 6 with fail
      go_step
      refine wpList_loadV rfl 100 (.tmp 5) rfl g5 V1 X1 hV1.out rfl 100 _ (z5.below hb7 lz) Tryz.underlying100 rfl (by rw [hS1];exact ex_size) ?_
      go_wp2_with (refine wpList_storeV rfl 100 (.tmp 4) (.tmp 44) rfl gy V1 X1 hV1.out rfl rfl 100 _ (y5.below hb7 ly) (by rw [hS1];exact ex_size) (by rw [hS1];rfl) (Rep.one _ _ (hA5.below hb7)) (fun w9 k9 y9=>?_))
      refine bodyPost_ret (results_cell_row rfl _ _ gy 100 X1 (0,0) _ rfl y9 Tryz.underlying100 rfl (by rw [hS1];exact ex_size)) rfl ?_
      refine ⟨_,X1,Lib.hid rfl,hS1,rfl,((hA5.below hb7).keepM k9 (fun j hj=>by omega)).imp (fun j hj _=>by omega),(k05.trans (KeepM.of hb7)).box k9 hgyw,(r5.below hb7).box k9 hgy2⟩
     ·have e3:(A == 0)=false:=by simpa using hA0
      rw [e3,if_neg (by decide)] at H3
      obtain ⟨⟨b,s2⟩,h1,h2⟩:=Option.bind_eq_some_iff.1 H3
      injection h2 with h2
      injection h2 with e1 e2
      subst e1 e2
      have hea:=fun W hq=>ihe (d + 1) (rnext s1) s2 b g gv fv W h1 ⟨by omega,by omega⟩ hq
      clear h1 H3 H2
      go_wp2_with fail
      refine ho1.mono ?_
      rintro e w8 ⟨rfl,rfl⟩
      go_wp2_with fail
      refine (has _).mono ?_
      rintro e w6 ⟨rfl,bb⟩
      have y6:=y5.below bb y5.lt
      have z6:=z5.below bb z5.lt
      have q6:=q5.below bb q5.lt
      have hA6:=hA5.below bb
      have k06:=k05.trans (KeepM.of bb)
      have r6:=r5.below bb
      clear bb y5 z5 q5 hA5 r5 k05 lz ly lq q0 q1 ho1
      go_wp2_with fail
      refine (rnext_any g gv fv s1 _ r6).mono ?_
      rintro e w7 ⟨rfl,kk,r7⟩
      have y7:=y6.keepM kk (by omega)
      have z7:=z6.keepM kk (by omega)
      have q7:=q6.keepM kk (by omega)
      have hA7:=hA6.keepM kk (fun j hj=>by omega)
      have k07:=k06.trans kk
      clear y6 z6 q6 hA6 r6 k06 kk
      go_wp2_with fail
      refine (hea _ r7).mono ?_
      rintro e w8 ⟨V2,X2,hV2,hS2,rfl,hB8,kk,r8⟩
      have hsz8:=y7.lt
      have y8:=y7.keepM kk (by omega)
      have z8:=z7.keepM kk (by omega)
      have q8:=q7.keepM kk (by omega)
      have hA8:=hA7.keepM kk (fun j hj=>by omega)
      have k08:=k07.trans kk
      have hB8:=hB8.imp (ok':=fun k=>gy<k) (fun k hk _=>by omega)
      clear y7 z7 q7 hA7 r7 k07 kk hsz8 hea
      go_upto_region 8 with (refine wpList_storeV rfl 100 (.tmp 7) (.tmp 50) rfl _ V2 X2 hV2.out rfl rfl 100 _ (BlkIs.fresh _ _ _) (by rw [hS2];exact ex_size) (by rw [hS2];rfl) (Rep.one _ _ hB8) (fun w9 kz u9=>?_))
      have bb:=below_box kz
      have y9:=y8.below bb y8.lt
      have z9:=z8.below bb z8.lt
      have q9:=q8.below bb q8.lt
      have hA9:=hA8.below bb
      have hB9:=hB8.below bb
      have k09:=k08.trans (KeepM.of bb)
      have r9:=r8.below bb
      obtain ⟨g7,hg7⟩:∃ x,Hid (w8.heap.size=x):=⟨_,Lib.hid rfl⟩
      have hg7l:g6<g7:=by rw [← hg7.out];exact q8.lt
      rw [hg7.out] at u9 ⊢
      clear y8 z8 q8 hA8 hB8 r8 k08 kz bb
      have lz:=z9.lt
      have ly:=y9.lt
      have lq:=q9.lt
      have lu:=u9.lt
      have c1:w9.cell? ⟨g6,1,none⟩=some (.string ⟨tx.toArray⟩):=q9.cell 1
      have c3:w9.cell? ⟨g6,3,none⟩=some (.int .i64 p):=q9.cell 3
      have hA:AllEx w9 (fun k=>gy<k) [a,b] [X1,X2]:=⟨hS1,hA9,hS2,hB9,trivial⟩
      refine anyJ_begin 9 (fun W=>Below w9.heap.size w9 W) (by kernel_rfl) ((Below.refl _ _).drew) (fun hHeld=>?_)
      refine take (i:=0) (d:=some 51) (v:=.pointer (some ⟨g6,1,none⟩)) (by kernel_rfl) rfl rfl rfl (fun _ _ _ h=>h) hHeld (fun W hSw=>by go_simp) ?_
      simp only [Act.put,List.setIfInBounds_toArray,List.set_cons_zero,List.set_cons_succ]
      refine take (i:=1) (d:=some 52) (v:=.string ⟨tx.toArray⟩) (by kernel_rfl) rfl rfl rfl (fun _ _ _ h=>h) hHeld (fun W hSw=>by have x:=(hSw.cell (p:=⟨g6,1,none⟩) lq).trans c1;go_simp) ?_
      simp only [Act.put,List.setIfInBounds_toArray,List.set_cons_zero,List.set_cons_succ]
      refine take (i:=3) (d:=some 54) (v:=V1) (by kernel_rfl) rfl rfl rfl (fun _ _ _ h=>h) hHeld (fun W hSw=>by rw [hV1.out];exact exec_load_row rfl rfl (z9.below hSw lz) Tryz.underlying100 rfl (by rw [hS1];exact ex_size)) ?_
      simp only [Act.put,List.setIfInBounds_toArray,List.set_cons_zero,List.set_cons_succ]
      refine take (i:=4) (d:=some 55) (v:=V2) (by kernel_rfl) rfl rfl rfl (fun _ _ _ h=>h) hHeld (fun W hSw=>by rw [hV2.out];exact exec_load_row rfl rfl (u9.below hSw lu) Tryz.underlying100 rfl (by rw [hS2];exact ex_size)) ?_
      simp only [Act.put,List.setIfInBounds_toArray,List.set_cons_zero,List.set_cons_succ]
      refine take (i:=6) (d:=some 57) (v:=.pointer (some ⟨g6,3,none⟩)) (by kernel_rfl) rfl rfl rfl (fun _ _ _ h=>h) hHeld (fun W hSw=>by go_simp) ?_
      simp only [Act.put,List.setIfInBounds_toArray,List.set_cons_zero,List.set_cons_succ]
      refine take (i:=7) (d:=some 58) (v:=.int .i64 p) (by kernel_rfl) rfl rfl rfl (fun _ _ _ h=>h) hHeld (fun W hSw=>by have x:=(hSw.cell (p:=⟨g6,3,none⟩) lq).trans c3;go_simp) ?_
      simp only [Act.put,List.setIfInBounds_toArray,List.set_cons_zero,List.set_cons_succ]
      refine anyJ_two (i:=2) (j:=5) (d:=some 53) (d2:=some 56) (by kernel_rfl) rfl rfl rfl rfl rfl rfl (fun K' hK=>?_) (fun K' hK=>?_)
      ·refine wp_go_call 105 _ _ rfl #[.string ⟨tx.toArray⟩] rfl (fun W=>by go_simp) (has _) (fun e wc he=>?_)
       obtain ⟨rfl,hbc⟩:=he
       refine ⟨_,rfl,hK.out _ _ (fun _=>hHeld.trans (hbc.mono hHeld.size)) (fun hHeld=>?_)⟩
       have hHeld:=hHeld (by decide)
       simp only [Act.put,List.setIfInBounds_toArray,List.set_cons_zero,List.set_cons_succ]
       refine anyJ_only (i:=5) (d:=some 56) (by kernel_rfl) rfl rfl rfl (fun K' hK=>?_)
       refine wp_exs 2 _ rfl [V1,V2] [X1,X2] (by rw [hV1.out,hV2.out];rfl) rfl rfl hA.sizes rfl (by decide) (by decide) (fun ws hbs hss=>?_)
       have hs1:=hss _ _ (AllEx.below hHeld hA)
       have hz:=hHeld.size
       obtain ⟨gs,hgs⟩:∃ x,Hid (wc.heap.size=x):=⟨_,Lib.hid rfl⟩
       rw [hgs.out] at hs1 ⊢
       have hgsl:w9.heap.size≤gs:=by rw [← hgs.out];exact hz
       refine hK.out _ _ (fun _=>hHeld.trans (hbs.mono hz)) (fun hHeld=>?_)
       have hHeld:=hHeld (by decide)
       simp only [Act.put,List.setIfInBounds_toArray,List.set_cons_zero,List.set_cons_succ]
       refine take (i:=8) (d:=some 59) (v:=.agg #[.int .i64 34,.int .i64 0,.int .i64 0,.int .i64 0,.string ⟨#[]⟩,.int .i64 A,.slice (some ⟨gs,0,none⟩) 2 2,.int .i64 p]) (by kernel_rfl) rfl rfl rfl (fun _ _ _ h=>h) hHeld (fun W hSw=>by go_simp) ?_
       simp only [Act.put,List.setIfInBounds_toArray,List.set_cons_zero,List.set_cons_succ]
       have yz:=y9.below hHeld ly
       refine anyJ_only (i:=9) (d:=none) (by kernel_rfl) rfl rfl rfl (fun K' hK=>?_)
       refine wp_store_row 100 (.tmp 4) (.tmp 59) rfl gy #[.int .i64 34,.int .i64 0,.int .i64 0,.int .i64 0,.string ⟨#[]⟩,.int .i64 A,.slice (some ⟨gs,0,none⟩) 2 2,.int .i64 p] rfl rfl 100 _ yz ex_size rfl (by simp [Value.oneCell']) (hK.out _ _ (fun h=>absurd rfl h) (fun _=>?_))
       refine anyJ_done (by kernel_rfl) ?_ _
       simp only [Act.put]
       have k9:=(KeepM.refl gy ws).ownRow #[.int .i64 34,.int .i64 0,.int .i64 0,.int .i64 0,.string ⟨#[]⟩,.int .i64 A,.slice (some ⟨gs,0,none⟩) 2 2,.int .i64 p]
       have y9:BlkIs (World.setRow ws gy #[.int .i64 34,.int .i64 0,.int .i64 0,.int .i64 0,.string ⟨#[]⟩,.int .i64 A,.slice (some ⟨gs,0,none⟩) 2 2,.int .i64 p]) gy 100 #[.int .i64 34,.int .i64 0,.int .i64 0,.int .i64 0,.string ⟨#[]⟩,.int .i64 A,.slice (some ⟨gs,0,none⟩) 2 2,.int .i64 p]:=setRow_heap _ _ _ _ _ _ yz
       go_wp2_with fail
       refine bodyPost_ret (results_cell_row rfl _ _ gy 100 _ (0,0) _ rfl y9 Tryz.underlying100 rfl ex_size) rfl ?_
       refine ⟨_,_,Lib.hid rfl,rfl,rfl,?_,(k09.trans (KeepM.of hHeld)).box k9 hgyw,(r9.below hHeld).box k9 hgy2⟩
       have hs2:=(hs1).keepM k9 (fun j hj=>by omega)
       exact rep_ex.2 ⟨some ⟨gs,0,none⟩,2,rfl,hs2.imp (fun j hj _=>by omega)⟩
      ·refine wp_exs 2 _ rfl [V1,V2] [X1,X2] (by rw [hV1.out,hV2.out];rfl) rfl rfl hA.sizes rfl (by decide) (by decide) (fun ws hbs hss=>?_)
       have hs1:=hss _ _ (AllEx.below hHeld hA)
       have hz:=hHeld.size
       obtain ⟨gs,hgs⟩:∃ x,Hid (w9.drew.heap.size=x):=⟨_,Lib.hid rfl⟩
       rw [hgs.out] at hs1 ⊢
       have hgsl:w9.heap.size≤gs:=by rw [← hgs.out];exact hz
       refine hK.out _ _ (fun _=>hHeld.trans (hbs.mono hz)) (fun hHeld=>?_)
       have hHeld:=hHeld (by decide)
       simp only [Act.put,List.setIfInBounds_toArray,List.set_cons_zero,List.set_cons_succ]
       refine anyJ_only (i:=2) (d:=some 53) (by kernel_rfl) rfl rfl rfl (fun K' hK=>?_)
       refine wp_go_call 105 _ _ rfl #[.string ⟨tx.toArray⟩] rfl (fun W=>by go_simp) (has _) (fun e wc he=>?_)
       obtain ⟨rfl,hbc⟩:=he
       refine ⟨_,rfl,hK.out _ _ (fun _=>hHeld.trans (hbc.mono hHeld.size)) (fun hHeld=>?_)⟩
       have hHeld:=hHeld (by decide)
       simp only [Act.put,List.setIfInBounds_toArray,List.set_cons_zero,List.set_cons_succ]
       refine take (i:=8) (d:=some 59) (v:=.agg #[.int .i64 34,.int .i64 0,.int .i64 0,.int .i64 0,.string ⟨#[]⟩,.int .i64 A,.slice (some ⟨gs,0,none⟩) 2 2,.int .i64 p]) (by kernel_rfl) rfl rfl rfl (fun _ _ _ h=>h) hHeld (fun W hSw=>by go_simp) ?_
       simp only [Act.put,List.setIfInBounds_toArray,List.set_cons_zero,List.set_cons_succ]
       have yz:=y9.below hHeld ly
       refine anyJ_only (i:=9) (d:=none) (by kernel_rfl) rfl rfl rfl (fun K' hK=>?_)
       refine wp_store_row 100 (.tmp 4) (.tmp 59) rfl gy #[.int .i64 34,.int .i64 0,.int .i64 0,.int .i64 0,.string ⟨#[]⟩,.int .i64 A,.slice (some ⟨gs,0,none⟩) 2 2,.int .i64 p] rfl rfl 100 _ yz ex_size rfl (by simp [Value.oneCell']) (hK.out _ _ (fun h=>absurd rfl h) (fun _=>?_))
       refine anyJ_done (by kernel_rfl) ?_ _
       simp only [Act.put]
       have k9:=(KeepM.refl gy wc).ownRow #[.int .i64 34,.int .i64 0,.int .i64 0,.int .i64 0,.string ⟨#[]⟩,.int .i64 A,.slice (some ⟨gs,0,none⟩) 2 2,.int .i64 p]
       have y9:BlkIs (World.setRow wc gy #[.int .i64 34,.int .i64 0,.int .i64 0,.int .i64 0,.string ⟨#[]⟩,.int .i64 A,.slice (some ⟨gs,0,none⟩) 2 2,.int .i64 p]) gy 100 #[.int .i64 34,.int .i64 0,.int .i64 0,.int .i64 0,.string ⟨#[]⟩,.int .i64 A,.slice (some ⟨gs,0,none⟩) 2 2,.int .i64 p]:=setRow_heap _ _ _ _ _ _ yz
       go_wp2_with fail
       refine bodyPost_ret (results_cell_row rfl _ _ gy 100 _ (0,0) _ rfl y9 Tryz.underlying100 rfl ex_size) rfl ?_
       refine ⟨_,_,Lib.hid rfl,rfl,rfl,?_,(k09.trans (KeepM.of hHeld)).box k9 hgyw,(r9.below hHeld).box k9 hgy2⟩
       have hs2:=(hs1.below hbc).keepM k9 (fun j hj=>by omega)
       exact rep_ex.2 ⟨some ⟨gs,0,none⟩,2,rfl,hs2.imp (fun j hj _=>by omega)⟩
   ·have e1:(k == 3)=false:=by simpa using hk3
    have e2:(k != 3)=true:=by simpa using hk3
    rw [e2,Bool.true_or,if_pos rfl] at H3
    clear hk3
    injection H3 with H3
    injection H3 with e1 e2
    subst e1 e2
    go_wp2_with fail
    refine ho1.mono ?_
    rintro e w8 ⟨rfl,rfl⟩
    go_upto_region 6 with fail
    go_step
    refine wpList_loadV rfl 100 (.tmp 5) rfl g5 V1 X1 hV1.out rfl 100 _ z5 Tryz.underlying100 rfl (by rw [hS1];exact ex_size) ?_
    go_wp2_with (refine wpList_storeV rfl 100 (.tmp 4) (.tmp 44) rfl gy V1 X1 hV1.out rfl rfl 100 _ y5 (by rw [hS1];exact ex_size) (by rw [hS1];rfl) (Rep.one _ _ (hA5)) (fun w9 k9 y9=>?_))
    refine bodyPost_ret (results_cell_row rfl _ _ gy 100 X1 (0,0) _ rfl y9 Tryz.underlying100 rfl (by rw [hS1];exact ex_size)) rfl ?_
    refine ⟨_,X1,Lib.hid rfl,hS1,rfl,((hA5).keepM k9 (fun j hj=>by omega)).imp (fun j hj _=>by omega),(k05).box k9 hgyw,(r5).box k9 hgy2⟩
 ·rw [o1] at ho
  rw [c1] at hca
  have o3:decide ((20:Int)<d)=true:=by simpa using o2
  clear o2
  go_enter Tryz.func90,Tryz.ntmps90
  go_wp2_with fail
  rw [hw0.out,hgy.out]
  refine ho.mono ?_
  rintro e w1 ⟨rfl,rfl⟩
  go_wp2_with fail
  refine (rfail_any g gv fv s 2 _ r0).mono ?_
  rintro e w1 ⟨rfl,k1,r1⟩
  have y1:=y0.keepM k1 (by omega)
  have k01:=k00.trans k1
  clear y0 r0 k00 ho hw0 c1 o1 k1
  go_wp2_with fail
  refine (hca _ r1).mono ?_
  rintro e w2 ⟨V1,X1,hV1,hS1,rfl,hA2,kk,r2⟩
  have hsz2:=y1.lt
  have y2:=y1.keepM kk (by omega)
  have k02:=k01.trans kk
  have hA2:=hA2.imp (ok':=fun k=>gy<k) (fun k hk _=>by omega)
  clear y1 r1 k01 kk hsz2 hca
  go_upto_region 4 with (refine wpList_storeV rfl 100 (.tmp 5) (.tmp 18) rfl _ V1 X1 hV1.out rfl rfl 100 _ (BlkIs.fresh _ _ _) (by rw [hS1];exact ex_size) (by rw [hS1];rfl) (Rep.one _ _ hA2) (fun w3 kz z3=>?_))
  have bb:=below_box kz
  have y3:=y2.below bb y2.lt
  have hA3:=hA2.below bb
  have k03:=k02.trans (KeepM.of bb)
  have r3:=r2.below bb
  obtain ⟨g5,hg5⟩:∃ x,Hid (w2.heap.size=x):=⟨_,Lib.hid rfl⟩
  have hg5l:gy<g5:=by rw [← hg5.out];exact y2.lt
  rw [hg5.out] at z3 ⊢
  clear y2 hA2 r2 k02 kz bb
  obtain ⟨c,q,off,n,c0,hn,hn2,hc,hq,hl2,t0,t1,t2,t3⟩:=r3.first
  obtain ⟨t,ht⟩:∃ t,Hid (hdT s1.ts=t):=⟨_,Lib.hid rfl⟩
  rw [ht.out] at t0 t1 t2 t3
  have H3:=H2.out
  rw [ht.out] at H3
  obtain ⟨k,tx,m,p⟩:=t
  simp only at t0 t1 t2 t3 H3
  have bb:=below_alloc w3 (.cells #[.int .i64 k,.string ⟨tx.toArray⟩,.int .i64 m,.int .i64 p] 43)
  have q4:=BlkIs.fresh w3 43 #[.int .i64 k,.string ⟨tx.toArray⟩,.int .i64 m,.int .i64 p]
  have y4:=y3.below bb y3.lt
  have z4:=z3.below bb z3.lt
  have hA4:=hA3.below bb
  have k04:=k03.trans (KeepM.of bb)
  have r4:=r3.below bb
  obtain ⟨g6,hg6⟩:∃ x,Hid (w3.heap.size=x):=⟨_,Lib.hid rfl⟩
  have hg6l:g5<g6:=by rw [← hg6.out];exact z3.lt
  rw [hg6.out] at q4
  go_upto_region 5 with fail
  rw [hg6.out]
  clear y3 z3 hA3 r3 k03 c0 hn hn2 hc hq hl2 t0 t1 t2 t3
  obtain ⟨w5,hw5⟩:∃ W,w3.alloc (.cells #[.int .i64 k,.string ⟨tx.toArray⟩,.int .i64 m,.int .i64 p] 43)=W:=⟨_,rfl⟩
  rw [hw5] at y4 z4 q4 hA4 r4 k04 ⊢
  clear hw5 bb
  have y5:=y4
  have z5:=z4
  have q5:=q4
  have hA5:=hA4
  have r5:=r4
  have k05:=k04
  clear y4 z4 q4 hA4 r4 k04
  have lz:=z5.lt
  have ly:=y5.lt
  have lq:=q5.lt
  have q0:w5.cell? ⟨g6,0,none⟩=some (.int .i64 k):=q5.cell 0
  have q1:w5.cell? ⟨g6,1,none⟩=some (.string ⟨tx.toArray⟩):=q5.cell 1
  have ho1:=rok_any g gv fv s1 w5 r5
  have has:=fun W=>rassigns_any tx W
  obtain ⟨A,hAs⟩:∃ A,Hid (rassigns tx=A):=⟨_,Lib.hid rfl⟩
  rw [hAs.out] at has H3
  cases hk1:rok s1
  ·rw [hk1] at ho1 H3
   rw [Bool.not_false,Bool.true_or,if_pos rfl] at H3
   injection H3 with H3
   injection H3 with e1 e2
   subst e1 e2
   go_wp2_with fail
   refine ho1.mono ?_
   rintro e w8 ⟨rfl,rfl⟩
   go_upto_region 6 with fail
   go_step
   refine wpList_loadV rfl 100 (.tmp 5) rfl g5 V1 X1 hV1.out rfl 100 _ z5 Tryz.underlying100 rfl (by rw [hS1];exact ex_size) ?_
   go_wp2_with (refine wpList_storeV rfl 100 (.tmp 4) (.tmp 44) rfl gy V1 X1 hV1.out rfl rfl 100 _ y5 (by rw [hS1];exact ex_size) (by rw [hS1];rfl) (Rep.one _ _ (hA5)) (fun w9 k9 y9=>?_))
   refine bodyPost_ret (results_cell_row rfl _ _ gy 100 X1 (0,0) _ rfl y9 Tryz.underlying100 rfl (by rw [hS1];exact ex_size)) rfl ?_
   refine ⟨_,X1,Lib.hid rfl,hS1,rfl,((hA5).keepM k9 (fun j hj=>by omega)).imp (fun j hj _=>by omega),(k05).box k9 hgyw,(r5).box k9 hgy2⟩
  ·rw [hk1] at ho1 H3
   rw [Bool.not_true,Bool.false_or] at H3
   by_cases hk3:k=3
   ·subst hk3
    rw [show ((3:Int) != 3)=false from rfl,Bool.false_or] at H3
    by_cases htx:tx=[61]
    ·subst htx
     rw [show (([61]:List UInt8) != [61])=false from rfl,Bool.false_and,if_neg (by decide)] at H3
     obtain ⟨⟨b,s2⟩,h1,h2⟩:=Option.bind_eq_some_iff.1 H3
     injection h2 with h2
     injection h2 with e1 e2
     subst e1 e2
     have hea:=fun W hq=>ihe (d + 1) (rnext s1) s2 b g gv fv W h1 ⟨by omega,by omega⟩ hq
     clear h1 H3 H2
     go_wp2_with fail
     refine ho1.mono ?_
     rintro e w8 ⟨rfl,rfl⟩
     go_wp2_with fail
     refine (rnext_any g gv fv s1 _ r5).mono ?_
     rintro e w6 ⟨rfl,kk,r6⟩
     have y6:=y5.keepM kk (by omega)
     have z6:=z5.keepM kk (by omega)
     have q6:=q5.keepM kk (by omega)
     have hA6:=hA5.keepM kk (fun j hj=>by omega)
     have k06:=k05.trans kk
     clear y5 z5 q5 hA5 r5 k05 kk
     go_wp2_with fail
     refine (hea _ r6).mono ?_
     rintro e w7 ⟨V2,X2,hV2,hS2,rfl,hB7,kk,r7⟩
     have hsz7:=y6.lt
     have y7:=y6.keepM kk (by omega)
     have z7:=z6.keepM kk (by omega)
     have q7:=q6.keepM kk (by omega)
     have hA7:=hA6.keepM kk (fun j hj=>by omega)
     have k07:=k06.trans kk
     have hB7:=hB7.imp (ok':=fun k=>gy<k) (fun k hk _=>by omega)
     clear y6 z6 q6 hA6 r6 k06 kk hsz7 hea
     go_upto_region 8 with (refine wpList_storeV rfl 100 (.tmp 7) (.tmp 50) rfl _ V2 X2 hV2.out rfl rfl 100 _ (BlkIs.fresh _ _ _) (by rw [hS2];exact ex_size) (by rw [hS2];rfl) (Rep.one _ _ hB7) (fun w8 kz u8=>?_))
     have bb:=below_box kz
     have y8:=y7.below bb y7.lt
     have z8:=z7.below bb z7.lt
     have q8:=q7.below bb q7.lt
     have hA8:=hA7.below bb
     have hB8:=hB7.below bb
     have k08:=k07.trans (KeepM.of bb)
     have r8:=r7.below bb
     obtain ⟨g7,hg7⟩:∃ x,Hid (w7.heap.size=x):=⟨_,Lib.hid rfl⟩
     have hg7l:g6<g7:=by rw [← hg7.out];exact q7.lt
     rw [hg7.out] at u8 ⊢
     clear y7 z7 q7 hA7 hB7 r7 k07 kz bb
     have lz:=z8.lt
     have ly:=y8.lt
     have lq:=q8.lt
     have lu:=u8.lt
     have c1:w8.cell? ⟨g6,1,none⟩=some (.string ⟨([61]:List UInt8).toArray⟩):=q8.cell 1
     have c3:w8.cell? ⟨g6,3,none⟩=some (.int .i64 p):=q8.cell 3
     have hA:AllEx w8 (fun k=>gy<k) [a,b] [X1,X2]:=⟨hS1,hA8,hS2,hB8,trivial⟩
     refine anyJ_begin 9 (fun W=>Below w8.heap.size w8 W) (by kernel_rfl) ((Below.refl _ _).drew) (fun hHeld=>?_)
     refine take (i:=0) (d:=some 51) (v:=.pointer (some ⟨g6,1,none⟩)) (by kernel_rfl) rfl rfl rfl (fun _ _ _ h=>h) hHeld (fun W hSw=>by go_simp) ?_
     simp only [Act.put,List.setIfInBounds_toArray,List.set_cons_zero,List.set_cons_succ]
     refine take (i:=1) (d:=some 52) (v:=.string ⟨([61]:List UInt8).toArray⟩) (by kernel_rfl) rfl rfl rfl (fun _ _ _ h=>h) hHeld (fun W hSw=>by have x:=(hSw.cell (p:=⟨g6,1,none⟩) lq).trans c1;go_simp) ?_
     simp only [Act.put,List.setIfInBounds_toArray,List.set_cons_zero,List.set_cons_succ]
     refine take (i:=3) (d:=some 54) (v:=V1) (by kernel_rfl) rfl rfl rfl (fun _ _ _ h=>h) hHeld (fun W hSw=>by rw [hV1.out];exact exec_load_row rfl rfl (z8.below hSw lz) Tryz.underlying100 rfl (by rw [hS1];exact ex_size)) ?_
     simp only [Act.put,List.setIfInBounds_toArray,List.set_cons_zero,List.set_cons_succ]
     refine take (i:=4) (d:=some 55) (v:=V2) (by kernel_rfl) rfl rfl rfl (fun _ _ _ h=>h) hHeld (fun W hSw=>by rw [hV2.out];exact exec_load_row rfl rfl (u8.below hSw lu) Tryz.underlying100 rfl (by rw [hS2];exact ex_size)) ?_
     simp only [Act.put,List.setIfInBounds_toArray,List.set_cons_zero,List.set_cons_succ]
     refine take (i:=6) (d:=some 57) (v:=.pointer (some ⟨g6,3,none⟩)) (by kernel_rfl) rfl rfl rfl (fun _ _ _ h=>h) hHeld (fun W hSw=>by go_simp) ?_
     simp only [Act.put,List.setIfInBounds_toArray,List.set_cons_zero,List.set_cons_succ]
     refine take (i:=7) (d:=some 58) (v:=.int .i64 p) (by kernel_rfl) rfl rfl rfl (fun _ _ _ h=>h) hHeld (fun W hSw=>by have x:=(hSw.cell (p:=⟨g6,3,none⟩) lq).trans c3;go_simp) ?_
     simp only [Act.put,List.setIfInBounds_toArray,List.set_cons_zero,List.set_cons_succ]
     refine anyJ_two (i:=2) (j:=5) (d:=some 53) (d2:=some 56) (by kernel_rfl) rfl rfl rfl rfl rfl rfl (fun K' hK=>?_) (fun K' hK=>?_)
     ·refine wp_go_call 105 _ _ rfl #[.string ⟨([61]:List UInt8).toArray⟩] rfl (fun W=>by go_simp) (has _) (fun e wc he=>?_)
      obtain ⟨rfl,hbc⟩:=he
      refine ⟨_,rfl,hK.out _ _ (fun _=>hHeld.trans (hbc.mono hHeld.size)) (fun hHeld=>?_)⟩
      have hHeld:=hHeld (by decide)
      simp only [Act.put,List.setIfInBounds_toArray,List.set_cons_zero,List.set_cons_succ]
      refine anyJ_only (i:=5) (d:=some 56) (by kernel_rfl) rfl rfl rfl (fun K' hK=>?_)
      refine wp_exs 2 _ rfl [V1,V2] [X1,X2] (by rw [hV1.out,hV2.out];rfl) rfl rfl hA.sizes rfl (by decide) (by decide) (fun ws hbs hss=>?_)
      have hs1:=hss _ _ (AllEx.below hHeld hA)
      have hz:=hHeld.size
      obtain ⟨gs,hgs⟩:∃ x,Hid (wc.heap.size=x):=⟨_,Lib.hid rfl⟩
      rw [hgs.out] at hs1 ⊢
      have hgsl:w8.heap.size≤gs:=by rw [← hgs.out];exact hz
      refine hK.out _ _ (fun _=>hHeld.trans (hbs.mono hz)) (fun hHeld=>?_)
      have hHeld:=hHeld (by decide)
      simp only [Act.put,List.setIfInBounds_toArray,List.set_cons_zero,List.set_cons_succ]
      refine take (i:=8) (d:=some 59) (v:=.agg #[.int .i64 34,.int .i64 0,.int .i64 0,.int .i64 0,.string ⟨#[]⟩,.int .i64 A,.slice (some ⟨gs,0,none⟩) 2 2,.int .i64 p]) (by kernel_rfl) rfl rfl rfl (fun _ _ _ h=>h) hHeld (fun W hSw=>by go_simp) ?_
      simp only [Act.put,List.setIfInBounds_toArray,List.set_cons_zero,List.set_cons_succ]
      have yz:=y8.below hHeld ly
      refine anyJ_only (i:=9) (d:=none) (by kernel_rfl) rfl rfl rfl (fun K' hK=>?_)
      refine wp_store_row 100 (.tmp 4) (.tmp 59) rfl gy #[.int .i64 34,.int .i64 0,.int .i64 0,.int .i64 0,.string ⟨#[]⟩,.int .i64 A,.slice (some ⟨gs,0,none⟩) 2 2,.int .i64 p] rfl rfl 100 _ yz ex_size rfl (by simp [Value.oneCell']) (hK.out _ _ (fun h=>absurd rfl h) (fun _=>?_))
      refine anyJ_done (by kernel_rfl) ?_ _
      simp only [Act.put]
      have k9:=(KeepM.refl gy ws).ownRow #[.int .i64 34,.int .i64 0,.int .i64 0,.int .i64 0,.string ⟨#[]⟩,.int .i64 A,.slice (some ⟨gs,0,none⟩) 2 2,.int .i64 p]
      have y9:BlkIs (World.setRow ws gy #[.int .i64 34,.int .i64 0,.int .i64 0,.int .i64 0,.string ⟨#[]⟩,.int .i64 A,.slice (some ⟨gs,0,none⟩) 2 2,.int .i64 p]) gy 100 #[.int .i64 34,.int .i64 0,.int .i64 0,.int .i64 0,.string ⟨#[]⟩,.int .i64 A,.slice (some ⟨gs,0,none⟩) 2 2,.int .i64 p]:=setRow_heap _ _ _ _ _ _ yz
      go_wp2_with fail
      refine bodyPost_ret (results_cell_row rfl _ _ gy 100 _ (0,0) _ rfl y9 Tryz.underlying100 rfl ex_size) rfl ?_
      refine ⟨_,_,Lib.hid rfl,rfl,rfl,?_,(k08.trans (KeepM.of hHeld)).box k9 hgyw,(r8.below hHeld).box k9 hgy2⟩
      have hs2:=(hs1).keepM k9 (fun j hj=>by omega)
      exact rep_ex.2 ⟨some ⟨gs,0,none⟩,2,rfl,hs2.imp (fun j hj _=>by omega)⟩
     ·refine wp_exs 2 _ rfl [V1,V2] [X1,X2] (by rw [hV1.out,hV2.out];rfl) rfl rfl hA.sizes rfl (by decide) (by decide) (fun ws hbs hss=>?_)
      have hs1:=hss _ _ (AllEx.below hHeld hA)
      have hz:=hHeld.size
      obtain ⟨gs,hgs⟩:∃ x,Hid (w8.drew.heap.size=x):=⟨_,Lib.hid rfl⟩
      rw [hgs.out] at hs1 ⊢
      have hgsl:w8.heap.size≤gs:=by rw [← hgs.out];exact hz
      refine hK.out _ _ (fun _=>hHeld.trans (hbs.mono hz)) (fun hHeld=>?_)
      have hHeld:=hHeld (by decide)
      simp only [Act.put,List.setIfInBounds_toArray,List.set_cons_zero,List.set_cons_succ]
      refine anyJ_only (i:=2) (d:=some 53) (by kernel_rfl) rfl rfl rfl (fun K' hK=>?_)
      refine wp_go_call 105 _ _ rfl #[.string ⟨([61]:List UInt8).toArray⟩] rfl (fun W=>by go_simp) (has _) (fun e wc he=>?_)
      obtain ⟨rfl,hbc⟩:=he
      refine ⟨_,rfl,hK.out _ _ (fun _=>hHeld.trans (hbc.mono hHeld.size)) (fun hHeld=>?_)⟩
      have hHeld:=hHeld (by decide)
      simp only [Act.put,List.setIfInBounds_toArray,List.set_cons_zero,List.set_cons_succ]
      refine take (i:=8) (d:=some 59) (v:=.agg #[.int .i64 34,.int .i64 0,.int .i64 0,.int .i64 0,.string ⟨#[]⟩,.int .i64 A,.slice (some ⟨gs,0,none⟩) 2 2,.int .i64 p]) (by kernel_rfl) rfl rfl rfl (fun _ _ _ h=>h) hHeld (fun W hSw=>by go_simp) ?_
      simp only [Act.put,List.setIfInBounds_toArray,List.set_cons_zero,List.set_cons_succ]
      have yz:=y8.below hHeld ly
      refine anyJ_only (i:=9) (d:=none) (by kernel_rfl) rfl rfl rfl (fun K' hK=>?_)
      refine wp_store_row 100 (.tmp 4) (.tmp 59) rfl gy #[.int .i64 34,.int .i64 0,.int .i64 0,.int .i64 0,.string ⟨#[]⟩,.int .i64 A,.slice (some ⟨gs,0,none⟩) 2 2,.int .i64 p] rfl rfl 100 _ yz ex_size rfl (by simp [Value.oneCell']) (hK.out _ _ (fun h=>absurd rfl h) (fun _=>?_))
      refine anyJ_done (by kernel_rfl) ?_ _
      simp only [Act.put]
      have k9:=(KeepM.refl gy wc).ownRow #[.int .i64 34,.int .i64 0,.int .i64 0,.int .i64 0,.string ⟨#[]⟩,.int .i64 A,.slice (some ⟨gs,0,none⟩) 2 2,.int .i64 p]
      have y9:BlkIs (World.setRow wc gy #[.int .i64 34,.int .i64 0,.int .i64 0,.int .i64 0,.string ⟨#[]⟩,.int .i64 A,.slice (some ⟨gs,0,none⟩) 2 2,.int .i64 p]) gy 100 #[.int .i64 34,.int .i64 0,.int .i64 0,.int .i64 0,.string ⟨#[]⟩,.int .i64 A,.slice (some ⟨gs,0,none⟩) 2 2,.int .i64 p]:=setRow_heap _ _ _ _ _ _ yz
      go_wp2_with fail
      refine bodyPost_ret (results_cell_row rfl _ _ gy 100 _ (0,0) _ rfl y9 Tryz.underlying100 rfl ex_size) rfl ?_
      refine ⟨_,_,Lib.hid rfl,rfl,rfl,?_,(k08.trans (KeepM.of hHeld)).box k9 hgyw,(r8.below hHeld).box k9 hgy2⟩
      have hs2:=(hs1.below hbc).keepM k9 (fun j hj=>by omega)
      exact rep_ex.2 ⟨some ⟨gs,0,none⟩,2,rfl,hs2.imp (fun j hj _=>by omega)⟩
    ·have e1:(tx == [61])=false:=by simpa using htx
     have e2:(tx != [61])=true:=by simpa using htx
     rw [e2,Bool.true_and] at H3
     clear htx
     by_cases hA0:A=0
     ·subst hA0
      rw [show ((0:Int) == 0)=true from rfl,if_pos rfl] at H3
      injection H3 with H3
      injection H3 with e1 e2
      subst e1 e2
      go_wp2_with fail
      refine ho1.mono ?_
      rintro e w8 ⟨rfl,rfl⟩
      go_wp2_with fail
      refine (has _).mono ?_
      rintro e w7 ⟨rfl,hb7⟩
      go_upto_region 6 with fail
      go_step
      refine wpList_loadV rfl 100 (.tmp 5) rfl g5 V1 X1 hV1.out rfl 100 _ (z5.below hb7 lz) Tryz.underlying100 rfl (by rw [hS1];exact ex_size) ?_
      go_wp2_with (refine wpList_storeV rfl 100 (.tmp 4) (.tmp 44) rfl gy V1 X1 hV1.out rfl rfl 100 _ (y5.below hb7 ly) (by rw [hS1];exact ex_size) (by rw [hS1];rfl) (Rep.one _ _ (hA5.below hb7)) (fun w9 k9 y9=>?_))
      refine bodyPost_ret (results_cell_row rfl _ _ gy 100 X1 (0,0) _ rfl y9 Tryz.underlying100 rfl (by rw [hS1];exact ex_size)) rfl ?_
      refine ⟨_,X1,Lib.hid rfl,hS1,rfl,((hA5.below hb7).keepM k9 (fun j hj=>by omega)).imp (fun j hj _=>by omega),(k05.trans (KeepM.of hb7)).box k9 hgyw,(r5.below hb7).box k9 hgy2⟩
     ·have e3:(A == 0)=false:=by simpa using hA0
      rw [e3,if_neg (by decide)] at H3
      obtain ⟨⟨b,s2⟩,h1,h2⟩:=Option.bind_eq_some_iff.1 H3
      injection h2 with h2
      injection h2 with e1 e2
      subst e1 e2
      have hea:=fun W hq=>ihe (d + 1) (rnext s1) s2 b g gv fv W h1 ⟨by omega,by omega⟩ hq
      clear h1 H3 H2
      go_wp2_with fail
      refine ho1.mono ?_
      rintro e w8 ⟨rfl,rfl⟩
      go_wp2_with fail
      refine (has _).mono ?_
      rintro e w6 ⟨rfl,bb⟩
      have y6:=y5.below bb y5.lt
      have z6:=z5.below bb z5.lt
      have q6:=q5.below bb q5.lt
      have hA6:=hA5.below bb
      have k06:=k05.trans (KeepM.of bb)
      have r6:=r5.below bb
      clear bb y5 z5 q5 hA5 r5 k05 lz ly lq q0 q1 ho1
      go_wp2_with fail
      refine (rnext_any g gv fv s1 _ r6).mono ?_
      rintro e w7 ⟨rfl,kk,r7⟩
      have y7:=y6.keepM kk (by omega)
      have z7:=z6.keepM kk (by omega)
      have q7:=q6.keepM kk (by omega)
      have hA7:=hA6.keepM kk (fun j hj=>by omega)
      have k07:=k06.trans kk
      clear y6 z6 q6 hA6 r6 k06 kk
      go_wp2_with fail
      refine (hea _ r7).mono ?_
      rintro e w8 ⟨V2,X2,hV2,hS2,rfl,hB8,kk,r8⟩
      have hsz8:=y7.lt
      have y8:=y7.keepM kk (by omega)
      have z8:=z7.keepM kk (by omega)
      have q8:=q7.keepM kk (by omega)
      have hA8:=hA7.keepM kk (fun j hj=>by omega)
      have k08:=k07.trans kk
      have hB8:=hB8.imp (ok':=fun k=>gy<k) (fun k hk _=>by omega)
      clear y7 z7 q7 hA7 r7 k07 kk hsz8 hea
      go_upto_region 8 with (refine wpList_storeV rfl 100 (.tmp 7) (.tmp 50) rfl _ V2 X2 hV2.out rfl rfl 100 _ (BlkIs.fresh _ _ _) (by rw [hS2];exact ex_size) (by rw [hS2];rfl) (Rep.one _ _ hB8) (fun w9 kz u9=>?_))
      have bb:=below_box kz
      have y9:=y8.below bb y8.lt
      have z9:=z8.below bb z8.lt
      have q9:=q8.below bb q8.lt
      have hA9:=hA8.below bb
      have hB9:=hB8.below bb
      have k09:=k08.trans (KeepM.of bb)
      have r9:=r8.below bb
      obtain ⟨g7,hg7⟩:∃ x,Hid (w8.heap.size=x):=⟨_,Lib.hid rfl⟩
      have hg7l:g6<g7:=by rw [← hg7.out];exact q8.lt
      rw [hg7.out] at u9 ⊢
      clear y8 z8 q8 hA8 hB8 r8 k08 kz bb
      have lz:=z9.lt
      have ly:=y9.lt
      have lq:=q9.lt
      have lu:=u9.lt
      have c1:w9.cell? ⟨g6,1,none⟩=some (.string ⟨tx.toArray⟩):=q9.cell 1
      have c3:w9.cell? ⟨g6,3,none⟩=some (.int .i64 p):=q9.cell 3
      have hA:AllEx w9 (fun k=>gy<k) [a,b] [X1,X2]:=⟨hS1,hA9,hS2,hB9,trivial⟩
      refine anyJ_begin 9 (fun W=>Below w9.heap.size w9 W) (by kernel_rfl) ((Below.refl _ _).drew) (fun hHeld=>?_)
      refine take (i:=0) (d:=some 51) (v:=.pointer (some ⟨g6,1,none⟩)) (by kernel_rfl) rfl rfl rfl (fun _ _ _ h=>h) hHeld (fun W hSw=>by go_simp) ?_
      simp only [Act.put,List.setIfInBounds_toArray,List.set_cons_zero,List.set_cons_succ]
      refine take (i:=1) (d:=some 52) (v:=.string ⟨tx.toArray⟩) (by kernel_rfl) rfl rfl rfl (fun _ _ _ h=>h) hHeld (fun W hSw=>by have x:=(hSw.cell (p:=⟨g6,1,none⟩) lq).trans c1;go_simp) ?_
      simp only [Act.put,List.setIfInBounds_toArray,List.set_cons_zero,List.set_cons_succ]
      refine take (i:=3) (d:=some 54) (v:=V1) (by kernel_rfl) rfl rfl rfl (fun _ _ _ h=>h) hHeld (fun W hSw=>by rw [hV1.out];exact exec_load_row rfl rfl (z9.below hSw lz) Tryz.underlying100 rfl (by rw [hS1];exact ex_size)) ?_
      simp only [Act.put,List.setIfInBounds_toArray,List.set_cons_zero,List.set_cons_succ]
      refine take (i:=4) (d:=some 55) (v:=V2) (by kernel_rfl) rfl rfl rfl (fun _ _ _ h=>h) hHeld (fun W hSw=>by rw [hV2.out];exact exec_load_row rfl rfl (u9.below hSw lu) Tryz.underlying100 rfl (by rw [hS2];exact ex_size)) ?_
      simp only [Act.put,List.setIfInBounds_toArray,List.set_cons_zero,List.set_cons_succ]
      refine take (i:=6) (d:=some 57) (v:=.pointer (some ⟨g6,3,none⟩)) (by kernel_rfl) rfl rfl rfl (fun _ _ _ h=>h) hHeld (fun W hSw=>by go_simp) ?_
      simp only [Act.put,List.setIfInBounds_toArray,List.set_cons_zero,List.set_cons_succ]
      refine take (i:=7) (d:=some 58) (v:=.int .i64 p) (by kernel_rfl) rfl rfl rfl (fun _ _ _ h=>h) hHeld (fun W hSw=>by have x:=(hSw.cell (p:=⟨g6,3,none⟩) lq).trans c3;go_simp) ?_
      simp only [Act.put,List.setIfInBounds_toArray,List.set_cons_zero,List.set_cons_succ]
      refine anyJ_two (i:=2) (j:=5) (d:=some 53) (d2:=some 56) (by kernel_rfl) rfl rfl rfl rfl rfl rfl (fun K' hK=>?_) (fun K' hK=>?_)
      ·refine wp_go_call 105 _ _ rfl #[.string ⟨tx.toArray⟩] rfl (fun W=>by go_simp) (has _) (fun e wc he=>?_)
       obtain ⟨rfl,hbc⟩:=he
       refine ⟨_,rfl,hK.out _ _ (fun _=>hHeld.trans (hbc.mono hHeld.size)) (fun hHeld=>?_)⟩
       have hHeld:=hHeld (by decide)
       simp only [Act.put,List.setIfInBounds_toArray,List.set_cons_zero,List.set_cons_succ]
       refine anyJ_only (i:=5) (d:=some 56) (by kernel_rfl) rfl rfl rfl (fun K' hK=>?_)
       refine wp_exs 2 _ rfl [V1,V2] [X1,X2] (by rw [hV1.out,hV2.out];rfl) rfl rfl hA.sizes rfl (by decide) (by decide) (fun ws hbs hss=>?_)
       have hs1:=hss _ _ (AllEx.below hHeld hA)
       have hz:=hHeld.size
       obtain ⟨gs,hgs⟩:∃ x,Hid (wc.heap.size=x):=⟨_,Lib.hid rfl⟩
       rw [hgs.out] at hs1 ⊢
       have hgsl:w9.heap.size≤gs:=by rw [← hgs.out];exact hz
       refine hK.out _ _ (fun _=>hHeld.trans (hbs.mono hz)) (fun hHeld=>?_)
       have hHeld:=hHeld (by decide)
       simp only [Act.put,List.setIfInBounds_toArray,List.set_cons_zero,List.set_cons_succ]
       refine take (i:=8) (d:=some 59) (v:=.agg #[.int .i64 34,.int .i64 0,.int .i64 0,.int .i64 0,.string ⟨#[]⟩,.int .i64 A,.slice (some ⟨gs,0,none⟩) 2 2,.int .i64 p]) (by kernel_rfl) rfl rfl rfl (fun _ _ _ h=>h) hHeld (fun W hSw=>by go_simp) ?_
       simp only [Act.put,List.setIfInBounds_toArray,List.set_cons_zero,List.set_cons_succ]
       have yz:=y9.below hHeld ly
       refine anyJ_only (i:=9) (d:=none) (by kernel_rfl) rfl rfl rfl (fun K' hK=>?_)
       refine wp_store_row 100 (.tmp 4) (.tmp 59) rfl gy #[.int .i64 34,.int .i64 0,.int .i64 0,.int .i64 0,.string ⟨#[]⟩,.int .i64 A,.slice (some ⟨gs,0,none⟩) 2 2,.int .i64 p] rfl rfl 100 _ yz ex_size rfl (by simp [Value.oneCell']) (hK.out _ _ (fun h=>absurd rfl h) (fun _=>?_))
       refine anyJ_done (by kernel_rfl) ?_ _
       simp only [Act.put]
       have k9:=(KeepM.refl gy ws).ownRow #[.int .i64 34,.int .i64 0,.int .i64 0,.int .i64 0,.string ⟨#[]⟩,.int .i64 A,.slice (some ⟨gs,0,none⟩) 2 2,.int .i64 p]
       have y9:BlkIs (World.setRow ws gy #[.int .i64 34,.int .i64 0,.int .i64 0,.int .i64 0,.string ⟨#[]⟩,.int .i64 A,.slice (some ⟨gs,0,none⟩) 2 2,.int .i64 p]) gy 100 #[.int .i64 34,.int .i64 0,.int .i64 0,.int .i64 0,.string ⟨#[]⟩,.int .i64 A,.slice (some ⟨gs,0,none⟩) 2 2,.int .i64 p]:=setRow_heap _ _ _ _ _ _ yz
       go_wp2_with fail
       refine bodyPost_ret (results_cell_row rfl _ _ gy 100 _ (0,0) _ rfl y9 Tryz.underlying100 rfl ex_size) rfl ?_
       refine ⟨_,_,Lib.hid rfl,rfl,rfl,?_,(k09.trans (KeepM.of hHeld)).box k9 hgyw,(r9.below hHeld).box k9 hgy2⟩
       have hs2:=(hs1).keepM k9 (fun j hj=>by omega)
       exact rep_ex.2 ⟨some ⟨gs,0,none⟩,2,rfl,hs2.imp (fun j hj _=>by omega)⟩
      ·refine wp_exs 2 _ rfl [V1,V2] [X1,X2] (by rw [hV1.out,hV2.out];rfl) rfl rfl hA.sizes rfl (by decide) (by decide) (fun ws hbs hss=>?_)
       have hs1:=hss _ _ (AllEx.below hHeld hA)
       have hz:=hHeld.size
       obtain ⟨gs,hgs⟩:∃ x,Hid (w9.drew.heap.size=x):=⟨_,Lib.hid rfl⟩
       rw [hgs.out] at hs1 ⊢
       have hgsl:w9.heap.size≤gs:=by rw [← hgs.out];exact hz
       refine hK.out _ _ (fun _=>hHeld.trans (hbs.mono hz)) (fun hHeld=>?_)
       have hHeld:=hHeld (by decide)
       simp only [Act.put,List.setIfInBounds_toArray,List.set_cons_zero,List.set_cons_succ]
       refine anyJ_only (i:=2) (d:=some 53) (by kernel_rfl) rfl rfl rfl (fun K' hK=>?_)
       refine wp_go_call 105 _ _ rfl #[.string ⟨tx.toArray⟩] rfl (fun W=>by go_simp) (has _) (fun e wc he=>?_)
       obtain ⟨rfl,hbc⟩:=he
       refine ⟨_,rfl,hK.out _ _ (fun _=>hHeld.trans (hbc.mono hHeld.size)) (fun hHeld=>?_)⟩
       have hHeld:=hHeld (by decide)
       simp only [Act.put,List.setIfInBounds_toArray,List.set_cons_zero,List.set_cons_succ]
       refine take (i:=8) (d:=some 59) (v:=.agg #[.int .i64 34,.int .i64 0,.int .i64 0,.int .i64 0,.string ⟨#[]⟩,.int .i64 A,.slice (some ⟨gs,0,none⟩) 2 2,.int .i64 p]) (by kernel_rfl) rfl rfl rfl (fun _ _ _ h=>h) hHeld (fun W hSw=>by go_simp) ?_
       simp only [Act.put,List.setIfInBounds_toArray,List.set_cons_zero,List.set_cons_succ]
       have yz:=y9.below hHeld ly
       refine anyJ_only (i:=9) (d:=none) (by kernel_rfl) rfl rfl rfl (fun K' hK=>?_)
       refine wp_store_row 100 (.tmp 4) (.tmp 59) rfl gy #[.int .i64 34,.int .i64 0,.int .i64 0,.int .i64 0,.string ⟨#[]⟩,.int .i64 A,.slice (some ⟨gs,0,none⟩) 2 2,.int .i64 p] rfl rfl 100 _ yz ex_size rfl (by simp [Value.oneCell']) (hK.out _ _ (fun h=>absurd rfl h) (fun _=>?_))
       refine anyJ_done (by kernel_rfl) ?_ _
       simp only [Act.put]
       have k9:=(KeepM.refl gy wc).ownRow #[.int .i64 34,.int .i64 0,.int .i64 0,.int .i64 0,.string ⟨#[]⟩,.int .i64 A,.slice (some ⟨gs,0,none⟩) 2 2,.int .i64 p]
       have y9:BlkIs (World.setRow wc gy #[.int .i64 34,.int .i64 0,.int .i64 0,.int .i64 0,.string ⟨#[]⟩,.int .i64 A,.slice (some ⟨gs,0,none⟩) 2 2,.int .i64 p]) gy 100 #[.int .i64 34,.int .i64 0,.int .i64 0,.int .i64 0,.string ⟨#[]⟩,.int .i64 A,.slice (some ⟨gs,0,none⟩) 2 2,.int .i64 p]:=setRow_heap _ _ _ _ _ _ yz
       go_wp2_with fail
       refine bodyPost_ret (results_cell_row rfl _ _ gy 100 _ (0,0) _ rfl y9 Tryz.underlying100 rfl ex_size) rfl ?_
       refine ⟨_,_,Lib.hid rfl,rfl,rfl,?_,(k09.trans (KeepM.of hHeld)).box k9 hgyw,(r9.below hHeld).box k9 hgy2⟩
       have hs2:=(hs1.below hbc).keepM k9 (fun j hj=>by omega)
       exact rep_ex.2 ⟨some ⟨gs,0,none⟩,2,rfl,hs2.imp (fun j hj _=>by omega)⟩
   ·have e1:(k == 3)=false:=by simpa using hk3
    have e2:(k != 3)=true:=by simpa using hk3
    rw [e2,Bool.true_or,if_pos rfl] at H3
    clear hk3
    injection H3 with H3
    injection H3 with e1 e2
    subst e1 e2
    go_wp2_with fail
    refine ho1.mono ?_
    rintro e w8 ⟨rfl,rfl⟩
    go_upto_region 6 with fail
    go_step
    refine wpList_loadV rfl 100 (.tmp 5) rfl g5 V1 X1 hV1.out rfl 100 _ z5 Tryz.underlying100 rfl (by rw [hS1];exact ex_size) ?_
    go_wp2_with (refine wpList_storeV rfl 100 (.tmp 4) (.tmp 44) rfl gy V1 X1 hV1.out rfl rfl 100 _ y5 (by rw [hS1];exact ex_size) (by rw [hS1];rfl) (Rep.one _ _ (hA5)) (fun w9 k9 y9=>?_))
    refine bodyPost_ret (results_cell_row rfl _ _ gy 100 X1 (0,0) _ rfl y9 Tryz.underlying100 rfl (by rw [hS1];exact ex_size)) rfl ?_
    refine ⟨_,X1,Lib.hid rfl,hS1,rfl,((hA5).keepM k9 (fun j hj=>by omega)).imp (fun j hj _=>by omega),(k05).box k9 hgyw,(r5).box k9 hgy2⟩
end Go.Proofs.YtdmacgoeikjdbaaGreatDoor

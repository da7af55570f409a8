/- The reference's parser: an expression in brackets. The reference's par -/
import Derived.Test.YtdmacgoeikjdbaaGreatDoorK09
set_option maxHeartbeats 8000000
namespace Go.Proofs.YtdmacgoeikjdbaaGreatDoor
open Go.RowKit
set_option maxRecDepth 100000 in
theorem rparen_any (f:Nat) (ihe:RExprOk f) (d:Int) (s s':RS) (x:List Ex) (g:Nat) (gv fv:Value) (w:World) (hx:rparen f d s=some (x,s')) (hd:DepthOk d f) (hr:RdQ w g gv fv s) :
  Calls Tryz.prog 91 #[.pointer (some ⟨g,0,none⟩),.int .i64 d] w (ExsQ x g gv fv s' w):=by
 rw [rparen] at hx
 obtain ⟨⟨a,s1⟩,h1,h2⟩:=Option.bind_eq_some_iff.1 hx
 injection h2 with h2
 injection h2 with e1 e2
 subst e1 e2
 have hea:=fun W hq=>ihe d (rmust [40] s) s1 a g gv fv W h1 hd hq
 have hd1:=hd.1
 have hd2:=hd.2
 clear hx h1 hd
 have hl:=hr.lt
 have hm:=rmust_any g gv fv s [40] w hr
 clear hr
 go_enter Tryz.func91,Tryz.ntmps91
 go_wp2_with fail
 refine hm.mono ?_
 rintro e w1 ⟨rfl,k01,r1⟩
 clear hm
 go_wp2_with fail
 refine (hea _ r1).mono ?_
 rintro e w2 ⟨V1,X1,hV1,hS1,rfl,hA2,kk,r2⟩
 have hz1:=k01.size
 have k02:=k01.trans kk
 have hA2:=hA2.imp (ok':=fun k=>w.heap.size≤k) (fun k hk _=>by omega)
 clear kk k01 r1 hea
 go_upto_region 2 with (refine wpList_storeV rfl 100 (.tmp 5) (.tmp 10) rfl _ V1 X1 hV1.out rfl rfl 100 _ (BlkIs.fresh _ _ _) (by rw [hS1];exact ex_size) (by rw [hS1];rfl) (Rep.one _ _ hA2) (fun w3 kz z3=>?_))
 have bb:=below_box kz
 have hA3:=hA2.below bb
 have k03:=k02.trans (KeepM.of bb)
 have r3:=r2.below bb
 obtain ⟨g5,hg5⟩:∃ x,Hid (w2.heap.size=x):=⟨_,Lib.hid rfl⟩
 have hg5g:g<g5:=by rw [← hg5.out];exact r2.lt
 rw [hg5.out] at z3 ⊢
 clear hA2 k02 r2 kz bb hz1
 go_wp2_with fail
 refine (rmust_any g gv fv s1 [41] _ r3).mono ?_
 rintro e w4 ⟨rfl,k4,r4⟩
 have z4:=z3.keepM k4 (by omega)
 have hA4:=hA3.keepM k4 (fun j hj=>by omega)
 have k04:=k03.trans k4
 clear z3 hA3 k03 k4 r3
 have hA:AllEx w4 (fun k=>w.heap.size≤k) [a] [X1]:=⟨hS1,hA4,trivial⟩
 have hsz:=k04.size
 go_wp2_with (first
  | (refine wpList_loadV rfl 100 (.tmp 5) rfl g5 V1 X1 hV1.out rfl 100 _ z4 Tryz.underlying100 rfl (by rw [hS1];exact ex_size) ?_)
  | (refine wpList_exs rfl 1 _ rfl [V1] [X1] (congrArg (fun v=>[v]) hV1.out) rfl rfl hA.sizes rfl (by decide) (by decide) (fun w5 hb5 hs5=>?_)))
 go_ret
 exact ⟨_,_,rfl,(hs5 _ _ hA).imp (fun k hk _=>by rcases hk with h | h <;> omega),k04.trans (KeepM.of hb5),r4.below hb5⟩
end Go.Proofs.YtdmacgoeikjdbaaGreatDoor
namespace Go.Proofs.YtdmacgoeikjdbaaGreatDoor
open Go.RowKit
theorem noEx_rep (w:World) (ok:Nat→Prop):Rep w ok (encEx noEx) (exZ:Array Value).toList:=
 rep_ex.2 ⟨none,0,rfl,by
  unfold Rep
  exact ⟨none,0,rfl,Nat.le_refl _,Nat.zero_le _,fun h=>absurd h (by simp [noEx,Ex.kids])⟩⟩
set_option maxRecDepth 100000 in
theorem rmaybe_any (f:Nat) (ihe:RExprOk f) (d:Int) (c:List UInt8) (s s':RS) (x:Ex) (g:Nat) (gv fv:Value) (w:World) (hx:rmaybe f d c s=some (x,s')) (hd:DepthOk d f) (hr:RdQ w g gv fv s) :
  Calls Tryz.prog 92 #[.pointer (some ⟨g,0,none⟩),.int .i64 d,.string ⟨c.toArray⟩] w (ExQ x g gv fv s' w):=by
 rw [rmaybe] at hx
 have hd1:=hd.1
 have hd2:=hd.2
 have hl:=hr.lt
 have hb0:=below_alloc w (.cells exZ 100)
 have y0:BlkIs (w.alloc (.cells exZ 100)) w.heap.size 100 exZ:=BlkIs.fresh _ _ _
 have r0:=hr.below hb0
 have k00:=KeepM.of (gm:=g) hb0
 obtain ⟨gy,hgy⟩:∃ x,Hid (w.heap.size=x):=⟨_,Lib.hid rfl⟩
 have hgyw:w.heap.size≤gy:=Nat.le_of_eq hgy.out
 have hgy2:g<gy:=by omega
 rw [hgy.out] at y0
 clear hr hb0
 obtain ⟨w0,hw0⟩:∃ W,Hid (w.alloc (.cells exZ 100)=W):=⟨_,Lib.hid rfl⟩
 rw [hw0.out] at y0 r0 k00
 have ho:=rok_any g gv fv s w0 r0
 have ht:=rtake_any g gv fv s c w0 r0
 have ly0:=y0.lt
 cases hk1:rok s
 ·rw [hk1] at ho hx
  rw [Bool.not_false,if_pos rfl] at hx
  injection hx with hx
  injection hx with e1 e2
  subst e1 e2
  clear ht
  go_enter Tryz.func92,Tryz.ntmps92
  go_wp2_with fail
  rw [hw0.out,hgy.out]
  refine ho.mono ?_
  rintro e w8 ⟨rfl,rfl⟩
  go_wp2_with (refine wpList_storeV rfl 100 (.tmp 6) (.tmp 16) rfl gy _ exZ rfl rfl rfl 100 _ y0 ex_size rfl (by simp [Value.oneCell']) (fun w9 k9 y9=>?_))
  refine bodyPost_ret (results_cell_row rfl _ _ gy 100 _ (0,0) _ rfl y9 Tryz.underlying100 rfl ex_size) rfl ?_
  exact ⟨_,_,Lib.hid rfl,rfl,rfl,noEx_rep _ _,k00.box k9 hgyw,r0.box k9 hgy2⟩
 ·rw [hk1] at ho hx
  rw [Bool.not_true,if_neg (by decide)] at hx
  cases htk:(rtake c s).1
  ·rw [htk] at ht hx
   rw [if_neg (by decide)] at hx
   obtain ⟨⟨a,s1⟩,h1,h2⟩:=Option.bind_eq_some_iff.1 hx
   injection h2 with h2
   injection h2 with e1 e2
   subst e1 e2
   have hea:=fun W hq=>ihe d (rtake c s).2 s1 a g gv fv W h1 hd hq
   clear hx h1 hd
   go_enter Tryz.func92,Tryz.ntmps92
   go_wp2_with fail
   rw [hw0.out,hgy.out]
   refine ho.mono ?_
   rintro e w8 ⟨rfl,rfl⟩
   go_wp2_with fail
   refine ht.mono ?_
   rintro e w1 ⟨rfl,kk,r1⟩
   have y1:=y0.keepM kk (by omega)
   have k01:=k00.trans kk
   clear y0 k00 r0 kk ho ht hw0 ly0
   go_wp2_with fail
   refine (hea _ r1).mono ?_
   rintro e w2 ⟨V1,X1,hV1,hS1,rfl,hA2,kk,r2⟩
   have hsz2:=y1.lt
   have y2:=y1.keepM kk (by omega)
   have k02:=k01.trans kk
   have hA2:=hA2.imp (ok':=fun k=>gy<k) (fun k hk _=>by omega)
   clear y1 r1 k01 kk hsz2 hea
   go_upto_region 3 with (refine wpList_storeV rfl 100 (.tmp 7) (.tmp 19) rfl _ V1 X1 hV1.out rfl rfl 100 _ (BlkIs.fresh _ _ _) (by rw [hS1];exact ex_size) (by rw [hS1];rfl) (Rep.one _ _ hA2) (fun w3 kz z3=>?_))
   have bb:=below_box kz
   have y3:=y2.below bb y2.lt
   have hA3:=hA2.below bb
   have k03:=k02.trans (KeepM.of bb)
   have r3:=r2.below bb
   obtain ⟨g7,hg7⟩:∃ x,Hid (w2.heap.size=x):=⟨_,Lib.hid rfl⟩
   have hg7l:gy<g7:=by rw [← hg7.out];exact y2.lt
   rw [hg7.out] at z3 ⊢
   clear y2 hA2 r2 k02 kz bb
   go_wp2_with fail
   refine (rmust_any g gv fv s1 c _ r3).mono ?_
   rintro e w4 ⟨rfl,k4,r4⟩
   have y4:=y3.keepM k4 (by omega)
   have z4:=z3.keepM k4 (by omega)
   have hA4:=hA3.keepM k4 (fun j hj=>by omega)
   have k04:=k03.trans k4
   clear y3 z3 hA3 k03 k4 r3
   have lz:=z4.lt
   have ly:=y4.lt
   go_upto_region 5 with fail
   go_step
   refine wpList_loadV rfl 100 (.tmp 7) rfl g7 V1 X1 hV1.out rfl 100 _ z4 Tryz.underlying100 rfl (by rw [hS1];exact ex_size) ?_
   go_wp2_with (refine wpList_storeV rfl 100 (.tmp 6) (.tmp 23) rfl gy V1 X1 hV1.out rfl rfl 100 _ y4 (by rw [hS1];exact ex_size) (by rw [hS1];rfl) (Rep.one _ _ hA4) (fun w9 k9 y9=>?_))
   refine bodyPost_ret (results_cell_row rfl _ _ gy 100 X1 (0,0) _ rfl y9 Tryz.underlying100 rfl (by rw [hS1];exact ex_size)) rfl ?_
   exact ⟨_,X1,Lib.hid rfl,hS1,rfl,(hA4.keepM k9 (fun j hj=>by omega)).imp (fun j hj _=>by omega),k04.box k9 hgyw,r4.box k9 hgy2⟩
  ·rw [htk] at ht hx
   rw [if_pos rfl] at hx
   injection hx with hx
   injection hx with e1 e2
   subst e1 e2
   go_enter Tryz.func92,Tryz.ntmps92
   go_wp2_with fail
   rw [hw0.out,hgy.out]
   refine ho.mono ?_
   rintro e w8 ⟨rfl,rfl⟩
   go_wp2_with fail
   refine ht.mono ?_
   rintro e w1 ⟨rfl,kk,r1⟩
   have y1:=y0.keepM kk (by omega)
   have k01:=k00.trans kk
   clear y0 k00 r0 kk ho ht hw0 ly0
   have ly1:=y1.lt
   go_wp2_with (refine wpList_storeV rfl 100 (.tmp 6) (.tmp 16) rfl gy _ exZ rfl rfl rfl 100 _ y1 ex_size rfl (by simp [Value.oneCell']) (fun w9 k9 y9=>?_))
   refine bodyPost_ret (results_cell_row rfl _ _ gy 100 _ (0,0) _ rfl y9 Tryz.underlying100 rfl ex_size) rfl ?_
   exact ⟨_,_,Lib.hid rfl,rfl,rfl,noEx_rep _ _,k01.box k9 hgyw,r1.box k9 hgy2⟩
end Go.Proofs.YtdmacgoeikjdbaaGreatDoor

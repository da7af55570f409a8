/- What the laws write over: expressions, statements. A program written o -/
import Derived.Test.YtdmacgoeikjdbaaGreatDoorK49
import Derived.Deep.RegionHeld3
import Derived.Test.YtdmacgoeikjdbaaGreatDoorK47
import Derived.Test.YtdmacgoeikjdbaaGreatDoorK04
import Derived.Test.YtdmacgoeikjdbaaGreatDoorK03
import Derived.Test.YtdmacgoeikjdbaaGreatDoorRows
import Derived.ProofKit
import Derived.HandedShaped
import Derived.Clock
import Derived.OpenShut
import Derived.LaidMore
import Derived.Lay
import Derived.SevenTiedAt
import Derived.Stop.Joined
import Derived.Stop.LaidErr
import Derived.Lib.LaidTab
set_option linter.unusedSimpArgs false
set_option linter.unusedVariables false
set_option maxHeartbeats 8000000
namespace Go.Proofs.YtdmacgoeikjdbaaGreatDoor
open Go.RowKit
theorem softL_nil:SoftL [] []:=SoftL.refl _
theorem softL_cons {u v:Value} {us vs:List Value} (h:SoftV u v) (t:SoftL us vs):SoftL (u :: us) (v :: vs):=⟨by simp [t.1],fun i hi hi'=>by
 cases i with
 | zero=>exact h
 | succ i=>
  have:=t.2 i (by simpa using hi) (by simpa using hi')
  simpa using this⟩
theorem Soft.cells {X:Nat→Prop} {g o:Nat} {us vs:List Value} {w:World} (hB:X g) (hr:w.rangeAt g o us) (h:SoftL us vs):Soft X w (w.setCells g o vs):=Soft.setCells hB vs us o w h.1.symm hr h.2
def Spoilt (X:Nat→Prop) (w:World) (e:Ending) (w':World):Prop:=e=.returned (.tuple #[])∧Soft X w w'
theorem sp_ex {w:World} {ok:Nat→Prop} {x:Ex} {cs:List Value} (h:Sp w ok (encEx x) cs):∃ o a b c s n A m q p,cs=[.int .i64 o,.int .i64 a,.int .i64 b,.int .i64 c,.string s,.int .i64 n,.slice A m q,.int .i64 p]∧Sp w ok (.lst 8 (x.kids.map encEx)) [.slice A m q]∧m≤maxLen:=by
 rw [encEx_eq] at h
 unfold Sp at h
 obtain ⟨_,_,rfl,q1⟩:=spAll_int h
 obtain ⟨_,_,rfl,q2⟩:=spAll_int q1
 obtain ⟨_,_,rfl,q3⟩:=spAll_int q2
 obtain ⟨_,_,rfl,q4⟩:=spAll_int q3
 obtain ⟨_,_,rfl,q5⟩:=spAll_str q4
 obtain ⟨_,_,rfl,q6⟩:=spAll_int q5
 obtain ⟨_,_,_,_,rfl,hk,hm,q7⟩:=spAll_lst q6
 obtain ⟨_,_,rfl,q8⟩:=spAll_int q7
 obtain rfl:=spAll_nil q8
 exact ⟨_,_,_,_,_,_,_,_,_,_,rfl,hk,hm⟩
theorem sp_st {w:World} {ok:Nat→Prop} {x:St} {cs:List Value} (h:Sp w ok (encSt x) cs):∃ o A m q A2 m2 q2 a b c s n p,cs=[.int .i64 o,.slice A m q,.slice A2 m2 q2,.int .i64 a,.int .i64 b,.int .i64 c,.string s,.int .i64 n,.int .i64 p]∧Sp w ok (.lst 8 (x.ex.map encEx)) [.slice A m q]∧m≤maxLen∧Sp w ok (.lst 9 (x.body.map encSt)) [.slice A2 m2 q2]∧m2≤maxLen:=by
 rw [encSt_eq] at h
 unfold Sp at h
 obtain ⟨_,_,rfl,q1⟩:=spAll_int h
 obtain ⟨_,_,_,_,rfl,h1,m1,q2⟩:=spAll_lst q1
 obtain ⟨_,_,_,_,rfl,h2,m2,q3⟩:=spAll_lst q2
 obtain ⟨_,_,rfl,q4⟩:=spAll_int q3
 obtain ⟨_,_,rfl,q5⟩:=spAll_int q4
 obtain ⟨_,_,rfl,q6⟩:=spAll_int q5
 obtain ⟨_,_,rfl,q7⟩:=spAll_str q6
 obtain ⟨_,_,rfl,q8⟩:=spAll_int q7
 obtain ⟨_,_,rfl,q9⟩:=spAll_int q8
 obtain rfl:=spAll_nil q9
 exact ⟨_,_,_,_,_,_,_,_,_,_,_,_,_,rfl,h1,m1,h2,m2⟩
theorem sp_de {w:World} {ok:Nat→Prop} {x:De} {cs:List Value} (h:Sp w ok (encDe x) cs):∃ s a b c A m q p,cs=[.string s,.int .i64 a,.int .i64 b,.int .i64 c,.slice A m q,.int .i64 p]∧Sp w ok (.lst 1 (x.init.map (.int .i64))) [.slice A m q]∧m≤maxLen:=by
 unfold encDe at h
 unfold Sp at h
 obtain ⟨_,_,rfl,q1⟩:=spAll_str h
 obtain ⟨_,_,rfl,q2⟩:=spAll_int q1
 obtain ⟨_,_,rfl,q3⟩:=spAll_int q2
 obtain ⟨_,_,rfl,q4⟩:=spAll_int q3
 obtain ⟨_,_,_,_,rfl,h1,m1,q5⟩:=spAll_lst q4
 obtain ⟨_,_,rfl,q6⟩:=spAll_int q5
 obtain rfl:=spAll_nil q6
 exact ⟨_,_,_,_,_,_,_,_,rfl,h1,m1⟩
theorem sp_fn {w:World} {ok:Nat→Prop} {x:Fn} {cs:List Value} (h:Sp w ok (encFn x) cs):∃ s a b c A m q A2 m2 q2 A3 m3 q3 p,cs=[.string s,.int .i64 a,.int .i64 b,.int .i64 c,.slice A m q,.slice A2 m2 q2,.slice A3 m3 q3,.int .i64 p]∧Sp w ok (.lst 9 (x.body.map encSt)) [.slice A2 m2 q2]∧m2≤maxLen:=by
 unfold encFn at h
 unfold Sp at h
 obtain ⟨_,_,rfl,q1⟩:=spAll_str h
 obtain ⟨_,_,rfl,q2⟩:=spAll_int q1
 obtain ⟨_,_,rfl,q3⟩:=spAll_int q2
 obtain ⟨_,_,rfl,q4⟩:=spAll_int q3
 obtain ⟨_,_,_,_,rfl,h1,m1,q5⟩:=spAll_lst q4
 obtain ⟨_,_,_,_,rfl,h2,m2,q6⟩:=spAll_lst q5
 obtain ⟨_,_,_,_,rfl,h3,m3,q7⟩:=spAll_lst q6
 obtain ⟨_,_,rfl,q8⟩:=spAll_int q7
 obtain rfl:=spAll_nil q8
 exact ⟨_,_,_,_,_,_,_,_,_,_,_,_,_,_,rfl,h2,m2⟩
theorem info8:(Tryz.prog.info? 100).map (·.size)=some 8:=by kernel_rfl
theorem info9:(Tryz.prog.info? 89).map (·.size)=some 9:=by kernel_rfl
theorem info6:(Tryz.prog.info? 56).map (·.size)=some 6:=by kernel_rfl
theorem infoF:(Tryz.prog.info? 60).map (·.size)=some 8:=by kernel_rfl
def SpExsOk (l:List Ex):Prop:=∀ (X:Nat→Prop) (A:Option Addr) (m c:Nat) (w:World),Sp w X (.lst 8 (l.map encEx)) [.slice A m c]→m≤maxLen→Calls Tryz.prog 53 #[.slice A m c] w (Spoilt X w)
theorem spoilExprs_of (l:List Ex) (ih:∀ x ∈ l,SpExsOk x.kids):SpExsOk l:=by
 intro X A m c w hp hm
 unfold maxLen at hm
 have hp:=Lib.hid hp
 go_enter Tryz.func53,Tryz.ntmps53
 go_wp2_with fail
 go_loopw [2] (fun i wr=>∃ k:Nat,k≤m∧i=.int .i64 k∧Soft X w wr) (fun i _=>m - (intOf i).toNat)
 case atStart=>exact ⟨0,by omega,rfl,Soft.refl _ _⟩
 case round=>
  obtain ⟨k,hk,rfl,hs⟩:=hrel
  by_cases hlt:k<m
  ·obtain ⟨g,off,a,hkl,rfl,hgB,hg,hal,hra,hrg,_⟩:=Sp.range (Sp.on hs hp.out) k hlt
   rw [List.getElem_map] at hra
   have hkl:k<l.length:=by simpa using hkl
   obtain ⟨o,t1,t2,t3,s,n,A2,m2,c2,ps,rfl,hkids,hm2⟩:=sp_ex hra
   have hc:=hrg 6 _ rfl
   have ih:=ih _ (List.getElem_mem hkl)
   obtain ⟨x,hx⟩:∃ x,Hid (l[k]=x):=⟨_,Lib.hid rfl⟩
   rw [hx.out] at hkids ih
   have hcall:=ih X A2 m2 c2 wr hkids hm2
   have hs:=Lib.hid hs
   clear hra hkids hm2 ih hrg
   go_wp2_with fail
   refine hcall.mono ?_
   rintro e w3 ⟨rfl,s3⟩
   obtain ⟨g',off',a,_,hA,_,hg3,hal,hra,hrg,hth⟩:=Sp.range (Sp.on (hs.out.trans s3) hp.out) k hlt
   injection hA with hA
   injection hA with e1 e2
   subst e1 e2
   rw [List.getElem_map] at hra
   obtain ⟨o,t1,t2,t3,s,n,A2,m2,c2,ps,rfl,_,_⟩:=sp_ex hra
   have S4:Soft X w3 (w3.setCells g (off + k * 8) [.int .i64 (-9),.int .i64 0,.int .i64 0,.int .i64 0,.string ⟨#[]⟩,.int .i64 0,.slice none 0 0,.int .i64 0]):=Soft.cells hgB hrg (softL_cons (.int _ _ _) (softL_cons (.int _ _ _) (softL_cons (.int _ _ _) (softL_cons (.int _ _ _) (softL_cons (.str _ _) (softL_cons (.int _ _ _) (softL_cons (.nil _ _ _) (softL_cons (.int _ _ _) softL_nil))))))))
   have S4:=Lib.hid ((hs.out.trans s3).trans S4)
   have hth:=Lib.hid hth
   clear hra hrg s3 hs hcall
   go_upto_region 4 with fail
   go_step
   iterate 4 (go_step;go_step;go_step)
   refine wpList_store_mid ?_ 100 (.tmp 18) (.tmp 17) ?_ g (off + k * 8) #[.int .i64 (-9),.int .i64 0,.int .i64 0,.int .i64 0,.string ⟨#[]⟩,.int .i64 0,.slice none 0 0,.int .i64 0] ?_ ?_ ?_ info8 ?_ ?_
   ·rfl
   ·rfl
   ·rfl
   ·rfl
   ·exact hth.out
   ·simp [Value.oneCell']
   go_wp2_with fail
   go_roundw
   case rel=>exact ⟨k + 1,by omega,by go_num,S4.out⟩
   case measure=>simp [intOf];omega
  ·obtain rfl:k=m:=by omega
   go_wp2_with fail
   first | go_end0 | refine bodyPost_ret (results_none rfl _ _ _) rfl ?_
   exact ⟨rfl,hs⟩
theorem spoilExs (l:List Ex):SpExsOk l:=spoilExprs_of l fun x h=>spoilExs x.kids
termination_by SizeOf.sizeOf l
decreasing_by
 have h1:=List.sizeOf_lt_of_mem h
 obtain ⟨o,t,s,n,ks,p⟩:=x
 simp only [Ex.kids,Ex.mk.sizeOf_spec] at *
 omega
def SpStsOk (l:List St):Prop:=∀ (X:Nat→Prop) (A:Option Addr) (m c:Nat) (w:World),Sp w X (.lst 9 (l.map encSt)) [.slice A m c]→m≤maxLen→Calls Tryz.prog 20 #[.slice A m c] w (Spoilt X w)
theorem spoilStmts_of (l:List St) (ih:∀ x ∈ l,SpStsOk x.body):SpStsOk l:=by
 intro X A m c w hp hm
 unfold maxLen at hm
 have hp:=Lib.hid hp
 go_enter Tryz.func20,Tryz.ntmps20
 go_wp2_with fail
 go_loopw [2] (fun i wr=>∃ k:Nat,k≤m∧i=.int .i64 k∧Soft X w wr) (fun i _=>m - (intOf i).toNat)
 case atStart=>exact ⟨0,by omega,rfl,Soft.refl _ _⟩
 case round=>
  obtain ⟨k,hk,rfl,hs⟩:=hrel
  by_cases hlt:k<m
  ·obtain ⟨g,off,a,hkl,rfl,hgB,hg,hal,hra,hrg,_⟩:=Sp.range (Sp.on hs hp.out) k hlt
   rw [List.getElem_map] at hra
   have hkl:k<l.length:=by simpa using hkl
   obtain ⟨o,A1,m1,c1,A2,m2,c2,t1,t2,t3,s,n,ps,rfl,hex,hm1,hbd,hm2⟩:=sp_st hra
   have hc:=hrg 1 _ rfl
   have ih:=ih _ (List.getElem_mem hkl)
   obtain ⟨x,hx⟩:∃ x,Hid (l[k]=x):=⟨_,Lib.hid rfl⟩
   rw [hx.out] at hex ih
   have hcall:=spoilExs x.ex X A1 m1 c1 wr hex hm1
   have hs:=Lib.hid hs
   have IH:=Lib.hid ih
   clear hra hbd hex hm1 hm2 ih hrg
   go_wp2_with fail
   refine hcall.mono ?_
   rintro e w3 ⟨rfl,s3⟩
   obtain ⟨g',off',a,_,hA,_,hg3,hal,hra,hrg,_⟩:=Sp.range (Sp.on (hs.out.trans s3) hp.out) k hlt
   injection hA with hA
   injection hA with e1 e2
   subst e1 e2
   rw [List.getElem_map,hx.out] at hra
   obtain ⟨o,A1,m1,c1,A2,m2,c2,t1,t2,t3,s,n,ps,rfl,_,_,hbd,hm2⟩:=sp_st hra
   have hc2:=hrg 2 _ rfl
   have hcall2:=IH.out X A2 m2 c2 w3 hbd hm2
   have hs3:=Lib.hid (hs.out.trans s3)
   clear hra hbd hm2 hrg s3 hcall IH hc
   go_wp2_with fail
   refine hcall2.mono ?_
   rintro e w4 ⟨rfl,s4⟩
   obtain ⟨g',off',a,_,hA,_,hg4,hal,hra,hrg,hth⟩:=Sp.range (Sp.on (hs3.out.trans s4) hp.out) k hlt
   injection hA with hA
   injection hA with e1 e2
   subst e1 e2
   rw [List.getElem_map] at hra
   obtain ⟨o,A1,m1,c1,A2,m2,c2,t1,t2,t3,s,n,ps,rfl,_⟩:=sp_st hra
   have S4:Soft X w4 (w4.setCells g (off + k * 9) [.int .i64 (-9),.slice none 0 0,.slice none 0 0,.int .i64 0,.int .i64 0,.int .i64 0,.string ⟨#[]⟩,.int .i64 0,.int .i64 0]):=Soft.cells hgB hrg (softL_cons (.int _ _ _) (softL_cons (.nil _ _ _) (softL_cons (.nil _ _ _) (softL_cons (.int _ _ _) (softL_cons (.int _ _ _) (softL_cons (.int _ _ _) (softL_cons (.str _ _) (softL_cons (.int _ _ _) (softL_cons (.int _ _ _) softL_nil)))))))))
   have S4:=Lib.hid ((hs3.out.trans s4).trans S4)
   have hth:=Lib.hid hth
   clear hra hrg s4 hs hs3 hcall2 hc2
   go_upto_region 5 with fail
   go_step
   iterate 4 (go_step;go_step;go_step)
   refine wpList_store_mid ?_ 89 (.tmp 24) (.tmp 23) ?_ g (off + k * 9) #[.int .i64 (-9),.slice none 0 0,.slice none 0 0,.int .i64 0,.int .i64 0,.int .i64 0,.string ⟨#[]⟩,.int .i64 0,.int .i64 0] ?_ ?_ ?_ info9 ?_ ?_
   ·rfl
   ·rfl
   ·rfl
   ·rfl
   ·exact hth.out
   ·simp [Value.oneCell']
   go_wp2_with fail
   go_roundw
   case rel=>exact ⟨k + 1,by omega,by go_num,S4.out⟩
   case measure=>simp [intOf];omega
  ·obtain rfl:k=m:=by omega
   go_wp2_with fail
   first | go_end0 | refine bodyPost_ret (results_none rfl _ _ _) rfl ?_
   exact ⟨rfl,hs⟩
theorem spoilSts (l:List St):SpStsOk l:=spoilStmts_of l fun x h=>spoilSts x.body
termination_by SizeOf.sizeOf l
decreasing_by
 have h1:=List.sizeOf_lt_of_mem h
 obtain ⟨o,e,b,t,s,n,p⟩:=x
 simp only [St.body,St.mk.sizeOf_spec] at *
 omega
end Go.Proofs.YtdmacgoeikjdbaaGreatDoor
namespace Go.Proofs.YtdmacgoeikjdbaaGreatDoor
open Go.RowKit
theorem Soft.blk {X:Nat→Prop} {w w':World} (h:Soft X w w') {g:Nat} {t:TypeId} {cs:Array Value} (hb:BlkIs w g t cs) (hg:¬ X g):BlkIs w' g t cs:=(h.low g hg hb.lt).trans hb
theorem spoilUnit (u:Un) (Ag Af:Option Addr) (cg cf:Nat) (w:World) (X:Nat→Prop) (hX:∀ g,X g→g<w.heap.size) (hg:Sp w X (.lst 6 (u.globals.map encDe)) [.slice Ag u.globals.length cg]) (hf:Sp w X (.lst 8 (u.funcs.map encFn)) [.slice Af u.funcs.length cf]) (hn:u.globals.length≤maxLen) (hm:u.funcs.length≤maxLen) :
  Calls Tryz.prog 9 #[.agg #[.slice Ag u.globals.length cg,.slice Af u.funcs.length cf]] w (Spoilt X w):=by
 unfold maxLen at hn hm
 obtain ⟨n,hnn⟩:∃ n,Hid (u.globals.length=n):=⟨_,Lib.hid rfl⟩
 obtain ⟨m,hmm⟩:∃ n,Hid (u.funcs.length=n):=⟨_,Lib.hid rfl⟩
 rw [hnn.out] at hg hn ⊢
 rw [hmm.out] at hf hm ⊢
 have hg:=Lib.hid hg
 have hf:=Lib.hid hf
 go_enter Tryz.func9,Tryz.ntmps9
 go_wp2_with fail
 have hXb:¬ X w.heap.size:=fun h=>by have:=hX _ h;omega
 obtain ⟨b0,hb0⟩:∃ b,Hid (w.heap.size=b):=⟨_,Lib.hid rfl⟩
 have S0:Soft X w (w.alloc (.cells #[.slice Ag n cg,.slice Af m cf] 27)):=Soft.of (below_alloc _ _)
 have B0:BlkIs (w.alloc (.cells #[.slice Ag n cg,.slice Af m cf] 27)) b0 27 #[.slice Ag n cg,.slice Af m cf]:=BlkIs.fresh_at hb0.out.symm
 rw [hb0.out] at hXb ⊢
 go_loopw [2] (fun i wr=>∃ k:Nat,k≤n∧i=.int .i64 k∧Soft X w wr∧BlkIs wr b0 27 #[.slice Ag n cg,.slice Af m cf]) (fun i _=>n - (intOf i).toNat)
 case atStart=>exact ⟨0,by omega,rfl,S0,B0⟩
 case round=>
  clear S0 B0
  obtain ⟨k,hk,rfl,hs,hbk⟩:=hrel
  have c0:=hbk.cell 0
  have c1:=hbk.cell 1
  simp at c0 c1
  by_cases hlt:k<n
  ·have HS:=Lib.hid hs
   have HB:=Lib.hid hbk
   have hkl:k<u.globals.length:=by rw [hnn.out];exact hlt
   obtain ⟨x,hx⟩:∃ x,Hid (u.globals[k]=x):=⟨_,Lib.hid rfl⟩
   obtain ⟨L,hL⟩:∃ L,Hid (x.init.length=L):=⟨_,Lib.hid rfl⟩
   have row:∀ W,Soft X w W→∃ g off s a b c A m q p,Ag=some ⟨g,off,none⟩∧X g∧W.rangeAt g (off + k * 6) [.string s,.int .i64 a,.int .i64 b,.int .i64 c,.slice A m q,.int .i64 p]∧W.there g (off + k * 6) 6∧Sp W X (.lst 1 (x.init.map (.int .i64))) [.slice A m q]∧m≤9223372036854775807∧m≤L:=fun W hS=>by
    obtain ⟨g,off,a,_,hA,hXg,_,_,hra,hrg,hth⟩:=Sp.range (Sp.on hS hg.out) k hlt
    rw [List.getElem_map,hx.out] at hra
    obtain ⟨s,a,b,c,A,m,q,p,rfl,hi,hm⟩:=sp_de hra
    obtain ⟨_,_,_,he,_,_,hml⟩:=hi.len
    injection he with he _
    injection he with _ he _
    subst he
    rw [List.length_map,hL.out] at hml
    exact ⟨g,off,s,a,b,c,A,m,q,p,hA,hXg,hrg,hth,hi,hm,hml⟩
   have row:=Lib.hid row
   clear hs hbk hx hL
   go_wp2_with fail
   go_loopw [3] (fun i W=>∃ j:Nat,j≤L∧i=.int .i64 j∧Soft X w W∧BlkIs W b0 27 #[.slice Ag n cg,.slice Af m cf]) (fun i _=>L - (intOf i).toNat)
   case atStart=>exact ⟨0,by omega,rfl,HS.out,HB.out⟩
   case round=>
    clear HS HB c0 c1
    obtain ⟨j,hj,rfl,hs,hbk⟩:=hrel
    obtain ⟨g,off,s,a,b,c,A,m2,q,ps,rfl,hXg,hrg,hth,hi,hm2,hmL⟩:=row.out _ hs
    have c0:=hbk.cell 0
    simp at c0
    have hc:=hrg 4 _ rfl
    have hbz:=hbk.lt
    by_cases hjm:j<m2
    ·obtain ⟨g2,off2,a2,_,rfl,hXg2,hg2,_,hra2,hrg2,hth2⟩:=Sp.range hi j hjm
     rw [List.getElem_map] at hra2
     obtain ⟨v,rfl⟩:=hra2.intI
     have d0:=hrg2 0 _ rfl
     have d1:=(hth2 0 (by omega)).2
     simp only [Nat.mul_one,Nat.add_zero] at d0 d1
     have S2:=Lib.hid (hs.trans (Soft.setCell (v:=.int .i64 (-9)) hXg2 d0 (.int _ _ _)))
     have hne:g2 ≠ b0:=fun e=>hXb (e ▸ hXg2)
     have B2:=Lib.hid (hbk.far (p:=⟨g2,off2 + j,none⟩) (Ne.symm hne) (.int .i64 (-9)))
     clear hs hbk hrg hth hi hrg2 hth2 hra2
     go_wp2_with fail
     go_roundw
     case rel=>exact ⟨j + 1,by omega,by go_num,S2.out,B2.out⟩
     case measure=>simp [intOf];omega
    ·have S2:Soft X w (_:World):=hs.trans (Soft.cells (vs:=[.string ⟨#[115,112,111,105,108,116]⟩,.int .i64 0,.int .i64 0,.int .i64 0,.slice none 0 0,.int .i64 0]) hXg hrg (softL_cons (.str _ _) (softL_cons (.int _ _ _) (softL_cons (.int _ _ _) (softL_cons (.int _ _ _) (softL_cons (.nil _ _ _) (softL_cons (.int _ _ _) softL_nil)))))))
     have S3:=Soft.cells (vs:=[.string ⟨#[115,112,111,105,108,116]⟩,.int .i64 0,.int .i64 0,.int .i64 0,.slice none 0 0,.int .i64 0]) hXg hrg (softL_cons (.str _ _) (softL_cons (.int _ _ _) (softL_cons (.int _ _ _) (softL_cons (.int _ _ _) (softL_cons (.nil _ _ _) (softL_cons (.int _ _ _) softL_nil))))))
     have B2:=Lib.hid (S3.blk hbk hXb)
     have S2:=Lib.hid S2
     have hth:=Lib.hid hth
     have hgz:g ≠ b0:=fun e=>hXb (e ▸ hXg)
     clear hs hbk hrg hi S3
     go_upto_region 8 with fail
     go_step
     iterate 5 (go_step;go_step;go_step)
     refine wpList_store_mid ?_ 56 (.tmp 35) (.tmp 34) ?_ g (off + k * 6) #[.string ⟨#[115,112,111,105,108,116]⟩,.int .i64 0,.int .i64 0,.int .i64 0,.slice none 0 0,.int .i64 0] ?_ ?_ ?_ info6 ?_ ?_
     ·rfl
     ·rfl
     ·rfl
     ·rfl
     ·exact hth.out
     ·simp [Value.oneCell']
     go_wp2_with fail
     go_roundw
     case rel=>exact ⟨k + 1,by omega,by go_num,S2.out,B2.out⟩
     case measure=>simp [intOf];omega
  ·obtain rfl:n=k:=by omega
   clear hg
   have HS:=Lib.hid hs
   have HB:=Lib.hid hbk
   clear hs hbk
   go_wp2_with fail
   go_loopw [4] (fun i wr=>∃ k:Nat,k≤m∧i=.int .i64 k∧Soft X w wr∧BlkIs wr b0 27 #[.slice Ag n cg,.slice Af m cf]) (fun i _=>m - (intOf i).toNat)
   case atStart=>exact ⟨0,by omega,rfl,HS.out,HB.out⟩
   case round=>
    clear HS HB c0 c1
    obtain ⟨k,hk,rfl,hs,hbk⟩:=hrel
    have c1:=hbk.cell 1
    simp at c1
    by_cases hlt:k<m
    ·obtain ⟨g,off,a,hkl,rfl,hXg,hg,_,hra,hrg,_⟩:=Sp.range (Sp.on hs hf.out) k hlt
     rw [List.getElem_map] at hra
     obtain ⟨s,a,b,c,A1,m1,q1,A2,m2,q2,A3,m3,q3,p,rfl,hi,hm2⟩:=sp_fn hra
     have hc:=hrg 5 _ rfl
     have hcall:=spoilSts _ X A2 m2 q2 _ hi hm2
     have HS:=Lib.hid hs
     have HB:=Lib.hid hbk
     clear hra hrg hi hm2 hs hbk
     go_wp2_with fail
     refine hcall.mono ?_
     rintro e w3 ⟨rfl,s3⟩
     obtain ⟨g',off',a,_,hA,_,hg3,_,hra,hrg,hth⟩:=Sp.range (Sp.on (HS.out.trans s3) hf.out) k hlt
     injection hA with hA
     injection hA with e1 e2
     subst e1 e2
     rw [List.getElem_map] at hra
     obtain ⟨s,a,b,c,A1,m1,q1,A2,m2,q2,A3,m3,q3,p,rfl,_⟩:=sp_fn hra
     have S3:=Soft.cells (vs:=[.string ⟨#[115,112,111,105,108,116]⟩,.int .i64 0,.int .i64 0,.int .i64 0,.slice none 0 0,.slice none 0 0,.slice none 0 0,.int .i64 0]) hXg hrg (softL_cons (.str _ _) (softL_cons (.int _ _ _) (softL_cons (.int _ _ _) (softL_cons (.int _ _ _) (softL_cons (.nil _ _ _) (softL_cons (.nil _ _ _) (softL_cons (.nil _ _ _) (softL_cons (.int _ _ _) softL_nil))))))))
     have HB3:=s3.blk HB.out hXb
     have c1:=HB3.cell 1
     simp at c1
     have B2:=Lib.hid (S3.blk HB3 hXb)
     have S2:=Lib.hid ((HS.out.trans s3).trans S3)
     have hth:=Lib.hid hth
     have hbz:=HB3.lt
     clear HB3 HS HB s3 S3 hra hrg hcall hc
     go_upto_region 13 with fail
     go_step
     iterate 5 (go_step;go_step;go_step)
     refine wpList_store_mid ?_ 60 (.tmp 54) (.tmp 53) ?_ g (off + k * 8) #[.string ⟨#[115,112,111,105,108,116]⟩,.int .i64 0,.int .i64 0,.int .i64 0,.slice none 0 0,.slice none 0 0,.slice none 0 0,.int .i64 0] ?_ ?_ ?_ infoF ?_ ?_
     ·rfl
     ·rfl
     ·rfl
     ·rfl
     ·exact hth.out
     ·simp [Value.oneCell']
     go_wp2_with fail
     go_roundw
     case rel=>exact ⟨k + 1,by omega,by go_num,S2.out,B2.out⟩
     case measure=>simp [intOf];omega
    ·obtain rfl:k=m:=by omega
     go_wp2_with fail
     first | go_end0 | refine bodyPost_ret (results_none rfl _ _ _) rfl ?_
     exact ⟨rfl,hs⟩
end Go.Proofs.YtdmacgoeikjdbaaGreatDoor
namespace Go.Proofs.YtdmacgoeikjdbaaGreatDoor
open Go.RowKit Sx
theorem tokensR_all (s:ByteArray) (hs:s.size≤9223372036854775807) (w:World) :
  Calls Tryz.prog 16 #[.string s] w (TokensPost w.heap.size w (tokensT s.data.toList)):=by
 rw [tokens_same]
 by_cases h:s.size≤2000
 ·exact tokensR_any s h w
 ·have:tokensR s.data.toList=([],2,0):=by unfold tokensR;rw [if_pos (by simp;omega)]
  rw [this]
  exact tokensR_long s (by omega) w hs
theorem rparse_all (s:ByteArray) (hs:s.size≤9223372036854775807) (w:World):Calls Tryz.prog 7 #[.string s] w (ParsePost w (parseT (tokensT s.data.toList))):=
 rparse_any s _ w (fun W=>tokensR_all s hs W) fun h=>by
  have hf:=tokFacts h
  exact ⟨hf.wx.1,hf.le,hf.zero⟩
theorem wakes_unit:parseT (tokensT [105,110,116,32,109,97,105,110,40,41,123,114,101,116,117,114,110,32,49,59,125])=(⟨[],[⟨[109,97,105,110],⟨5,0,0⟩,[],[.mk 13 [.mk 1 noTy [] 1 [] 18] [] noTy [] 0 11],[],4⟩]⟩,0,0):=by kernel_rfl
end Go.Proofs.YtdmacgoeikjdbaaGreatDoor
namespace Go.Proofs.YtdmacgoeikjdbaaGreatDoor
open Go.RowKit Sx
def TrueB (w:World) (e:Ending) (w':World):Prop:=e=.returned (.bool true)∧Below w.heap.size w w'
theorem wakes3_any (w:World) (hL:LibW w.heap.size w):Calls Tryz.prog 10 #[] w (TrueB w):=by
 have hp:=pparse_any ⟨#[105,110,116,32,109,97,105,110,40,41,123,114,101,116,117,114,110,32,49,59,125]⟩ (by decide) w hL
 have e0:parseT (tokensT (⟨#[105,110,116,32,109,97,105,110,40,41,123,114,101,116,117,114,110,32,49,59,125]⟩:ByteArray).data.toList)=_:=wakes_unit
 rw [e0] at hp
 clear e0
 go_enter Tryz.func10,Tryz.ntmps10
 go_wp2_with fail
 refine hp.mono ?_
 rintro e w1 ⟨A,c,B,d,rfl,r1,r2,hb1⟩
 simp only [unV] at *
 obtain ⟨g,off,a,hB,hg,_,hra,hrg⟩:=Rep.range r2 0 (by simp)
 subst hB
 obtain ⟨A1,c1,A2,c2,A3,c3,rfl,_⟩:=rep_fn.1 hra
 have hc:=hrg 5 _ rfl
 simp only [Nat.zero_mul,Nat.add_zero,List.length_cons,List.length_nil] at hc
 clear r1 r2 hra hrg hp
 have hz:=hb1.size
 go_wp2_with fail
 go_ret
 exact ⟨rfl,(hb1.alloc hz _).alloc (by simp;omega) _⟩
theorem unit_rep {w w':World} {ok:Nat→Prop} {u:Un} {A B:Option Addr} {c d:Nat} (h0:Rep w ok (gsD u) [.slice A u.globals.length c]) (h1:Rep w ok (fnsD u) [.slice B u.funcs.length d]) (hb:Below w.heap.size w w'):Rep w' (fun k=>ok k∧k<w.heap.size) (gsD u) [.slice A u.globals.length c]∧Rep w' (fun k=>ok k∧k<w.heap.size) (fnsD u) [.slice B u.funcs.length d]:=
 ⟨Rep.keep (fun _ hk hl=>⟨hk,hl⟩) (fun k _ hl=>hb.block k hl) _ _ h0,Rep.keep (fun _ hk hl=>⟨hk,hl⟩) (fun k _ hl=>hb.block k hl) _ _ h1⟩
theorem parseUnits_any (n:Nat) (A:Option Addr) (c:Nat) (ss:List ByteArray) (w:World) (hl:n≤9223372036854775807) (hA:Texts w A n ss) (hL:LibW w.heap.size w) :
  Calls Tryz.prog 3 #[.slice A n c] w (TrueB w):=by
 go_enter Tryz.func3,Tryz.ntmps3
 go_wp2_with fail
 refine (heavy_any n A c ss _ hl hA).mono ?_
 rintro e w' ⟨b,rfl,rfl⟩
 cases b
 ·go_wp2_with fail
  go_loopw [3] (fun i wr=>∃ k:Nat,k≤n∧i=.int .i64 k∧Below w.heap.size w wr) (fun i _=>n - (intOf i).toNat)
  case atStart=>exact ⟨0,by omega,rfl,Below.refl _ _⟩
  case round=>
   obtain ⟨k,hk,rfl,hb⟩:=hrel
   obtain ⟨wo,rfl⟩:∃ wo:World,wo=wr:=⟨_,rfl⟩
   have hLo:LibW wo.heap.size wo:=(hL.stable fun k hk=>hb.block k hk).mono hb.size
   by_cases hgo:k<n∧k<8
   ·obtain ⟨hlt,h10⟩:=hgo
    obtain ⟨b,off,rfl,hbl,hc⟩:=hA (by omega)
    obtain ⟨hck,hsk⟩:=hc k hlt
    have hck2:wo.cell? ⟨b,off + k,none⟩=some (.string (ss.getD k ByteArray.empty)):=by rw [hb.cell (by exact hbl)];exact hck
    clear hc hck
    generalize ss.getD k ByteArray.empty=s at *
    have hbz:=hb.size
    have HP:=pparse_any s hsk wo hLo
    have HR:=fun W=>rparse_all s hsk W
    obtain ⟨⟨u,er,ps⟩,hr⟩:∃ r,Hid (parseT (tokensT s.data.toList)=r):=⟨_,Lib.hid rfl⟩
    rw [hr.out] at HP
    simp only [hr.out] at HR
    clear hL hLo
    go_wp2_with fail
    refine HP.mono ?_
    rintro e w1 ⟨A1,c1,B1,d1,rfl,q1,q2,hb1⟩
    simp only [unV] at *
    have hz1:=hb1.size
    have hck3:w1.cell? ⟨b,off + k,none⟩=some (.string s):=by rw [hb1.cell (by show b<wo.heap.size;omega)];exact hck2
    have hbl1:b<w1.heap.size:=by omega
    have Q1:=Lib.hid q1
    have Q2:=Lib.hid q2
    have HB1:=Lib.hid (hb.trans (hb1.mono hbz))
    clear q1 q2 hb1 HP hb
    go_wp2_with fail
    obtain ⟨k4,k5⟩:BlkIs ((w1.alloc (.cells #[.slice A1 u.globals.length c1,.slice B1 u.funcs.length d1] 27)).alloc (.cells #[.int .i64 er,.int .i64 ps] 29)) w1.heap.size 27 #[.slice A1 u.globals.length c1,.slice B1 u.funcs.length d1]∧BlkIs ((w1.alloc (.cells #[.slice A1 u.globals.length c1,.slice B1 u.funcs.length d1] 27)).alloc (.cells #[.int .i64 er,.int .i64 ps] 29)) (w1.heap.size + 1) 29 #[.int .i64 er,.int .i64 ps]:=⟨(BlkIs.fresh _ _ _).alloc _,BlkIs.fresh_at (by simp)⟩
    have HB2:=Below.alloc (Below.alloc HB1.out (by omega) (.cells #[.slice A1 u.globals.length c1,.slice B1 u.funcs.length d1] 27)) (by simp;omega) (.cells #[.int .i64 er,.int .i64 ps] 29)
    have hw2:Below w1.heap.size w1 ((w1.alloc (.cells #[.slice A1 u.globals.length c1,.slice B1 u.funcs.length d1] 27)).alloc (.cells #[.int .i64 er,.int .i64 ps] 29)):=below2 _ _ _
    have hsz2:w1.heap.size + 2=((w1.alloc (.cells #[.slice A1 u.globals.length c1,.slice B1 u.funcs.length d1] 27)).alloc (.cells #[.int .i64 er,.int .i64 ps] 29)).heap.size:=by simp
    generalize (w1.alloc (.cells #[.slice A1 u.globals.length c1,.slice B1 u.funcs.length d1] 27)).alloc (.cells #[.int .i64 er,.int .i64 ps] 29)=w2 at *
    refine (HR w2).mono ?_
    rintro e w3 ⟨A2,c2,B2,d2,rfl,q1,q2,hb3⟩
    simp only [unV] at *
    have k43:=k4.below hb3 k4.lt
    have k53:=k5.below hb3 k5.lt
    have Z1:=Lib.hid q1
    have Z2:=Lib.hid q2
    have HB3:=Lib.hid (HB2.trans (hb3.mono (by omega)))
    have H13:=Lib.hid (hw2.trans (hb3.mono (by omega)))
    have hz3:=hb3.size
    clear q1 q2 hb3 HB2 hw2 k4 k5
    have x0:=k43.cell 0
    have x1:=k43.cell 1
    have y0:=k53.cell 0
    have y1:=k53.cell 1
    simp at x0 x1 y0 y1
    have hl4:=k43.lt
    have hl5:=k53.lt
    go_wp2_with fail
    obtain ⟨j4,j5⟩:BlkIs ((w3.alloc (.cells #[.slice A2 u.globals.length c2,.slice B2 u.funcs.length d2] 27)).alloc (.cells #[.int .i64 er,.int .i64 ps] 29)) w1.heap.size 27 #[.slice A1 u.globals.length c1,.slice B1 u.funcs.length d1]∧Below w.heap.size w ((w3.alloc (.cells #[.slice A2 u.globals.length c2,.slice B2 u.funcs.length d2] 27)).alloc (.cells #[.int .i64 er,.int .i64 ps] 29)):=⟨(k43.alloc _).alloc _,Below.alloc (Below.alloc HB3.out (by omega) _) (by simp;omega) _⟩
    have hw4:Below w3.heap.size w3 ((w3.alloc (.cells #[.slice A2 u.globals.length c2,.slice B2 u.funcs.length d2] 27)).alloc (.cells #[.int .i64 er,.int .i64 ps] 29)):=below2 _ _ _
    have hsz4:w3.heap.size + 2=((w3.alloc (.cells #[.slice A2 u.globals.length c2,.slice B2 u.funcs.length d2] 27)).alloc (.cells #[.int .i64 er,.int .i64 ps] 29)).heap.size:=by simp
    generalize (w3.alloc (.cells #[.slice A2 u.globals.length c2,.slice B2 u.funcs.length d2] 27)).alloc (.cells #[.int .i64 er,.int .i64 ps] 29)=w4 at *
    have H14:=H13.out.trans (hw4.mono (by omega))
    obtain ⟨R1,R2⟩:=unit_rep Q1.out Q2.out H14
    refine (eqUnit_any u A1 A2 B1 B2 c1 c2 d1 d2 w4 (Rep.any R1) (Rep.any R2) (Rep.any (Rep.below Z1.out hw4)) (Rep.any (Rep.below Z2.out hw4))).mono ?_
    rintro e w5 ⟨rfl,hb5⟩
    have R15:=Rep.below R1 hb5
    have R25:=Rep.below R2 hb5
    have k5:=j4.below hb5 j4.lt
    have x0:=k5.cell 0
    have x1:=k5.cell 1
    simp at x0 x1
    have hb5:=j5.trans (hb5.mono (by omega))
    have hz5:=hb5.size
    have l5:=k5.lt
    have hle1:=rep_le R15
    have hle2:=rep_le R25
    rw [List.length_map] at hle1 hle2
    have SP:=spoilUnit u A1 B1 c1 d1 w5 (fun k=>wo.heap.size≤k∧k<w1.heap.size) (fun k hk=>by omega) (Sp.of _ _ R15) (Sp.of _ _ R25) (by unfold maxLen;omega) (by unfold maxLen;omega)
    have SP:=Lib.hid SP
    have HB5:=Lib.hid hb5
    clear R15 R25 R1 R2 k5 j4 j5 hb5 H14 hw4 k43 k53
    go_wp2_with fail
    refine SP.out.mono ?_
    rintro e w6 ⟨rfl,s6⟩
    have hb6:=Lib.hid (HB5.out.trans (s6.below (B:=w.heap.size) (fun k hk=>by omega) hz5))
    clear s6 SP
    go_wp2_with fail
    go_roundw
    case rel=>exact ⟨k + 1,by omega,by go_num,hb6.out⟩
    case measure=>simp [intOf];omega
   ·have hd:n≤k ∨ (k<n∧8≤k):=by omega
    have HW:=Lib.hid (wakes3_any wo hLo)
    have HB:=Lib.hid hb
    clear hgo hA hLo hL hb
    rcases hd with hd | ⟨hd,hd2⟩
    all_goals
     go_wp2_with fail
     refine HW.out.mono ?_
     rintro e w4 ⟨rfl,hb4⟩
     go_wp2_with fail
     go_ret
     exact ⟨rfl,HB.out.trans (hb4.mono HB.out.size)⟩
 ·go_wp2_with fail
  go_ret
  exact ⟨rfl,Below.refl _ _⟩
end Go.Proofs.YtdmacgoeikjdbaaGreatDoor
namespace Go.Proofs.YtdmacgoeikjdbaaGreatDoor
open Go.ChangeShapes Go.WideShapes Go.ChangeAt Go.RowKit
theorem own:ownKnob Tryz.prog.godebug=none:=by kernel_rfl
theorem laidOut:laidOutB Tryz.prog=true:=by kernel_rfl
theorem cellsStr:Tryz.prog.cellsOf 9=1:=by kernel_rfl
theorem laid_tab:(Rows.laid_strings_asciiSpace:DataW Unit)=Lib.tabData .u8 Lib.asciiSpaceTab:=by kernel_rfl
set_option maxRecDepth 100000 in
theorem tab_of {W:World} (h:laidMetH Tryz.prog [("unicode.White_Space",Rows.laid_unicode_White_Space),("strings.asciiSpace",Rows.laid_strings_asciiSpace)] W):Lib.TabIs Tryz.prog W "strings.asciiSpace" .u8 Lib.asciiSpaceTab:=by
 rw [MakeChecks.laidMetH_plain _ _ _ (by kernel_rfl)] at h
 have ht:(Tryz.prog.globals[(Tryz.prog.globalNamed "strings.asciiSpace").getD 0]?).map (·.type)=some 142:=by kernel_rfl
 have hg:Tryz.prog.globalNamed "strings.asciiSpace"=some ((Tryz.prog.globalNamed "strings.asciiSpace").getD 0):=by kernel_rfl
 have h2:laidMet Tryz.prog [("strings.asciiSpace",Rows.laid_strings_asciiSpace)] W:=h.tail
 rw [laid_tab] at h2
 exact Lib.tabIs_of_head (rest:=[]) hg ht Tryz.underlying142 Tryz.underlying5 (by kernel_rfl) (by kernel_rfl) h2
set_option maxRecDepth 100000 in
theorem max_of {W:World} (h:W.ShapedOpen Tryz.prog):∃ m,W.cell? ⟨0,0,none⟩=some (.int .i64 m):=by
 obtain ⟨cs,hh,hs,hr⟩:=h.1 0 #[.int .i64 0] 3 (of_decide_eq_true (by kernel_rfl)) (by kernel_rfl)
 obtain ⟨ts,hts,_,hall⟩:=hr (by kernel_rfl)
 have hc:Tryz.prog.cellTypes Tryz.prog.depth 3=some [3]:=by kernel_rfl
 rw [hc] at hts
 cases hts
 have hs1:cs.size=1:=by simpa using hs
 have h1:0<cs.size:=by omega
 obtain ⟨u,hu',hok⟩:=hall 0 cs[0] (by simp [h1])
 have:u=3:=by simpa using hu'.symm
 subst this
 have hcell:W.cell? ⟨0,0,none⟩=some cs[0]:=by simp [World.cell?,hh,h1]
 rw [hcell]
 unfold Cell.ok at hok
 rw [Tryz.underlying3] at hok
 cases hv:cs[0] <;> rw [hv] at hok <;> first | (simp at hok;obtain ⟨rfl,_⟩:=hok;exact ⟨_,rfl⟩) | (simp at hok;subst hok;exact ⟨_,rfl⟩) | simp at hok
theorem lib_of {W:World} (hL:laidMetH Tryz.prog [("unicode.White_Space",Rows.laid_unicode_White_Space),("strings.asciiSpace",Rows.laid_strings_asciiSpace)] W) (h:W.ShapedOpen Tryz.prog):LibW W.heap.size W:=by
 obtain ⟨m,hm⟩:=max_of h
 have ht:=tab_of hL
 have hg:Tryz.prog.globalNamed "strings.asciiSpace"=some ((Tryz.prog.globalNamed "strings.asciiSpace").getD 0):=by kernel_rfl
 refine ⟨World.block_lt_of_cell? _ _ hm,⟨m,hm⟩,_,hg,?_,ht⟩
 apply Nat.lt_of_not_le
 intro hle
 unfold Lib.TabIs World.var? at ht
 rw [hg] at ht
 simp only [Option.bind_some] at ht
 rw [Array.getElem?_eq_none hle] at ht
 simp at ht
theorem texts_in {H:Type} {enc:TypeId × Value→H} {W:World} {base fuel:Nat} {a0:Option Addr} {len cap:Nat} {x:DataW H × List MemPlace} (hf:DataW.trod enc Tryz.prog W base (fun _=>true) true fuel 22 (Value.slice a0 len cap).cells.toList=some x):∃ ss:List ByteArray,len≤9223372036854775807∧Texts W a0 len ss:=by
 rcases open_strings Tryz.underlying22 Tryz.underlying9 cellsStr hf with ⟨hcs,hx⟩ | ⟨a,len',cap',ss,hcs,_,hl,hmx,hzs,hx,hcell,hws⟩
 ·simp [Value.cells] at hcs
  obtain ⟨rfl,rfl,rfl⟩:=hcs
  exact ⟨[],by omega,fun h=>absurd h (by omega)⟩
 ·simp [Value.cells] at hcs
  obtain ⟨rfl,rfl,rfl⟩:=hcs
  simp only [if_true] at hzs
  refine ⟨ss,by unfold maxLen at hmx;omega,fun h=>?_⟩
  obtain ⟨b,off,spot⟩:=a
  have hspot:spot=none:=by simpa [Addr.add] using World.cell?_spot (hcell 0 (by omega))
  subst hspot
  refine ⟨b,off,rfl,?_,fun j hj=>⟨?_,?_⟩⟩
  ·have:=World.block_lt_of_cell? _ _ (hcell 0 (by omega))
   simpa [Addr.add] using this
  ·have:=hcell j (by omega)
   rwa [add_plain] at this
  ·have h1:ss.getD j ByteArray.empty ∈ ss:=by
    rw [List.getD_eq_getElem?_getD,List.getElem?_eq_getElem (by omega:j<ss.length)]
    exact List.getElem_mem _
   have:=hws _ h1
   unfold maxLen at this
   exact this
theorem returnsInHanded_and_shapedW {H:Type} {enc:TypeId × Value→H} {a:Assume} {C:Checked} {os:Os} {f:FuncId} {fn:Func} {s:ChangeSpec} {conds:List PathCond} {apart fresh handsOn again:Bool} {X:World→Array Value→Prop}
  (hX:∀ (w w':World) (args:Array Value),w.heap=w'.heap→X w args→X w' args)
  (own:ownKnob C.prog.godebug=none) (started:os.Started) (noInit:C.prog.inits.idxOf? f=none) (hfn:C.prog.funcs[f]?=some fn)
  (witness:∃ (w:World) (tape:Tape) (i:Input),w.os=os∧(w.forCall tape i).Shaped C.prog∧i.vars=[]∧Input.okWide C.prog (w.forCall tape i) .any w.heap.size f i ∧
   ((s.pre enc C.prog fn conds apart (w.forCall tape i).memory i.args∧X (w.forCall tape i).memory i.args)∧sizedMet enc C.prog fn (OpenSpec.ofChange s) apart (w.forCall tape i).memory i.args)∧a.holds C.prog (lone (Frame.enter C.prog f i.args .normal) [] (w.forCall tape i)))
  (contract:∀ (W:World) (base:Nat) (args:Array Value) (ds gs:List (DataW H)) (before:List MemPlace),
   (∀ (j:Nat) t v,fn.params[j]?=some t→args[j]?=some v→Value.okWide C.prog W .any base t v) →
   DataW.Whole enc C.prog fn.params.toList s.vars apart W args.toList ds gs before →
   (DataW.weightsEach C.prog (fn.params.toList ++ s.plain.varTypes C.prog) (ds ++ gs)).all (·≤reachBytes)=true →
   X W args→W.ShapedOpen C.prog →
   Calls C.prog f args W fun e W'=>∃ v,e=.returned v∧s.post enc C.prog fn apart fresh handsOn again W args v W') :
  ReturnsInHanded a C os f .any (fun w args=>(s.pre enc C.prog fn conds apart w args∧X w args)∧sizedMet enc C.prog fn (OpenSpec.ofChange s) apart w args) (s.post enc C.prog fn apart fresh handsOn again):=by
 refine returnsInHanded_of_calls own started noInit witness ?_
 intro w tape i _ hsh _ hok hpre _
 obtain ⟨_,_,_,fn',hfn',_,_,_,_,hval⟩:=hok
 have e:fn'=fn:=Option.some.inj (hfn'.symm.trans hfn)
 subst e
 obtain ⟨⟨⟨ds,gs,before,hw,_⟩,hx⟩,hz⟩:=hpre
 have hw':=DataW.Whole.of_heap (w':=w.forCall tape i) (by rfl) hw
 refine (contract (w.forCall tape i) w.heap.size i.args ds gs before hval hw' (hz.weights hw) (hX _ _ _ (by rfl) hx) hsh).mono fun e W' ⟨v,he,hp⟩=>?_
 subst he
 exact ChangeSpec.post_blind hp
end Go.Proofs.YtdmacgoeikjdbaaGreatDoor

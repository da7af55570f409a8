/- Places made 0: declarations, a whole program. Blanks around a text cha -/
import Derived.Test.YtdmacgoeikjdbaaGreatDoorL39
import Derived.Test.YtdmacgoeikjdbaaGreatDoorL38
import Derived.Test.YtdmacgoeikjdbaaGreatDoorL20
import Derived.Test.YtdmacgoeikjdbaaGreatDoorL16
set_option linter.unusedSimpArgs false
set_option linter.unusedVariables false
set_option maxHeartbeats 8000000
namespace Go.Proofs.YtdmacgoeikjdbaaGreatDoor
open Go.RowKit Sx
theorem bareDe_at {w:World} {a b k n:Nat} {l:List De} {A:Option Addr} {c:Nat} (hn:l.length=n) (hk:k<n) (h:Sep w a b (.lst 6 ((mixL bDe k l).map encDe)) [.slice A n c]) :
  ∃ (g:Nat) (p:Int),A=some ⟨g,0,none⟩∧a≤g∧g<b∧w.cell? ⟨g,k * 6 + 5,none⟩=some (.int .i64 p)∧w.frozen? ⟨g,k * 6 + 5,none⟩=false ∧
   Sep (w.setCell ⟨g,k * 6 + 5,none⟩ (.int .i64 0)) a b (.lst 6 ((mixL bDe (k + 1) l).map encDe)) [.slice A n c]:=by
 have hkl:k<l.length:=by omega
 obtain ⟨g,cur,t,a1,m,cs,rfl,g1,g2,g3,g4,g5,g6,hcl,hblk,hcur,hsz,hsk,hupd⟩:=Sep.focus h k (by rw [List.length_map,mixL_length];exact hkl)
 rw [List.getElem_map,mixL_get bDe hkl] at hsk
 have hset:((mixL bDe k l).map encDe).set k (encDe (bDe l[k]))=(mixL bDe (k + 1) l).map encDe:=by
  rw [← mixL_set bDe hkl,List.map_set]
 generalize l[k]=x at hsk hset
 obtain ⟨A2,c2,rfl,hin⟩:=sep_de hsk
 have r5:=row_cell hcur hcl (by simpa using hsz) 5 (by omega)
 have rs:=row_set hcur hcl (by simpa using hsz) 5 (by omega) (.int .i64 0)
 refine ⟨g,x.pos,rfl,g1,g2,?_,hblk.frozen _,?_⟩
 ·rw [hblk.cell,← Array.getElem?_toList,r5]
  rfl
 rw [← hset]
 refine hupd _ (encDe (bDe x)) (deC (bDe x) A2 c2) rfl (fun q h1 h2 h3 h4=>heap_setCell_other _ _ _ _ (by simpa using h3)) ?_ ?_
 ·have:(cur.toList.take (k * 6) ++ deC (bDe x) A2 c2 ++ cur.toList.drop (k * 6 + 6)).toArray=cur.setIfInBounds (k * 6 + 5) (.int .i64 0):=by
   apply Array.toList_inj.1
   rw [Array.toList_setIfInBounds,rs]
   simp [deC,bDe]
  rw [this]
  exact hblk.put _ _
 ·exact sep_de' (by omega) (Sep.keep _ _ _ _ (fun q h1 h2=>heap_setCell_other _ _ _ _ (by simp;omega)) hin)
theorem sep_le {w:World} {a b z n:Nat} {xs:List D} {A:Option Addr} {c:Nat} (h:Sep w a b (.lst z xs) [.slice A n c]):n≤9223372036854775807:=by
 obtain ⟨_,_,he,h1,h2⟩:=h.len
 injection he with _ hn _
 unfold maxLen at h2
 omega
def BareRet (u:Un) (w:World) (e:Ending) (w':World):Prop:=∃ cs,e=.returned (.agg cs.toArray)∧Sep w' w.heap.size w'.heap.size (encUn (bUn u)) cs∧Below w.heap.size w w'
theorem bare_any (u:Un) (hc:CopyUnOk u) (cs:List Value) (w:World) (hp:RepT w (encUn u) cs):Calls Tryz.prog 11 #[.agg cs.toArray] w (BareRet u w):=by
 obtain ⟨A,c,B,d,rfl,hA,hB⟩:=rep_un.1 hp
 clear hA hB
 have hp:=Lib.hid hp
 have hc:=Lib.hid hc
 obtain ⟨gl,fl⟩:=u
 simp only [unC] at *
 go_enter Tryz.func11,Tryz.ntmps11
 go_wp2_with fail
 obtain ⟨y2,hb2,hs2⟩:BlkIs ((w.alloc (.cells #[.slice A gl.length c,.slice B fl.length d] 27)).alloc (.cells #[.slice none 0 0,.slice none 0 0] 27)) (w.heap.size + 1) 27 #[.slice none 0 0,.slice none 0 0]∧Below w.heap.size w ((w.alloc (.cells #[.slice A gl.length c,.slice B fl.length d] 27)).alloc (.cells #[.slice none 0 0,.slice none 0 0] 27))∧((w.alloc (.cells #[.slice A gl.length c,.slice B fl.length d] 27)).alloc (.cells #[.slice none 0 0,.slice none 0 0] 27)).heap.size=w.heap.size + 2:=⟨BlkIs.fresh_at (by simp),Below.alloc (below_alloc _ _) (by simp) _,by simp⟩
 generalize (w.alloc (.cells #[.slice A gl.length c,.slice B fl.length d] 27)).alloc (.cells #[.slice none 0 0,.slice none 0 0] 27)=w2 at *
 refine (hc.out _ _ (Rep.below hp.out hb2)).mono ?_
 rintro e v ⟨cs,rfl,hs,hbv⟩
 obtain ⟨q1,A2,c2,B2,d2,l1,l2,rfl,hg,hf⟩:=sep_un hs
 simp only [unC] at *
 have hb3:=hb2.trans (hbv.mono hb2.size)
 have yv:=y2.below hbv (by omega)
 have hsv:=hbv.size
 clear hc hp hs hbv hb2 y2
 have hg:=Lib.hid hg
 have hf:=Lib.hid hf
 go_wp2_with fail
 obtain ⟨g3,hg3⟩:∃ b,Hid (v.heap.size=b):=⟨_,Lib.hid rfl⟩
 obtain ⟨p0,hp0⟩:∃ b,Hid (w2.heap.size=b):=⟨_,Lib.hid rfl⟩
 obtain ⟨b1,hb1⟩:∃ b,Hid (w.heap.size + 1=b):=⟨_,Lib.hid rfl⟩
 rw [hg3.out] at hsv l2 hf ⊢
 rw [hp0.out] at hsv hs2 l1 hg
 rw [hb1.out] at yv ⊢
 have hlt:w.heap.size<b1:=by have:=hb1.out;omega
 have hlp:b1<p0:=by have:=hb1.out;omega
 obtain ⟨y1,yx,hB,hsz,hG,hF⟩:BlkIs (v.alloc (.cells #[.slice A2 gl.length c2,.slice B2 fl.length d2] 27)) b1 27 #[.slice none 0 0,.slice none 0 0]∧BlkIs (v.alloc (.cells #[.slice A2 gl.length c2,.slice B2 fl.length d2] 27)) g3 27 #[.slice A2 gl.length c2,.slice B2 fl.length d2]∧Below w.heap.size w (v.alloc (.cells #[.slice A2 gl.length c2,.slice B2 fl.length d2] 27))∧g3<(v.alloc (.cells #[.slice A2 gl.length c2,.slice B2 fl.length d2] 27)).heap.size∧Sep (v.alloc (.cells #[.slice A2 gl.length c2,.slice B2 fl.length d2] 27)) p0 q1 (.lst 6 (gl.map encDe)) [.slice A2 gl.length c2]∧Sep (v.alloc (.cells #[.slice A2 gl.length c2,.slice B2 fl.length d2] 27)) q1 g3 (.lst 8 (fl.map encFn)) [.slice B2 fl.length d2]:=by
  have e:=hg3.out
  refine ⟨yv.alloc _,BlkIs.fresh_at e.symm,Below.alloc hb3 (by have:=hb3.size;omega) _,by simp;omega,Sep.keep _ _ _ _ (fun q h1 h2=>Below.heap_alloc _ _ _ (by omega)) hg.out,Sep.keep _ _ _ _ (fun q h1 h2=>Below.heap_alloc _ _ _ (by omega)) hf.out⟩
 clear yv hb3 hg hf
 generalize v.alloc (.cells #[.slice A2 gl.length c2,.slice B2 fl.length d2] 27)=w3 at *
 obtain ⟨n,hn⟩:∃ n,Hid (gl.length=n):=⟨_,Lib.hid rfl⟩
 obtain ⟨m,hm⟩:∃ n,Hid (fl.length=n):=⟨_,Lib.hid rfl⟩
 rw [hn.out] at hG yx ⊢
 rw [hm.out] at hF yx ⊢
 have hnle:=sep_le hG
 have hmle:=sep_le hF
 have hG:=Lib.hid hG
 have hF:=Lib.hid hF
 have yx:=Lib.hid yx
 have y1:=Lib.hid y1
 have hB:=Lib.hid hB
 go_loopw [4] (fun i wr=>∃ k:Nat,k≤n∧i=.int .i64 k∧Sep wr p0 q1 (.lst 6 ((mixL bDe k gl).map encDe)) [.slice A2 n c2]∧KeepX (InR p0 q1) w3 wr) (fun i _=>n - (intOf i).toNat)
 case atStart=>exact ⟨0,by omega,rfl,by rw [mixL_zero];exact hG.out,KeepX.refl _ _⟩
 case round=>
 obtain ⟨k,hk,rfl,hs,hkx⟩:=hrel
 have yb:BlkIs wr g3 27 #[.slice A2 n c2,.slice B2 m d2]:=(keepR hkx (by omega) (by omega)).trans yx.out
 have z0:=yb.cell 0
 simp at z0
 by_cases hlt:k<n
 ·obtain ⟨g,p,rfl,g1,g2,c5,f5,hs'⟩:=bareDe_at hn.out hlt hs
  have hgl:g<wr.heap.size:=by have:=hkx.size;omega
  have HS:=Lib.hid hs'
  have HK:=Lib.hid (hkx.trans (KeepX.cell (X:=InR p0 q1) ⟨g,k * 6 + 5,none⟩ (.int .i64 0) ⟨g1,g2⟩))
  clear hs hs' hkx yb
  go_wp2_with fail
  go_roundw
  case rel=>exact ⟨k + 1,by omega,by go_num,HS.out,HK.out⟩
  case measure=>simp [intOf];omega
 obtain rfl:n=k:=by omega
 rw [mixL_all bDe (by rw [hn.out];omega)] at hs
 have SG:=Lib.hid hs
 have YB:=Lib.hid yb
 have KG:=Lib.hid hkx
 have hszr:=hkx.size
 have hF1:=Lib.hid (Sep.keep (w':=wr) _ _ _ _ (fun q h1 h2=>keepR hkx (by omega) (by omega)) hF.out)
 clear hs yb hkx
 go_wp2_with fail
 clear z0
 generalize wr=w4 at *
 go_loopw [5] (fun i wr=>∃ k:Nat,k≤m∧i=.int .i64 k∧Sep wr q1 g3 (.lst 8 ((mixL bFn k fl).map encFn)) [.slice B2 m d2]∧KeepX (InR q1 g3) w4 wr) (fun i _=>m - (intOf i).toNat)
 case atStart=>exact ⟨0,by omega,rfl,by rw [mixL_zero];exact hF1.out,KeepX.refl _ _⟩
 case round=>
 obtain ⟨k,hk,rfl,hs,hkx⟩:=hrel
 have hszk:=hkx.size
 have yb:BlkIs wr g3 27 #[.slice A2 n c2,.slice B2 m d2]:=(keepR hkx (by omega) (by omega)).trans YB.out
 have z1:=yb.cell 1
 simp at z1
 by_cases hlt:k<m
 ·have hkl:k<fl.length:=by rw [hm.out];exact hlt
  obtain ⟨g,cur,t,a1,mm,cs,rfl,g1,g2,g3',g4,g5,g6,hcl,hblk,hcur,hsz,hsk,hupd⟩:=Sep.focus hs k (by rw [List.length_map,mixL_length];exact hkl)
  rw [List.getElem_map,mixL_get bFn hkl] at hsk
  have hset:((mixL bFn k fl).map encFn).set k (encFn (bFn fl[k]))=(mixL bFn (k + 1) fl).map encFn:=by
   rw [← mixL_set bFn hkl,List.map_set]
  obtain ⟨x,hx⟩:∃ x,Hid (fl[k]=x):=⟨_,Lib.hid rfl⟩
  rw [hx.out] at hsk hset
  obtain ⟨m1,m2,A3,c3,B3,d3,E3,e3,i1,i2,i3,rfl,hpa,hbd,hlo⟩:=sep_fn hsk
  have row:=row_cell hcur hcl (by simpa using hsz)
  have r4:=row 4 (by omega)
  have r5:=row 5 (by omega)
  have r6:=row 6 (by omega)
  have r7:=row 7 (by omega)
  have rs:=row_set hcur hcl (by simpa using hsz) 7 (by omega) (.int .i64 0)
  have c7:wr.cell? ⟨g,k * 8 + 7,none⟩=some (.int .i64 x.pos):=by
   rw [hblk.cell,← Array.getElem?_toList,r7]
   rfl
  have f7:=hblk.frozen (k * 8 + 7)
  have hgl:=hblk.lt
  have HB1:BlkIs (wr.setCell ⟨g,k * 8 + 7,none⟩ (.int .i64 0)) g t (cur.setIfInBounds (k * 8 + 7) (.int .i64 0)):=hblk.put _ _
  have d4:(cur.setIfInBounds (k * 8 + 7) (.int .i64 0))[k * 8 + 4]?=some (.slice A3 x.params.length c3):=by
   rw [Array.getElem?_setIfInBounds_ne (by omega),← Array.getElem?_toList,r4]
   rfl
  have d5:(cur.setIfInBounds (k * 8 + 7) (.int .i64 0))[k * 8 + 5]?=some (.slice B3 x.body.length d3):=by
   rw [Array.getElem?_setIfInBounds_ne (by omega),← Array.getElem?_toList,r5]
   rfl
  have d6:(cur.setIfInBounds (k * 8 + 7) (.int .i64 0))[k * 8 + 6]?=some (.slice E3 x.locals.length e3):=by
   rw [Array.getElem?_setIfInBounds_ne (by omega),← Array.getElem?_toList,r6]
   rfl
  have hpa:Sep (wr.setCell ⟨g,k * 8 + 7,none⟩ (.int .i64 0)) a1 m1 (.lst 6 (x.params.map encDe)) [.slice A3 x.params.length c3]:=Sep.keep _ _ _ _ (fun q h1 h2=>heap_setCell_other _ _ _ _ (by simp;omega)) hpa
  have hbd:Sep (wr.setCell ⟨g,k * 8 + 7,none⟩ (.int .i64 0)) m1 m2 (.lst 9 (x.body.map encSt)) [.slice B3 x.body.length d3]:=Sep.keep _ _ _ _ (fun q h1 h2=>heap_setCell_other _ _ _ _ (by simp;omega)) hbd
  have hlo:Sep (wr.setCell ⟨g,k * 8 + 7,none⟩ (.int .i64 0)) m2 mm (.lst 6 (x.locals.map encDe)) [.slice E3 x.locals.length e3]:=Sep.keep _ _ _ _ (fun q h1 h2=>heap_setCell_other _ _ _ _ (by simp;omega)) hlo
  have kc:KeepX (InR q1 g3) wr (wr.setCell ⟨g,k * 8 + 7,none⟩ (.int .i64 0)):=KeepX.cell (X:=InR q1 g3) ⟨g,k * 8 + 7,none⟩ (.int .i64 0) ⟨g1,g2⟩
  have hother:∀ q,q ≠ g→(wr.setCell ⟨g,k * 8 + 7,none⟩ (.int .i64 0)).heap[q]?=wr.heap[q]?:=fun q h=>heap_setCell_other _ _ _ _ (by simpa using h)
  have hszs:(wr.setCell ⟨g,k * 8 + 7,none⟩ (.int .i64 0)).heap.size=wr.heap.size:=by simp [World.setCell]
  have HP:=Lib.hid hpa
  have HD:=Lib.hid hbd
  have HL:=Lib.hid hlo
  have HUP:=Lib.hid hupd
  have HK:=Lib.hid hkx
  have HSET:=Lib.hid hset
  have HROW:=Lib.hid rs
  have HB1:=Lib.hid HB1
  have D4:=Lib.hid d4
  have D5:=Lib.hid d5
  have D6:=Lib.hid d6
  have KC:=Lib.hid kc
  have HO:=Lib.hid hother
  have HSZ:=Lib.hid hszs
  clear hs hkx hupd hset rs row r4 r5 r6 r7 hsk hcur hcl hsz hblk d4 d5 d6 hpa hbd hlo kc hother hszs yb
  go_wp2_with fail
  generalize wr.setCell ⟨g,k * 8 + 7,none⟩ (.int .i64 0)=ws at *
  obtain ⟨np,hnp⟩:∃ n,Hid (x.params.length=n):=⟨_,Lib.hid rfl⟩
  obtain ⟨nb,hnb⟩:∃ n,Hid (x.body.length=n):=⟨_,Lib.hid rfl⟩
  obtain ⟨nl,hnl⟩:∃ n,Hid (x.locals.length=n):=⟨_,Lib.hid rfl⟩
  rw [hnp.out] at D4 HP
  rw [hnb.out] at D5 HD
  rw [hnl.out] at D6 HL
  have hnple:=sep_le HP.out
  have hnlle:=sep_le HL.out
  have hszw:=HSZ.out
  obtain ⟨w5,hw5⟩:∃ W,W=wr:=⟨_,rfl⟩
  subst hw5
  clear HSZ c7 f7
  go_loopw [7] (fun i w7=>∃ j:Nat,j≤np∧i=.int .i64 j∧Sep w7 a1 m1 (.lst 6 ((mixL bDe j x.params).map encDe)) [.slice A3 np c3]∧KeepX (InR a1 m1) ws w7) (fun i _=>np - (intOf i).toNat)
  case atStart=>exact ⟨0,by omega,rfl,by rw [mixL_zero];exact HP.out,KeepX.refl _ _⟩
  case round=>
  obtain ⟨j,hj,rfl,hs,hk7⟩:=hrel
  have hsz7:=hk7.size
  have yb:BlkIs wr g t (cur.setIfInBounds (k * 8 + 7) (.int .i64 0)):=(keepR hk7 (by omega) (by omega)).trans HB1.out
  have z4:wr.cell? ⟨g,k * 8 + 4,none⟩=some (.slice A3 np c3):=by rw [yb.cell];exact D4.out
  by_cases hlj:j<np
  ·obtain ⟨gp,p,rfl,o1,o2,c5,f5,hs'⟩:=bareDe_at hnp.out hlj hs
   have hgp:gp<wr.heap.size:=by omega
   have HS:=Lib.hid hs'
   have HK7:=Lib.hid (hk7.trans (KeepX.cell (X:=InR a1 m1) ⟨gp,j * 6 + 5,none⟩ (.int .i64 0) ⟨o1,o2⟩))
   clear hs hs' hk7 yb
   go_wp2_with fail
   go_roundw
   case rel=>exact ⟨j + 1,by omega,by go_num,HS.out,HK7.out⟩
   case measure=>simp [intOf];omega
  obtain rfl:np=j:=by omega
  rw [mixL_all bDe (by rw [hnp.out];omega)] at hs
  have SP:=Lib.hid hs
  have K7:=Lib.hid hk7
  have Y7:=Lib.hid yb
  have HL7:=Lib.hid (Sep.keep (w':=wr) _ _ _ _ (fun q h1 h2=>keepR hk7 (by omega) (by omega)) HL.out)
  clear hs hk7 yb
  go_wp2_with fail
  clear z4
  obtain ⟨w7,hw7⟩:∃ W,W=wr:=⟨_,rfl⟩
  subst hw7
  go_loopw [8] (fun i w8=>∃ j:Nat,j≤nl∧i=.int .i64 j∧Sep w8 m2 mm (.lst 6 ((mixL bDe j x.locals).map encDe)) [.slice E3 nl e3]∧KeepX (InR m2 mm) w7 w8) (fun i _=>nl - (intOf i).toNat)
  case atStart=>exact ⟨0,by omega,rfl,by rw [mixL_zero];exact HL7.out,KeepX.refl _ _⟩
  case round=>
  obtain ⟨j,hj,rfl,hs,hk8⟩:=hrel
  have hsz8:=hk8.size
  have yb:BlkIs wr g t (cur.setIfInBounds (k * 8 + 7) (.int .i64 0)):=(keepR hk8 (by omega) (by omega)).trans Y7.out
  have z6:wr.cell? ⟨g,k * 8 + 6,none⟩=some (.slice E3 nl e3):=by rw [yb.cell];exact D6.out
  by_cases hlj:j<nl
  ·obtain ⟨gp,p,rfl,o1,o2,c5,f5,hs'⟩:=bareDe_at hnl.out hlj hs
   have hgp:gp<wr.heap.size:=by omega
   have HS:=Lib.hid hs'
   have HK8:=Lib.hid (hk8.trans (KeepX.cell (X:=InR m2 mm) ⟨gp,j * 6 + 5,none⟩ (.int .i64 0) ⟨o1,o2⟩))
   clear hs hs' hk8 yb
   go_wp2_with fail
   go_roundw
   case rel=>exact ⟨j + 1,by omega,by go_num,HS.out,HK8.out⟩
   case measure=>simp [intOf];omega
  obtain rfl:nl=j:=by omega
  rw [mixL_all bDe (by rw [hnl.out];omega)] at hs
  have z5:wr.cell? ⟨g,k * 8 + 5,none⟩=some (.slice B3 nb d3):=by rw [yb.cell];exact D5.out
  have hbody:Sep wr m1 m2 (.lst 9 (x.body.map encSt)) [.slice B3 x.body.length d3]:=by
   rw [hnb.out]
   exact Sep.keep _ _ _ _ (fun q h1 h2=>(keepR hk8 (by omega) (by omega)).trans (keepR K7.out (by omega) (by omega))) HD.out
  have hcall:=bareSts x.body m1 m2 B3 d3 wr (by omega) hbody
  rw [hnb.out] at hcall
  have hcall:=Lib.hid hcall
  have SL:=Lib.hid hs
  have K8:=Lib.hid hk8
  have Y8:=Lib.hid yb
  clear hs hk8 yb hbody
  go_wp2_with fail
  clear z5 z6
  refine hcall.out.mono ?_
  rintro e w9 ⟨rfl,s9,k9⟩
  have hsz9:=k9.size
  have y9:BlkIs w9 g t (cur.setIfInBounds (k * 8 + 7) (.int .i64 0)):=(keepR k9 (by omega) (by omega)).trans Y8.out
  have s8:Sep w9 m2 mm (.lst 6 ((x.locals.map bDe).map encDe)) [.slice E3 nl e3]:=Sep.keep _ _ _ _ (fun q h1 h2=>keepR k9 (by omega) (by omega)) SL.out
  have s7:Sep w9 a1 m1 (.lst 6 ((x.params.map bDe).map encDe)) [.slice A3 np c3]:=Sep.keep _ _ _ _ (fun q h1 h2=>(keepR k9 (by omega) (by omega)).trans (keepR K8.out (by omega) (by omega))) SP.out
  have kw:KeepX (InR q1 g3) w5 w9:=(((KC.out.trans (K7.out.imp2 fun q hq=>⟨by omega,by omega⟩)).trans (K8.out.imp2 fun q hq=>⟨by omega,by omega⟩))).trans (k9.imp2 fun q hq=>⟨by omega,by omega⟩)
  have hfin:Sep w9 q1 g3 (.lst 8 ((mixL bFn (k + 1) fl).map encFn)) [.slice (some ⟨g,0,none⟩) m d2]:=by
   rw [← HSET.out]
   refine HUP.out w9 (encFn (bFn x)) (fnC (bFn x) A3 c3 B3 d3 E3 e3) rfl (fun q h1 h2 h3 h4=>?_) ?_ ?_
   ·exact (keepR k9 (by omega) (by omega)).trans ((keepR K8.out (by omega) (by omega)).trans ((keepR K7.out (by omega) (by omega)).trans (HO.out q h3)))
   ·have:(cur.toList.take (k * 8) ++ fnC (bFn x) A3 c3 B3 d3 E3 e3 ++ cur.toList.drop (k * 8 + 8)).toArray=cur.setIfInBounds (k * 8 + 7) (.int .i64 0):=by
     apply Array.toList_inj.1
     rw [Array.toList_setIfInBounds,HROW.out]
     simp [fnC,bFn]
    rw [this]
    exact y9
   ·refine sep_fn' (x:=bFn x) (m1:=m1) (m2:=m2) i1 i2 i3 ?_ ?_ ?_
    ·simpa [bFn,hnp.out] using s7
    ·simpa [bFn,hnb.out] using s9
    ·simpa [bFn,hnl.out] using s8
  have HF:=Lib.hid hfin
  have HK3:=Lib.hid (HK.out.trans kw)
  clear s7 s8 s9 k9 kw y9 hfin HUP
  go_wp2_with fail
  go_roundw
  case rel=>exact ⟨k + 1,by omega,by go_num,HF.out,HK3.out⟩
  case measure=>simp [intOf];omega
 obtain rfl:m=k:=by omega
 rw [mixL_all bFn (by rw [hm.out];omega)] at hs
 have hG9:Sep wr p0 q1 (.lst 6 ((gl.map bDe).map encDe)) [.slice A2 n c2]:=Sep.keep _ _ _ _ (fun q h1 h2=>keepR hkx (by omega) (by omega)) SG.out
 have y19:BlkIs wr b1 27 #[.slice none 0 0,.slice none 0 0]:=(keepR hkx (by omega) (by omega)).trans ((keepR KG.out (by omega) (by omega)).trans y1.out)
 have hB9:Below w.heap.size w wr:=⟨hkx.os.trans (KG.out.os.trans hB.out.os),hkx.tape.trans (KG.out.tape.trans hB.out.tape),hkx.output.trans (KG.out.output.trans hB.out.output),Nat.le_trans hB.out.size (by omega),fun q hq=>(keepR hkx (by omega) (by omega)).trans ((keepR KG.out (by omega) (by omega)).trans (hB.out.block q hq))⟩
 have z0:=yb.cell 0
 simp at z0
 have HG9:=Lib.hid hG9
 have HS9:=Lib.hid hs
 have HB9:=Lib.hid hB9
 have Y19:=Lib.hid y19
 have r0:=y19.cell 0
 have r1:=y19.cell 1
 have t0:=y19.frozen 0
 have t1:=y19.frozen 1
 simp at r0 r1
 have hgx:=yb.lt
 clear hs hG9 hB9 hkx y19 yb
 go_wp2_with fail
 have yy:=(Y19.out.put 0 (.slice A2 n c2)).put 1 (.slice B2 m d2)
 have zz0:=yy.cell 0
 have zz1:=yy.cell 1
 simp at zz0 zz1
 have hk:∀ q,q ≠ b1→((wr.setCell ⟨b1,0,none⟩ (.slice A2 n c2)).setCell ⟨b1,1,none⟩ (.slice B2 m d2)).heap[q]?=wr.heap[q]?:=fun q h=>(heap_setCell_other _ _ _ _ (by simpa using h)).trans (heap_setCell_other _ _ _ _ (by simpa using h))
 have hBf:Below w.heap.size w ((wr.setCell ⟨b1,0,none⟩ (.slice A2 n c2)).setCell ⟨b1,1,none⟩ (.slice B2 m d2)):=Below.setCell (Below.setCell HB9.out (by simp;omega) _) (by simp;omega) _
 have hsf:((wr.setCell ⟨b1,0,none⟩ (.slice A2 n c2)).setCell ⟨b1,1,none⟩ (.slice B2 m d2)).heap.size=wr.heap.size:=by simp [World.setCell]
 generalize (wr.setCell ⟨b1,0,none⟩ (.slice A2 n c2)).setCell ⟨b1,1,none⟩ (.slice B2 m d2)=wf at *
 refine bodyPost_ret (v:=.agg #[.slice A2 n c2,.slice B2 m d2]) (by simp [results,Tryz.results11,go_sem,zz0,zz1]) rfl ?_
 refine ⟨[.slice A2 n c2,.slice B2 m d2],rfl,?_,hBf⟩
 have S1:=Sep.keep (w':=wf) _ _ _ _ (fun q h1 h2=>hk q (by omega)) HG9.out
 have S2:=Sep.keep (w':=wf) _ _ _ _ (fun q h1 h2=>hk q (by omega)) HS9.out
 have e1:=hn.out
 have e2:=hm.out
 have hx:=sep_un' (x:=bUn ⟨gl,fl⟩) (a:=w.heap.size) (b:=wf.heap.size) (m:=q1) (A:=A2) (c:=c2) (B:=B2) (d:=d2) (by omega) (by omega) (by simpa [bUn,e1] using Sep.mono _ _ _ _ _ _ (by omega) (Nat.le_refl _) S1) (by simpa [bUn,e2] using Sep.mono _ _ _ _ _ _ (Nat.le_refl _) (by omega) S2)
 simpa [unC,bUn,e1,e2] using hx
end Go.Proofs.YtdmacgoeikjdbaaGreatDoor
namespace Go.Proofs.YtdmacgoeikjdbaaGreatDoor
open Go.RowKit
theorem scanR_low:∀ (f:Nat) (l:List UInt8) (p:Nat) (acc:List Tok),(∀ t ∈ acc,t.pos<(p:Int))→∀ t ∈ (scanR f l p acc).1,t.kind ≠ 0→t.pos<((p + l.length:Nat):Int)
 | 0,_,_,_,_,t,ht,_=>by simp [scanR] at ht
 | f + 1,[],p,acc,ha,t,ht,hk=>by
  simp only [scanR,List.mem_append,List.mem_singleton] at ht
  rcases ht with ht | ht
  ·have:=ha t ht
   simp only [List.length_nil]
   omega
  ·rw [ht] at hk
   exact absurd rfl hk
 | f + 1,b :: r,p,acc,ha,t,ht,hk=>by
  rw [scanR] at ht
  simp only [List.length_cons]
  split at ht
  ·have:=scanR_low f r (p + 1) acc (fun t ht=>by have:=ha t ht;omega) t ht hk
   omega
  ·split at ht
   ·rename_i hz
    have hp:=tokenR_pos b r hz
    have hle:=tokenR_le (b :: r) (by simp)
    simp only [List.length_cons] at hle
    have:=scanR_low f ((b :: r).drop (tokenR (b :: r)).2.1) (p + (tokenR (b :: r)).2.1) _ (fun t ht=>by
     rcases List.mem_append.1 ht with ht | ht
     ·have:=ha t ht;omega
     ·simp only [List.mem_singleton] at ht
      subst ht
      simp only
      omega) t ht hk
    simp only [List.length_drop,List.length_cons] at this
    omega
   ·simp at ht
def gP (n:Nat) (q:Int):Int:=if q=n then q + 3 else q + 2
theorem shift_map {l:List UInt8} (h:(tokensT l).2.1=0):shift1 (tokensT l).1=(tokensT l).1.map (mvT (gP l.length)):=by
 obtain ⟨ts,e,h1,h2,h3,h4⟩:=(tokFacts h).last
 have hl:l.length≤2000:=by
  apply Nat.le_of_not_lt
  intro hl
  rw [tokensT,if_pos hl] at h
  exact absurd h (by decide)
 have hlow:∀ t ∈ (tokensT l).1,t.kind ≠ 0→t.pos<(l.length:Int):=by
  rw [tokens_same]
  unfold tokensR
  rw [if_neg (by omega)]
  have:=scanR_low (l.length + 1) l 0 [] (by simp)
  simpa using this
 unfold shift1
 refine List.map_congr_left fun t ht=>?_
 by_cases hk:t.kind=0
 ·rw [if_pos hk]
  have ht':=ht
  rw [h1] at ht'
  rcases List.mem_append.1 ht' with h5 | h5
  ·exact absurd hk (h4 t h5)
  ·simp only [List.mem_singleton] at h5
   rw [h5,mvT,shiftTok,gP,if_pos h3]
 ·rw [if_neg hk,mvT,shiftTok,gP,if_neg (by have:=hlow t ht hk;omega)]
theorem goodNo:GoodUn noUn:=⟨by simp,by simp,by simp,by simp⟩
theorem parseT_good (r:List Tok × Int × Int):GoodUn (parseT r).1:=by
 unfold parseT
 split
 ·exact goodNo
 ·have h:=ploop_gd 4000 (by omega) 2500 noUn r.1 0 (by omega) goodNo (by simp) (by simp)
  revert h
  cases ploop 4000 2500 noUn r.1 with
  | out=>exact fun _=>goodNo
  | bad f=>exact fun _=>goodNo
  | ok x ts=>exact fun h=>h
theorem blanks_parse (l:List UInt8) (hl:l.length≤1000):(parseT (tokensT (32 :: 32 :: (l ++ [10])))).2.1=(parseT (tokensT l)).2.1∧bUn (parseT (tokensT (32 :: 32 :: (l ++ [10])))).1=bUn (parseT (tokensT l)).1 ∧
  ((parseT (tokensT l)).2.1 ≠ 0→(parseT (tokensT l)).2.2 ≠ l.length→(parseT (tokensT (32 :: 32 :: (l ++ [10])))).2.2=(parseT (tokensT l)).2.2 + 2):=by
 rw [tokens_blanks1 l hl]
 by_cases he:(tokensT l).2.1=0
 ·rw [shift_map he]
  unfold parseT
  simp only [he,ne_eq,not_true_eq_false,if_false]
  have hne:(tokensT l).1 ≠ []:=by
   obtain ⟨ts,e,h1,_⟩:=(tokFacts he).last
   rw [h1]
   simp
  have hs:=ploop_sh (g:=gP l.length) 4000 2500 (u:=noUn) (v:=noUn) rfl hne
  revert hs
  generalize ploop 4000 2500 noUn (tokensT l).1=a
  generalize ploop 4000 2500 noUn ((tokensT l).1.map (mvT (gP l.length)))=b
  intro hs
  cases hs with
  | out=>exact ⟨rfl,rfl,fun h=>absurd rfl h⟩
  | bad f=>exact ⟨rfl,rfl,fun _ h=>by show gP l.length f.pos=f.pos + 2;rw [gP,if_neg h]⟩
  | ok hr ht=>exact ⟨rfl,hr.symm,fun h=>absurd rfl h⟩
 ·unfold parseT
  simp only [he,ne_eq,not_false_eq_true,if_true,if_false]
  simp
theorem parse_pos (l:List UInt8) (hl:l.length≤2000) (h:(parseT (tokensT l)).2.1 ≠ 0):0≤(parseT (tokensT l)).2.2∧(parseT (tokensT l)).2.2≤2000:=by
 obtain ⟨h1,h2,h3⟩:=tokens_pos l hl
 by_cases he:(tokensT l).2.1=0
 ·have hne:(tokensT l).1 ≠ []:=by
   obtain ⟨ts,e,h1,_⟩:=(tokFacts he).last
   rw [h1]
   simp
  have hm:(tokensT l).1.map (mvT fun q=>if 0≤q∧q≤2000 then q else 0)=(tokensT l).1:=by
   conv=>rhs;rw [← List.map_id (tokensT l).1]
   refine List.map_congr_left fun t ht=>?_
   rw [mvT,if_pos (h1 t ht)]
   rfl
  have hs:=ploop_sh (g:=fun q=>if 0≤q∧q≤2000 then q else 0) 4000 2500 (u:=noUn) (v:=noUn) rfl hne
  rw [hm] at hs
  unfold parseT at h ⊢
  simp only [he,ne_eq,not_true_eq_false,if_false] at h ⊢
  revert hs h
  generalize ploop 4000 2500 noUn (tokensT l).1=a
  intro hs h
  cases a with
  | out=>exact absurd rfl h
  | ok x ts=>exact absurd rfl h
  | bad f=>
   have:∀ r:Rs Un,Sh (fun q:Int=>if 0≤q∧q≤2000 then q else 0) (bare bUn) (.bad f) r→r=.bad (mvF (fun q=>if 0≤q∧q≤2000 then q else 0) f):=fun r hr=>by cases hr;rfl
   have e:=this _ hs
   injection e with e
   have e2:f.pos=if 0≤f.pos∧f.pos≤2000 then f.pos else 0:=congrArg Flt.pos e
   show 0≤f.pos∧f.pos≤2000
   split at e2 <;> omega
 ·unfold parseT
  simp only [he,ne_eq,not_false_eq_true,if_true]
  exact ⟨h2,h3⟩
end Go.Proofs.YtdmacgoeikjdbaaGreatDoor

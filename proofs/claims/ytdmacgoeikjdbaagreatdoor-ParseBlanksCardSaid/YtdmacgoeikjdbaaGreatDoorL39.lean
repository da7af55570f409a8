/- Places made 0: expressions, statements. Places made 0: statements, a p -/
import Derived.Test.YtdmacgoeikjdbaaGreatDoorL37
import Derived.Test.YtdmacgoeikjdbaaGreatDoorL20
import Derived.Test.YtdmacgoeikjdbaaGreatDoorL06
set_option linter.unusedSimpArgs false
set_option linter.unusedVariables false
set_option maxHeartbeats 2000000
namespace Go.Proofs.YtdmacgoeikjdbaaGreatDoor
open Go.RowKit Sx
def mixL {α:Type} (f:α→α) (k:Nat) (l:List α):List α:=(l.take k).map f ++ l.drop k
theorem mixL_zero {α:Type} (f:α→α) (l:List α):mixL f 0 l=l:=by simp [mixL]
theorem mixL_all {α:Type} (f:α→α) {k:Nat} {l:List α} (h:l.length≤k):mixL f k l=l.map f:=by
 rw [mixL,List.take_of_length_le h,List.drop_of_length_le h,List.append_nil]
theorem mixL_length {α:Type} (f:α→α) (k:Nat) (l:List α):(mixL f k l).length=l.length:=by
 simp [mixL]
 omega
theorem mixL_get {α:Type} (f:α→α) {k:Nat} {l:List α} (h:k<l.length) (h':k<(mixL f k l).length):(mixL f k l)[k]=l[k]:=by
 have e:(mixL f k l)[k]?=l[k]?:=by
  unfold mixL
  rw [List.getElem?_append_right (by simp;omega)]
  simp [Nat.min_eq_left (Nat.le_of_lt h)]
 rw [List.getElem?_eq_getElem h',List.getElem?_eq_getElem h] at e
 exact Option.some.inj e
theorem mixL_set {α:Type} (f:α→α) {k:Nat} {l:List α} (h:k<l.length):(mixL f k l).set k (f l[k])=mixL f (k + 1) l:=by
 unfold mixL
 rw [List.set_append_right _ _ (by simp;omega)]
 have e:k - ((l.take k).map f).length=0:=by simp;omega
 rw [e,List.drop_eq_getElem_cons h,List.set_cons_zero,List.take_add_one,List.getElem?_eq_getElem h,List.map_append,List.append_assoc]
 rfl
theorem row_cell {cur cs:List Value} {k z:Nat} (h:cur=cur.take (k * z) ++ cs ++ cur.drop (k * z + z)) (hl:cs.length=z) (hle:k * z + z≤cur.length) (j:Nat) (hj:j<z):cur[k * z + j]?=cs[j]?:=by
 rw [h,List.append_assoc,List.getElem?_append_right (by simp;omega)]
 have e:k * z + j - (cur.take (k * z)).length=j:=by simp;omega
 rw [e,List.getElem?_append_left (by omega)]
theorem row_set {cur cs:List Value} {k z:Nat} (h:cur=cur.take (k * z) ++ cs ++ cur.drop (k * z + z)) (hl:cs.length=z) (hle:k * z + z≤cur.length) (j:Nat) (hj:j<z) (v:Value):cur.set (k * z + j) v=cur.take (k * z) ++ cs.set j v ++ cur.drop (k * z + z):=by
 have h1:(cur.take (k * z) ++ cs ++ cur.drop (k * z + z)).set (k * z + j) v=cur.take (k * z) ++ cs.set j v ++ cur.drop (k * z + z):=by
  rw [List.append_assoc,List.set_append_right _ _ (by simp;omega)]
  have e:k * z + j - (cur.take (k * z)).length=j:=by simp;omega
  rw [e,List.set_append_left _ _ (by omega),List.append_assoc]
 rw [← h1,← h]
abbrev InR (a b:Nat):Nat→Prop:=fun q=>a≤q∧q<b
theorem keepR {a b:Nat} {w w':World} (h:KeepX (InR a b) w w') {q:Nat} (hq:¬ (a≤q∧q<b)) (hl:q<w.heap.size):w'.heap[q]?=w.heap[q]?:=h.block q hq hl
theorem Sx.KeepX.imp2 {X Y:Nat→Prop} {w w':World} (h:KeepX X w w') (hXY:∀ q,X q→Y q):KeepX Y w w':=⟨h.os,h.tape,h.output,h.size,fun q hq hl=>h.block q (fun hx=>hq (hXY q hx)) hl⟩
theorem Sx.KeepX.cell {X:Nat→Prop} {w:World} (p:Addr) (v:Value) (h:X p.block):KeepX X w (w.setCell p v):=⟨rfl,rfl,rfl,by simp [World.setCell],fun q hq _=>heap_setCell_other _ _ _ _ (fun e=>hq (e ▸ h))⟩
def Bared (a b z:Nat) (ds:List D) (v:Value) (w:World) (e:Ending) (w':World):Prop:=e=.returned (.tuple #[])∧Sep w' a b (.lst z ds) [v]∧KeepX (InR a b) w w'
def BareExsOk (l:List Ex):Prop:=∀ (a b:Nat) (A:Option Addr) (c:Nat) (w:World),b≤w.heap.size→Sep w a b (.lst 8 (l.map encEx)) [.slice A l.length c]→Calls Tryz.prog 56 #[.slice A l.length c] w (Bared a b 8 ((l.map bEx).map encEx) (.slice A l.length c) w)
theorem bareExprs_of (l:List Ex) (ih:∀ x ∈ l,BareExsOk x.kids):BareExsOk l:=by
 intro a b A c w hbw hp
 have hle:l.length≤9223372036854775807:=by
  obtain ⟨_,_,he,h1,h2⟩:=hp.len
  unfold maxLen at h2
  rw [List.length_map] at h1
  omega
 obtain ⟨n,hn⟩:∃ n,Hid (l.length=n):=⟨_,Lib.hid rfl⟩
 rw [hn.out] at hp hle ⊢
 have hp:=Lib.hid hp
 go_enter Tryz.func56,Tryz.ntmps56
 go_wp2_with fail
 go_loopw [2] (fun i wr=>∃ k:Nat,k≤n∧i=.int .i64 k∧Sep wr a b (.lst 8 ((mixL bEx k l).map encEx)) [.slice A n c]∧KeepX (InR a b) w wr) (fun i _=>n - (intOf i).toNat)
 case atStart=>exact ⟨0,by omega,rfl,by rw [mixL_zero];exact hp.out,KeepX.refl _ _⟩
 case round=>
  obtain ⟨k,hk,rfl,hs,hkx⟩:=hrel
  have hbw:b≤wr.heap.size:=Nat.le_trans hbw hkx.size
  by_cases hlt:k<n
  ·have hkl:k<l.length:=by rw [hn.out];exact hlt
   obtain ⟨g,cur,t,a1,m,cs,rfl,g1,g2,g3,g4,g5,g6,hcl,hblk,hcur,hsz,hsk,hupd⟩:=Sep.focus hs k (by rw [List.length_map,mixL_length];exact hkl)
   rw [List.getElem_map,mixL_get bEx hkl] at hsk
   obtain ⟨x,hx⟩:∃ x,Hid (l[k]=x):=⟨_,Lib.hid rfl⟩
   have hset:((mixL bEx k l).map encEx).set k (encEx (bEx l[k]))=(mixL bEx (k + 1) l).map encEx:=by
    rw [← mixL_set bEx hkl,List.map_set]
   have ih:=ih _ (List.getElem_mem hkl)
   rw [hx.out] at hsk hset ih
   obtain ⟨A2,c2,rfl,hkids⟩:=sep_ex hsk
   have row:=row_cell hcur hcl (by simpa using hsz)
   have r6:=row 6 (by omega)
   have r7:=row 7 (by omega)
   have rs:=row_set hcur hcl (by simpa using hsz) 7 (by omega) (.int .i64 0)
   have c7:wr.cell? ⟨g,k * 8 + 7,none⟩=some (.int .i64 x.pos):=by
    rw [hblk.cell,← Array.getElem?_toList,r7]
    rfl
   have f7:=hblk.frozen (k * 8 + 7)
   have hgl:=hblk.lt
   have HB1:BlkIs (wr.setCell ⟨g,k * 8 + 7,none⟩ (.int .i64 0)) g t (cur.setIfInBounds (k * 8 + 7) (.int .i64 0)):=hblk.put _ _
   have c6:(wr.setCell ⟨g,k * 8 + 7,none⟩ (.int .i64 0)).cell? ⟨g,k * 8 + 6,none⟩=some (.slice A2 x.kids.length c2):=by
    rw [World.cell?_setCell_other _ _ _ _ (by simp),hblk.cell,← Array.getElem?_toList,r6]
    rfl
   have hk1:Sep (wr.setCell ⟨g,k * 8 + 7,none⟩ (.int .i64 0)) a1 m (.lst 8 (x.kids.map encEx)) [.slice A2 x.kids.length c2]:=Sep.keep _ _ _ _ (fun q h1 h2=>heap_setCell_other _ _ _ _ (by simp;omega)) hkids
   have hcall:=ih a1 m A2 c2 _ (by simp [World.setCell];omega) hk1
   have hcall:=Lib.hid hcall
   have HUP:=Lib.hid hupd
   have HK:=Lib.hid hkx
   have HSET:=Lib.hid hset
   have HROW:=Lib.hid rs
   have HB1:=Lib.hid HB1
   clear hs hkx hupd hset rs row r6 r7 hkids hk1 hsk ih hcur hcl hsz hblk
   go_wp2_with fail
   refine hcall.out.mono ?_
   rintro e w3 ⟨rfl,s3,k3⟩
   have kw:KeepX (InR a b) wr w3:=(KeepX.cell (X:=InR a b) ⟨g,k * 8 + 7,none⟩ (.int .i64 0) ⟨g1,g2⟩).trans (k3.imp2 fun q hq=>⟨by omega,by omega⟩)
   have b3:BlkIs w3 g t (cur.setIfInBounds (k * 8 + 7) (.int .i64 0)):=(keepR k3 (by omega) (by simp [World.setCell];omega)).trans HB1.out
   have hfin:Sep w3 a b (.lst 8 ((mixL bEx (k + 1) l).map encEx)) [.slice (some ⟨g,0,none⟩) n c]:=by
    rw [← HSET.out]
    have hxb:encEx (bEx x)=encEx (.mk x.op x.ty x.name x.n (x.kids.map bEx) 0):=by
     obtain ⟨o,ty,nm,nn,ks,p⟩:=x
     rw [bEx_mk]
     rfl
    refine HUP.out w3 (encEx (bEx x)) (exC (.mk x.op x.ty x.name x.n (x.kids.map bEx) 0) A2 c2) rfl (fun q h1 h2 h3 h4=>?_) ?_ ?_
    ·exact (keepR k3 h4 (by simp [World.setCell];omega)).trans (heap_setCell_other _ _ _ _ (by simpa using h3))
    ·have:(cur.toList.take (k * 8) ++ exC (.mk x.op x.ty x.name x.n (x.kids.map bEx) 0) A2 c2 ++ cur.toList.drop (k * 8 + 8)).toArray=cur.setIfInBounds (k * 8 + 7) (.int .i64 0):=by
      apply Array.toList_inj.1
      rw [Array.toList_setIfInBounds,HROW.out]
      simp [exC,Ex.op,Ex.ty,Ex.name,Ex.n,Ex.kids,Ex.pos]
     rw [this]
     exact b3
    ·rw [hxb]
     refine sep_ex' (x:=.mk x.op x.ty x.name x.n (x.kids.map bEx) 0) g4 ?_
     simpa [Ex.kids] using s3
   have HF:=Lib.hid hfin
   have HK3:=Lib.hid (HK.out.trans kw)
   clear s3 k3 kw b3 hfin HUP HB1 hcall c6 c7
   go_wp2_with fail
   go_roundw
   case rel=>exact ⟨k + 1,by omega,by go_num,HF.out,HK3.out⟩
   case measure=>simp [intOf];omega
  ·obtain rfl:k=n:=by omega
   rw [mixL_all bEx (by rw [hn.out];omega)] at hs
   go_wp2_with fail
   first | go_end0 | refine bodyPost_ret (results_none rfl _ _ _) rfl ?_
   exact ⟨rfl,hs,hkx⟩
theorem bareExs (l:List Ex):BareExsOk l:=bareExprs_of l fun x h=>bareExs x.kids
termination_by SizeOf.sizeOf l
decreasing_by
 have h1:=List.sizeOf_lt_of_mem h
 obtain ⟨o,t,s,n,ks,p⟩:=x
 simp only [Ex.kids,Ex.mk.sizeOf_spec] at *
 omega
end Go.Proofs.YtdmacgoeikjdbaaGreatDoor
namespace Go.Proofs.YtdmacgoeikjdbaaGreatDoor
open Go.RowKit Sx
def BareStsOk (l:List St):Prop:=∀ (a b:Nat) (A:Option Addr) (c:Nat) (w:World),b≤w.heap.size→Sep w a b (.lst 9 (l.map encSt)) [.slice A l.length c]→Calls Tryz.prog 22 #[.slice A l.length c] w (Bared a b 9 ((l.map bSt).map encSt) (.slice A l.length c) w)
theorem bareStmts_of (l:List St) (ih:∀ x ∈ l,BareStsOk x.body):BareStsOk l:=by
 intro a b A c w hbw hp
 have hle:l.length≤9223372036854775807:=by
  obtain ⟨_,_,he,h1,h2⟩:=hp.len
  unfold maxLen at h2
  rw [List.length_map] at h1
  omega
 obtain ⟨n,hn⟩:∃ n,Hid (l.length=n):=⟨_,Lib.hid rfl⟩
 rw [hn.out] at hp hle ⊢
 have hp:=Lib.hid hp
 go_enter Tryz.func22,Tryz.ntmps22
 go_wp2_with fail
 go_loopw [2] (fun i wr=>∃ k:Nat,k≤n∧i=.int .i64 k∧Sep wr a b (.lst 9 ((mixL bSt k l).map encSt)) [.slice A n c]∧KeepX (InR a b) w wr) (fun i _=>n - (intOf i).toNat)
 case atStart=>exact ⟨0,by omega,rfl,by rw [mixL_zero];exact hp.out,KeepX.refl _ _⟩
 case round=>
  obtain ⟨k,hk,rfl,hs,hkx⟩:=hrel
  have hbw:b≤wr.heap.size:=Nat.le_trans hbw hkx.size
  by_cases hlt:k<n
  ·have hkl:k<l.length:=by rw [hn.out];exact hlt
   obtain ⟨g,cur,t,a1,m,cs,rfl,g1,g2,g3,g4,g5,g6,hcl,hblk,hcur,hsz,hsk,hupd⟩:=Sep.focus hs k (by rw [List.length_map,mixL_length];exact hkl)
   rw [List.getElem_map,mixL_get bSt hkl] at hsk
   obtain ⟨x,hx⟩:∃ x,Hid (l[k]=x):=⟨_,Lib.hid rfl⟩
   have hset:((mixL bSt k l).map encSt).set k (encSt (bSt l[k]))=(mixL bSt (k + 1) l).map encSt:=by
    rw [← mixL_set bSt hkl,List.map_set]
   have ih:=ih _ (List.getElem_mem hkl)
   rw [hx.out] at hsk hset ih
   obtain ⟨m1,A2,c2,A3,c3,m2,m3,rfl,hex,hbd⟩:=sep_st hsk
   have row:=row_cell hcur hcl (by simpa using hsz)
   have r1:=row 1 (by omega)
   have r2:=row 2 (by omega)
   have r8:=row 8 (by omega)
   have rs:=row_set hcur hcl (by simpa using hsz) 8 (by omega) (.int .i64 0)
   have c8:wr.cell? ⟨g,k * 9 + 8,none⟩=some (.int .i64 x.pos):=by
    rw [hblk.cell,← Array.getElem?_toList,r8]
    rfl
   have f8:=hblk.frozen (k * 9 + 8)
   have hgl:=hblk.lt
   have HB1:BlkIs (wr.setCell ⟨g,k * 9 + 8,none⟩ (.int .i64 0)) g t (cur.setIfInBounds (k * 9 + 8) (.int .i64 0)):=hblk.put _ _
   have c1:(wr.setCell ⟨g,k * 9 + 8,none⟩ (.int .i64 0)).cell? ⟨g,k * 9 + 1,none⟩=some (.slice A2 x.ex.length c2):=by
    rw [World.cell?_setCell_other _ _ _ _ (by simp),hblk.cell,← Array.getElem?_toList,r1]
    rfl
   have d1:(cur.setIfInBounds (k * 9 + 8) (.int .i64 0))[k * 9 + 2]?=some (.slice A3 x.body.length c3):=by
    rw [Array.getElem?_setIfInBounds_ne (by omega),← Array.getElem?_toList,r2]
    rfl
   have he1:Sep (wr.setCell ⟨g,k * 9 + 8,none⟩ (.int .i64 0)) a1 m1 (.lst 8 (x.ex.map encEx)) [.slice A2 x.ex.length c2]:=Sep.keep _ _ _ _ (fun q h1 h2=>heap_setCell_other _ _ _ _ (by simp;omega)) hex
   have hb1:Sep (wr.setCell ⟨g,k * 9 + 8,none⟩ (.int .i64 0)) m1 m (.lst 9 (x.body.map encSt)) [.slice A3 x.body.length c3]:=Sep.keep _ _ _ _ (fun q h1 h2=>heap_setCell_other _ _ _ _ (by simp;omega)) hbd
   have hcall:=bareExs x.ex a1 m1 A2 c2 _ (by simp [World.setCell];omega) he1
   have hcall:=Lib.hid hcall
   have HUP:=Lib.hid hupd
   have HK:=Lib.hid hkx
   have HSET:=Lib.hid hset
   have HROW:=Lib.hid rs
   have HB1:=Lib.hid HB1
   have HBD:=Lib.hid hb1
   have IH:=Lib.hid ih
   have D1:=Lib.hid d1
   clear hs hkx hupd hset rs row r1 r2 r8 hex hbd hb1 he1 hsk ih hcur hcl hsz hblk d1
   go_wp2_with fail
   refine hcall.out.mono ?_
   rintro e w3 ⟨rfl,s3,k3⟩
   have b3:BlkIs w3 g t (cur.setIfInBounds (k * 9 + 8) (.int .i64 0)):=(keepR k3 (by omega) (by simp [World.setCell];omega)).trans HB1.out
   have c2':w3.cell? ⟨g,k * 9 + 2,none⟩=some (.slice A3 x.body.length c3):=by rw [b3.cell];exact D1.out
   have hsz3:=k3.size
   simp [World.setCell] at hsz3
   have hb3:Sep w3 m1 m (.lst 9 (x.body.map encSt)) [.slice A3 x.body.length c3]:=Sep.keep _ _ _ _ (fun q h1 h2=>keepR k3 (by omega) (by simp [World.setCell];omega)) HBD.out
   have hcall2:=IH.out m1 m A3 c3 w3 (by omega) hb3
   have hcall2:=Lib.hid hcall2
   have K3:=Lib.hid k3
   have S3:=Lib.hid s3
   have B3:=Lib.hid b3
   clear hb3 k3 s3 b3 HBD HB1 hcall c1 c8 IH D1
   go_wp2_with fail
   refine hcall2.out.mono ?_
   rintro e w4 ⟨rfl,s4,k4⟩
   have kw:KeepX (InR a b) wr w4:=((KeepX.cell (X:=InR a b) ⟨g,k * 9 + 8,none⟩ (.int .i64 0) ⟨g1,g2⟩).trans (K3.out.imp2 fun q hq=>⟨by omega,by omega⟩)).trans (k4.imp2 fun q hq=>⟨by omega,by omega⟩)
   have b4:BlkIs w4 g t (cur.setIfInBounds (k * 9 + 8) (.int .i64 0)):=(keepR k4 (by omega) (by omega)).trans B3.out
   have s34:Sep w4 a1 m1 (.lst 8 ((x.ex.map bEx).map encEx)) [.slice A2 x.ex.length c2]:=Sep.keep _ _ _ _ (fun q h1 h2=>keepR k4 (by omega) (by omega)) S3.out
   have hfin:Sep w4 a b (.lst 9 ((mixL bSt (k + 1) l).map encSt)) [.slice (some ⟨g,0,none⟩) n c]:=by
    rw [← HSET.out]
    have hxb:encSt (bSt x)=encSt (.mk x.op (x.ex.map bEx) (x.body.map bSt) x.ty x.name x.n 0):=by
     obtain ⟨o,e,b,ty,nm,nn,p⟩:=x
     rw [bSt_mk]
     rfl
    refine HUP.out w4 (encSt (bSt x)) (stC (.mk x.op (x.ex.map bEx) (x.body.map bSt) x.ty x.name x.n 0) A2 c2 A3 c3) rfl (fun q h1 h2 h3 h4=>?_) ?_ ?_
    ·exact (keepR k4 (by omega) (by omega)).trans ((keepR K3.out (by omega) (by simp [World.setCell];omega)).trans (heap_setCell_other _ _ _ _ (by simpa using h3)))
    ·have:(cur.toList.take (k * 9) ++ stC (.mk x.op (x.ex.map bEx) (x.body.map bSt) x.ty x.name x.n 0) A2 c2 A3 c3 ++ cur.toList.drop (k * 9 + 9)).toArray=cur.setIfInBounds (k * 9 + 8) (.int .i64 0):=by
      apply Array.toList_inj.1
      rw [Array.toList_setIfInBounds,HROW.out]
      simp [stC,St.op,St.ty,St.name,St.n,St.ex,St.body,St.pos]
     rw [this]
     exact b4
    ·rw [hxb]
     refine sep_st' (x:=.mk x.op (x.ex.map bEx) (x.body.map bSt) x.ty x.name x.n 0) m2 m3 ?_ ?_
     ·simpa [St.ex] using s34
     ·simpa [St.body] using s4
   have HF:=Lib.hid hfin
   have HK3:=Lib.hid (HK.out.trans kw)
   clear s4 k4 kw b4 hfin HUP B3 hcall2 c2' S3 K3 s34
   go_wp2_with fail
   go_roundw
   case rel=>exact ⟨k + 1,by omega,by go_num,HF.out,HK3.out⟩
   case measure=>simp [intOf];omega
  ·obtain rfl:k=n:=by omega
   rw [mixL_all bSt (by rw [hn.out];omega)] at hs
   go_wp2_with fail
   first | go_end0 | refine bodyPost_ret (results_none rfl _ _ _) rfl ?_
   exact ⟨rfl,hs,hkx⟩
theorem bareSts (l:List St):BareStsOk l:=bareStmts_of l fun x h=>bareSts x.body
termination_by SizeOf.sizeOf l
decreasing_by
 have h1:=List.sizeOf_lt_of_mem h
 obtain ⟨o,e,b,t,s,n,p⟩:=x
 simp only [St.body,St.mk.sizeOf_spec] at *
 omega
end Go.Proofs.YtdmacgoeikjdbaaGreatDoor

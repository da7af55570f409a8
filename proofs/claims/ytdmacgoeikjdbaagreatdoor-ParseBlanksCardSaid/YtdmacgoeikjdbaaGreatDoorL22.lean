/- The program's parser: types begun. The program's parser: a type's base -/
import Derived.Test.YtdmacgoeikjdbaaGreatDoorL21
import Derived.BigQuiet
import Derived.Deep.QuietTactic
import Derived.Outline
set_option linter.unusedSimpArgs false
set_option linter.unusedVariables false
set_option maxHeartbeats 8000000
namespace Go.Proofs.YtdmacgoeikjdbaaGreatDoor
open Go.RowKit Sx
theorem is_calls {g:Nat} {σ:QS} {w:World} (x:List UInt8) (hR:QR g σ w):Calls Tryz.prog 28 #[ptrV g,strB x] w (fun e w'=>e=.returned (.bool (ris x σ.s))∧QR g σ w'∧KeepM g w w'):=
 ((qIs g).ok [ptrV g,strB x] [] σ w (fun _=>False) (fun vs ds σ'=>vs=[.bool (ris x σ.s)]∧σ'=σ) hR.lt hR (fun k h=>h.elim) (daOk_nil _ _ _) (by simp [Sx.flat,Value.cells,Value.oneCell']) ⟨x,rfl,rfl,rfl⟩).mono fun e w' ⟨vs,ds,σ',r,⟨h1,h2⟩,h3,h4,_,_,_,h5,h6,_⟩=>by
  subst h1 h2
  have h3:some (Value.bool (ris x σ'.s))=some r:=h3
  injection h3 with h3
  subst h3
  exact ⟨h4,h5,h6⟩
theorem eat_calls {g:Nat} {σ:QS} {w:World} (x:List UInt8) (hR:QR g σ w):Calls Tryz.prog 67 #[ptrV g,strB x] w (DoP (.bool (meat x σ.s).1) g (meat x σ.s).2 w):=
 do_of (sh:=sOne) rfl ((qEat g).ok [ptrV g,strB x] [] σ w (fun _=>False) (fun vs ds σ'=>vs=[.bool (meat x σ.s).1]∧σ'.s=(meat x σ.s).2) hR.lt hR (fun k h=>h.elim) (daOk_nil _ _ _) (by simp [Sx.flat,Value.cells,Value.oneCell']) ⟨x,rfl,fun h _=>⟨rfl,rfl⟩⟩)
theorem fail_calls {g:Nat} {σ:QS} {w:World} (x:Int) (hR:QR g σ w):Calls Tryz.prog 64 #[ptrV g,.int .i64 x] w (DoP (.tuple #[]) g (mfail x σ.s) w):=
 do_of (sh:=sUnit) (vs0:=[]) rfl ((qFail g).ok [ptrV g,.int .i64 x] [] σ w (fun _=>False) (fun vs ds σ'=>vs=[]∧σ'.s=(mfail x σ.s)) hR.lt hR (fun k h=>h.elim) (daOk_nil _ _ _) (by simp [Sx.flat,Value.cells,Value.oneCell']) ⟨x,rfl,fun h _=>⟨rfl,rfl⟩⟩)
abbrev wordCells:Array Value:=#[strB bChar,strB bShort,strB bInt,strB bLong]
abbrev kindCells:Array Value:=#[.int .i64 1,.int .i64 3,.int .i64 5,.int .i64 7]
theorem bases_any (w:World):Calls Tryz.prog 83 #[] w (fun e w'=>e=.returned (.tuple #[.slice (some ⟨w.heap.size,0,none⟩) 4 4,.slice (some ⟨w.heap.size + 1,0,none⟩) 4 4])∧BlkIs w' w.heap.size 9 wordCells∧BlkIs w' (w.heap.size + 1) 3 kindCells∧Below w.heap.size w w'):=by
 go_enter Tryz.func83,Tryz.ntmps83
 go_wp2_with fail
 refine bodyPost_ret (v:=.tuple #[.slice (some ⟨w.heap.size,0,none⟩) 4 4,.slice (some ⟨w.heap.size + 1,0,none⟩) 4 4]) (by simp [results,Tryz.results83,go_sem]) rfl ?_
 refine ⟨rfl,(BlkIs.fresh _ _ _).alloc _,BlkIs.fresh_at (by simp),Below.alloc (below_alloc _ _) (by simp) _⟩
theorem tok_f0 (k:Int) (s:ByteArray) (m p:Int) (w:World):Sem.run Tryz.prog (Instr.field 43 (.agg #[.int .i64 k,.string s,.int .i64 m,.int .i64 p]) 0) w=.ok (.int .i64 k) w:=by kernel_rfl
theorem tok_f1 (k:Int) (s:ByteArray) (m p:Int) (w:World):Sem.run Tryz.prog (Instr.field 43 (.agg #[.int .i64 k,.string s,.int .i64 m,.int .i64 p]) 1) w=.ok (.string s) w:=by kernel_rfl
theorem bytes_inj {x y:List UInt8}:(⟨x.toArray⟩:ByteArray)=⟨y.toArray⟩ ↔ x=y:=by
 constructor
 ·intro h
  injection h with h
  have:=congrArg Array.toList h
  simpa using this
 ·rintro rfl;rfl
theorem contains_words (x:List UInt8):Lib.containsS ([⟨bChar.toArray⟩,⟨bShort.toArray⟩,⟨bInt.toArray⟩,⟨bLong.toArray⟩]:List ByteArray) ⟨x.toArray⟩=decide (x ∈ intWords):=by
 rw [Bool.eq_iff_iff,Lib.containsS_iff,decide_eq_true_eq]
 simp only [intWords,List.mem_cons,List.not_mem_nil,or_false,bytes_inj]
theorem words_calls {w:World} {b c:Nat} (x:List UInt8) (hb:BlkIs w b 9 wordCells):Calls Tryz.prog 98 #[.slice (some ⟨b,0,none⟩) 4 c,strB x] w (fun e w'=>e=.returned (.bool (decide (x ∈ intWords)))∧w'=w):=by
 have h:=Tryz.slices_Contains_string b 0 4 c [⟨bChar.toArray⟩,⟨bShort.toArray⟩,⟨bInt.toArray⟩,⟨bLong.toArray⟩] ⟨x.toArray⟩ w (by simp) (by omega) (fun j hj=>by
  rw [Nat.zero_add,hb.cell j]
  have hj:j<4:=hj
  have:j=0 ∨ j=1 ∨ j=2 ∨ j=3:=by omega
  rcases this with rfl | rfl | rfl | rfl <;> rfl)
 rw [← contains_words]
 exact h
set_option maxRecDepth 8000 in
theorem mtyped_any (g:Nat) (σ:QS) (w:World) (hr:QR g σ w):Calls Tryz.prog 85 #[ptrV g] w (fun e w'=>e=.returned (.bool (mtyped σ.s))∧QR g σ w'∧KeepM g w w'):=by
 have HR0:=Lib.hid hr
 have hl:=hr.lt
 have HV:=fun W (h:QR g σ W)=>is_calls bVoid h
 have HU:=fun W (h:QR g σ W)=>is_calls bUnsigned h
 have HT:=fun W (h:QR g σ W)=>tok_calls h
 obtain ⟨r,hr2⟩:∃ r,Hid (mtyped σ.s=r):=⟨_,Lib.hid rfl⟩
 rw [hr2.out]
 obtain ⟨b1,hb1⟩:∃ b,ris bVoid σ.s=b:=⟨_,rfl⟩
 obtain ⟨b2,hb2⟩:∃ b,ris bUnsigned σ.s=b:=⟨_,rfl⟩
 obtain ⟨⟨kd,tx,m,ps⟩,ht⟩:∃ t,hdT σ.s.ts=t:=⟨_,rfl⟩
 have hz:r=(b1 || (b2 || (kd == 4 && decide (tx ∈ intWords)))):=by rw [← hr2.out,mtyped,hb1,hb2,ht]
 have hz:=Lib.hid hz
 simp only [hb1] at HV
 simp only [hb2] at HU
 simp only [ht,Tok.val,tokVal] at HT
 have hf0:=tok_f0 kd ⟨tx.toArray⟩ m ps
 have hf1:=tok_f1 kd ⟨tx.toArray⟩ m ps
 clear hr hr2 hb1 hb2 ht
 obtain ⟨b3,hb3⟩:∃ b,Hid (decide (tx ∈ intWords)=b):=⟨_,Lib.hid rfl⟩
 have HC:=fun W b c (h:BlkIs W b 9 wordCells)=>words_calls (c:=c) tx h
 rw [hb3.out] at HC hz
 cases b1
 ·cases b2
  ·by_cases hk:kd=4
   ·have e:(kd == 4)=true:=by simpa using hk
    rw [e] at hz
    clear hk
    go_enter Tryz.func85,Tryz.ntmps85
    go_wp2_with fail
    refine (bases_any _).mono ?_
    rintro e1 w1 ⟨rfl,hw,_,hb⟩
    have r1:=Lib.hid (HR0.out.below hb)
    have k1:=Lib.hid (KeepM.of (gm:=g) hb)
    go_wp2_with fail
    refine (HV _ r1.out).mono ?_
    rintro e1 w2 ⟨rfl,r2,k2⟩
    have r2:=Lib.hid r2
    have hw:=hw.keepM k2 (by omega)
    have k2:=Lib.hid (k1.out.trans k2)
    go_wp2_with fail
    refine (HU _ r2.out).mono ?_
    rintro e1 w3 ⟨rfl,r3,k3⟩
    have r3:=Lib.hid r3
    have hw:=hw.keepM k3 (by omega)
    have k3:=Lib.hid (k2.out.trans k3)
    go_wp2_with fail
    refine (HT _ r3.out).mono ?_
    rintro e1 w4 ⟨rfl,r4,k4⟩
    have r4:=Lib.hid r4
    have hw:=hw.keepM k4 (by omega)
    have k4:=Lib.hid (k3.out.trans k4)
    go_wp2_with fail
    refine (HT _ r4.out).mono ?_
    rintro e1 w5 ⟨rfl,r5,k5⟩
    have r5:=Lib.hid r5
    have hw:=hw.keepM k5 (by omega)
    have k5:=Lib.hid (k4.out.trans k5)
    go_wp2_with fail
    refine (HC _ _ _ hw).mono ?_
    rintro e1 w6 ⟨rfl,rfl⟩
    go_wp2_with fail
    first | go_ret | refine bodyPost_ret (v:=.bool r) (by rw [hz.out];simp [results,Tryz.results85,go_sem]) rfl ?_
    rw [hz.out]
    exact ⟨rfl,r5.out,k5.out⟩
   ·have e:(kd == 4)=false:=by simpa using hk
    rw [e] at hz
    clear hk
    go_enter Tryz.func85,Tryz.ntmps85
    go_wp2_with fail
    refine (bases_any _).mono ?_
    rintro e1 w1 ⟨rfl,hw,_,hb⟩
    have r1:=Lib.hid (HR0.out.below hb)
    have k1:=Lib.hid (KeepM.of (gm:=g) hb)
    go_wp2_with fail
    refine (HV _ r1.out).mono ?_
    rintro e1 w2 ⟨rfl,r2,k2⟩
    have r2:=Lib.hid r2
    have hw:=hw.keepM k2 (by omega)
    have k2:=Lib.hid (k1.out.trans k2)
    go_wp2_with fail
    refine (HU _ r2.out).mono ?_
    rintro e1 w3 ⟨rfl,r3,k3⟩
    have r3:=Lib.hid r3
    have hw:=hw.keepM k3 (by omega)
    have k3:=Lib.hid (k2.out.trans k3)
    go_wp2_with fail
    refine (HT _ r3.out).mono ?_
    rintro e1 w4 ⟨rfl,r4,k4⟩
    have r4:=Lib.hid r4
    have hw:=hw.keepM k4 (by omega)
    have k4:=Lib.hid (k3.out.trans k4)
    go_wp2_with fail
    first | go_ret | refine bodyPost_ret (v:=.bool r) (by rw [hz.out];simp [results,Tryz.results85,go_sem]) rfl ?_
    rw [hz.out]
    exact ⟨rfl,r4.out,k4.out⟩
  ·go_enter Tryz.func85,Tryz.ntmps85
   go_wp2_with fail
   refine (bases_any _).mono ?_
   rintro e1 w1 ⟨rfl,hw,_,hb⟩
   have r1:=Lib.hid (HR0.out.below hb)
   have k1:=Lib.hid (KeepM.of (gm:=g) hb)
   go_wp2_with fail
   refine (HV _ r1.out).mono ?_
   rintro e1 w2 ⟨rfl,r2,k2⟩
   have r2:=Lib.hid r2
   have hw:=hw.keepM k2 (by omega)
   have k2:=Lib.hid (k1.out.trans k2)
   go_wp2_with fail
   refine (HU _ r2.out).mono ?_
   rintro e1 w3 ⟨rfl,r3,k3⟩
   have r3:=Lib.hid r3
   have hw:=hw.keepM k3 (by omega)
   have k3:=Lib.hid (k2.out.trans k3)
   go_wp2_with fail
   first | go_ret | refine bodyPost_ret (v:=.bool r) (by rw [hz.out];simp [results,Tryz.results85,go_sem]) rfl ?_
   rw [hz.out]
   exact ⟨rfl,r3.out,k3.out⟩
 ·go_enter Tryz.func85,Tryz.ntmps85
  go_wp2_with fail
  refine (bases_any _).mono ?_
  rintro e1 w1 ⟨rfl,hw,_,hb⟩
  have r1:=Lib.hid (HR0.out.below hb)
  have k1:=Lib.hid (KeepM.of (gm:=g) hb)
  go_wp2_with fail
  refine (HV _ r1.out).mono ?_
  rintro e1 w2 ⟨rfl,r2,k2⟩
  have r2:=Lib.hid r2
  have hw:=hw.keepM k2 (by omega)
  have k2:=Lib.hid (k1.out.trans k2)
  go_wp2_with fail
  first | go_ret | refine bodyPost_ret (v:=.bool r) (by rw [hz.out];simp [results,Tryz.results85,go_sem]) rfl ?_
  rw [hz.out]
  exact ⟨rfl,r2.out,k2.out⟩
end Go.Proofs.YtdmacgoeikjdbaaGreatDoor
namespace Go.Proofs.YtdmacgoeikjdbaaGreatDoor
open Go.RowKit Sx
theorem wordCells_at (k:Nat) (h:k<intWords.length):wordCells[k]?=some (strB intWords[k]):=by
 have h:k<4:=h
 have:k=0 ∨ k=1 ∨ k=2 ∨ k=3:=by omega
 rcases this with rfl | rfl | rfl | rfl <;> rfl
theorem kindCells_at (k:Nat) (h:k<4):kindCells[k]?=some (.int .i64 (1 + 2 * (k:Int))):=by
 have:k=0 ∨ k=1 ∨ k=2 ∨ k=3:=by omega
 rcases this with rfl | rfl | rfl | rfl <;> rfl
set_option maxRecDepth 8000 in
theorem mbase_any (g:Nat) (σ:QS) (w:World) (hr:QR g σ w):Calls Tryz.prog 62 #[ptrV g] w (DoP (.int .i64 (mbase σ.s).1) g (mbase σ.s).2 w):=by
 have ht:=eat_calls bVoid hr
 have hl:=hr.lt
 obtain ⟨s,h0⟩:=σ
 simp only at ht ⊢
 unfold mbase
 cases hta:(meat bVoid s).1
 ·rw [hta] at ht
  rw [if_neg (by decide)]
  rw [meat_noS hta] at ht ⊢
  clear hta
  obtain ⟨b,hb⟩:∃ b,Hid ((meat bUnsigned s).1=b):=⟨_,Lib.hid rfl⟩
  obtain ⟨s2,hs2⟩:∃ b,Hid ((meat bUnsigned s).2=b):=⟨_,Lib.hid rfl⟩
  have ht2:=fun W h (hq:QR g ⟨s,h⟩ W)=>eat_calls bUnsigned hq
  simp only [hb.out,hs2.out] at ht2 ⊢
  obtain ⟨R,hR⟩:∃ R,Hid (mkindL (if b=true then 1 else 0) intWords 1 s2=R):=⟨_,Lib.hid rfl⟩
  rw [hR.out]
  clear hs2 hb
  go_enter Tryz.func62,Tryz.ntmps62
  go_wp2_with fail
  refine ht.mono ?_
  rintro e w1 ⟨rfl,k1,h1,r1⟩
  go_wp2_with fail
  refine (ht2 _ _ r1).mono ?_
  rintro e w2 ⟨rfl,k2,h2,r2⟩
  have k12:=k1.trans k2
  clear ht ht2 k1 k2 r1
  go_wp2_with fail
  refine (bases_any _).mono ?_
  rintro e w3 ⟨rfl,hz0,hy0,hb3⟩
  have kz:=KeepM.of (gm:=g) hb3
  have rz:=r2.below hb3
  have hgz:=r2.lt
  clear hb3
  obtain ⟨gz,hgze⟩:∃ x,Hid (w2.heap.size=x):=⟨_,Lib.hid rfl⟩
  rw [hgze.out] at hz0 hy0 hgz
  cases b
  ·have hR:Hid (mkindL 0 intWords 1 s2=R):=Lib.hid (by rw [← hR.out];rfl)
   go_wp2_with fail
   rw [hgze.out]
   go_loopw [18] (fun i wr=>∃ (k:Nat) (sk:RS),k≤4∧i=.int .i64 k∧(∃ h,QR g ⟨sk,h⟩ wr)∧KeepM g w wr∧BlkIs wr gz 9 wordCells∧BlkIs wr (gz + 1) 3 kindCells∧Hid (mkindL 0 (intWords.drop k) (1 + 2 * k) sk=R)) (fun i _=>4 - (intOf i).toNat)
   case atStart=>exact ⟨0,s2,by omega,rfl,⟨_,rz⟩,k12.trans kz,hz0,hy0,hR⟩
   case round=>
    obtain ⟨k,sk,hk,rfl,⟨hh,hRk⟩,hkm,hZ,hY,hL⟩:=hrel
    obtain ⟨wo,rfl⟩:∃ wo:World,wo=wr:=⟨_,rfl⟩
    clear rz kz hz0 hy0 r2 k12 hR
    have hlo:=hRk.lt
    have hzl:=hZ.lt
    by_cases hlt:k<4
    ·have hkl:k<intWords.length:=hlt
     have hc:wo.cell? ⟨gz,k,none⟩=some (.string ⟨(intWords[k]).toArray⟩):=by rw [hZ.cell,wordCells_at k hkl]
     have hcy:=kindCells_at k hlt
     have htk:=eat_calls (intWords[k]) hRk
     simp only at htk
     have hL1:=hL.out
     rw [List.drop_eq_getElem_cons hkl,mkindL] at hL1
     obtain ⟨x,hx⟩:∃ x,Hid (intWords[k]=x):=⟨_,Lib.hid rfl⟩
     rw [hx.out] at hc htk hL1
     cases hb:(meat x sk).1
     ·rw [hb] at htk hL1
      rw [if_neg (by decide)] at hL1
      have HL:=Lib.hid hL1
      clear hb hL1 hcy
      go_wp2_with fail
      refine htk.mono ?_
      rintro e w5 ⟨rfl,k5,h5,r5⟩
      have z5:=hZ.keepM k5 (by omega)
      have y5:=hY.keepM k5 (by omega)
      go_wp2_with fail
      go_roundw
      case rel=>exact ⟨k + 1,(meat x sk).2,by omega,by go_num,⟨h5,r5⟩,hkm.trans k5,z5,y5,Lib.hid (by rw [← HL.out];first | (congr 1;done) | (congr 1;omega))⟩
      case measure=>simp [intOf];omega
     ·rw [hb] at htk hL1
      rw [if_pos rfl] at hL1
      have HL:=Lib.hid hL1
      clear hb hL1
      go_wp2_with fail
      refine htk.mono ?_
      rintro e w5 ⟨rfl,k5,h5,r5⟩
      have y5:=hY.keepM k5 (by omega)
      have hcy5:w5.cell? ⟨gz + 1,k,none⟩=some (.int .i64 (1 + 2 * (k:Int))):=by rw [y5.cell,hcy]
      clear hcy
      go_wp2_with fail
      go_ret
      rw [← HL.out]
      refine ⟨?_,hkm.trans k5,h5,r5⟩
      first | rfl | (congr 2;omega) | (refine congrArg Ending.returned (congrArg (Value.int IntKind.i64) ?_);omega)
    ·obtain rfl:k=4:=by omega
     have HL:=hL.out
     have e:intWords.drop 4=[]:=rfl
     rw [e,mkindL] at HL
     have HL:=Lib.hid HL
     go_wp2_with fail
     refine (fail_calls 4 hRk).mono ?_
     rintro e w5 ⟨rfl,k5,h5,r5⟩
     go_wp2_with fail
     go_ret
     rw [← HL.out]
     exact ⟨rfl,hkm.trans k5,h5,r5⟩
  ·have hR:Hid (mkindL 1 intWords 1 s2=R):=Lib.hid (by rw [← hR.out];rfl)
   go_wp2_with fail
   rw [hgze.out]
   go_loopw [18] (fun i wr=>∃ (k:Nat) (sk:RS),k≤4∧i=.int .i64 k∧(∃ h,QR g ⟨sk,h⟩ wr)∧KeepM g w wr∧BlkIs wr gz 9 wordCells∧BlkIs wr (gz + 1) 3 kindCells∧Hid (mkindL 1 (intWords.drop k) (1 + 2 * k) sk=R)) (fun i _=>4 - (intOf i).toNat)
   case atStart=>exact ⟨0,s2,by omega,rfl,⟨_,rz⟩,k12.trans kz,hz0,hy0,hR⟩
   case round=>
    obtain ⟨k,sk,hk,rfl,⟨hh,hRk⟩,hkm,hZ,hY,hL⟩:=hrel
    obtain ⟨wo,rfl⟩:∃ wo:World,wo=wr:=⟨_,rfl⟩
    clear rz kz hz0 hy0 r2 k12 hR
    have hlo:=hRk.lt
    have hzl:=hZ.lt
    by_cases hlt:k<4
    ·have hkl:k<intWords.length:=hlt
     have hc:wo.cell? ⟨gz,k,none⟩=some (.string ⟨(intWords[k]).toArray⟩):=by rw [hZ.cell,wordCells_at k hkl]
     have hcy:=kindCells_at k hlt
     have htk:=eat_calls (intWords[k]) hRk
     simp only at htk
     have hL1:=hL.out
     rw [List.drop_eq_getElem_cons hkl,mkindL] at hL1
     obtain ⟨x,hx⟩:∃ x,Hid (intWords[k]=x):=⟨_,Lib.hid rfl⟩
     rw [hx.out] at hc htk hL1
     cases hb:(meat x sk).1
     ·rw [hb] at htk hL1
      rw [if_neg (by decide)] at hL1
      have HL:=Lib.hid hL1
      clear hb hL1 hcy
      go_wp2_with fail
      refine htk.mono ?_
      rintro e w5 ⟨rfl,k5,h5,r5⟩
      have z5:=hZ.keepM k5 (by omega)
      have y5:=hY.keepM k5 (by omega)
      go_wp2_with fail
      go_roundw
      case rel=>exact ⟨k + 1,(meat x sk).2,by omega,by go_num,⟨h5,r5⟩,hkm.trans k5,z5,y5,Lib.hid (by rw [← HL.out];first | (congr 1;done) | (congr 1;omega))⟩
      case measure=>simp [intOf];omega
     ·rw [hb] at htk hL1
      rw [if_pos rfl] at hL1
      have HL:=Lib.hid hL1
      clear hb hL1
      go_wp2_with fail
      refine htk.mono ?_
      rintro e w5 ⟨rfl,k5,h5,r5⟩
      have y5:=hY.keepM k5 (by omega)
      have hcy5:w5.cell? ⟨gz + 1,k,none⟩=some (.int .i64 (1 + 2 * (k:Int))):=by rw [y5.cell,hcy]
      clear hcy
      go_wp2_with fail
      go_ret
      rw [← HL.out]
      refine ⟨?_,hkm.trans k5,h5,r5⟩
      first | rfl | (congr 2;omega) | (refine congrArg Ending.returned (congrArg (Value.int IntKind.i64) ?_);omega)
    ·obtain rfl:k=4:=by omega
     have HL:=hL.out
     have e:intWords.drop 4=[]:=rfl
     rw [e,mkindL] at HL
     have HL:=Lib.hid HL
     go_wp2_with fail
     refine (fail_calls 4 hRk).mono ?_
     rintro e w5 ⟨rfl,k5,h5,r5⟩
     go_wp2_with fail
     go_ret
     rw [← HL.out]
     exact ⟨rfl,hkm.trans k5,h5,r5⟩
 ·rw [hta] at ht
  rw [if_pos rfl]
  clear hta
  go_enter Tryz.func62,Tryz.ntmps62
  go_wp2_with fail
  refine ht.mono ?_
  rintro e w1 ⟨rfl,k1,h1,r1⟩
  go_wp2_with fail
  go_ret
  exact ⟨rfl,k1,h1,r1⟩
def qTyped (g:Nat):Con0 Tryz.prog (QR g) g where
 f:=85
 sh:=sOne
 W args _ σ K:=args=[ptrV g]∧K [.bool (mtyped σ.s)] [] σ
 ok args ds σ w okk K hg hR _ _ _ hW:=by
  obtain ⟨rfl,hK⟩:=hW
  exact (mtyped_any g σ w hR).mono fun e w' ⟨he,hr,hk⟩=>⟨_,[],σ,_,hK,rfl,he,rfl,rfl,by simp [Value.oneCell'],hr,hk,daOk_nil _ _ _⟩
def qBase (g:Nat):Con0 Tryz.prog (QR g) g where
 f:=62
 sh:=sOne
 W args _ σ K:=args=[ptrV g]∧∀ h,OkS ⟨(mbase σ.s).2,h⟩→K [.int .i64 (mbase σ.s).1] [] ⟨(mbase σ.s).2,h⟩
 ok args ds σ w okk K hg hR _ _ _ hW:=by
  obtain ⟨rfl,hK⟩:=hW
  exact do_postP (mbase_any g σ w hR) hK rfl rfl rfl (by simp [Value.oneCell'])
section
variable {g:Nat} {K:List Value→List D→QS→Prop} {ds:List D} {s:RS} {h0:QH}
theorem w_ptyped (h:K [.bool (mtyped s)] [] ⟨s,h0⟩):(qTyped g).W [ptrV g] ds ⟨s,h0⟩ K:=⟨rfl,h⟩
theorem w_pbase (h:∀ h,OkS ⟨(mbase s).2,h⟩→K [.int .i64 (mbase s).1] [] ⟨(mbase s).2,h⟩):(qBase g).W [ptrV g] ds ⟨s,h0⟩ K:=⟨rfl,h⟩
end
end Go.Proofs.YtdmacgoeikjdbaaGreatDoor
namespace Go.Proofs.YtdmacgoeikjdbaaGreatDoor
open Go.RowKit Sx
theorem mstars5 (s:RS):mstars 5 0 s=if ris [42] s then (if ris [42] (mnext s) then (if ris [42] (mnext (mnext s)) then (if ris [42] (mnext (mnext (mnext s))) then (3,mfail 2 (mnext (mnext (mnext s)))) else (3,mnext (mnext (mnext s)))) else (2,mnext (mnext s))) else (1,mnext s)) else (0,s):=by simp [mstars]
theorem wrap_neg (n:Int):wrap64 (-n)=IntKind.i64.wrap (-n):=by rw [IntKind.wrap_i64,wrap64];try omega
def cfP_stars:Cfg:=⟨[(28,sOne),(64,sUnit),(65,sTok)],[(100 * 100 + 6,8),(100 * 89 + 1,8),(100 * 89 + 2,9),(100 * 56 + 4,1),(100 * 60 + 4,6),(100 * 60 + 5,9),(100 * 60 + 6,6)],[],sOne,[],[]⟩
def TP_stars:Tree:=tS 0 [42] <| .ite 1 (tO 2 <| tS 0 [42] <| .ite 6 (tO 2 <| tS 0 [42] <| .ite 11 (tO 2 <| tS 0 [42] <| .ite 16 (tI 1 2 <| .ret [jI 3] []) (.ret [jI 3] [])) (.ret [jI 2] [])) (.ret [jI 1] [])) (.ret [jI 0] [])
theorem TP_stars_eq:fnS Tryz.prog cfP_stars [.one] 63=some TP_stars:=by kernel_rfl
def qStars (g:Nat):Con0 Tryz.prog (QR g) g where
 f:=63
 sh:=sOne
 W args _ σ K:=args=[ptrV g]∧∀ h,OkS ⟨(mstars 5 0 σ.s).2,h⟩→K [.int .i64 (mstars 5 0 σ.s).1] [] ⟨(mstars 5 0 σ.s).2,h⟩
 ok args ds σ w okk K hg hR hokk hda h1 hW:=by
  obtain ⟨rfl,hK⟩:=hW
  obtain ⟨s,h0⟩:=σ
  have hx:=hK
  try simp only [mstars5] at hx
  refine fn_ok (cf:=cfP_stars) [(qIs g).x,(qFail g).x,(qNext g).x] rfl mixed QR.stable TP_stars_eq (W:=fun args' ds' σ' K'=>args'=[ptrV g]∧ds'=[]∧σ'=⟨s,h0⟩∧K'=K)
   (fun args ds σ K hW=>by obtain ⟨rfl,_⟩:=hW;exact ⟨rfl,trivial⟩) ?_ [ptrV g] [] ⟨s,h0⟩ w _ _ hg hR hokk (daOk_nil _ _ _) (by simp [Sx.flat,Value.cells,Value.oneCell']) ⟨rfl,rfl,rfl,rfl⟩
  rintro args ds σ' K' ⟨rfl,rfl,rfl,rfl⟩ _
  have hp0:=hR.1
  try simp only at hx
  show Tree.holds _ _ _ _ (⟨[ptrV g],[],[],⟨s,h0⟩⟩:Env QS)
  refine kc (h:=w_pis ?_)
  try simp only [aS]
  refine h_ite rfl (fun q2=>?_) (fun q2=>?_)
  ·skip
   try simp only [q2,bS,↓reduceIte] at hx
   refine kc (h:=w_pnext fun h3 p3=>?_)
   try simp only [aS]
   refine kc (h:=w_pis ?_)
   try simp only [aS]
   refine h_ite rfl (fun q5=>?_) (fun q5=>?_)
   ·skip
    try simp only [q2,q5,bS,↓reduceIte] at hx
    refine kc (h:=w_pnext fun h6 p6=>?_)
    try simp only [aS]
    refine kc (h:=w_pis ?_)
    try simp only [aS]
    refine h_ite rfl (fun q8=>?_) (fun q8=>?_)
    ·skip
     try simp only [q2,q5,q8,bS,↓reduceIte] at hx
     refine kc (h:=w_pnext fun h9 p9=>?_)
     try simp only [aS]
     refine kc (h:=w_pis ?_)
     try simp only [aS]
     refine h_ite rfl (fun q11=>?_) (fun q11=>?_)
     ·skip
      try simp only [q2,q5,q8,q11,bS,↓reduceIte] at hx
      refine kc (h:=w_pfail fun h12 p12=>?_)
      try simp only [q2,q5,q8,q11,bS,↓reduceIte] at hx
      exact h_ret rfl rfl (hx _ p12)
     ·skip
      try simp only [q2,q5,q8,q11,bS,↓reduceIte] at hx
      try simp only [q2,q5,q8,q11,bS,↓reduceIte] at hx
      exact h_ret rfl rfl (hx _ p9)
    ·skip
     try simp only [q2,q5,q8,bS,↓reduceIte] at hx
     try simp only [q2,q5,q8,bS,↓reduceIte] at hx
     exact h_ret rfl rfl (hx _ p6)
   ·skip
    try simp only [q2,q5,bS,↓reduceIte] at hx
    try simp only [q2,q5,bS,↓reduceIte] at hx
    exact h_ret rfl rfl (hx _ p3)
  ·skip
   try simp only [q2,bS,↓reduceIte] at hx
   try simp only [q2,bS,↓reduceIte] at hx
   exact h_ret rfl rfl (hx _ hp0)
theorem w_pstars {g:Nat} {K:List Value→List D→QS→Prop} {ds:List D} {s:RS} {h0:QH}  (h:∀ h,OkS ⟨(mstars 5 0 s).2,h⟩→K [.int .i64 (mstars 5 0 s).1] [] ⟨(mstars 5 0 s).2,h⟩):(qStars g).W [ptrV g] ds ⟨s,h0⟩ K:=⟨rfl,h⟩
def cfP_typeOf:Cfg:=⟨[(62,sOne),(63,sOne)],[(100 * 100 + 6,8),(100 * 89 + 1,8),(100 * 89 + 2,9),(100 * 56 + 4,1),(100 * 60 + 4,6),(100 * 60 + 5,9),(100 * 60 + 6,6)],[],sTy,[],[]⟩
def TP_typeOf:Tree:=tW <| tO 0 <| tO 1 <| .ret [.v 1,.v 2,jI 0] []
theorem TP_typeOf_eq:fnS Tryz.prog cfP_typeOf [.one] 26=some TP_typeOf:=by kernel_rfl
def qTyp (g:Nat):Con0 Tryz.prog (QR g) g where
 f:=26
 sh:=sTy
 W args _ σ K:=args=[ptrV g]∧∀ h,OkS ⟨(mtyp σ.s).2,h⟩→K (tyV (mtyp σ.s).1) [] ⟨(mtyp σ.s).2,h⟩
 ok args ds σ w okk K hg hR hokk hda h1 hW:=by
  obtain ⟨rfl,hK⟩:=hW
  obtain ⟨s,h0⟩:=σ
  have hx:=hK
  try simp only [mtyp] at hx
  refine fn_ok (cf:=cfP_typeOf) [(qBase g).x,(qStars g).x] rfl mixed QR.stable TP_typeOf_eq (W:=fun args' ds' σ' K'=>args'=[ptrV g]∧ds'=[]∧σ'=⟨s,h0⟩∧K'=K)
   (fun args ds σ K hW=>by obtain ⟨rfl,_⟩:=hW;exact ⟨rfl,trivial⟩) ?_ [ptrV g] [] ⟨s,h0⟩ w _ _ hg hR hokk (daOk_nil _ _ _) (by simp [Sx.flat,Value.cells,Value.oneCell']) ⟨rfl,rfl,rfl,rfl⟩
  rintro args ds σ' K' ⟨rfl,rfl,rfl,rfl⟩ _
  have hp0:=hR.1
  try simp only at hx
  show Tree.holds _ _ _ _ (⟨[ptrV g],[],[],⟨s,h0⟩⟩:Env QS)
  refine h_new fun g1=>?_
  refine kc (h:=w_pbase fun h2 p2=>?_)
  try simp only [aS]
  refine kc (h:=w_pstars fun h3 p3=>?_)
  try simp only [aS]
  try simp only [bS,↓reduceIte] at hx
  exact h_ret rfl rfl (hx _ p3)
theorem w_ptyp {g:Nat} {K:List Value→List D→QS→Prop} {ds:List D} {s:RS} {h0:QH}  (h:∀ h,OkS ⟨(mtyp s).2,h⟩→K (tyV (mtyp s).1) [] ⟨(mtyp s).2,h⟩):(qTyp g).W [ptrV g] ds ⟨s,h0⟩ K:=⟨rfl,h⟩
def cfP_number:Cfg:=⟨[(67,sOne),(27,sTok)],[(100 * 100 + 6,8),(100 * 89 + 1,8),(100 * 89 + 2,9),(100 * 56 + 4,1),(100 * 60 + 4,6),(100 * 60 + 5,9),(100 * 60 + 6,6)],[],sOne,[],[]⟩
def TP_number:Tree:=tS 0 [45] <| tI 1 2 <| .ite 1 (.nd (.pv (.un .neg) [.v 4]) <| .ret [.v 6] []) (.ret [.v 4] [])
theorem TP_number_eq:fnS Tryz.prog cfP_number [.one] 69=some TP_number:=by kernel_rfl
def qNumber (g:Nat):Con0 Tryz.prog (QR g) g where
 f:=69
 sh:=sOne
 W args _ σ K:=args=[ptrV g]∧∀ h,OkS ⟨(mnumber σ.s).2,h⟩→K [.int .i64 (mnumber σ.s).1] [] ⟨(mnumber σ.s).2,h⟩
 ok args ds σ w okk K hg hR hokk hda h1 hW:=by
  obtain ⟨rfl,hK⟩:=hW
  obtain ⟨s,h0⟩:=σ
  have hx:=hK
  try simp only [mnumber,wrap_neg] at hx
  refine fn_ok (cf:=cfP_number) [(qEat g).x,(qKind g).x] rfl mixed QR.stable TP_number_eq (W:=fun args' ds' σ' K'=>args'=[ptrV g]∧ds'=[]∧σ'=⟨s,h0⟩∧K'=K)
   (fun args ds σ K hW=>by obtain ⟨rfl,_⟩:=hW;exact ⟨rfl,trivial⟩) ?_ [ptrV g] [] ⟨s,h0⟩ w _ _ hg hR hokk (daOk_nil _ _ _) (by simp [Sx.flat,Value.cells,Value.oneCell']) ⟨rfl,rfl,rfl,rfl⟩
  rintro args ds σ' K' ⟨rfl,rfl,rfl,rfl⟩ _
  have hp0:=hR.1
  try simp only at hx
  show Tree.holds _ _ _ _ (⟨[ptrV g],[],[],⟨s,h0⟩⟩:Env QS)
  refine kc (h:=w_peat fun h1 p1=>?_)
  try simp only [aS]
  refine kc (h:=w_pkind fun h2 p2=>?_)
  try simp only [aS]
  refine h_ite rfl (fun q3=>?_) (fun q3=>?_)
  ·skip
   try simp only [q3,bS,↓reduceIte] at hx
   refine h_pv rfl rfl ?_
   try simp only [aS]
   try simp only [q3,bS,↓reduceIte] at hx
   exact h_ret rfl rfl (hx _ p2)
  ·skip
   have z3:=meat_noS q3
   rw [z3] at p2
   rw [z3]
   try simp only [z3] at hx
   try simp only [q3,bS,↓reduceIte] at hx
   try simp only [q3,bS,↓reduceIte] at hx
   exact h_ret rfl rfl (hx _ p2)
theorem w_pnumber {g:Nat} {K:List Value→List D→QS→Prop} {ds:List D} {s:RS} {h0:QH}  (h:∀ h,OkS ⟨(mnumber s).2,h⟩→K [.int .i64 (mnumber s).1] [] ⟨(mnumber s).2,h⟩):(qNumber g).W [ptrV g] ds ⟨s,h0⟩ K:=⟨rfl,h⟩
def cfP_length:Cfg:=⟨[(67,sOne),(14,sTok),(27,sTok),(13,sOne),(30,sUnit),(70,sUnit)],[(100 * 100 + 6,8),(100 * 89 + 1,8),(100 * 89 + 2,9),(100 * 56 + 4,1),(100 * 60 + 4,6),(100 * 60 + 5,9),(100 * 60 + 6,6)],[],sOne,[],[]⟩
def Z1:Tree:=tO 1 <| tW <| tI 2 2 <| tO 3 <| tT 11 <| .ite 12 (.nd (.pv (.bin .lss) [.v 9,jI 1]) <| .ite 13 (.nd (.call 4 [.one (.v 0),.one (jI 10),.one (.v 6)] []) <| tS 5 [93] <| .ret [.v 9] []) (.nd (.pv (.bin .gtr) [.v 9,jI 64]) <| .ite 14 (.nd (.call 4 [.one (.v 0),.one (jI 10),.one (.v 6)] []) <| tS 5 [93] <| .ret [.v 9] []) (tS 5 [93] <| .ret [.v 9] []))) (tS 5 [93] <| .ret [.v 9] [])
def TP_length:Tree:=tS 0 [91] <| tT 1 <| .ite 2 (.ret [jI 0] []) Z1
theorem TP_length_eq:fnS Tryz.prog cfP_length [.one] 66=some TP_length:=by kernel_rfl
def qLength (g:Nat):Con0 Tryz.prog (QR g) g where
 f:=66
 sh:=sOne
 W args _ σ K:=args=[ptrV g]∧∀ h,OkS ⟨(mlength σ.s).2,h⟩→K [.int .i64 (mlength σ.s).1] [] ⟨(mlength σ.s).2,h⟩
 ok args ds σ w okk K hg hR hokk hda h1 hW:=by
  obtain ⟨rfl,hK⟩:=hW
  obtain ⟨s,h0⟩:=σ
  have hx:=hK
  try simp only [mlength,mbetween] at hx
  refine fn_ok (cf:=cfP_length) [(qEat g).x,(qTok g).x,(qKind g).x,(qBad g).x,(qFailAt g).x,(qWant g).x] rfl mixed QR.stable TP_length_eq (W:=fun args' ds' σ' K'=>args'=[ptrV g]∧ds'=[]∧σ'=⟨s,h0⟩∧K'=K)
   (fun args ds σ K hW=>by obtain ⟨rfl,_⟩:=hW;exact ⟨rfl,trivial⟩) ?_ [ptrV g] [] ⟨s,h0⟩ w _ _ hg hR hokk (daOk_nil _ _ _) (by simp [Sx.flat,Value.cells,Value.oneCell']) ⟨rfl,rfl,rfl,rfl⟩
  rintro args ds σ' K' ⟨rfl,rfl,rfl,rfl⟩ _
  have hp0:=hR.1
  try simp only at hx
  show Tree.holds _ _ _ _ (⟨[ptrV g],[],[],⟨s,h0⟩⟩:Env QS)
  refine kc (h:=w_peat fun h1 p1=>?_)
  try simp only [aS]
  refine h_pv rfl rfl ?_
  try simp only [aS]
  refine h_ite rfl (fun q3=>?_) (fun q3=>?_)
  ·skip
   simp only [nS] at q3
   have z3:=meat_noS q3
   rw [z3] at p1
   rw [z3]
   try simp only [z3] at hx
   try simp only [q3,bS,↓reduceIte] at hx
   try simp only [q3,bS,↓reduceIte] at hx
   exact h_ret rfl rfl (hx _ p1)
  ·skip
   simp only [nS] at q3
   try simp only [q3,bS,↓reduceIte] at hx
   refine kc (h:=w_ptok ?_)
   try simp only [aS]
   refine h_new fun g5=>?_
   refine kc (h:=w_pkind fun h6 p6=>?_)
   try simp only [aS]
   refine kc (h:=w_pbad ?_)
   try simp only [aS]
   refine h_pv rfl rfl ?_
   try simp only [aS]
   refine h_ite rfl (fun q9=>?_) (fun q9=>?_)
   ·skip
    simp only [nS] at q9
    try simp only [Bool.not_eq_true',Bool.not_eq_false'] at q9
    try simp only [q3,q9,bS,↓reduceIte] at hx
    refine h_pv rfl rfl ?_
    try simp only [aS]
    refine h_ite rfl (fun q11=>?_) (fun q11=>?_)
    ·skip
     try simp only [q3,q9,q11,bS,↓reduceIte] at hx
     refine kc (h:=w_pfailat fun h12 p12=>?_)
     refine kc (h:=w_pwant fun h13 p13=>?_)
     try simp only [q3,q9,q11,bS,↓reduceIte] at hx
     exact h_ret rfl rfl (hx _ p13)
    ·skip
     try simp only [q3,q9,q11,bS,↓reduceIte] at hx
     refine h_pv rfl rfl ?_
     try simp only [aS]
     refine h_ite rfl (fun q15=>?_) (fun q15=>?_)
     ·skip
      try simp only [q3,q9,q11,q15,bS,↓reduceIte] at hx
      refine kc (h:=w_pfailat fun h16 p16=>?_)
      refine kc (h:=w_pwant fun h17 p17=>?_)
      try simp only [q3,q9,q11,q15,bS,↓reduceIte] at hx
      exact h_ret rfl rfl (hx _ p17)
     ·skip
      try simp only [q3,q9,q11,q15,bS,↓reduceIte] at hx
      refine kc (h:=w_pwant fun h18 p18=>?_)
      try simp only [q3,q9,q11,q15,bS,↓reduceIte] at hx
      exact h_ret rfl rfl (hx _ p18)
   ·skip
    simp only [nS] at q9
    try simp only [Bool.not_eq_true',Bool.not_eq_false'] at q9
    try simp only [q3,q9,bS,↓reduceIte] at hx
    refine kc (h:=w_pwant fun h19 p19=>?_)
    try simp only [q3,q9,bS,↓reduceIte] at hx
    exact h_ret rfl rfl (hx _ p19)
theorem w_plength {g:Nat} {K:List Value→List D→QS→Prop} {ds:List D} {s:RS} {h0:QH}  (h:∀ h,OkS ⟨(mlength s).2,h⟩→K [.int .i64 (mlength s).1] [] ⟨(mlength s).2,h⟩):(qLength g).W [ptrV g] ds ⟨s,h0⟩ K:=⟨rfl,h⟩
end Go.Proofs.YtdmacgoeikjdbaaGreatDoor

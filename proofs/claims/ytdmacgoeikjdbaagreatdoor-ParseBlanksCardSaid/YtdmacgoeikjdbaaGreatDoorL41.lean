/- ParseBlanks walked. (Printed by wip/gen/gen_ped.py.) ParseBlanks, for -/
import Derived.Test.YtdmacgoeikjdbaaGreatDoorL34
import Derived.Test.YtdmacgoeikjdbaaGreatDoorL40
import Derived.Test.YtdmacgoeikjdbaaGreatDoorL02
import Derived.Test.YtdmacgoeikjdbaaGreatDoorCards
import Derived.Test.YtdmacgoeikjdbaaGreatDoorTie
set_option linter.unusedSimpArgs false
set_option linter.unusedVariables false
set_option maxHeartbeats 16000000
namespace Go.Proofs.YtdmacgoeikjdbaaGreatDoor
open Go.RowKit Sx
theorem blank2 (s:ByteArray):(⟨#[32,32]⟩ ++ s ++ ⟨#[10]⟩:ByteArray).data.toList=32 :: 32 :: (s.data.toList ++ [10]):=by
 simp
theorem blank2_size (s:ByteArray):(⟨#[32,32]⟩ ++ s ++ ⟨#[10]⟩:ByteArray).size=s.size + 3:=by
 have h1:∀ x:ByteArray,x.size=x.data.toList.length:=fun x=>by simp
 rw [h1,blank2,h1 s]
 simp
set_option maxRecDepth 100000 in
theorem parseBlanks_any (n:Nat) (A:Option Addr) (c:Nat) (ss:List ByteArray) (w:World) (hl:n≤9223372036854775807) (hA:Texts w A n ss) (hL:LibW w.heap.size w) :
  Calls Tryz.prog 4 #[.slice A n c] w (TrueB w):=by
 go_enter Tryz.func4,Tryz.ntmps4
 go_wp2_with fail
 refine (heavy_any n A c ss _ hl hA).mono ?_
 rintro e w' ⟨b,rfl,rfl⟩
 cases b
 ·go_wp2_with fail
  go_loopw [3] (fun i wr=>∃ k:Nat,k≤n∧i=.int .i64 k∧Below w.heap.size w wr) (fun i _=>n - (intOf i).toNat)
  case atStart=>exact ⟨0,by omega,rfl,Below.refl _ _⟩
  case round=>
   obtain ⟨k,hk,rfl,hb⟩:=hrel
   obtain ⟨wo,rfl⟩:∃ wo:World,wo=wr:=⟨_,rfl⟩
   have hLo:LibW wo.heap.size wo:=(hL.stable fun k hk=>hb.block k hk).mono hb.size
   by_cases hgo:k<n∧k<8
   ·obtain ⟨hlt,h10⟩:=hgo
    obtain ⟨b,off,rfl,hbl,hc⟩:=hA (by omega)
    obtain ⟨hck,hsk⟩:=hc k hlt
    have hck2:wo.cell? ⟨b,off + k,none⟩=some (.string (ss.getD k ByteArray.empty)):=by rw [hb.cell (by exact hbl)];exact hck
    clear hc hck
    generalize ss.getD k ByteArray.empty=s at *
    have hbz:=hb.size
    by_cases hbig:1000<s.size
    ·go_wp2_with fail
     go_roundw
     case rel=>exact ⟨k + 1,by omega,by go_num,hb⟩
     case measure=>simp [intOf];omega
    have hsl:s.size≤1000:=by omega
    clear hbig
    have HP:=pparse_any s hsk wo hLo
    have HX:=fun W hW=>pparse_any (⟨#[32,32]⟩ ++ s ++ ⟨#[10]⟩) (by rw [blank2_size];omega) W hW
    obtain ⟨p1,p2,p3⟩:=blanks_parse s.data.toList (by simpa using hsl)
    have gu:=parseT_good (tokensT s.data.toList)
    have gx:=parseT_good (tokensT (32 :: 32 :: (s.data.toList ++ [10])))
    simp only [blank2] at HX
    obtain ⟨⟨u,er,ps⟩,hr⟩:∃ r,Hid (parseT (tokensT s.data.toList)=r):=⟨_,Lib.hid rfl⟩
    obtain ⟨⟨x,ex,px⟩,hrx⟩:∃ r,Hid (parseT (tokensT (32 :: 32 :: (s.data.toList ++ [10])))=r):=⟨_,Lib.hid rfl⟩
    have pr:=parse_pos s.data.toList (by simp;omega)
    rw [hr.out] at HP p1 p2 p3 gu pr
    rw [hrx.out] at p1 p2 p3 gx
    simp only [hrx.out] at HX
    simp only at p1 p2 p3 gu gx pr
    have PR:=Lib.hid pr
    clear pr
    obtain rfl:er=ex:=p1.symm
    have hlen:(s.data.toList.length:Int)=s.size:=by simp
    rw [hlen] at p3
    have P2:=Lib.hid p2
    have P3:=Lib.hid p3
    have HX:=Lib.hid HX
    have CU:=Lib.hid (copyUnit_any u gu)
    have CX:=Lib.hid (copyUnit_any x gx)
    have hlb:=Lib.hid hLo
    clear hL hLo p1 p2 p3 gu gx hr hrx
    go_wp2_with fail
    refine HP.mono ?_
    rintro e w1 ⟨A1,c1,B1,d1,rfl,q1,q2,hb1⟩
    simp only [unV] at *
    have hz1:=hb1.size
    have hck3:w1.cell? ⟨b,off + k,none⟩=some (.string s):=by rw [hb1.cell (by show b<wo.heap.size;omega)];exact hck2
    have hbl1:b<w1.heap.size:=by omega
    have Q1:=Lib.hid q1
    have Q2:=Lib.hid q2
    have HB1:=Lib.hid (hb.trans (hb1.mono hbz))
    have hL1:Hid (LibW wo.heap.size w1):=Lib.hid (hlb.out.stable fun k hk=>hb1.block k hk)
    clear q1 q2 hb1 HP hb
    go_wp2_with fail
    obtain ⟨k4,k5⟩:BlkIs ((w1.alloc (.cells #[.slice A1 u.globals.length c1,.slice B1 u.funcs.length d1] 27)).alloc (.cells #[.int .i64 er,.int .i64 ps] 29)) w1.heap.size 27 #[.slice A1 u.globals.length c1,.slice B1 u.funcs.length d1]∧BlkIs ((w1.alloc (.cells #[.slice A1 u.globals.length c1,.slice B1 u.funcs.length d1] 27)).alloc (.cells #[.int .i64 er,.int .i64 ps] 29)) (w1.heap.size + 1) 29 #[.int .i64 er,.int .i64 ps]:=⟨(BlkIs.fresh _ _ _).alloc _,BlkIs.fresh_at (by simp)⟩
    have HB2:=Below.alloc (Below.alloc HB1.out (by omega) (.cells #[.slice A1 u.globals.length c1,.slice B1 u.funcs.length d1] 27)) (by simp;omega) (.cells #[.int .i64 er,.int .i64 ps] 29)
    have hw2:Below w1.heap.size w1 ((w1.alloc (.cells #[.slice A1 u.globals.length c1,.slice B1 u.funcs.length d1] 27)).alloc (.cells #[.int .i64 er,.int .i64 ps] 29)):=below2 _ _ _
    have hsz2:w1.heap.size + 2=((w1.alloc (.cells #[.slice A1 u.globals.length c1,.slice B1 u.funcs.length d1] 27)).alloc (.cells #[.int .i64 er,.int .i64 ps] 29)).heap.size:=by simp
    generalize (w1.alloc (.cells #[.slice A1 u.globals.length c1,.slice B1 u.funcs.length d1] 27)).alloc (.cells #[.int .i64 er,.int .i64 ps] 29)=w2 at *
    obtain ⟨g4,hg4⟩:∃ g,Hid (w1.heap.size=g):=⟨_,Lib.hid rfl⟩
    have hL2:LibW w2.heap.size w2:=(hL1.out.stable fun k hk=>hw2.block k (by omega)).mono (by omega)
    have hck4:w2.cell? ⟨b,off + k,none⟩=some (.string s):=by rw [hw2.cell (by exact hbl1)];exact hck3
    refine (HX.out w2 hL2).mono ?_
    rintro e w3 ⟨A2,c2,B2,d2,rfl,q1,q2,hb3⟩
    simp only [unV] at *
    have hz3:=hb3.size
    have hck5:w3.cell? ⟨b,off + k,none⟩=some (.string s):=by rw [hb3.cell (by show b<w2.heap.size;omega)];exact hck4
    have k43:=k4.below hb3 k4.lt
    have k53:=k5.below hb3 k5.lt
    have H12:=hw2.trans (hb3.mono (by omega))
    have R1:=Lib.hid (Rep.below (Rep.any Q1.out) H12)
    have R2:=Lib.hid (Rep.below (Rep.any Q2.out) H12)
    have Z1:=Lib.hid (Rep.any q1)
    have Z2:=Lib.hid (Rep.any q2)
    have HB3:=Lib.hid (HB2.trans (hb3.mono (by omega)))
    rw [hg4.out] at k43 k53 hsz2
    clear q1 q2 hb3 HB2 hw2 k4 k5 H12 hL2 hck4 hck3 hck2 Q1 Q2 HB1
    rw [hg4.out]
    have e4:=hg4.out
    have e3:=HB3.out.size
    have bl3:b<w3.heap.size:=by omega
    go_upto_region 8 with fail
    obtain ⟨k6,k7⟩:BlkIs ((w3.alloc (.cells #[.slice A2 x.globals.length c2,.slice B2 x.funcs.length d2] 27)).alloc (.cells #[.int .i64 er,.int .i64 px] 29)) w3.heap.size 27 #[.slice A2 x.globals.length c2,.slice B2 x.funcs.length d2]∧BlkIs ((w3.alloc (.cells #[.slice A2 x.globals.length c2,.slice B2 x.funcs.length d2] 27)).alloc (.cells #[.int .i64 er,.int .i64 px] 29)) (w3.heap.size + 1) 29 #[.int .i64 er,.int .i64 px]:=⟨(BlkIs.fresh _ _ _).alloc _,BlkIs.fresh_at (by simp)⟩
    have HB4:=Below.alloc (Below.alloc HB3.out (by omega) (.cells #[.slice A2 x.globals.length c2,.slice B2 x.funcs.length d2] 27)) (by simp;omega) (.cells #[.int .i64 er,.int .i64 px] 29)
    have hw4:Below w3.heap.size w3 ((w3.alloc (.cells #[.slice A2 x.globals.length c2,.slice B2 x.funcs.length d2] 27)).alloc (.cells #[.int .i64 er,.int .i64 px] 29)):=below2 _ _ _
    have hsz4:w3.heap.size + 2=((w3.alloc (.cells #[.slice A2 x.globals.length c2,.slice B2 x.funcs.length d2] 27)).alloc (.cells #[.int .i64 er,.int .i64 px] 29)).heap.size:=by simp
    generalize (w3.alloc (.cells #[.slice A2 x.globals.length c2,.slice B2 x.funcs.length d2] 27)).alloc (.cells #[.int .i64 er,.int .i64 px] 29)=w4 at *
    have k44:=k43.below hw4 k43.lt
    have k54:=k53.below hw4 k53.lt
    have hck6:w4.cell? ⟨b,off + k,none⟩=some (.string s):=by rw [hw4.cell (by exact bl3)];exact hck5
    have RU:RepT w4 (encUn u) (unC u A1 c1 B1 d1):=rep_un.2 ⟨A1,c1,B1,d1,rfl,Rep.below R1.out hw4,Rep.below R2.out hw4⟩
    have RX:RepT w4 (encUn x) (unC x A2 c2 B2 d2):=rep_un.2 ⟨A2,c2,B2,d2,rfl,Rep.below Z1.out hw4,Rep.below Z2.out hw4⟩
    obtain ⟨g6,hg6⟩:∃ g,Hid (w3.heap.size=g):=⟨_,Lib.hid rfl⟩
    rw [hg6.out] at k6 k7 ⊢
    have y50:=k54.cell 0
    have y51:=k54.cell 1
    have y70:=k7.cell 0
    have y71:=k7.cell 1
    simp at y50 y51 y70 y71
    have l5:=k54.lt
    have l7:=k7.lt
    have bl4:b<w4.heap.size:=by omega
    have K4:=Lib.hid k44
    have K6:=Lib.hid k6
    have RU:=Lib.hid RU
    have RX:=Lib.hid RX
    have HB4:=Lib.hid HB4
    clear k43 k53 k54 k7 hw4 R1 R2 Z1 Z2 HB3 hck5 k44 k6 HX hlb hL1
    have P1:=P3.out
    obtain ⟨U,hU⟩:∃ U,Hid (bUn u=U):=⟨_,Lib.hid rfl⟩
    rw [hU.out] at P2
    simp only [unC] at RU RX
    refine beginH (fun W=>Below w4.heap.size w4 W) (by kernel_rfl) ((Below.refl _ _).drew) (fun hHeld=>?_)
    refine takeH (i:=0) (d:=some 44) (v:=.pointer (some ⟨g4 + 1,0,none⟩)) (by kernel_rfl) rfl rfl rfl (fun _ _ _ h=>h) hHeld (fun W hSw=>by go_simp) ?_
    simp only [Act.put,List.setIfInBounds_toArray,List.set_cons_zero,List.set_cons_succ]
    refine takeH (i:=1) (d:=some 45) (v:=.int .i64 er) (by kernel_rfl) rfl rfl rfl (fun _ _ _ h=>h) hHeld (fun W hSw=>by have x:=(hSw.cell (p:=⟨g4 + 1,0,none⟩) l5).trans y50;go_simp) ?_
    simp only [Act.put,List.setIfInBounds_toArray,List.set_cons_zero,List.set_cons_succ]
    refine takeH (i:=2) (d:=some 46) (v:=.pointer (some ⟨g6 + 1,0,none⟩)) (by kernel_rfl) rfl rfl rfl (fun _ _ _ h=>h) hHeld (fun W hSw=>by go_simp) ?_
    simp only [Act.put,List.setIfInBounds_toArray,List.set_cons_zero,List.set_cons_succ]
    refine takeH (i:=3) (d:=some 47) (v:=.int .i64 er) (by kernel_rfl) rfl rfl rfl (fun _ _ _ h=>h) hHeld (fun W hSw=>by have x:=(hSw.cell (p:=⟨g6 + 1,0,none⟩) l7).trans y70;go_simp) ?_
    simp only [Act.put,List.setIfInBounds_toArray,List.set_cons_zero,List.set_cons_succ]
    refine takeH (i:=4) (d:=some 48) (v:=.bool false) (by kernel_rfl) rfl rfl rfl (fun _ _ _ h=>h) hHeld (fun W hSw=>by go_simp) ?_
    simp only [Act.put,List.setIfInBounds_toArray,List.set_cons_zero,List.set_cons_succ]
    refine takeH (i:=5) (d:=some 49) (v:=.bool false) (by kernel_rfl) rfl rfl rfl (fun _ _ _ h=>h) hHeld (fun W hSw=>by go_simp) ?_
    simp only [Act.put,List.setIfInBounds_toArray,List.set_cons_zero,List.set_cons_succ]
    refine takeH (i:=6) (d:=some 50) (v:=.agg #[.slice A1 u.globals.length c1,.slice B1 u.funcs.length d1]) (by kernel_rfl) rfl rfl rfl (fun _ _ _ h=>h) hHeld (fun W hSw=>by exact exec_load_row rfl rfl (K4.out.below hSw K4.out.lt) Tryz.underlying27 rfl (by kernel_rfl)) ?_
    simp only [Act.put,List.setIfInBounds_toArray,List.set_cons_zero,List.set_cons_succ]
    refine takeH (i:=8) (d:=some 52) (v:=.agg #[.slice A2 x.globals.length c2,.slice B2 x.funcs.length d2]) (by kernel_rfl) rfl rfl rfl (fun _ _ _ h=>h) hHeld (fun W hSw=>by exact exec_load_row rfl rfl (K6.out.below hSw K6.out.lt) Tryz.underlying27 rfl (by kernel_rfl)) ?_
    simp only [Act.put,List.setIfInBounds_toArray,List.set_cons_zero,List.set_cons_succ]
    refine onlyH (i:=7) (d:=some 51) (by kernel_rfl) rfl rfl rfl (fun K' hK=>?_)
    refine wp_go_call 11 _ _ rfl #[.agg #[.slice A1 u.globals.length c1,.slice B1 u.funcs.length d1]] rfl (fun W=>by go_simp) (bare_any u CU.out _ _ (Rep.below RU.out hHeld)) (fun e w5 he=>?_)
    obtain ⟨cs,rfl,hs,hb5⟩:=he
    rw [hU.out] at hs
    obtain ⟨m5,A5,c5,B5,d5,_,_,rfl,hg,hf⟩:=sep_un hs
    have r1:RepT w5 (gsD U) [.slice A5 U.globals.length c5]:=Sep.rep _ _ _ _ (fun _ _ _=>trivial) hg
    have r2:RepT w5 (fnsD U) [.slice B5 U.funcs.length d5]:=Sep.rep _ _ _ _ (fun _ _ _=>trivial) hf
    have r1:=Lib.hid r1
    have r2:=Lib.hid r2
    clear hs hg hf
    refine ⟨_,rfl,hK.out _ _ (hHeld.trans (hb5.mono hHeld.size)) (fun hHeld=>?_)⟩
    simp only [unC]
    simp only [Act.put,List.setIfInBounds_toArray,List.set_cons_zero,List.set_cons_succ]
    refine onlyH (i:=9) (d:=some 53) (by kernel_rfl) rfl rfl rfl (fun K' hK=>?_)
    refine wp_go_call 11 _ _ rfl #[.agg #[.slice A2 x.globals.length c2,.slice B2 x.funcs.length d2]] rfl (fun W=>by go_simp) (bare_any x CX.out _ _ (Rep.below RX.out hHeld)) (fun e w6 he=>?_)
    obtain ⟨cs,rfl,hs,hb6⟩:=he
    rw [P2.out] at hs
    obtain ⟨m6,A6,c6,B6,d6,_,_,rfl,hg,hf⟩:=sep_un hs
    have r3:RepT w6 (gsD U) [.slice A6 U.globals.length c6]:=Sep.rep _ _ _ _ (fun _ _ _=>trivial) hg
    have r4:RepT w6 (fnsD U) [.slice B6 U.funcs.length d6]:=Sep.rep _ _ _ _ (fun _ _ _=>trivial) hf
    have r1:=Lib.hid (Rep.below r1.out hb6)
    have r2:=Lib.hid (Rep.below r2.out hb6)
    clear hs hg hf
    refine ⟨_,rfl,hK.out _ _ (hHeld.trans (hb6.mono hHeld.size)) (fun hHeld=>?_)⟩
    simp only [unC]
    simp only [Act.put,List.setIfInBounds_toArray,List.set_cons_zero,List.set_cons_succ]
    refine onlyH (i:=10) (d:=some 54) (by kernel_rfl) rfl rfl rfl (fun K' hK=>?_)
    refine wp_go_call 8 _ _ rfl #[.agg #[.slice A5 U.globals.length c5,.slice B5 U.funcs.length d5],.agg #[.slice A6 U.globals.length c6,.slice B6 U.funcs.length d6]] rfl (fun W=>by go_simp) (eqUnit_any U A5 A6 B5 B6 c5 c6 d5 d6 _ r1.out r2.out r3 r4) (fun e w7 he=>?_)
    obtain ⟨rfl,hb7⟩:=he
    refine ⟨_,rfl,hK.out _ _ (hHeld.trans (hb7.mono hHeld.size)) (fun hHeld=>?_)⟩
    simp only [Act.put,List.setIfInBounds_toArray,List.set_cons_zero,List.set_cons_succ]
    refine takeH (i:=11) (d:=some 55) (v:=.bool false) (by kernel_rfl) rfl rfl rfl (fun _ _ _ h=>h) hHeld (fun W hSw=>by go_simp) ?_
    simp only [Act.put,List.setIfInBounds_toArray,List.set_cons_zero,List.set_cons_succ]
    refine takeH (i:=12) (d:=some 56) (v:=.bool false) (by kernel_rfl) rfl rfl rfl (fun _ _ _ h=>h) hHeld (fun W hSw=>by go_simp) ?_
    simp only [Act.put,List.setIfInBounds_toArray,List.set_cons_zero,List.set_cons_succ]
    refine takeH (i:=13) (d:=some 57) (v:=.bool false) (by kernel_rfl) rfl rfl rfl (fun _ _ _ h=>h) hHeld (fun W hSw=>by go_simp) ?_
    simp only [Act.put,List.setIfInBounds_toArray,List.set_cons_zero,List.set_cons_succ]
    refine takeH (i:=14) (d:=some 58) (v:=.pointer (some ⟨g4 + 1,0,none⟩)) (by kernel_rfl) rfl rfl rfl (fun _ _ _ h=>h) hHeld (fun W hSw=>by go_simp) ?_
    simp only [Act.put,List.setIfInBounds_toArray,List.set_cons_zero,List.set_cons_succ]
    refine takeH (i:=15) (d:=some 59) (v:=.int .i64 er) (by kernel_rfl) rfl rfl rfl (fun _ _ _ h=>h) hHeld (fun W hSw=>by have x:=(hSw.cell (p:=⟨g4 + 1,0,none⟩) l5).trans y50;go_simp) ?_
    simp only [Act.put,List.setIfInBounds_toArray,List.set_cons_zero,List.set_cons_succ]
    by_cases h0:er=0
    ·skip
     refine takeH (i:=16) (d:=some 60) (v:=.bool false) (by kernel_rfl) rfl rfl rfl (fun _ _ _ h=>h) hHeld (fun W hSw=>by go_simp) ?_
     simp only [Act.put,List.setIfInBounds_toArray,List.set_cons_zero,List.set_cons_succ]
     refine takeH (i:=17) (d:=some 61) (v:=.bool false) (by kernel_rfl) rfl rfl rfl (fun _ _ _ h=>h) hHeld (fun W hSw=>by go_simp) ?_
     simp only [Act.put,List.setIfInBounds_toArray,List.set_cons_zero,List.set_cons_succ]
     refine skipH (i:=18) (d:=some 62) (by kernel_rfl) rfl rfl rfl (fun _ _ _ h=>h) hHeld ?_
     simp only [Act.put,List.setIfInBounds_toArray,List.set_cons_zero,List.set_cons_succ]
     refine skipH (i:=19) (d:=some 63) (by kernel_rfl) rfl rfl rfl (fun _ _ _ h=>h) hHeld ?_
     simp only [Act.put,List.setIfInBounds_toArray,List.set_cons_zero,List.set_cons_succ]
     refine skipH (i:=20) (d:=some 64) (by kernel_rfl) rfl rfl rfl (fun _ _ _ h=>h) hHeld ?_
     simp only [Act.put,List.setIfInBounds_toArray,List.set_cons_zero,List.set_cons_succ]
     refine skipH (i:=21) (d:=some 65) (by kernel_rfl) rfl rfl rfl (fun _ _ _ h=>h) hHeld ?_
     simp only [Act.put,List.setIfInBounds_toArray,List.set_cons_zero,List.set_cons_succ]
     refine skipH (i:=22) (d:=some 66) (by kernel_rfl) rfl rfl rfl (fun _ _ _ h=>h) hHeld ?_
     simp only [Act.put,List.setIfInBounds_toArray,List.set_cons_zero,List.set_cons_succ]
     refine skipH (i:=23) (d:=some 67) (by kernel_rfl) rfl rfl rfl (fun _ _ _ h=>h) hHeld ?_
     simp only [Act.put,List.setIfInBounds_toArray,List.set_cons_zero,List.set_cons_succ]
     refine skipH (i:=24) (d:=some 68) (by kernel_rfl) rfl rfl rfl (fun _ _ _ h=>h) hHeld ?_
     simp only [Act.put,List.setIfInBounds_toArray,List.set_cons_zero,List.set_cons_succ]
     refine skipH (i:=25) (d:=some 69) (by kernel_rfl) rfl rfl rfl (fun _ _ _ h=>h) hHeld ?_
     simp only [Act.put,List.setIfInBounds_toArray,List.set_cons_zero,List.set_cons_succ]
     refine takeH (i:=26) (d:=some 70) (v:=.bool false) (by kernel_rfl) rfl rfl rfl (fun _ _ _ h=>h) hHeld (fun W hSw=>by go_simp) ?_
     simp only [Act.put,List.setIfInBounds_toArray,List.set_cons_zero,List.set_cons_succ]
     refine takeH (i:=27) (d:=some 71) (v:=.bool false) (by kernel_rfl) rfl rfl rfl (fun _ _ _ h=>h) hHeld (fun W hSw=>by go_simp) ?_
     simp only [Act.put,List.setIfInBounds_toArray,List.set_cons_zero,List.set_cons_succ]
     refine skipH (i:=28) (d:=some 72) (by kernel_rfl) rfl rfl rfl (fun _ _ _ h=>h) hHeld ?_
     simp only [Act.put,List.setIfInBounds_toArray,List.set_cons_zero,List.set_cons_succ]
     refine skipH (i:=29) (d:=some 73) (by kernel_rfl) rfl rfl rfl (fun _ _ _ h=>h) hHeld ?_
     simp only [Act.put,List.setIfInBounds_toArray,List.set_cons_zero,List.set_cons_succ]
     refine skipH (i:=30) (d:=some 74) (by kernel_rfl) rfl rfl rfl (fun _ _ _ h=>h) hHeld ?_
     simp only [Act.put,List.setIfInBounds_toArray,List.set_cons_zero,List.set_cons_succ]
     refine skipH (i:=31) (d:=some 75) (by kernel_rfl) rfl rfl rfl (fun _ _ _ h=>h) hHeld ?_
     simp only [Act.put,List.setIfInBounds_toArray,List.set_cons_zero,List.set_cons_succ]
     refine skipH (i:=32) (d:=some 76) (by kernel_rfl) rfl rfl rfl (fun _ _ _ h=>h) hHeld ?_
     simp only [Act.put,List.setIfInBounds_toArray,List.set_cons_zero,List.set_cons_succ]
     refine skipH (i:=33) (d:=some 77) (by kernel_rfl) rfl rfl rfl (fun _ _ _ h=>h) hHeld ?_
     simp only [Act.put,List.setIfInBounds_toArray,List.set_cons_zero,List.set_cons_succ]
     refine takeH (i:=34) (d:=some 78) (v:=.bool false) (by kernel_rfl) rfl rfl rfl (fun _ _ _ h=>h) hHeld (fun W hSw=>by go_simp) ?_
     simp only [Act.put,List.setIfInBounds_toArray,List.set_cons_zero,List.set_cons_succ]
     refine takeH (i:=35) (d:=some 79) (v:=.bool false) (by kernel_rfl) rfl rfl rfl (fun _ _ _ h=>h) hHeld (fun W hSw=>by go_simp) ?_
     simp only [Act.put,List.setIfInBounds_toArray,List.set_cons_zero,List.set_cons_succ]
     refine wpAnyH_done (by kernel_rfl) ?_ _
     go_wp2_with fail
     go_roundw
     case rel=>exact ⟨k + 1,by omega,by go_num,HB4.out.trans (hHeld.mono HB4.out.size)⟩
     case measure=>simp [intOf];omega
    refine takeH (i:=16) (d:=some 60) (v:=.bool true) (by kernel_rfl) rfl rfl rfl (fun _ _ _ h=>h) hHeld (fun W hSw=>by go_simp) ?_
    simp only [Act.put,List.setIfInBounds_toArray,List.set_cons_zero,List.set_cons_succ]
    refine takeH (i:=17) (d:=some 61) (v:=.bool true) (by kernel_rfl) rfl rfl rfl (fun _ _ _ h=>h) hHeld (fun W hSw=>by go_simp) ?_
    simp only [Act.put,List.setIfInBounds_toArray,List.set_cons_zero,List.set_cons_succ]
    refine takeH (i:=18) (d:=some 62) (v:=.pointer (some ⟨g4 + 1,1,none⟩)) (by kernel_rfl) rfl rfl rfl (fun _ _ _ h=>h) hHeld (fun W hSw=>by go_simp) ?_
    simp only [Act.put,List.setIfInBounds_toArray,List.set_cons_zero,List.set_cons_succ]
    refine takeH (i:=19) (d:=some 63) (v:=.int .i64 ps) (by kernel_rfl) rfl rfl rfl (fun _ _ _ h=>h) hHeld (fun W hSw=>by have x:=(hSw.cell (p:=⟨g4 + 1,1,none⟩) l5).trans y51;go_simp) ?_
    simp only [Act.put,List.setIfInBounds_toArray,List.set_cons_zero,List.set_cons_succ]
    refine takeH (i:=20) (d:=some 64) (v:=.slice (some ⟨b,off,none⟩) n c) (by kernel_rfl) rfl rfl rfl (fun _ _ _ h=>h) hHeld (fun W hSw=>by go_simp) ?_
    simp only [Act.put,List.setIfInBounds_toArray,List.set_cons_zero,List.set_cons_succ]
    refine takeH (i:=21) (d:=some 65) (v:=.int .i64 k) (by kernel_rfl) rfl rfl rfl (fun _ _ _ h=>h) hHeld (fun W hSw=>by go_simp) ?_
    simp only [Act.put,List.setIfInBounds_toArray,List.set_cons_zero,List.set_cons_succ]
    refine takeH (i:=22) (d:=some 66) (v:=.pointer (some ⟨b,off + k,none⟩)) (by kernel_rfl) rfl rfl rfl (fun _ _ _ h=>h) hHeld (fun W hSw=>by go_simp) ?_
    simp only [Act.put,List.setIfInBounds_toArray,List.set_cons_zero,List.set_cons_succ]
    refine takeH (i:=23) (d:=some 67) (v:=.string s) (by kernel_rfl) rfl rfl rfl (fun _ _ _ h=>h) hHeld (fun W hSw=>by have x:=(hSw.cell (p:=⟨b,off + k,none⟩) bl4).trans hck6;go_simp) ?_
    simp only [Act.put,List.setIfInBounds_toArray,List.set_cons_zero,List.set_cons_succ]
    refine takeH (i:=24) (d:=some 68) (v:=.int .i64 s.size) (by kernel_rfl) rfl rfl rfl (fun _ _ _ h=>h) hHeld (fun W hSw=>by go_simp) ?_
    simp only [Act.put,List.setIfInBounds_toArray,List.set_cons_zero,List.set_cons_succ]
    by_cases h1:ps=s.size
    ·skip
     refine takeH (i:=25) (d:=some 69) (v:=.bool false) (by kernel_rfl) rfl rfl rfl (fun _ _ _ h=>h) hHeld (fun W hSw=>by go_simp) ?_
     simp only [Act.put,List.setIfInBounds_toArray,List.set_cons_zero,List.set_cons_succ]
     refine takeH (i:=26) (d:=some 70) (v:=.bool false) (by kernel_rfl) rfl rfl rfl (fun _ _ _ h=>h) hHeld (fun W hSw=>by go_simp) ?_
     simp only [Act.put,List.setIfInBounds_toArray,List.set_cons_zero,List.set_cons_succ]
     refine takeH (i:=27) (d:=some 71) (v:=.bool false) (by kernel_rfl) rfl rfl rfl (fun _ _ _ h=>h) hHeld (fun W hSw=>by go_simp) ?_
     simp only [Act.put,List.setIfInBounds_toArray,List.set_cons_zero,List.set_cons_succ]
     refine skipH (i:=28) (d:=some 72) (by kernel_rfl) rfl rfl rfl (fun _ _ _ h=>h) hHeld ?_
     simp only [Act.put,List.setIfInBounds_toArray,List.set_cons_zero,List.set_cons_succ]
     refine skipH (i:=29) (d:=some 73) (by kernel_rfl) rfl rfl rfl (fun _ _ _ h=>h) hHeld ?_
     simp only [Act.put,List.setIfInBounds_toArray,List.set_cons_zero,List.set_cons_succ]
     refine skipH (i:=30) (d:=some 74) (by kernel_rfl) rfl rfl rfl (fun _ _ _ h=>h) hHeld ?_
     simp only [Act.put,List.setIfInBounds_toArray,List.set_cons_zero,List.set_cons_succ]
     refine skipH (i:=31) (d:=some 75) (by kernel_rfl) rfl rfl rfl (fun _ _ _ h=>h) hHeld ?_
     simp only [Act.put,List.setIfInBounds_toArray,List.set_cons_zero,List.set_cons_succ]
     refine skipH (i:=32) (d:=some 76) (by kernel_rfl) rfl rfl rfl (fun _ _ _ h=>h) hHeld ?_
     simp only [Act.put,List.setIfInBounds_toArray,List.set_cons_zero,List.set_cons_succ]
     refine skipH (i:=33) (d:=some 77) (by kernel_rfl) rfl rfl rfl (fun _ _ _ h=>h) hHeld ?_
     simp only [Act.put,List.setIfInBounds_toArray,List.set_cons_zero,List.set_cons_succ]
     refine takeH (i:=34) (d:=some 78) (v:=.bool false) (by kernel_rfl) rfl rfl rfl (fun _ _ _ h=>h) hHeld (fun W hSw=>by go_simp) ?_
     simp only [Act.put,List.setIfInBounds_toArray,List.set_cons_zero,List.set_cons_succ]
     refine takeH (i:=35) (d:=some 79) (v:=.bool false) (by kernel_rfl) rfl rfl rfl (fun _ _ _ h=>h) hHeld (fun W hSw=>by go_simp) ?_
     simp only [Act.put,List.setIfInBounds_toArray,List.set_cons_zero,List.set_cons_succ]
     refine wpAnyH_done (by kernel_rfl) ?_ _
     go_wp2_with fail
     go_roundw
     case rel=>exact ⟨k + 1,by omega,by go_num,HB4.out.trans (hHeld.mono HB4.out.size)⟩
     case measure=>simp [intOf];omega
    obtain rfl:=P1 h0 h1
    refine takeH (i:=25) (d:=some 69) (v:=.bool true) (by kernel_rfl) rfl rfl rfl (fun _ _ _ h=>h) hHeld (fun W hSw=>by go_simp) ?_
    simp only [Act.put,List.setIfInBounds_toArray,List.set_cons_zero,List.set_cons_succ]
    refine takeH (i:=26) (d:=some 70) (v:=.bool true) (by kernel_rfl) rfl rfl rfl (fun _ _ _ h=>h) hHeld (fun W hSw=>by go_simp) ?_
    simp only [Act.put,List.setIfInBounds_toArray,List.set_cons_zero,List.set_cons_succ]
    refine takeH (i:=27) (d:=some 71) (v:=.bool true) (by kernel_rfl) rfl rfl rfl (fun _ _ _ h=>h) hHeld (fun W hSw=>by go_simp) ?_
    simp only [Act.put,List.setIfInBounds_toArray,List.set_cons_zero,List.set_cons_succ]
    refine takeH (i:=28) (d:=some 72) (v:=.pointer (some ⟨g6 + 1,1,none⟩)) (by kernel_rfl) rfl rfl rfl (fun _ _ _ h=>h) hHeld (fun W hSw=>by go_simp) ?_
    simp only [Act.put,List.setIfInBounds_toArray,List.set_cons_zero,List.set_cons_succ]
    refine takeH (i:=29) (d:=some 73) (v:=.int .i64 (ps + 2)) (by kernel_rfl) rfl rfl rfl (fun _ _ _ h=>h) hHeld (fun W hSw=>by have x:=(hSw.cell (p:=⟨g6 + 1,1,none⟩) l7).trans y71;go_simp) ?_
    simp only [Act.put,List.setIfInBounds_toArray,List.set_cons_zero,List.set_cons_succ]
    refine takeH (i:=30) (d:=some 74) (v:=.pointer (some ⟨g4 + 1,1,none⟩)) (by kernel_rfl) rfl rfl rfl (fun _ _ _ h=>h) hHeld (fun W hSw=>by go_simp) ?_
    simp only [Act.put,List.setIfInBounds_toArray,List.set_cons_zero,List.set_cons_succ]
    refine takeH (i:=31) (d:=some 75) (v:=.int .i64 ps) (by kernel_rfl) rfl rfl rfl (fun _ _ _ h=>h) hHeld (fun W hSw=>by have x:=(hSw.cell (p:=⟨g4 + 1,1,none⟩) l5).trans y51;go_simp) ?_
    simp only [Act.put,List.setIfInBounds_toArray,List.set_cons_zero,List.set_cons_succ]
    refine takeH (i:=32) (d:=some 76) (v:=.int .i64 (ps + 2)) (by kernel_rfl) rfl rfl rfl (fun _ _ _ h=>h) hHeld (fun W hSw=>by have x:=PR.out h0;go_simp;exact IntWalk.i64_in _ (by omega)) ?_
    simp only [Act.put,List.setIfInBounds_toArray,List.set_cons_zero,List.set_cons_succ]
    refine takeH (i:=33) (d:=some 77) (v:=.bool false) (by kernel_rfl) rfl rfl rfl (fun _ _ _ h=>h) hHeld (fun W hSw=>by go_simp) ?_
    simp only [Act.put,List.setIfInBounds_toArray,List.set_cons_zero,List.set_cons_succ]
    refine takeH (i:=34) (d:=some 78) (v:=.bool false) (by kernel_rfl) rfl rfl rfl (fun _ _ _ h=>h) hHeld (fun W hSw=>by go_simp) ?_
    simp only [Act.put,List.setIfInBounds_toArray,List.set_cons_zero,List.set_cons_succ]
    refine takeH (i:=35) (d:=some 79) (v:=.bool false) (by kernel_rfl) rfl rfl rfl (fun _ _ _ h=>h) hHeld (fun W hSw=>by go_simp) ?_
    simp only [Act.put,List.setIfInBounds_toArray,List.set_cons_zero,List.set_cons_succ]
    refine wpAnyH_done (by kernel_rfl) ?_ _
    go_wp2_with fail
    go_roundw
    case rel=>exact ⟨k + 1,by omega,by go_num,HB4.out.trans (hHeld.mono HB4.out.size)⟩
    case measure=>simp [intOf];omega
   ·have hd:n≤k ∨ (k<n∧8≤k):=by omega
    have HW:=Lib.hid (wakes3_any wo hLo)
    have HB:=Lib.hid hb
    clear hgo hA hLo hL hb
    rcases hd with hd | ⟨hd,hd2⟩
    all_goals
     go_wp2_with fail
     refine HW.out.mono ?_
     rintro e w4 ⟨rfl,hb4⟩
     go_wp2_with fail
     go_ret
     exact ⟨rfl,HB.out.trans (hb4.mono HB.out.size)⟩
 ·go_wp2_with fail
  go_ret
  exact ⟨rfl,Below.refl _ _⟩
end Go.Proofs.YtdmacgoeikjdbaaGreatDoor
namespace Go.Proofs.YtdmacgoeikjdbaaGreatDoor
open Go.ChangeShapes Go.WideShapes Go.ChangeAt Go.RowKit
set_option maxRecDepth 100000 in
theorem parseBlanks_lifted (os:Os) (started:os.Started) (H:Type) (enc:TypeId × Value→H) :
  ReturnsInHanded {} Tryz.checked os 4 .any (fun w args=>(Rows.parseBlanksSpec.pre enc Tryz.prog Tryz.f4 Rows.parseBlanksRow.domain false w args∧laidMetH Tryz.prog Rows.parseBlanksRow.laid w)∧sizedMet enc Tryz.prog Tryz.f4 (OpenSpec.ofChange Rows.parseBlanksSpec) false w args)
   (Rows.parseBlanksSpec.post enc Tryz.prog Tryz.f4 false true false false):=by
 refine returnsInHanded_and_shapedW (C:=Tryz.checked) (X:=fun w _=>laidMetH Tryz.prog Rows.parseBlanksRow.laid w) (fun _ _ _ hh h=>h.of_heap hh) own started (by kernel_rfl) Tryz.func4
  (ChangeSpec.witness_shaped (enc:=enc) (C:=Tryz.checked) (os:=os) (X:=fun w _=>laidMetH Tryz.prog Rows.parseBlanksRow.laid w) false (World.laidAll Tryz.prog os Rows.parseBlanksRow.laid) #[.slice none 0 0] 8 (World.laidAll_os _ _ _)
   (World.shaped_of_ZipB (by kernel_rfl) (by kernel_rfl)) (by kernel_rfl) (by kernel_rfl) (by kernel_rfl)
   (by rw [MakeChecks.laidMetH_plain _ _ _ (by kernel_rfl)];exact laidMet_laidAll _ (by kernel_rfl) (by kernel_rfl))) ?_
 intro W base args ds gs before hval0 hW _ hL hsh
 have hval:∀ (j:Nat) t v,Tryz.f4.params[j]?=some t→args[j]?=some v→Value.okWide Tryz.prog W .any base t v:=hval0
 have hW':=hW
 obtain ⟨p,q,hA0,hV,rfl,_,_⟩:=hW
 have hA:DataW.TrodAll enc Tryz.prog W 0 (fun _=>true) true Tryz.f4.params.toList args.toList ds p:=hA0
 rw [Tryz.params4] at hA hval
 obtain ⟨v0,d0,rfl,rfl,h0⟩:=trodAll_one hA
 obtain ⟨rfl,rfl⟩:=trodVars_none hV
 obtain ⟨a0,len,cap,rfl⟩:=okWide_slice Tryz.underlying22 (hval 0 22 v0 rfl rfl)
 have h0k:=h0
 obtain ⟨fuel,hf⟩:=h0
 clear hA0 hval0
 simp only [List.append_nil] at hW'
 have hlt:∀ x ∈ p,x.block<W.heap.size:=fun x hx=>by simpa using hW'.lt x hx
 obtain ⟨ss,hl,hT⟩:=texts_in hf
 refine (parseBlanks_any len a0 cap ss W hl hT (lib_of hL hsh)).mono fun e W' ⟨he,hnx⟩=>?_
 subst he
 refine ⟨_,rfl,_,_,_,[] ++ [],p,[],hW',?_,?_,rfl,hnx.frame _,fun h=>by cases h⟩
 ·exact trodAll_mk1 (shut_bool Tryz.underlying4 true)
 ·exact trodAll_mk1 (Below.trod laidOut (by kernel_rfl) (of_decide_eq_true (by kernel_rfl)) h0k hnx hlt)
theorem parseBlanks_holds:Rows.ParseBlanksSaid:=
 OpenClaim.holds_of_wide 4 Tryz.f4 rfl rfl rfl rfl rfl rfl rfl ⟨rfl,rfl,rfl,rfl,rfl⟩ rfl rfl rfl rfl rfl (by kernel_rfl) Tryz.func4 (by kernel_rfl)
  (of_decide_eq_true (by kernel_rfl)) (by unfold Func.isWrapper;first | (rw [if_pos (by decide +kernel)];kernel_rfl) | (rw [if_neg (by decide +kernel)];exact ⟨rfl,rfl⟩))
  (fun os started H enc _=>parseBlanks_lifted os started H enc)
theorem parseBlanks_plain (f:FuncId) (fn:Func) (hf:Tryz.pinned.checked.prog.funcNamed "gantlet/gantletlaw3.ParseBlanks"=some f) (hfn:Tryz.pinned.checked.prog.funcs[f]?=some fn) :
  false=Tryz.pinned.checked.prog.looks []∧∀ (j:Nat) t,fn.params[j]?=some t→Tryz.pinned.checked.prog.wantsStandIn t=false:=by
 obtain rfl:f=4:=Option.some.inj ((show Tryz.prog.funcNamed "gantlet/gantletlaw3.ParseBlanks"=some 4 by kernel_rfl).symm.trans hf) |>.symm
 obtain rfl:fn=Tryz.f4:=(Option.some.inj (Tryz.func4.symm.trans hfn)).symm
 refine ⟨by kernel_rfl,fun j t ht=>?_⟩
 rw [Tryz.params4] at ht
 obtain rfl:t=22:=by simpa using Array.mem_of_getElem? ht
 exact (show Tryz.prog.wantsStandIn 22=false by kernel_rfl)
theorem parseBlanks_card:Rows.ParseBlanksCardSaid:=
 Claim7.holds_tied_plain_at .later [] _ _ _ _ parseBlanks_holds (fun _ h=>by cases h) (by kernel_rfl) (fun _ h=>by cases h) parseBlanks_row_tie rfl ⟨rfl,rfl⟩ (by kernel_rfl) rfl parseBlanks_plain (by kernel_rfl)
end Go.Proofs.YtdmacgoeikjdbaaGreatDoor

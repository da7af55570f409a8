/- The program's parser: signs ahead. The program's parser: lists of numb -/
import Derived.Test.YtdmacgoeikjdbaaGreatDoorL25
import Derived.Test.YtdmacgoeikjdbaaGreatDoorL02
import Derived.Test.YtdmacgoeikjdbaaGreatDoorL23
set_option linter.unusedSimpArgs false
set_option linter.unusedVariables false
set_option maxHeartbeats 16000000
namespace Go.Proofs.YtdmacgoeikjdbaaGreatDoor
open Go.RowKit Sx Go.WideMaps Go.Maps
theorem lookN_mem {α:Type} {t:Nat} {x:α}:∀ {l:List (Nat × α)},lookN t l=some x→(t,x) ∈ l
 | [],h=>by cases h
 | (i,y) :: l,h=>by
  unfold lookN at h
  split at h
  ·rename_i hi
   injection h with h
   rw [Nat.eq_of_beq_eq_true hi,h]
   exact List.mem_cons_self
  ·exact List.mem_cons_of_mem _ (lookN_mem h)
theorem tms_of {S:Type} {E:Env S} {st:Sx.St} {a:Act} (h1:a.tmps.size=st.nt) (h2:a.defers=[]) (h:∀ x ∈ st.tm,∃ v,x.2.den E.vals E.blks=some v∧a.tmps[x.1]?=some v):Tms E st a:=⟨h1,h2,fun t sv ht=>h (t,sv) (lookN_mem ht)⟩
set_option maxRecDepth 8000 in
theorem look_pref {w:World} {b:Nat} (tx:List UInt8) (hl:tx.length≤1000000) (h:w.ownsMap Tryz.prog 9 (plainElem (H:=Unit) Tryz.prog 3) b 7 (mapS prefR)) :
  (Instr.lookup 139 (.map (some b)) (strB tx) true).run Tryz.prog w=.ok (.tuple #[.int .i64 (lookS tx prefixes),.bool (lookS tx prefixes != 0)]) w:=by
 obtain ⟨v,ps,h1,h2⟩:=h.look_ok keyedS Tryz.underlying139 (zeroI _) (zd:=.lit (.int .i64 0)) (zp:=[]) (plainElem_int Tryz.underlying3 (by decide)) (key:=strB tx) (kl:=.string tx) (keyOf_string_mk (s:=⟨tx.toArray⟩) Tryz.underlying9 (by show tx.toArray.size≤maxLen;unfold maxLen;simp;omega))
 obtain ⟨c,rfl,hc,_⟩:=plainElem_int_inv Tryz.underlying3 h2
 have h3:=mapS_at tx prefR (by decide)
 rw [look_prefR] at h3
 have h4:=congrArg Prod.fst hc
 simp only at h4
 rw [h3.1] at h4
 injection h4 with h4
 injection h4 with _ h4
 rw [h1,h3.2,h4]
set_option maxRecDepth 8000 in
theorem munary_step (F:Nat) (iho:∀ f,f≤F→MExs 130 (moperand f) f) (iht:∀ f,f≤F→MEx 131 (mcast f) f) (ihr:∀ f,f≤F→MEx 133 (mprimary f) f) (ihp:∀ f,f≤F→MPostOk f):MEx 121 (munary (F + 1)) (F + 1):=by
 intro g d s s' x h0 w okk K hx hd hr hok hK'
 obtain ⟨bb,hbb⟩:∃ b,(lookS (hdT s.ts).text prefixes != 0)=b:=⟨_,rfl⟩
 have htree:=fun b4 b5=>munary_tree F iho iht ihr ihp g d s s' x h0 b4 b5 bb K hx hd hbb hr.1 hK'
 clear hx hK'
 have htok:=fun W (h:QR g ⟨s,h0⟩ W)=>tok_calls h
 have hg:=hr.lt
 have hlen:=hr.1.htx
 simp only at hlen
 obtain ⟨⟨kd,tx,m,ps⟩,ht⟩:∃ t,hdT s.ts=t:=⟨_,rfl⟩
 simp only [ht,Tok.val,tokVal] at htok
 simp only [ht] at htree hbb hlen
 have HT:=Lib.hid htree
 have HR:=Lib.hid hr
 obtain ⟨Kq,hKq⟩:∃ Q,Hid (PostQ g sEx okk w K=Q):=⟨_,Lib.hid rfl⟩
 rw [hKq.out]
 clear htree hr
 go_enter Tryz.func121,Tryz.ntmps121
 go_wp2_with fail
 have hb0:=below_alloc w (.cells #[.int .i64 0,.int .i64 0,.int .i64 0,.int .i64 0,.string ⟨#[]⟩,.int .i64 0,.slice none 0 0,.int .i64 0] 100)
 have z4:BlkIs (w.alloc (.cells #[.int .i64 0,.int .i64 0,.int .i64 0,.int .i64 0,.string ⟨#[]⟩,.int .i64 0,.slice none 0 0,.int .i64 0] 100)) w.heap.size 100 #[.int .i64 0,.int .i64 0,.int .i64 0,.int .i64 0,.string ⟨#[]⟩,.int .i64 0,.slice none 0 0,.int .i64 0]:=BlkIs.fresh _ _ _
 have hr1:=HR.out.below hb0
 have hk1:KeepM g w _:=KeepM.of hb0
 have hs1:w.heap.size<(w.alloc (.cells #[.int .i64 0,.int .i64 0,.int .i64 0,.int .i64 0,.string ⟨#[]⟩,.int .i64 0,.slice none 0 0,.int .i64 0] 100)).heap.size:=z4.lt
 obtain ⟨w1,hw1⟩:∃ w1,w1=w.alloc (.cells #[.int .i64 0,.int .i64 0,.int .i64 0,.int .i64 0,.string ⟨#[]⟩,.int .i64 0,.slice none 0 0,.int .i64 0] 100):=⟨_,rfl⟩
 rw [← hw1] at z4 hr1 hk1 hs1 ⊢
 clear hw1 hb0
 refine (htok _ hr1).mono ?_
 rintro e w2 ⟨rfl,r2,k2⟩
 have z4:=z4.keepM k2 (by omega)
 have hk2:=hk1.trans k2
 have hs2:=Nat.lt_of_lt_of_le hs1 k2.size
 clear k2 hr1 hk1 hs1
 go_upto_region 2 with fail
 have hb0:=below_alloc w2 (.cells #[.int .i64 kd,.string ⟨tx.toArray⟩,.int .i64 m,.int .i64 ps] 43)
 have z5:BlkIs (w2.alloc (.cells #[.int .i64 kd,.string ⟨tx.toArray⟩,.int .i64 m,.int .i64 ps] 43)) w2.heap.size 43 #[.int .i64 kd,.string ⟨tx.toArray⟩,.int .i64 m,.int .i64 ps]:=BlkIs.fresh _ _ _
 have r3:=r2.below hb0
 have z4:=z4.below hb0 hs2
 have hk3:=hk2.trans (KeepM.of hb0)
 obtain ⟨w3,hw3⟩:∃ w3,w3=w2.alloc (.cells #[.int .i64 kd,.string ⟨tx.toArray⟩,.int .i64 m,.int .i64 ps] 43):=⟨_,rfl⟩
 rw [← hw3] at z4 z5 r3 hk3 ⊢
 clear hw3 hb0 r2 hk2
 have c1:w3.cell? ⟨w2.heap.size,1,none⟩=some (.string ⟨tx.toArray⟩):=by rw [z5.cell];rfl
 have hs3:=z5.lt
 refine beginH (fun W'=>Below w3.heap.size w3 W') (by kernel_rfl) ((Below.refl _ _).drew) (fun hHeld=>?_)
 refine takeH (i:=1) (d:=some 13) (v:=.pointer (some ⟨w2.heap.size,1,none⟩)) (by kernel_rfl) rfl rfl rfl (fun _ _ _ h=>h) hHeld (fun W hSw=>by go_simp) ?_
 simp only [Act.put,List.setIfInBounds_toArray,List.set_cons_zero,List.set_cons_succ]
 refine takeH (i:=2) (d:=some 14) (v:=.string ⟨tx.toArray⟩) (by kernel_rfl) rfl rfl rfl (fun _ _ _ h=>h) hHeld (fun W hSw=>by have x0:=(hSw.cell (p:=⟨w2.heap.size,1,none⟩) (by show w2.heap.size<_;omega)).trans c1;go_simp) ?_
 simp only [Act.put,List.setIfInBounds_toArray,List.set_cons_zero,List.set_cons_succ]
 refine onlyH (i:=0) (d:=some 12) (by kernel_rfl) rfl rfl rfl (fun K' hK=>?_)
 refine wp_go_call 129 _ _ rfl #[] rfl (fun W'=>by go_simp) (prefix_any _) (fun e wg he=>?_)
 obtain ⟨rfl,hown,hb3⟩:=he
 refine ⟨_,rfl,hK.out _ _ (hHeld.trans (hb3.mono hHeld.size)) (fun hHeld=>?_)⟩
 have hlook:(Instr.lookup 139 (.map (some w3.heap.size)) (.string ⟨tx.toArray⟩) true).run Tryz.prog wg=.ok (.tuple #[.int .i64 (lookS tx prefixes),.bool bb]) wg:=by rw [← hbb];exact look_pref tx hlen hown
 clear hown hb3
 simp only [Act.put,List.setIfInBounds_toArray,List.set_cons_zero,List.set_cons_succ]
 refine onlyH (i:=3) (d:=some 15) (by kernel_rfl) rfl rfl rfl (fun K' hK=>?_)
 refine wp_val (w':=wg) (v:=.tuple #[.int .i64 (lookS tx prefixes),.bool bb]) (by go_simp) (hK.out _ _ hHeld (fun hHeld=>?_))
 clear hlook
 simp only [Act.put,List.setIfInBounds_toArray,List.set_cons_zero,List.set_cons_succ]
 refine takeH (i:=4) (d:=some 11) (v:=.tuple #[.int .i64 (lookS tx prefixes),.bool bb]) (by kernel_rfl) rfl rfl rfl (fun _ _ _ h=>h) hHeld (fun W hSw=>by go_simp) ?_
 simp only [Act.put,List.setIfInBounds_toArray,List.set_cons_zero,List.set_cons_succ]
 refine takeH (i:=5) (d:=some 16) (v:=.int .i64 (lookS tx prefixes)) (by kernel_rfl) rfl rfl rfl (fun _ _ _ h=>h) hHeld (fun W hSw=>by go_simp) ?_
 simp only [Act.put,List.setIfInBounds_toArray,List.set_cons_zero,List.set_cons_succ]
 refine takeH (i:=6) (d:=some 17) (v:=.bool bb) (by kernel_rfl) rfl rfl rfl (fun _ _ _ h=>h) hHeld (fun W hSw=>by go_simp) ?_
 simp only [Act.put,List.setIfInBounds_toArray,List.set_cons_zero,List.set_cons_succ]
 refine takeH (i:=7) (d:=some 6) (v:=.int .i64 (lookS tx prefixes)) (by kernel_rfl) rfl rfl rfl (fun _ _ _ h=>h) hHeld (fun W hSw=>by go_simp) ?_
 simp only [Act.put,List.setIfInBounds_toArray,List.set_cons_zero,List.set_cons_succ]
 refine takeH (i:=8) (d:=some 7) (v:=.bool bb) (by kernel_rfl) rfl rfl rfl (fun _ _ _ h=>h) hHeld (fun W hSw=>by go_simp) ?_
 simp only [Act.put,List.setIfInBounds_toArray,List.set_cons_zero,List.set_cons_succ]
 refine wpAnyH_done (by kernel_rfl) ?_ _
 go_step
 go_step
 have z4:=z4.below hHeld (by omega)
 have z5:=z5.below hHeld hs3
 have r4:=r3.below hHeld
 have hk4:=hk3.trans (KeepM.of hHeld)
 have hsz:=hHeld.size
 have hgk:∀ k,okk k→g<k:=hok
 rw [← hKq.out]
 refine rest_ok (cf:=cfP_unary) _ rfl mixed QR.stable (st:=stP_unary) (by kernel_rfl) hg hgk (HT.out w.heap.size w2.heap.size) (tms_of rfl rfl ?_) ?_
 ·intro y hy
  simp only [stP_unary,List.mem_cons,List.not_mem_nil,or_false] at hy
  rcases hy with rfl | rfl | rfl | rfl | rfl | rfl <;> exact ⟨_,rfl,rfl⟩
 ·refine ⟨rfl,rfl,rfl,by simp [Value.oneCell',strV8],by simp;omega,?_,?_,fun f hf=>(by cases hf),fun f hf=>(by cases hf),fun f hf=>(by cases hf),r4,KeepX.ofM hk4 (.inl rfl),fun y hy=>(by cases hy),fun i b hb=>(by simp [stP_unary] at hb)⟩
  ·intro k hk
   simp only [List.mem_cons,List.not_mem_nil,or_false] at hk
   rcases hk with rfl | rfl
   ·exact ⟨.inr (Nat.le_refl _),by omega⟩
   ·exact ⟨.inr (by show w.heap.size≤_;omega),by omega⟩
  ·intro B hB
   simp only [stP_unary,List.mem_cons,List.not_mem_nil,or_false] at hB
   rcases hB with rfl | rfl
   ·exact ⟨_,_,rfl,rfl,z4,by simp [Value.oneCell']⟩
   ·exact ⟨_,_,rfl,rfl,z5,by simp [Value.oneCell',strV8]⟩
end Go.Proofs.YtdmacgoeikjdbaaGreatDoor
namespace Go.Proofs.YtdmacgoeikjdbaaGreatDoor
open Go.RowKit Sx
abbrev sLongs:Shp:=⟨1,.el (.one (.v 0)),[(0,1)],[],[],[],[]⟩
abbrev intsD (x:List Int):D:=.lst 1 (x.map (.int .i64))
def cfP_values:Cfg:=⟨[(70,sUnit),(13,sOne),(28,sOne),(14,sTok),(64,sUnit),(69,sOne),(67,sOne)],[(100 * 100 + 6,8),(100 * 89 + 1,8),(100 * 89 + 2,9),(100 * 56 + 4,1),(100 * 60 + 4,6),(100 * 60 + 5,9),(100 * 60 + 6,6)],[(0,⟨[(0,.el (.one (.v 0))),(1,.el (.one (.v 1))),(4,.el (.one (.v 2)))],[],[⟨2,0,some (2,1)⟩],3,0,1,37,[],[]⟩)],sLongs,[],[]⟩
def Z13:Tree:=tO 3 <| tQ 8 2 <| .ite 12 (tI 4 10 <| tO 5 <| .nd (.bs 1 1 false [[jL 13]]) <| tU 1 0 1 <| tS 6 [44] <| tT 16 <| .ite 17 (tS 0 [125] <| .ret [.v 15] [jD 15 2]) (.again 0 [.v 0,.v 1,.v 15] [jD 15 2])) (tO 5 <| .nd (.bs 1 1 false [[jL 13]]) <| tU 1 0 1 <| tS 6 [44] <| tT 16 <| .ite 17 (tS 0 [125] <| .ret [.v 15] [jD 15 2]) (.again 0 [.v 0,.v 1,.v 15] [jD 15 2]))
def Z12:Tree:=tS 2 [45] <| .ite 7 (tI 4 10 <| tO 5 <| .nd (.bs 1 1 false [[jL 8]]) <| tU 1 0 1 <| tS 6 [44] <| tT 11 <| .ite 12 (tS 0 [125] <| .ret [.v 10] [jD 10 2]) (.again 0 [.v 0,.v 1,.v 10] [jD 10 2])) Z13
def Z11:Tree:=.nd (.pv .len [.v 2]) <| .nd (.pv (.bin .eql) [.v 5,.v 1]) <| .ite 6 Z12 (tO 5 <| .nd (.bs 1 1 false [[jL 7]]) <| tU 1 0 1 <| tS 6 [44] <| tT 10 <| .ite 11 (tS 0 [125] <| .ret [.v 9] [jD 9 2]) (.again 0 [.v 0,.v 1,.v 9] [jD 9 2]))
def Z10:Tree:=tO 1 <| tT 3 <| .ite 4 Z11 (.ret [.v 2] [jD 2 0])
def TP_values:Tree:=tS 0 [123] <| .loop 0 0 [.v 0,.v 1,jN] [jP 1] Z10
theorem TP_values_eq:fnS Tryz.prog cfP_values [.one,.one] 68=some TP_values:=by kernel_rfl
theorem mvalues_any (F:Nat) :∀ (g:Nat) (len:Int) (s s':RS) (x:List Int) (h0:QH) (w:World) (okk:Nat→Prop) (K:List Value→List D→QS→Prop),F≤900000→mvalues F len s=some (x,s')→QR g ⟨s,h0⟩ w→(∀ k,okk k→g<k)→(∀ A c h,OkS ⟨s',h⟩→K [.slice A x.length c] [intsD x] ⟨s',h⟩)→Calls Tryz.prog 68 #[ptrV g,.int .i64 len] w (PostQ g sLongs okk w K):=by
 intro g len s s' x h0 w okk K hF hx hr hok hK'
 have hK:∀ vs ds σ',((∃ A c,vs=[.slice A x.length c])∧ds=[intsD x]∧σ'.s=s'∧OkS σ')→K vs ds σ':=fun vs ds σ' h=>by
  obtain ⟨⟨A,c,rfl⟩,rfl,rfl,h3⟩:=h
  exact hK' A c _ h3
 refine fn_ok (cf:=cfP_values) [(qWant g).x,(qBad g).x,(qIs g).x,(qTok g).x,(qFail g).x,(qNumber g).x,(qEat g).x] rfl mixed QR.stable TP_values_eq (W:=fun args ds σ K'=>args=[ptrV g,.int .i64 len]∧ds=[]∧σ=⟨s,h0⟩∧K'=K)
  (fun args ds σ K hW=>by obtain ⟨rfl,_⟩:=hW;exact ⟨rfl,rfl,trivial⟩) ?_ [ptrV g,.int .i64 len] [] ⟨s,h0⟩ w okk K hr.lt hr hok (daOk_nil _ _ _) (by simp [Sx.flat,Value.cells,Value.oneCell',exC,strV8]) ⟨rfl,rfl,rfl,rfl⟩
 rintro args ds σ K' ⟨rfl,rfl,rfl,rfl⟩ _
 have hp0:=hr.1
 rw [mvalues] at hx
 show Tree.holds _ _ _ _ (⟨Sx.flat [ptrV g,.int .i64 len],[],[],⟨s,h0⟩⟩:Env QS)
 simp only [Sx.flat,Value.cells,List.flatMap_cons,List.flatMap_nil,List.append_nil,List.cons_append,List.nil_append,Array.toList]
 refine kc (h:=w_pwant fun h1 p1=>?_)
 try simp only [mfull,bS,↓reduceIte] at hx
 refine h_loop (fun k vs ds σ=>∃ (acc:List Int) (A:Option Addr) (c:Nat),vs=[ptrV g,.int .i64 len,.slice A acc.length c]∧ds=[intsD acc]∧OkS σ∧acc.length + k≤900000∧mvals k len acc σ.s=some (x,s')) F (by simp only [rowsD,ldens,dens,dens2,T2.den,L.den,CD.den,leafD,rowD,List.getElem?_cons_zero,List.getElem?_cons_succ] <;> rfl) (by simp only [rowsD,ldens,dens,dens2,T2.den,L.den,CD.den,leafD,rowD,List.getElem?_cons_zero,List.getElem?_cons_succ] <;> rfl) (fun vs ds σ ⟨a,A,c,_,_,_,_,h⟩=>by cases h) ⟨[],none,0,rfl,rfl,p1,by simpa using hF,hx⟩ ?_
 clear hx
 rintro k vs ds bl ⟨s,h0⟩ hbl ⟨acc,A,c,rfl,rfl,hp0,hacc,hx⟩
 rw [mvals] at hx
 simp only at hx
 try simp only [aS,List.length_nil]
 refine kc (h:=w_pbad ?_)
 try simp only [aS,List.length_nil]
 refine h_pv rfl rfl ?_
 try simp only [aS,List.length_nil]
 refine h_ite rfl (fun q4=>?_) (fun q4=>?_)
 ·skip
  simp only [nS] at q4
  try simp only [Bool.not_eq_true',Bool.not_eq_false'] at q4
  try simp only [q4,mfull,bS,↓reduceIte] at hx
  refine h_pv rfl rfl ?_
  try simp only [aS,List.length_nil]
  refine h_pv rfl rfl ?_
  try simp only [aS,List.length_nil]
  refine h_ite rfl (fun q7=>?_) (fun q7=>?_)
  ·skip
   try dsimp only at q7
   try simp only [q4,q7,mfull,bS,↓reduceIte] at hx
   refine kc (h:=w_pis ?_)
   try simp only [aS,List.length_nil]
   refine h_ite rfl (fun q9=>?_) (fun q9=>?_)
   ·skip
    try simp only [q4,q7,q9,mfull,bS,↓reduceIte] at hx
    refine kc (h:=w_pfail fun h10 p10=>?_)
    refine kc (h:=w_pnumber fun h11 p11=>?_)
    try simp only [aS,List.length_nil]
    refine kb (h:=fun g12=>?_)
    try simp only [aS,List.length_nil]
    refine h_app rfl rfl (by simp only [List.length_map,List.length_cons,List.length_nil];omega) fun A13 c13=>?_
    try simp only [aS,List.length_nil]
    refine kc (h:=w_peat fun h14 p14=>?_)
    try simp only [aS,List.length_nil]
    refine h_pv rfl rfl ?_
    try simp only [aS,List.length_nil]
    refine h_ite rfl (fun q16=>?_) (fun q16=>?_)
    ·skip
     simp only [nS] at q16
     have z16:=meat_noS q16
     rw [z16] at p14
     rw [z16]
     try simp only [z16] at hx
     try simp only [q4,q7,q9,q16,mfull,bS,↓reduceIte] at hx
     refine kc (h:=w_pwant fun h17 p17=>?_)
     try simp only [q4,q7,q9,q16,mfull,bS,↓reduceIte] at hx
     obtain ⟨rfl,rfl⟩:=sP hx
     refine kr (h:=?_)
     refine hK _ _ _ ⟨⟨A13,c13,?_⟩,?_,rfl,p17⟩
     ·first | rfl | (simp only [List.length_append,List.length_map];rfl)
     ·first | rfl | (simp [intsD,encEx_eq,encSt_eq,encDe];done)
    ·skip
     simp only [nS] at q16
     try simp only [q4,q7,q9,q16,mfull,bS,↓reduceIte] at hx
     try simp only [q4,q7,q9,q16,mfull,bS,↓reduceIte] at hx
     refine ka (h:=?_)
     show (ite ((0:Nat)=0) _ _:List Value→List D→QS→Prop) _ _ _
     rw [if_pos rfl]
     refine ⟨_,A13,c13,?_,?_,p14,?_,hx⟩
     ·simp only [List.length_append,List.length_map];rfl
     ·simp [intsD,encEx_eq,encSt_eq,encDe]
     ·simp only [List.length_append,List.length_cons,List.length_nil];omega
   ·skip
    try simp only [q4,q7,q9,mfull,bS,↓reduceIte] at hx
    refine kc (h:=w_ptok ?_)
    try simp only [aS,List.length_nil]
    refine h_pv rfl rfl ?_
    try simp only [aS,List.length_nil]
    refine h_ite rfl (fun q20=>?_) (fun q20=>?_)
    ·skip
     try dsimp only at q20
     try simp only [q4,q7,q9,q20,mfull,bS,↓reduceIte] at hx
     refine kc (h:=w_pfail fun h21 p21=>?_)
     refine kc (h:=w_pnumber fun h22 p22=>?_)
     try simp only [aS,List.length_nil]
     refine kb (h:=fun g23=>?_)
     try simp only [aS,List.length_nil]
     refine h_app rfl rfl (by simp only [List.length_map,List.length_cons,List.length_nil];omega) fun A24 c24=>?_
     try simp only [aS,List.length_nil]
     refine kc (h:=w_peat fun h25 p25=>?_)
     try simp only [aS,List.length_nil]
     refine h_pv rfl rfl ?_
     try simp only [aS,List.length_nil]
     refine h_ite rfl (fun q27=>?_) (fun q27=>?_)
     ·skip
      simp only [nS] at q27
      have z27:=meat_noS q27
      rw [z27] at p25
      rw [z27]
      try simp only [z27] at hx
      try simp only [q4,q7,q9,q20,q27,mfull,bS,↓reduceIte] at hx
      refine kc (h:=w_pwant fun h28 p28=>?_)
      try simp only [q4,q7,q9,q20,q27,mfull,bS,↓reduceIte] at hx
      obtain ⟨rfl,rfl⟩:=sP hx
      refine kr (h:=?_)
      refine hK _ _ _ ⟨⟨A24,c24,?_⟩,?_,rfl,p28⟩
      ·first | rfl | (simp only [List.length_append,List.length_map];rfl)
      ·first | rfl | (simp [intsD,encEx_eq,encSt_eq,encDe];done)
     ·skip
      simp only [nS] at q27
      try simp only [q4,q7,q9,q20,q27,mfull,bS,↓reduceIte] at hx
      try simp only [q4,q7,q9,q20,q27,mfull,bS,↓reduceIte] at hx
      refine ka (h:=?_)
      show (ite ((0:Nat)=0) _ _:List Value→List D→QS→Prop) _ _ _
      rw [if_pos rfl]
      refine ⟨_,A24,c24,?_,?_,p25,?_,hx⟩
      ·simp only [List.length_append,List.length_map];rfl
      ·simp [intsD,encEx_eq,encSt_eq,encDe]
      ·simp only [List.length_append,List.length_cons,List.length_nil];omega
    ·skip
     try dsimp only at q20
     try simp only [q4,q7,q9,q20,mfull,bS,↓reduceIte] at hx
     refine kc (h:=w_pnumber fun h29 p29=>?_)
     try simp only [aS,List.length_nil]
     refine kb (h:=fun g30=>?_)
     try simp only [aS,List.length_nil]
     refine h_app rfl rfl (by simp only [List.length_map,List.length_cons,List.length_nil];omega) fun A31 c31=>?_
     try simp only [aS,List.length_nil]
     refine kc (h:=w_peat fun h32 p32=>?_)
     try simp only [aS,List.length_nil]
     refine h_pv rfl rfl ?_
     try simp only [aS,List.length_nil]
     refine h_ite rfl (fun q34=>?_) (fun q34=>?_)
     ·skip
      simp only [nS] at q34
      have z34:=meat_noS q34
      rw [z34] at p32
      rw [z34]
      try simp only [z34] at hx
      try simp only [q4,q7,q9,q20,q34,mfull,bS,↓reduceIte] at hx
      refine kc (h:=w_pwant fun h35 p35=>?_)
      try simp only [q4,q7,q9,q20,q34,mfull,bS,↓reduceIte] at hx
      obtain ⟨rfl,rfl⟩:=sP hx
      refine kr (h:=?_)
      refine hK _ _ _ ⟨⟨A31,c31,?_⟩,?_,rfl,p35⟩
      ·first | rfl | (simp only [List.length_append,List.length_map];rfl)
      ·first | rfl | (simp [intsD,encEx_eq,encSt_eq,encDe];done)
     ·skip
      simp only [nS] at q34
      try simp only [q4,q7,q9,q20,q34,mfull,bS,↓reduceIte] at hx
      try simp only [q4,q7,q9,q20,q34,mfull,bS,↓reduceIte] at hx
      refine ka (h:=?_)
      show (ite ((0:Nat)=0) _ _:List Value→List D→QS→Prop) _ _ _
      rw [if_pos rfl]
      refine ⟨_,A31,c31,?_,?_,p32,?_,hx⟩
      ·simp only [List.length_append,List.length_map];rfl
      ·simp [intsD,encEx_eq,encSt_eq,encDe]
      ·simp only [List.length_append,List.length_cons,List.length_nil];omega
  ·skip
   try dsimp only at q7
   try simp only [q4,q7,mfull,bS,↓reduceIte] at hx
   refine kc (h:=w_pnumber fun h36 p36=>?_)
   try simp only [aS,List.length_nil]
   refine kb (h:=fun g37=>?_)
   try simp only [aS,List.length_nil]
   refine h_app rfl rfl (by simp only [List.length_map,List.length_cons,List.length_nil];omega) fun A38 c38=>?_
   try simp only [aS,List.length_nil]
   refine kc (h:=w_peat fun h39 p39=>?_)
   try simp only [aS,List.length_nil]
   refine h_pv rfl rfl ?_
   try simp only [aS,List.length_nil]
   refine h_ite rfl (fun q41=>?_) (fun q41=>?_)
   ·skip
    simp only [nS] at q41
    have z41:=meat_noS q41
    rw [z41] at p39
    rw [z41]
    try simp only [z41] at hx
    try simp only [q4,q7,q41,mfull,bS,↓reduceIte] at hx
    refine kc (h:=w_pwant fun h42 p42=>?_)
    try simp only [q4,q7,q41,mfull,bS,↓reduceIte] at hx
    obtain ⟨rfl,rfl⟩:=sP hx
    refine kr (h:=?_)
    refine hK _ _ _ ⟨⟨A38,c38,?_⟩,?_,rfl,p42⟩
    ·first | rfl | (simp only [List.length_append,List.length_map];rfl)
    ·first | rfl | (simp [intsD,encEx_eq,encSt_eq,encDe];done)
   ·skip
    simp only [nS] at q41
    try simp only [q4,q7,q41,mfull,bS,↓reduceIte] at hx
    try simp only [q4,q7,q41,mfull,bS,↓reduceIte] at hx
    refine ka (h:=?_)
    show (ite ((0:Nat)=0) _ _:List Value→List D→QS→Prop) _ _ _
    rw [if_pos rfl]
    refine ⟨_,A38,c38,?_,?_,p39,?_,hx⟩
    ·simp only [List.length_append,List.length_map];rfl
    ·simp [intsD,encEx_eq,encSt_eq,encDe]
    ·simp only [List.length_append,List.length_cons,List.length_nil];omega
 ·skip
  simp only [nS] at q4
  try simp only [Bool.not_eq_true',Bool.not_eq_false'] at q4
  try simp only [q4,mfull,bS,↓reduceIte] at hx
  try simp only [q4,mfull,bS,↓reduceIte] at hx
  obtain ⟨rfl,rfl⟩:=sP hx
  refine kr (h:=?_)
  refine hK _ _ _ ⟨⟨A,c,?_⟩,?_,rfl,hp0⟩
  ·first | rfl | (simp only [List.length_append,List.length_map];rfl)
  ·first | rfl | (simp [intsD,encEx_eq,encSt_eq,encDe];done)
def cfP_params:Cfg:=⟨[(70,sUnit),(71,sOne),(13,sOne),(64,sUnit),(26,sTy),(27,sTok),(67,sOne)],[(100 * 100 + 6,8),(100 * 89 + 1,8),(100 * 89 + 2,9),(100 * 56 + 4,1),(100 * 60 + 4,6),(100 * 60 + 5,9),(100 * 60 + 6,6)],[(0,⟨[(0,.el (.one (.v 0))),(2,.el (.one (.v 1)))],[],[⟨1,0,some (56,6)⟩],2,0,1,36,[],[]⟩)],sDes,[],[]⟩
def Z15:Tree:=tO 2 <| tT 2 <| .ite 3 (.nd (.pv .len [.v 1]) <| tQ 4 4 <| .ite 5 (tI 3 2 <| .ret [.v 1] [jD 1 0]) (tO 4 <| tW <| tI 5 1 <| tW <| tB 6 1 [[jL 10,jL 6,jL 7,jL 8,jP 1,jL 12]] <| tU 6 0 1 <| tS 6 [44] <| tT 15 <| .ite 16 (tS 0 [41] <| .ret [.v 14] [jD 14 2]) (.again 0 [.v 0,.v 14] [jD 14 2]))) (.ret [.v 1] [jD 1 0])
def Z14:Tree:=.loop 0 0 [.v 0,jN] [jP 6] Z15
def TP_params:Tree:=tS 0 [40] <| tO 1 <| .ite 1 (.ret [jN] [jP 6]) Z14
theorem TP_params_eq:fnS Tryz.prog cfP_params [.one] 31=some TP_params:=by kernel_rfl
theorem mparams_any (F:Nat) :∀ (g:Nat) (s s':RS) (x:List De) (h0:QH) (w:World) (okk:Nat→Prop) (K:List Value→List D→QS→Prop),mparams F s=some (x,s')→QR g ⟨s,h0⟩ w→(∀ k,okk k→g<k)→(∀ A c h,OkS ⟨s',h⟩→K [.slice A x.length c] [desD x] ⟨s',h⟩)→Calls Tryz.prog 31 #[ptrV g] w (PostQ g sDes okk w K):=by
 intro g s s' x h0 w okk K hx hr hok hK'
 have hK:∀ vs ds σ',((∃ A c,vs=[.slice A x.length c])∧ds=[desD x]∧σ'.s=s'∧OkS σ')→K vs ds σ':=fun vs ds σ' h=>by
  obtain ⟨⟨A,c,rfl⟩,rfl,rfl,h3⟩:=h
  exact hK' A c _ h3
 refine fn_ok (cf:=cfP_params) [(qWant g).x,(qNothing g).x,(qBad g).x,(qFail g).x,(qTyp g).x,(qKind g).x,(qEat g).x] rfl mixed QR.stable TP_params_eq (W:=fun args ds σ K'=>args=[ptrV g]∧ds=[]∧σ=⟨s,h0⟩∧K'=K)
  (fun args ds σ K hW=>by obtain ⟨rfl,_⟩:=hW;exact ⟨rfl,trivial⟩) ?_ [ptrV g] [] ⟨s,h0⟩ w okk K hr.lt hr hok (daOk_nil _ _ _) (by simp [Sx.flat,Value.cells,Value.oneCell',exC,strV8]) ⟨rfl,rfl,rfl,rfl⟩
 rintro args ds σ K' ⟨rfl,rfl,rfl,rfl⟩ _
 have hp0:=hr.1
 rw [mparams] at hx
 show Tree.holds _ _ _ _ (⟨Sx.flat [ptrV g],[],[],⟨s,h0⟩⟩:Env QS)
 simp only [Sx.flat,Value.cells,List.flatMap_cons,List.flatMap_nil,List.append_nil,List.cons_append,List.nil_append,Array.toList]
 refine kc (h:=w_pwant fun h1 p1=>?_)
 refine kc (h:=w_pnothing fun h2 p2=>?_)
 try simp only [aS,List.length_nil]
 refine h_ite rfl (fun q3=>?_) (fun q3=>?_)
 ·skip
  try simp only [q3,bS,↓reduceIte] at hx
  try simp only [q3,bS,↓reduceIte] at hx
  obtain ⟨rfl,rfl⟩:=sP hx
  refine kr (h:=?_)
  refine hK _ _ _ ⟨⟨none,0,?_⟩,?_,rfl,p2⟩
  ·first | rfl | (simp only [List.length_append,List.length_map];rfl)
  ·first | rfl | (simp [desD,encEx_eq,encSt_eq,encDe];done)
 ·skip
  try simp only [q3,bS,↓reduceIte] at hx
  try simp only [q3,bS,↓reduceIte] at hx
  refine h_loop (fun k vs ds σ=>∃ (acc:List De) (A:Option Addr) (c:Nat),vs=[ptrV g,.slice A acc.length c]∧ds=[desD acc]∧OkS σ∧acc.length≤4∧mparams1 k acc σ.s=some (x,s')) F (by simp only [rowsD,ldens,dens,dens2,T2.den,L.den,CD.den,leafD,rowD,List.getElem?_cons_zero,List.getElem?_cons_succ] <;> rfl) (by simp only [rowsD,ldens,dens,dens2,T2.den,L.den,CD.den,leafD,rowD,List.getElem?_cons_zero,List.getElem?_cons_succ] <;> rfl) (fun vs ds σ ⟨a,A,c,_,_,_,_,h⟩=>by cases h) ⟨[],none,0,rfl,rfl,p2,Nat.zero_le _,hx⟩ ?_
  clear hx
  rintro k vs ds bl ⟨s,h0⟩ hbl ⟨acc,A,c,rfl,rfl,hp0,hacc,hx⟩
  rw [mparams1] at hx
  simp only at hx
  try simp only [aS,List.length_nil]
  refine kc (h:=w_pbad ?_)
  try simp only [aS,List.length_nil]
  refine h_pv rfl rfl ?_
  try simp only [aS,List.length_nil]
  refine h_ite rfl (fun q6=>?_) (fun q6=>?_)
  ·skip
   simp only [nS] at q6
   try simp only [Bool.not_eq_true',Bool.not_eq_false'] at q6
   try simp only [q6,bS,↓reduceIte] at hx
   refine h_pv rfl rfl ?_
   try simp only [aS,List.length_nil]
   refine h_pv rfl rfl ?_
   try simp only [aS,List.length_nil]
   refine h_ite rfl (fun q9=>?_) (fun q9=>?_)
   ·skip
    try dsimp only at q9
    have qn:acc.length=4:=by have:=q9;simp at this;omega
    rw [if_pos qn] at hx
    try simp only [q6,q9,bS,↓reduceIte] at hx
    refine kc (h:=w_pfail fun h10 p10=>?_)
    try simp only [q6,q9,bS,↓reduceIte] at hx
    obtain ⟨rfl,rfl⟩:=sP hx
    refine kr (h:=?_)
    refine hK _ _ _ ⟨⟨A,c,?_⟩,?_,rfl,p10⟩
    ·first | rfl | (simp only [List.length_append,List.length_map];rfl)
    ·first | rfl | (simp [desD,encEx_eq,encSt_eq,encDe];done)
   ·skip
    try dsimp only at q9
    have qn:¬ acc.length=4:=by have:=q9;simp at this;omega
    rw [if_neg qn] at hx
    try simp only [q6,q9,bS,↓reduceIte] at hx
    refine kc (h:=w_ptyp fun h11 p11=>?_)
    try simp only [aS,List.length_nil]
    refine h_new fun g12=>?_
    refine kc (h:=w_pkind fun h13 p13=>?_)
    try simp only [aS,List.length_nil]
    refine h_new fun g14=>?_
    refine kb (h:=fun g15=>?_)
    try simp only [aS,List.length_nil]
    refine h_app rfl rfl (by simp only [List.length_map,List.length_cons,List.length_nil];omega) fun A16 c16=>?_
    try simp only [aS,List.length_nil]
    refine kc (h:=w_peat fun h17 p17=>?_)
    try simp only [aS,List.length_nil]
    refine h_pv rfl rfl ?_
    try simp only [aS,List.length_nil]
    refine h_ite rfl (fun q19=>?_) (fun q19=>?_)
    ·skip
     simp only [nS] at q19
     have z19:=meat_noS q19
     rw [z19] at p17
     rw [z19]
     try simp only [z19] at hx
     try simp only [q6,q9,q19,bS,↓reduceIte] at hx
     refine kc (h:=w_pwant fun h20 p20=>?_)
     try simp only [q6,q9,q19,bS,↓reduceIte] at hx
     obtain ⟨rfl,rfl⟩:=sP hx
     refine kr (h:=?_)
     refine hK _ _ _ ⟨⟨A16,c16,?_⟩,?_,rfl,p20⟩
     ·first | rfl | (simp only [List.length_append,List.length_map];rfl)
     ·first | rfl | (simp [desD,encEx_eq,encSt_eq,encDe];done)
    ·skip
     simp only [nS] at q19
     try simp only [q6,q9,q19,bS,↓reduceIte] at hx
     try simp only [q6,q9,q19,bS,↓reduceIte] at hx
     refine ka (h:=?_)
     show (ite ((0:Nat)=0) _ _:List Value→List D→QS→Prop) _ _ _
     rw [if_pos rfl]
     refine ⟨_,A16,c16,?_,?_,p17,?_,hx⟩
     ·simp only [List.length_append,List.length_map];rfl
     ·simp [desD,encEx_eq,encSt_eq,encDe]
     ·simp only [List.length_append,List.length_cons,List.length_nil];omega
  ·skip
   simp only [nS] at q6
   try simp only [Bool.not_eq_true',Bool.not_eq_false'] at q6
   try simp only [q6,bS,↓reduceIte] at hx
   try simp only [q6,bS,↓reduceIte] at hx
   obtain ⟨rfl,rfl⟩:=sP hx
   refine kr (h:=?_)
   refine hK _ _ _ ⟨⟨A,c,?_⟩,?_,rfl,hp0⟩
   ·first | rfl | (simp only [List.length_append,List.length_map];rfl)
   ·first | rfl | (simp [desD,encEx_eq,encSt_eq,encDe];done)
def qValues (g:Nat):Con0 Tryz.prog (QR g) g where
 f:=68
 sh:=sLongs
 W args _ σ K:=∃ f len x s',f≤900000∧args=[ptrV g,.int .i64 len]∧mvalues f len σ.s=some (x,s')∧∀ A c h,OkS ⟨s',h⟩→K [.slice A x.length c] [intsD x] ⟨s',h⟩
 ok args ds σ w okk K hg hR hokk _ _ hW:=by
  obtain ⟨f,len,x,s',hf,rfl,h1,hK⟩:=hW
  exact mvalues_any f g len σ.s s' x σ.h w okk K hf h1 hR hokk hK
def qParams (g:Nat):Con0 Tryz.prog (QR g) g where
 f:=31
 sh:=sDes
 W args _ σ K:=∃ f x s',args=[ptrV g]∧mparams f σ.s=some (x,s')∧∀ A c h,OkS ⟨s',h⟩→K [.slice A x.length c] [desD x] ⟨s',h⟩
 ok args ds σ w okk K hg hR hokk _ _ hW:=by
  obtain ⟨f,x,s',rfl,h1,hK⟩:=hW
  exact mparams_any f g σ.s s' x σ.h w okk K h1 hR hokk hK
section
variable {g f:Nat} {K:List Value→List D→QS→Prop} {ds:List D} {s s':RS} {h0:QH}
theorem w_pvalues {len:Int} {x:List Int} (hf:f≤900000) (h1:mvalues f len s=some (x,s')) (h:∀ A c h,OkS ⟨s',h⟩→K [.slice A x.length c] [intsD x] ⟨s',h⟩):(qValues g).W [ptrV g,.int .i64 len] ds ⟨s,h0⟩ K:=⟨f,len,x,s',hf,rfl,h1,h⟩
theorem w_pparams {x:List De} (h1:mparams f s=some (x,s')) (h:∀ A c h,OkS ⟨s',h⟩→K [.slice A x.length c] [desD x] ⟨s',h⟩):(qParams g).W [ptrV g] ds ⟨s,h0⟩ K:=⟨f,x,s',rfl,h1,h⟩
end
end Go.Proofs.YtdmacgoeikjdbaaGreatDoor

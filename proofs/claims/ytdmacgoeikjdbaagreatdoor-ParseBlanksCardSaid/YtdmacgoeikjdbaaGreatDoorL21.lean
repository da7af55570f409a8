/- The program's parser in memory; its smallest functions. The program's -/
import Derived.Test.YtdmacgoeikjdbaaGreatDoorL17
import Derived.Test.YtdmacgoeikjdbaaGreatDoorL18
import Derived.Test.YtdmacgoeikjdbaaGreatDoorL15
import Derived.Test.YtdmacgoeikjdbaaGreatDoorL03
set_option linter.unusedSimpArgs false
set_option linter.unusedVariables false
set_option maxHeartbeats 4000000
namespace Go.Proofs.YtdmacgoeikjdbaaGreatDoor
open Go.RowKit Sx
def LibW (g:Nat) (w:World):Prop:=0<g∧(∃ m,w.cell? ⟨0,0,none⟩=some (.int .i64 m))∧∃ k,Tryz.prog.globalNamed "strings.asciiSpace"=some k∧k<g∧Lib.TabIs Tryz.prog w "strings.asciiSpace" .u8 Lib.asciiSpaceTab
theorem LibW.stable {g:Nat} {w w':World} (h:LibW g w) (hk:∀ k,k<g→w'.heap[k]?=w.heap[k]?):LibW g w':=by
 obtain ⟨h0,⟨m,hm⟩,k,h1,h2,h3⟩:=h
 refine ⟨h0,⟨m,?_⟩,k,h1,h2,?_⟩
 ·rw [← hm]
  exact World.cell?_of_block (w:=w) (hk 0 h0)
 ·unfold Lib.TabIs World.var? at *
  rw [h1] at h3 ⊢
  simp only [Option.bind_some] at h3 ⊢
  rw [hk k h2]
  exact h3
structure QH where
 q:Nat
 off:Nat
 c:Nat
 at_:Nat
 all:List Tok
structure QS where
 s:RS
 h:QH
structure OkS (σ:QS):Prop where
 lt:σ.h.at_<σ.h.all.length
 le:σ.h.all.length≤2001
 wf:Wf σ.h.all
 ts:σ.s.ts=σ.h.all.drop σ.h.at_
 tx:∀ t ∈ σ.h.all,t.text.length≤1000000
abbrev allV (h:QH):Value:=.slice (some ⟨h.q,h.off,none⟩) h.all.length h.c
def QR (g:Nat) (σ:QS) (w:World):Prop:=OkS σ∧BlkIs w g 41 #[allV σ.h,.int .i64 σ.h.at_,.int .i64 σ.s.err,.int .i64 σ.s.pos]∧Rep w (fun k=>k<g) (.lst 4 (σ.h.all.map encTok)) [allV σ.h]∧LibW g w
theorem Wf.drop:∀ {ts:List Tok} {k:Nat},Wf ts→k<ts.length→Wf (ts.drop k)
 | _,0,h,_=>h
 | [],_ + 1,h,_=>h.elim
 | [t],k + 1,_,hl=>by simp at hl
 | t :: u :: l,k + 1,h,hl=>by
  simp only [List.drop_succ_cons]
  exact Wf.drop h.2 (by simpa using hl)
section
variable {g:Nat} {σ:QS} {w w':World}
theorem OkS.wft (h:OkS σ):Wf σ.s.ts:=by
 rw [h.ts]
 exact h.wf.drop h.lt
theorem OkS.hd (h:OkS σ):σ.h.all.getD σ.h.at_ noTokT=hdT σ.s.ts:=by
 rw [h.ts,hd_getD,List.getD_eq_getElem?_getD,List.getD_eq_getElem?_getD,List.getElem?_drop,Nat.add_zero]
theorem OkS.htx (h:OkS σ):(hdT σ.s.ts).text.length≤1000000:=by
 rw [← h.hd,List.getD_eq_getElem?_getD,List.getElem?_eq_getElem h.lt]
 exact h.tx _ (List.getElem_mem _)
theorem OkS.one (h:OkS σ) (hk:(hdT σ.s.ts).kind ≠ 0):σ.h.at_ + 1<σ.h.all.length:=by
 have:=(h.wft.nx hk).2
 have h2:=(h.wft.nx hk).1.pos
 have:=h.ts
 have h3:σ.s.ts.length=σ.h.all.length - σ.h.at_:=by rw [this,List.length_drop]
 omega
theorem QR.lt (h:QR g σ w):g<w.heap.size:=h.2.1.lt
theorem QR.stable (σ:QS) (w w':World) (h:QR g σ w) (_:w.heap.size≤w'.heap.size) (hk:∀ k,k≤g→w'.heap[k]?=w.heap[k]?):QR g σ w':=
 ⟨h.1,(hk g (Nat.le_refl _)).trans h.2.1,Rep.keep (fun _ h _=>h) (fun k hk2 _=>hk k (Nat.le_of_lt hk2)) _ _ h.2.2.1,h.2.2.2.stable fun k hl=>hk k (Nat.le_of_lt hl)⟩
theorem QR.below (h:QR g σ w) (hb:Below w.heap.size w w'):QR g σ w':=QR.stable σ w w' h hb.size fun k hk=>hb.block k (by have:=h.lt;omega)
theorem loads1 {w:World} {b i:Nat} {v:Value} (h:w.cell? ⟨b,i,none⟩=some v):LoadsAt w (.pointer (some ⟨b,i,none⟩)) [v]:=⟨b,i,rfl,fun j u hj=>by
 cases j with
 | zero=>
  simp at hj
  subst hj
  exact h
 | succ j=>simp at hj⟩
theorem QR.ld0:∀ w,QR g σ w→LoadsAt w (.pointer (some ⟨g,0 + 0,none⟩)) [allV σ.h]:=fun w h=>loads1 (h.2.1.cell 0)
theorem QR.ld1:∀ w,QR g σ w→LoadsAt w (.pointer (some ⟨g,0 + 1,none⟩)) [.int .i64 σ.h.at_]:=fun w h=>loads1 (h.2.1.cell 1)
theorem QR.ld2:∀ w,QR g σ w→LoadsAt w (.pointer (some ⟨g,0 + 2 + 0,none⟩)) [.int .i64 σ.s.err]:=fun w h=>loads1 (h.2.1.cell 2)
theorem QR.ldT (k:Nat) (hk:k<σ.h.all.length):∀ w,QR g σ w→LoadsAt w (.pointer (some ⟨σ.h.q,σ.h.off + k * 4,none⟩)) (tokC (σ.h.all.getD k noTokT)):=fun w h=>by
 refine ⟨_,_,rfl,fun j u hj=>?_⟩
 obtain ⟨q,off,a,hA,_,_,hl,hr,hc⟩:=h.2.2.1.at_ k (by rw [List.length_map];exact hk)
 injection hA with hA
 injection hA with e1 e2
 subst e1 e2
 rw [List.getElem_map,rep_tok] at hr
 subst hr
 have e:σ.h.all.getD k noTokT=σ.h.all[k]:=by rw [List.getD_eq_getElem?_getD,List.getElem?_eq_getElem hk];rfl
 rw [e] at hj
 have hj4:j<4:=by
  have:=(List.getElem?_eq_some_iff.1 hj).1
  simpa [tokC] using this
 have:=hc j hj4
 rw [show σ.h.off + k * 4 + j=σ.h.off + (k * 4 + j) by omega,this]
 exact hj
end
def TellP (v:Value) (w:World) (e:Ending) (w':World):Prop:=e=.returned v∧Below w.heap.size w w'
def DoP (v:Value) (g:Nat) (s':RS) (w:World) (e:Ending) (w':World):Prop:=e=.returned v∧KeepM g w w'∧∃ h,QR g ⟨s',h⟩ w'
abbrev PostQ (g:Nat) (sh:Shp) (okk:Nat→Prop) (w:World) (K:List Value→List D→QS→Prop) (e:Ending) (w':World):Prop:=
 ∃ vs ds' σ' r,K vs ds' σ'∧sh.ret.den vs []=some r∧e=.returned r∧vs.length=sh.nv∧ds'.length=sh.fs.length∧(∀ u ∈ vs,u.oneCell'=true)∧QR g σ' w'∧KeepM g w w'∧DaOk w' (fun k=>okk k ∨ w.heap.size≤k) vs sh.fs ds'
theorem do_postP {f:FuncId} {args:Array Value} {g:Nat} {w:World} {v:Value} {s':RS} {vs:List Value} {sh:Shp} {okk:Nat→Prop} {K:List Value→List D→QS→Prop} (hc:Calls Tryz.prog f args w (DoP v g s' w)) (hK:∀ h,OkS ⟨s',h⟩→K vs [] ⟨s',h⟩) (hret:sh.ret.den vs []=some v) (hn:vs.length=sh.nv) (hf:sh.fs=[]) (h1:∀ u ∈ vs,u.oneCell'=true) :
  Calls Tryz.prog f args w (PostQ g sh okk w K):=hc.mono fun e w' ⟨he,hk,hd,hr⟩=>
 ⟨vs,[],_,v,hK hd hr.1,hret,he,hn,by rw [hf];rfl,h1,hr,hk,by rw [hf];exact daOk_nil _ _ _⟩
theorem tell_postP {f:FuncId} {args:Array Value} {g:Nat} {w:World} {v:Value} {σ:QS} {vs:List Value} {sh:Shp} {okk:Nat→Prop} {K:List Value→List D→QS→Prop} (hc:Calls Tryz.prog f args w (TellP v w)) (hr:QR g σ w) (hK:K vs [] σ) (hret:sh.ret.den vs []=some v) (hn:vs.length=sh.nv) (hf:sh.fs=[]) (h1:∀ u ∈ vs,u.oneCell'=true) :
  Calls Tryz.prog f args w (PostQ g sh okk w K):=hc.mono fun e w' ⟨he,hb⟩=>
 ⟨vs,[],σ,v,hK,hret,he,hn,by rw [hf];rfl,h1,hr.below hb,KeepM.of hb,by rw [hf];exact daOk_nil _ _ _⟩
theorem do_of {f:FuncId} {args:Array Value} {g:Nat} {w:World} {v:Value} {s':RS} {sh:Shp} {vs0:List Value} (hret:sh.ret.den vs0 []=some v) (hc:Calls Tryz.prog f args w (PostQ g sh (fun _=>False) w (fun vs ds σ'=>vs=vs0∧σ'.s=s'))):Calls Tryz.prog f args w (DoP v g s' w):=
 hc.mono fun e w' ⟨vs,ds,σ',r,⟨h1,h2⟩,h3,h4,_,_,_,h5,h6,_⟩=>by
  subst h1 h2
  rw [hret] at h3
  injection h3 with h3
  subst h3
  exact ⟨h4,h6,σ'.h,h5⟩
def cfTok:Cfg:=⟨[],[],[],sTok,[],[]⟩
def TTok:Tree:=.nd .new <| .nd (.pv .nilc [.v 0]) <| .nd (.pv (.fa 0) [.v 1]) <| .nd (.pv .nilc [.v 0]) <| .nd (.pv (.fa 1) [.v 3]) <| .both
 (.nd (.ld (.v 2) 1) <| .nd (.ld (.v 4) 1) <| .nd (.pv (.ia 4) [.v 5,.v 6]) <| .nd (.ld (.v 7) 4) <| .ret [.v 8,.v 9,.v 10,.v 11] [])
 (.nd (.ld (.v 4) 1) <| .nd (.ld (.v 2) 1) <| .nd (.pv (.ia 4) [.v 6,.v 5]) <| .nd (.ld (.v 7) 4) <| .ret [.v 8,.v 9,.v 10,.v 11] [])
theorem TTok_eq:fnS Tryz.prog cfTok [.one] 14=some TTok:=by kernel_rfl
theorem sem_iaQ {h:QH} (k:Nat) (hk:k<h.all.length):(PV.ia 4).sem [allV h,.int .i64 (Int.ofNat k)]=some (.pointer (some ⟨h.q,h.off + k * 4,none⟩)):=by
 have:Nat.blt k h.all.length=true:=by simpa using hk
 simp only [PV.sem,iaV,this]
theorem allV_one (h:QH):∀ u ∈ [allV h],u.oneCell'=true:=by simp [Value.oneCell']
theorem int_one (n:Int):∀ u ∈ [Value.int .i64 n],u.oneCell'=true:=by simp [Value.oneCell']
def qTok (g:Nat):Con0 Tryz.prog (QR g) g where
 f:=14
 sh:=sTok
 W args _ σ K:=args=[ptrV g]∧K (tokC (hdT σ.s.ts)) [] σ
 ok args ds σ w okk K hg hR hokk hda h1 hW:=by
  obtain ⟨rfl,hK⟩:=hW
  refine fn_ok (cf:=cfTok) [] rfl mixed QR.stable TTok_eq (W:=fun args ds σ' K=>args=[ptrV g]∧ds=[]∧σ'=σ∧K (tokC (hdT σ.s.ts)) [] σ)
   (fun args ds σ K hW=>by obtain ⟨rfl,_⟩:=hW;exact ⟨rfl,trivial⟩) ?_ [ptrV g] [] σ w _ _ hg hR hokk (daOk_nil _ _ _) (by simp [Sx.flat,Value.cells,Value.oneCell']) ⟨rfl,rfl,rfl,hK⟩
  rintro args ds σ' K ⟨rfl,rfl,rfl,hK⟩ _
  have ho:=hR.1
  have hl:=ho.lt
  rw [← ho.hd] at hK
  show Tree.holds _ _ _ _ (⟨[ptrV g],[],[],σ'⟩:Env QS)
  unfold TTok
  refine h_new fun g1=>h_pv rfl rfl (h_pv rfl rfl (h_pv rfl rfl (h_pv rfl rfl (h_both ?_ ?_))))
  ·exact h_ld rfl QR.ld0 rfl (allV_one _) (h_ld rfl QR.ld1 rfl (int_one _) (h_pv rfl (sem_iaQ _ hl) (h_ld rfl (QR.ldT _ hl) rfl (tokC_one _) (h_ret rfl rfl hK))))
  ·exact h_ld rfl QR.ld1 rfl (int_one _) (h_ld rfl QR.ld0 rfl (allV_one _) (h_pv rfl (sem_iaQ _ hl) (h_ld rfl (QR.ldT _ hl) rfl (tokC_one _) (h_ret rfl rfl hK))))
def cfBad:Cfg:=⟨[],[],[],sOne,[],[]⟩
def TBad:Tree:=.nd (.pv .nilc [.v 0]) <| .nd (.pv (.fa 2) [.v 1]) <| .nd (.pv (.fa 0) [.v 2]) <| .nd (.ld (.v 3) 1) <| .nd (.pv (.bin .neq) [.v 4,.c (.int .i64 0)]) <| .ret [.v 5] []
theorem TBad_eq:fnS Tryz.prog cfBad [.one] 13=some TBad:=by kernel_rfl
def qBad (g:Nat):Con0 Tryz.prog (QR g) g where
 f:=13
 sh:=sOne
 W args _ σ K:=args=[ptrV g]∧K [.bool (!rok σ.s)] [] σ
 ok args ds σ w okk K hg hR hokk hda h1 hW:=by
  obtain ⟨rfl,hK⟩:=hW
  refine fn_ok (cf:=cfBad) [] rfl mixed QR.stable TBad_eq (W:=fun args ds σ' K=>args=[ptrV g]∧ds=[]∧σ'=σ∧K [.bool (!rok σ.s)] [] σ)
   (fun args ds σ K hW=>by obtain ⟨rfl,_⟩:=hW;exact ⟨rfl,trivial⟩) ?_ [ptrV g] [] σ w _ _ hg hR hokk (daOk_nil _ _ _) (by simp [Sx.flat,Value.cells,Value.oneCell']) ⟨rfl,rfl,rfl,hK⟩
  rintro args ds σ' K ⟨rfl,rfl,rfl,hK⟩ _
  show Tree.holds _ _ _ _ (⟨[ptrV g],[],[],σ'⟩:Env QS)
  unfold TBad
  exact h_pv rfl rfl (h_pv rfl rfl (h_pv rfl rfl (h_ld rfl QR.ld2 rfl (int_one _) (h_pv rfl rfl (h_ret rfl rfl hK)))))
section
variable {g:Nat} {K:List Value→List D→QS→Prop} {ds:List D} {s:RS} {h0:QH}
theorem w_ptok (h:K (tokC (hdT s.ts)) [] ⟨s,h0⟩):(qTok g).W [ptrV g] ds ⟨s,h0⟩ K:=⟨rfl,h⟩
theorem w_pbad (h:K [.bool (!rok s)] [] ⟨s,h0⟩):(qBad g).W [ptrV g] ds ⟨s,h0⟩ K:=⟨rfl,h⟩
end
theorem tok_calls {g:Nat} {σ:QS} {w:World} (hR:QR g σ w):Calls Tryz.prog 14 #[ptrV g] w (fun e w'=>e=.returned (hdT σ.s.ts).val∧QR g σ w'∧KeepM g w w'):=
 ((qTok g).ok [ptrV g] [] σ w (fun _=>False) (fun vs ds σ'=>vs=tokC (hdT σ.s.ts)∧σ'=σ) hR.lt hR (fun k h=>h.elim) (daOk_nil _ _ _) (by simp [Sx.flat,Value.cells,Value.oneCell']) ⟨rfl,rfl,rfl⟩).mono fun e w' ⟨vs,ds,σ',r,⟨h1,h2⟩,h3,h4,_,_,_,h5,h6,_⟩=>by
  subst h1 h2
  have h3:some (Value.agg (tokC (hdT σ'.s.ts)).toArray)=some r:=h3
  injection h3 with h3
  subst h3
  exact ⟨h4,h5,h6⟩
theorem bad_calls {g:Nat} {σ:QS} {w:World} (hR:QR g σ w):Calls Tryz.prog 13 #[ptrV g] w (fun e w'=>e=.returned (.bool (!rok σ.s))∧QR g σ w'∧KeepM g w w'):=
 ((qBad g).ok [ptrV g] [] σ w (fun _=>False) (fun vs ds σ'=>vs=[.bool (!rok σ.s)]∧σ'=σ) hR.lt hR (fun k h=>h.elim) (daOk_nil _ _ _) (by simp [Sx.flat,Value.cells,Value.oneCell']) ⟨rfl,rfl,rfl⟩).mono fun e w' ⟨vs,ds,σ',r,⟨h1,h2⟩,h3,h4,_,_,_,h5,h6,_⟩=>by
  subst h1 h2
  have h3:some (Value.bool (!rok σ'.s))=some r:=h3
  injection h3 with h3
  subst h3
  exact ⟨h4,h5,h6⟩
theorem QR.move {g:Nat} {σ:QS} {w:World} (h:QR g σ w) {k:Nat} (hk:k<σ.h.all.length) (e p:Int) {w':World} (hw:∀ k,k<g→w'.heap[k]?=w.heap[k]?) (hb:BlkIs w' g 41 #[allV σ.h,.int .i64 k,.int .i64 e,.int .i64 p]):QR g ⟨⟨σ.h.all.drop k,e,p⟩,⟨σ.h.q,σ.h.off,σ.h.c,k,σ.h.all⟩⟩ w':=
 ⟨⟨hk,h.1.le,h.1.wf,rfl,h.1.tx⟩,hb,Rep.keep (fun _ h _=>h) (fun k hk2 _=>hw k hk2) _ _ h.2.2.1,h.2.2.2.stable hw⟩
theorem drop_last:∀ {l:List Tok} {k:Nat},k<l.length→l.drop (l.length - 1)=[(l.drop k).getLastD noTokT]:=fun {l k} hk=>by
 have h1:(l.drop k).getLastD noTokT=l.getLastD noTokT:=by
  rw [List.getLastD_eq_getLast?,List.getLastD_eq_getLast?,List.getLast?_drop,if_neg (by omega)]
 rw [h1]
 have hne:l ≠ []:=by rintro rfl;simp at hk
 rw [List.getLastD_eq_getLast?,List.getLast?_eq_some_getLast hne]
 simp only [Option.getD_some]
 have hp:0<l.length:=List.length_pos_iff.2 hne
 rw [List.drop_eq_getElem_cons (by omega),List.getLast_eq_getElem,show l.length - 1 + 1=l.length by omega,List.drop_length]
theorem mfailAt_any (g:Nat) (σ:QS) (e p:Int) (w:World) (hr:QR g σ w):Calls Tryz.prog 30 #[ptrV g,.int .i64 e,.int .i64 p] w (DoP (.tuple #[]) g (mfailAt e p σ.s) w):=by
 have HB:=bad_calls hr
 obtain ⟨s',hs'⟩:∃ s',Hid (mfailAt e p σ.s=s'):=⟨_,Lib.hid rfl⟩
 rw [hs'.out]
 cases hok:rok σ.s
 ·rw [hok,Bool.not_false] at HB
  have hz:s'=σ.s:=by rw [← hs'.out,mfailAt,hok,if_neg (by decide)]
  have hz:=Lib.hid hz
  go_enter Tryz.func30,Tryz.ntmps30
  go_wp2_with fail
  refine HB.mono ?_
  rintro e1 w1 ⟨rfl,r1,k1⟩
  go_wp2_with fail
  first | go_end0 | refine bodyPost_ret (results_none rfl _ _ _) rfl ?_
  rw [hz.out]
  exact ⟨rfl,k1,σ.h,r1⟩
 ·rw [hok,Bool.not_true] at HB
  have hn:=hr.1.lt
  have hn2:=hr.1.le
  have hz:s'=⟨σ.h.all.drop (σ.h.all.length - 1),e,p⟩:=by rw [← hs'.out,mfailAt,hok,if_pos rfl,drop_last hn,hr.1.ts]
  have hz:=Lib.hid hz
  clear hr
  obtain ⟨n,hnn⟩:∃ n,Hid (σ.h.all.length=n):=⟨_,Lib.hid rfl⟩
  go_enter Tryz.func30,Tryz.ntmps30
  go_wp2_with fail
  refine HB.mono ?_
  rintro e1 w1 ⟨rfl,r1,k1⟩
  have hb:=r1.2.1
  have c0:=hb.cell 0
  have c1:=hb.cell 1
  have c2:=hb.cell 2
  have c3:=hb.cell 3
  have f1:=hb.frozen 1
  have f2:=hb.frozen 2
  have f3:=hb.frozen 3
  have hl:=hb.lt
  simp [allV] at c0 c1 c2 c3
  have HR:=Lib.hid r1
  have HBk:=Lib.hid hb
  clear r1 hb
  rw [hnn.out] at c0 hn hn2
  go_wp2_with fail
  first | go_end0 | refine bodyPost_ret (results_none rfl _ _ _) rfl ?_
  have e1:((n:Int) - 1)=((n - 1:Nat):Int):=by omega
  have hb2:=((HBk.out.put 2 (.int .i64 e)).put 3 (.int .i64 p)).put 1 (.int .i64 ((n:Int) - 1))
  rw [hz.out,hnn.out]
  refine ⟨rfl,((k1.own 2 _).own 3 _).own 1 _,_,HR.out.move (k:=n - 1) (by rw [hnn.out];omega) e p (fun k hk=>(((KeepM.refl g w1).own 2 _).own 3 _ |>.own 1 _).block k (by omega) (by omega)) ?_⟩
  rw [← e1]
  exact hb2
theorem mnext_any (g:Nat) (σ:QS) (w:World) (hr:QR g σ w):Calls Tryz.prog 65 #[ptrV g] w (DoP (hdT σ.s.ts).val g (mnext σ.s) w):=by
 have HT:=fun W (h:QR g σ W)=>tok_calls h
 have hn:=hr.1.lt
 have hn2:=hr.1.le
 have h1:=hr.1.one
 have hts:=Lib.hid hr.1.ts
 have HR0:=Lib.hid hr
 have hl0:=hr.lt
 obtain ⟨s',hs'⟩:∃ s',Hid (mnext σ.s=s'):=⟨_,Lib.hid rfl⟩
 rw [hs'.out]
 obtain ⟨⟨kd,tx,m,ps⟩,ht⟩:∃ t,hdT σ.s.ts=t:=⟨_,rfl⟩
 rw [ht] at h1 ⊢
 simp only [ht] at HT
 simp only at h1
 unfold mnext at hs'
 rw [ht] at hs'
 have hs2:=Lib.hid hs'.out
 clear hs' ht hr
 simp only [Tok.val,tokVal] at HT ⊢
 by_cases hk:kd=0
 ·have e2:(kd != 0)=false:=by simpa using hk
  have hz:s'=σ.s:=by rw [← hs2.out];simp only [e2,Bool.false_eq_true,if_false]
  have hz:=Lib.hid hz
  clear hs2 h1
  subst hk
  go_enter Tryz.func65,Tryz.ntmps65
  go_wp2_with fail
  refine (HT _ (HR0.out.below (below_alloc _ _))).mono ?_
  rintro e1 w1 ⟨rfl,r1,k1⟩
  have hR1:=Lib.hid r1
  have hk1:KeepM g w w1:=((KeepM.refl _ _).alloc _).trans k1
  have hb0:BlkIs w1 w.heap.size 43 #[.int .i64 0,.string ⟨#[]⟩,.int .i64 0,.int .i64 0]:=(BlkIs.fresh _ _ _).keepM k1 (by omega)
  have hz0:=hb0.lt
  clear r1 k1
  have z0:=hb0.cell 0
  have z1:=hb0.cell 1
  have z2:=hb0.cell 2
  have z3:=hb0.cell 3
  have f0:=hb0.frozen 0
  have f1:=hb0.frozen 1
  have f2:=hb0.frozen 2
  have f3:=hb0.frozen 3
  simp at z0 z1 z2 z3
  have hne:w.heap.size ≠ g:=by omega
  go_wp2_with fail
  refine bodyPost_ret (v:=.agg #[.int .i64 0,.string ⟨tx.toArray⟩,.int .i64 m,.int .i64 ps]) (by simp [results,Tryz.results65,go_sem,z0,z1,z2,z3,hz0,hne]) rfl ?_
  rw [hz.out]
  refine ⟨rfl,?_,σ.h,QR.stable σ w1 _ hR1.out (by simp) (fun k hk=>?_)⟩
  ·exact ((((hk1.setCell (p:=⟨w.heap.size,0,none⟩) (Nat.le_refl _) _).setCell (p:=⟨w.heap.size,1,none⟩) (Nat.le_refl _) _).setCell (p:=⟨w.heap.size,2,none⟩) (Nat.le_refl _) _).setCell (p:=⟨w.heap.size,3,none⟩) (Nat.le_refl _) _).alloc _
  ·exact (((((KeepM.refl w.heap.size w1).own 0 _).own 1 _).own 2 _).own 3 _ |>.alloc _).block k (by omega) (by omega)
 ·have e2:(kd != 0)=true:=by simpa using hk
  have h1:=h1 hk
  have hz:s'=⟨σ.h.all.drop (σ.h.at_ + 1),σ.s.err,σ.s.pos⟩:=by
   rw [← hs2.out]
   simp only [e2,if_true]
   rw [hts.out,List.tail_drop]
  have hz:=Lib.hid hz
  have hk:=Lib.hid hk
  clear hs2
  go_enter Tryz.func65,Tryz.ntmps65
  go_wp2_with fail
  refine (HT _ (HR0.out.below (below_alloc _ _))).mono ?_
  rintro e1 w1 ⟨rfl,r1,k1⟩
  have hR1:=Lib.hid r1
  have hk1:KeepM g w w1:=((KeepM.refl _ _).alloc _).trans k1
  have hb0:BlkIs w1 w.heap.size 43 #[.int .i64 0,.string ⟨#[]⟩,.int .i64 0,.int .i64 0]:=(BlkIs.fresh _ _ _).keepM k1 (by omega)
  have hz0:=hb0.lt
  have hb:=r1.2.1
  have c1:=hb.cell 1
  have g1:=hb.frozen 1
  simp at c1
  have hgl:=hb.lt
  clear r1 k1
  have z0:=hb0.cell 0
  have z1:=hb0.cell 1
  have z2:=hb0.cell 2
  have z3:=hb0.cell 3
  have f0:=hb0.frozen 0
  have f1:=hb0.frozen 1
  have f2:=hb0.frozen 2
  have f3:=hb0.frozen 3
  simp at z0 z1 z2 z3
  have hne:w.heap.size ≠ g:=by omega
  go_wp2_with fail
  refine bodyPost_ret (v:=.agg #[.int .i64 kd,.string ⟨tx.toArray⟩,.int .i64 m,.int .i64 ps]) (by simp [results,Tryz.results65,go_sem,z0,z1,z2,z3,hz0,hne]) rfl ?_
  rw [hz.out]
  have e1:((σ.h.at_:Int) + 1)=((σ.h.at_ + 1:Nat):Int):=by omega
  have hb3:=((((hb.put 1 (.int .i64 ((σ.h.at_:Int) + 1))).far (p:=⟨w.heap.size,0,none⟩) (Ne.symm hne) (.int .i64 kd)).far (p:=⟨w.heap.size,1,none⟩) (Ne.symm hne) (.string ⟨tx.toArray⟩)).far (p:=⟨w.heap.size,2,none⟩) (Ne.symm hne) (.int .i64 m)).far (p:=⟨w.heap.size,3,none⟩) (Ne.symm hne) (.int .i64 ps) |>.alloc (.cells #[.int .i64 kd,.string ⟨tx.toArray⟩,.int .i64 m,.int .i64 ps] 43)
  refine ⟨rfl,?_,_,hR1.out.move (k:=σ.h.at_ + 1) h1 _ _ (fun k hk=>?_) ?_⟩
  ·exact (((((hk1.own 1 _).setCell (p:=⟨w.heap.size,0,none⟩) (Nat.le_refl _) _).setCell (p:=⟨w.heap.size,1,none⟩) (Nat.le_refl _) _).setCell (p:=⟨w.heap.size,2,none⟩) (Nat.le_refl _) _).setCell (p:=⟨w.heap.size,3,none⟩) (Nat.le_refl _) _).alloc _
  ·have h2:∀ q j u (W:World),k ≠ q→(W.setCell ⟨q,j,none⟩ u).heap[k]?=W.heap[k]?:=fun q j u W hq=>heap_setCell_other _ _ _ _ (by simpa using hq)
   rw [Below.heap_alloc _ _ _ (by simp;omega),h2 _ _ _ _ (by omega),h2 _ _ _ _ (by omega),h2 _ _ _ _ (by omega),h2 _ _ _ _ (by omega),h2 _ _ _ _ (by omega)]
  ·rw [← e1]
   exact hb3
end Go.Proofs.YtdmacgoeikjdbaaGreatDoor
namespace Go.Proofs.YtdmacgoeikjdbaaGreatDoor
open Go.RowKit Sx
theorem meat_noS {x:List UInt8} {s:RS} (h:(meat x s).1=false):(meat x s).2=s:=by
 unfold meat at h ⊢
 cases hb:ris x s
 ·rfl
 ·rw [hb] at h;cases h
def qFailAt (g:Nat):Con0 Tryz.prog (QR g) g where
 f:=30
 sh:=sUnit
 W args _ σ K:=∃ (e p:Int),args=[ptrV g,.int .i64 e,.int .i64 p]∧∀ h,OkS ⟨mfailAt e p σ.s,h⟩→K [] [] ⟨mfailAt e p σ.s,h⟩
 ok args ds σ w okk K hg hR _ _ _ hW:=by
  obtain ⟨e,p,rfl,hK⟩:=hW
  exact do_postP (mfailAt_any g σ e p w hR) hK rfl rfl rfl (by simp)
def qNext (g:Nat):Con0 Tryz.prog (QR g) g where
 f:=65
 sh:=sTok
 W args _ σ K:=args=[ptrV g]∧∀ h,OkS ⟨mnext σ.s,h⟩→K (tokC (hdT σ.s.ts)) [] ⟨mnext σ.s,h⟩
 ok args ds σ w okk K hg hR _ _ _ hW:=by
  obtain ⟨rfl,hK⟩:=hW
  exact do_postP (mnext_any g σ w hR) hK rfl rfl rfl (by simp [tokC,strV8,Value.oneCell'])
section
variable {g:Nat} {K:List Value→List D→QS→Prop} {ds:List D} {s:RS} {h0:QH}
theorem w_pfailat {e p:Int} (h:∀ h,OkS ⟨mfailAt e p s,h⟩→K [] [] ⟨mfailAt e p s,h⟩):(qFailAt g).W [ptrV g,.int .i64 e,.int .i64 p] ds ⟨s,h0⟩ K:=⟨e,p,rfl,h⟩
theorem w_pnext (h:∀ h,OkS ⟨mnext s,h⟩→K (tokC (hdT s.ts)) [] ⟨mnext s,h⟩):(qNext g).W [ptrV g] ds ⟨s,h0⟩ K:=⟨rfl,h⟩
end
def cfP_fail:Cfg:=⟨[(14,sTok),(30,sUnit)],[(100 * 100 + 6,8),(100 * 89 + 1,8),(100 * 89 + 2,9),(100 * 56 + 4,1),(100 * 60 + 4,6),(100 * 60 + 5,9),(100 * 60 + 6,6)],[],sUnit,[],[]⟩
def TP_fail:Tree:=tO 0 <| .nd (.call 1 [.one (.v 0),.one (.v 1),.one (.v 5)] []) <| .ret [] []
theorem TP_fail_eq:fnS Tryz.prog cfP_fail [.one,.one] 64=some TP_fail:=by kernel_rfl
def qFail (g:Nat):Con0 Tryz.prog (QR g) g where
 f:=64
 sh:=sUnit
 W args _ σ K:=∃ (e:Int),args=[ptrV g,.int .i64 e]∧∀ h,OkS ⟨mfail e σ.s,h⟩→K [] [] ⟨mfail e σ.s,h⟩
 ok args ds σ w okk K hg hR hokk hda h1 hW:=by
  obtain ⟨e,rfl,hK⟩:=hW
  obtain ⟨s,h0⟩:=σ
  have hx:=hK
  try simp only [mfail] at hx
  refine fn_ok (cf:=cfP_fail) [(qTok g).x,(qFailAt g).x] rfl mixed QR.stable TP_fail_eq (W:=fun args' ds' σ' K'=>args'=[ptrV g,.int .i64 e]∧ds'=[]∧σ'=⟨s,h0⟩∧K'=K)
   (fun args ds σ K hW=>by obtain ⟨rfl,_⟩:=hW;exact ⟨rfl,rfl,trivial⟩) ?_ [ptrV g,.int .i64 e] [] ⟨s,h0⟩ w _ _ hg hR hokk (daOk_nil _ _ _) (by simp [Sx.flat,Value.cells,Value.oneCell']) ⟨rfl,rfl,rfl,rfl⟩
  rintro args ds σ' K' ⟨rfl,rfl,rfl,rfl⟩ _
  have hp0:=hR.1
  try simp only at hx
  show Tree.holds _ _ _ _ (⟨[ptrV g,.int .i64 e],[],[],⟨s,h0⟩⟩:Env QS)
  refine kc (h:=w_ptok ?_)
  try simp only [aS]
  refine kc (h:=w_pfailat fun h2 p2=>?_)
  try simp only [bS,↓reduceIte] at hx
  exact h_ret rfl rfl (hx _ p2)
theorem w_pfail {g:Nat} {K:List Value→List D→QS→Prop} {ds:List D} {s:RS} {h0:QH} {e:Int} (h:∀ h,OkS ⟨mfail e s,h⟩→K [] [] ⟨mfail e s,h⟩):(qFail g).W [ptrV g,.int .i64 e] ds ⟨s,h0⟩ K:=⟨e,rfl,h⟩
def cfP_is:Cfg:=⟨[(14,sTok)],[(100 * 100 + 6,8),(100 * 89 + 1,8),(100 * 89 + 2,9),(100 * 56 + 4,1),(100 * 60 + 4,6),(100 * 60 + 5,9),(100 * 60 + 6,6)],[],sOne,[],[]⟩
def TP_is:Tree:=tO 0 <| tW <| tQ 2 3 <| .ite 6 (.nd (.pv (.bin .eql) [.v 3,.v 1]) <| .ret [.v 7] []) (tQ 2 4 <| .ite 7 (.nd (.pv (.bin .eql) [.v 3,.v 1]) <| .ret [.v 8] []) (.ret [.c (.bool false)] []))
theorem TP_is_eq:fnS Tryz.prog cfP_is [.one,.one] 28=some TP_is:=by kernel_rfl
def qIs (g:Nat):Con0 Tryz.prog (QR g) g where
 f:=28
 sh:=sOne
 W args _ σ K:=∃ (x:List UInt8),args=[ptrV g,strB x]∧K [.bool (ris x σ.s)] [] σ
 ok args ds σ w okk K hg hR hokk hda h1 hW:=by
  obtain ⟨x,rfl,hK⟩:=hW
  obtain ⟨s,h0⟩:=σ
  have hx:=hK
  try simp only [ris,isT] at hx
  refine fn_ok (cf:=cfP_is) [(qTok g).x] rfl mixed QR.stable TP_is_eq (W:=fun args' ds' σ' K'=>args'=[ptrV g,strB x]∧ds'=[]∧σ'=⟨s,h0⟩∧K'=K)
   (fun args ds σ K hW=>by obtain ⟨rfl,_⟩:=hW;exact ⟨rfl,rfl,trivial⟩) ?_ [ptrV g,strB x] [] ⟨s,h0⟩ w _ _ hg hR hokk (daOk_nil _ _ _) (by simp [Sx.flat,Value.cells,Value.oneCell']) ⟨rfl,rfl,rfl,rfl⟩
  rintro args ds σ' K' ⟨rfl,rfl,rfl,rfl⟩ _
  have hp0:=hR.1
  try simp only at hx
  show Tree.holds _ _ _ _ (⟨[ptrV g,strB x],[],[],⟨s,h0⟩⟩:Env QS)
  refine kc (h:=w_ptok ?_)
  try simp only [aS]
  refine h_new fun g2=>?_
  refine h_pv rfl rfl ?_
  try simp only [aS]
  refine h_ite rfl (fun q4=>?_) (fun q4=>?_)
  ·skip
   try simp only [q4,bS,↓reduceIte] at hx
   refine h_pv rfl rfl ?_
   try simp only [aS]
   try simp only [q4,bS,↓reduceIte] at hx
   exact h_ret rfl rfl hx
  ·skip
   try simp only [q4,bS,↓reduceIte] at hx
   refine h_pv rfl rfl ?_
   try simp only [aS]
   refine h_ite rfl (fun q7=>?_) (fun q7=>?_)
   ·skip
    try simp only [q4,q7,bS,↓reduceIte] at hx
    refine h_pv rfl rfl ?_
    try simp only [aS]
    try simp only [q4,q7,bS,↓reduceIte] at hx
    exact h_ret rfl rfl hx
   ·skip
    try simp only [q4,q7,bS,↓reduceIte] at hx
    try simp only [q4,q7,bS,↓reduceIte] at hx
    exact h_ret rfl rfl hx
theorem w_pis {g:Nat} {K:List Value→List D→QS→Prop} {ds:List D} {s:RS} {h0:QH} {x:List UInt8} (h:K [.bool (ris x s)] [] ⟨s,h0⟩):(qIs g).W [ptrV g,strB x] ds ⟨s,h0⟩ K:=⟨x,rfl,h⟩
def cfP_eat:Cfg:=⟨[(28,sOne),(65,sTok)],[(100 * 100 + 6,8),(100 * 89 + 1,8),(100 * 89 + 2,9),(100 * 56 + 4,1),(100 * 60 + 4,6),(100 * 60 + 5,9),(100 * 60 + 6,6)],[],sOne,[],[]⟩
def TP_eat:Tree:=tV 0 1 <| tT 2 <| .ite 3 (.ret [.c (.bool false)] []) (tO 1 <| .ret [.c (.bool true)] [])
theorem TP_eat_eq:fnS Tryz.prog cfP_eat [.one,.one] 67=some TP_eat:=by kernel_rfl
def qEat (g:Nat):Con0 Tryz.prog (QR g) g where
 f:=67
 sh:=sOne
 W args _ σ K:=∃ (x:List UInt8),args=[ptrV g,strB x]∧∀ h,OkS ⟨(meat x σ.s).2,h⟩→K [.bool (meat x σ.s).1] [] ⟨(meat x σ.s).2,h⟩
 ok args ds σ w okk K hg hR hokk hda h1 hW:=by
  obtain ⟨x,rfl,hK⟩:=hW
  obtain ⟨s,h0⟩:=σ
  have hx:=hK
  try simp only [meat] at hx
  refine fn_ok (cf:=cfP_eat) [(qIs g).x,(qNext g).x] rfl mixed QR.stable TP_eat_eq (W:=fun args' ds' σ' K'=>args'=[ptrV g,strB x]∧ds'=[]∧σ'=⟨s,h0⟩∧K'=K)
   (fun args ds σ K hW=>by obtain ⟨rfl,_⟩:=hW;exact ⟨rfl,rfl,trivial⟩) ?_ [ptrV g,strB x] [] ⟨s,h0⟩ w _ _ hg hR hokk (daOk_nil _ _ _) (by simp [Sx.flat,Value.cells,Value.oneCell']) ⟨rfl,rfl,rfl,rfl⟩
  rintro args ds σ' K' ⟨rfl,rfl,rfl,rfl⟩ _
  have hp0:=hR.1
  try simp only at hx
  show Tree.holds _ _ _ _ (⟨[ptrV g,strB x],[],[],⟨s,h0⟩⟩:Env QS)
  refine kc (h:=w_pis ?_)
  try simp only [aS]
  refine h_pv rfl rfl ?_
  try simp only [aS]
  refine h_ite rfl (fun q3=>?_) (fun q3=>?_)
  ·skip
   simp only [nS] at q3
   try simp only [q3,bS,↓reduceIte] at hx
   try simp only [q3,bS,↓reduceIte] at hx
   exact h_ret rfl rfl (hx _ hp0)
  ·skip
   simp only [nS] at q3
   try simp only [q3,bS,↓reduceIte] at hx
   refine kc (h:=w_pnext fun h4 p4=>?_)
   try simp only [aS]
   try simp only [q3,bS,↓reduceIte] at hx
   exact h_ret rfl rfl (hx _ p4)
theorem w_peat {g:Nat} {K:List Value→List D→QS→Prop} {ds:List D} {s:RS} {h0:QH} {x:List UInt8} (h:∀ h,OkS ⟨(meat x s).2,h⟩→K [.bool (meat x s).1] [] ⟨(meat x s).2,h⟩):(qEat g).W [ptrV g,strB x] ds ⟨s,h0⟩ K:=⟨x,rfl,h⟩
def cfP_want:Cfg:=⟨[(67,sOne),(64,sUnit)],[(100 * 100 + 6,8),(100 * 89 + 1,8),(100 * 89 + 2,9),(100 * 56 + 4,1),(100 * 60 + 4,6),(100 * 60 + 5,9),(100 * 60 + 6,6)],[],sUnit,[],[]⟩
def TP_want:Tree:=tV 0 1 <| tT 2 <| .ite 3 (tI 1 4 <| .ret [] []) (.ret [] [])
theorem TP_want_eq:fnS Tryz.prog cfP_want [.one,.one] 70=some TP_want:=by kernel_rfl
def qWant (g:Nat):Con0 Tryz.prog (QR g) g where
 f:=70
 sh:=sUnit
 W args _ σ K:=∃ (x:List UInt8),args=[ptrV g,strB x]∧∀ h,OkS ⟨mwant x σ.s,h⟩→K [] [] ⟨mwant x σ.s,h⟩
 ok args ds σ w okk K hg hR hokk hda h1 hW:=by
  obtain ⟨x,rfl,hK⟩:=hW
  obtain ⟨s,h0⟩:=σ
  have hx:=hK
  try simp only [mwant] at hx
  refine fn_ok (cf:=cfP_want) [(qEat g).x,(qFail g).x] rfl mixed QR.stable TP_want_eq (W:=fun args' ds' σ' K'=>args'=[ptrV g,strB x]∧ds'=[]∧σ'=⟨s,h0⟩∧K'=K)
   (fun args ds σ K hW=>by obtain ⟨rfl,_⟩:=hW;exact ⟨rfl,rfl,trivial⟩) ?_ [ptrV g,strB x] [] ⟨s,h0⟩ w _ _ hg hR hokk (daOk_nil _ _ _) (by simp [Sx.flat,Value.cells,Value.oneCell']) ⟨rfl,rfl,rfl,rfl⟩
  rintro args ds σ' K' ⟨rfl,rfl,rfl,rfl⟩ _
  have hp0:=hR.1
  try simp only at hx
  show Tree.holds _ _ _ _ (⟨[ptrV g,strB x],[],[],⟨s,h0⟩⟩:Env QS)
  refine kc (h:=w_peat fun h1 p1=>?_)
  try simp only [aS]
  refine h_pv rfl rfl ?_
  try simp only [aS]
  refine h_ite rfl (fun q3=>?_) (fun q3=>?_)
  ·skip
   simp only [nS] at q3
   have z3:=meat_noS q3
   rw [z3] at p1
   rw [z3]
   try simp only [z3] at hx
   try simp only [q3,bS,↓reduceIte] at hx
   refine kc (h:=w_pfail fun h4 p4=>?_)
   try simp only [q3,bS,↓reduceIte] at hx
   exact h_ret rfl rfl (hx _ p4)
  ·skip
   simp only [nS] at q3
   try simp only [q3,bS,↓reduceIte] at hx
   try simp only [q3,bS,↓reduceIte] at hx
   exact h_ret rfl rfl (hx _ p1)
theorem w_pwant {g:Nat} {K:List Value→List D→QS→Prop} {ds:List D} {s:RS} {h0:QH} {x:List UInt8} (h:∀ h,OkS ⟨mwant x s,h⟩→K [] [] ⟨mwant x s,h⟩):(qWant g).W [ptrV g,strB x] ds ⟨s,h0⟩ K:=⟨x,rfl,h⟩
def cfP_kind:Cfg:=⟨[(14,sTok),(64,sUnit),(65,sTok)],[(100 * 100 + 6,8),(100 * 89 + 1,8),(100 * 89 + 2,9),(100 * 56 + 4,1),(100 * 60 + 4,6),(100 * 60 + 5,9),(100 * 60 + 6,6)],[],sTok,[],[]⟩
def TP_kind:Tree:=tW <| tO 0 <| .nd (.pv (.bin .neq) [.v 2,.v 1]) <| .ite 6 (tI 1 4 <| .ret [jI 0,jE,jI 0,jI 0] []) (tO 2 <| .ret [.v 7,.v 8,.v 9,.v 10] [])
theorem TP_kind_eq:fnS Tryz.prog cfP_kind [.one,.one] 27=some TP_kind:=by kernel_rfl
def qKind (g:Nat):Con0 Tryz.prog (QR g) g where
 f:=27
 sh:=sTok
 W args _ σ K:=∃ (k:Int),args=[ptrV g,.int .i64 k]∧∀ h,OkS ⟨(mkind k σ.s).2,h⟩→K (tokC (mkind k σ.s).1) [] ⟨(mkind k σ.s).2,h⟩
 ok args ds σ w okk K hg hR hokk hda h1 hW:=by
  obtain ⟨k,rfl,hK⟩:=hW
  obtain ⟨s,h0⟩:=σ
  have hx:=hK
  try simp only [mkind,bne] at hx
  refine fn_ok (cf:=cfP_kind) [(qTok g).x,(qFail g).x,(qNext g).x] rfl mixed QR.stable TP_kind_eq (W:=fun args' ds' σ' K'=>args'=[ptrV g,.int .i64 k]∧ds'=[]∧σ'=⟨s,h0⟩∧K'=K)
   (fun args ds σ K hW=>by obtain ⟨rfl,_⟩:=hW;exact ⟨rfl,rfl,trivial⟩) ?_ [ptrV g,.int .i64 k] [] ⟨s,h0⟩ w _ _ hg hR hokk (daOk_nil _ _ _) (by simp [Sx.flat,Value.cells,Value.oneCell']) ⟨rfl,rfl,rfl,rfl⟩
  rintro args ds σ' K' ⟨rfl,rfl,rfl,rfl⟩ _
  have hp0:=hR.1
  try simp only at hx
  show Tree.holds _ _ _ _ (⟨[ptrV g,.int .i64 k],[],[],⟨s,h0⟩⟩:Env QS)
  refine h_new fun g1=>?_
  refine kc (h:=w_ptok ?_)
  try simp only [aS]
  refine h_pv rfl rfl ?_
  try simp only [aS]
  refine h_ite rfl (fun q4=>?_) (fun q4=>?_)
  ·skip
   try simp only [q4,bS,↓reduceIte] at hx
   refine kc (h:=w_pfail fun h5 p5=>?_)
   try simp only [q4,bS,↓reduceIte] at hx
   exact h_ret rfl rfl (hx _ p5)
  ·skip
   try simp only [q4,bS,↓reduceIte] at hx
   refine kc (h:=w_pnext fun h6 p6=>?_)
   try simp only [aS]
   try simp only [q4,bS,↓reduceIte] at hx
   exact h_ret rfl rfl (hx _ p6)
theorem w_pkind {g:Nat} {K:List Value→List D→QS→Prop} {ds:List D} {s:RS} {h0:QH} {k:Int} (h:∀ h,OkS ⟨(mkind k s).2,h⟩→K (tokC (mkind k s).1) [] ⟨(mkind k s).2,h⟩):(qKind g).W [ptrV g,.int .i64 k] ds ⟨s,h0⟩ K:=⟨k,rfl,h⟩
def cfP_deep:Cfg:=⟨[(64,sUnit)],[(100 * 100 + 6,8),(100 * 89 + 1,8),(100 * 89 + 2,9),(100 * 56 + 4,1),(100 * 60 + 4,6),(100 * 60 + 5,9),(100 * 60 + 6,6)],[],sUnit,[],[]⟩
def TP_deep:Tree:=.nd (.pv (.bin .gtr) [.v 1,jI 20]) <| .ite 2 (tI 0 2 <| .ret [] []) (.ret [] [])
theorem TP_deep_eq:fnS Tryz.prog cfP_deep [.one,.one] 84=some TP_deep:=by kernel_rfl
def qDeep (g:Nat):Con0 Tryz.prog (QR g) g where
 f:=84
 sh:=sUnit
 W args _ σ K:=∃ (d:Int),args=[ptrV g,.int .i64 d]∧∀ h,OkS ⟨mdeep d σ.s,h⟩→K [] [] ⟨mdeep d σ.s,h⟩
 ok args ds σ w okk K hg hR hokk hda h1 hW:=by
  obtain ⟨d,rfl,hK⟩:=hW
  obtain ⟨s,h0⟩:=σ
  have hx:=hK
  try simp only [mdeep] at hx
  refine fn_ok (cf:=cfP_deep) [(qFail g).x] rfl mixed QR.stable TP_deep_eq (W:=fun args' ds' σ' K'=>args'=[ptrV g,.int .i64 d]∧ds'=[]∧σ'=⟨s,h0⟩∧K'=K)
   (fun args ds σ K hW=>by obtain ⟨rfl,_⟩:=hW;exact ⟨rfl,rfl,trivial⟩) ?_ [ptrV g,.int .i64 d] [] ⟨s,h0⟩ w _ _ hg hR hokk (daOk_nil _ _ _) (by simp [Sx.flat,Value.cells,Value.oneCell']) ⟨rfl,rfl,rfl,rfl⟩
  rintro args ds σ' K' ⟨rfl,rfl,rfl,rfl⟩ _
  have hp0:=hR.1
  try simp only at hx
  show Tree.holds _ _ _ _ (⟨[ptrV g,.int .i64 d],[],[],⟨s,h0⟩⟩:Env QS)
  refine h_pv rfl rfl ?_
  try simp only [aS]
  refine h_ite rfl (fun q2=>?_) (fun q2=>?_)
  ·skip
   have qd:=of_decide_eq_true q2
   rw [if_pos qd] at hx
   try simp only [q2,bS,↓reduceIte] at hx
   refine kc (h:=w_pfail fun h3 p3=>?_)
   try simp only [q2,bS,↓reduceIte] at hx
   exact h_ret rfl rfl (hx _ p3)
  ·skip
   have qd:=of_decide_eq_false q2
   rw [if_neg qd] at hx
   try simp only [q2,bS,↓reduceIte] at hx
   try simp only [q2,bS,↓reduceIte] at hx
   exact h_ret rfl rfl (hx _ hp0)
theorem w_pdeep {g:Nat} {K:List Value→List D→QS→Prop} {ds:List D} {s:RS} {h0:QH} {d:Int} (h:∀ h,OkS ⟨mdeep d s,h⟩→K [] [] ⟨mdeep d s,h⟩):(qDeep g).W [ptrV g,.int .i64 d] ds ⟨s,h0⟩ K:=⟨d,rfl,h⟩
end Go.Proofs.YtdmacgoeikjdbaaGreatDoor

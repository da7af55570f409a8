/- The program's parser: an item (symbolic execution). Printed by wip/sx/ -/
import Derived.Test.YtdmacgoeikjdbaaGreatDoorL30
import Derived.Test.YtdmacgoeikjdbaaGreatDoorL20
import Derived.Test.YtdmacgoeikjdbaaGreatDoorL04
set_option linter.unusedSimpArgs false
set_option linter.unusedVariables false
set_option maxHeartbeats 16000000
namespace Go.Proofs.YtdmacgoeikjdbaaGreatDoor
open Go.RowKit Sx
abbrev sItem:Shp:=⟨2,.tup [],[(0,6),(1,8)],[(1,6),(2,8)],[(1,27,2)],[(0,56),(1,60)],[(0,56),(1,60)]⟩
def qGlobal (g:Nat):Con Tryz.prog (QR g) g where
 f:=29
 sh:=sGlob
 W args ds σ K:=∃ f,GlW g f args ds σ K
 ok args largs bl ds σ w okk X K hG hR hok hX hbl hio hda h1 hW:=by
  obtain ⟨f,hW⟩:=hW
  exact mglobal_any f g args largs bl ds σ w okk X K hG hR hok hX hbl hio hda h1 hW
theorem w_pglobal {g f:Nat} {K:List Value→List D→QS→Prop} {s s':RS} {h0:QH} {u u':Un} {nm:List UInt8} {ty:Ty} {p:Int} {Ag Af:Option Addr} {cg cf:Nat} (hx:mglobal f u nm ty p s=some (u',s')) (hF:f≤900000) (hu:u.globals.length≤16)
  (h:∀ Ag' cg' Af' cf' h,OkS ⟨s',h⟩→K [.slice Ag' u'.globals.length cg',.slice Af' u'.funcs.length cf'] [desD u'.globals,fusD u'.funcs] ⟨s',h⟩) :
  (qGlobal g).W [ptrV g,.agg #[.slice Ag u.globals.length cg,.slice Af u.funcs.length cf],.agg #[strB nm,.int .i64 ty.kind,.int .i64 ty.ptr,.int .i64 ty.len,.slice none 0 0,.int .i64 p]] [desD u.globals,fusD u.funcs,.lst 1 []] ⟨s,h0⟩ K:=
 ⟨f,u,u',nm,ty,p,s',Ag,Af,cg,cf,rfl,rfl,hx,hF,hu,h⟩
abbrev ItW (g:Nat) (f:Nat) (args:List Value) (ds:List D) (σ:QS) (K:List Value→List D→QS→Prop):Prop:=∃ (u u':Un) (s':RS) (Ag Af:Option Addr) (cg cf:Nat),
 args=[ptrV g,.agg #[.slice Ag u.globals.length cg,.slice Af u.funcs.length cf]]∧ds=[desD u.globals,fusD u.funcs]∧mitem f u σ.s=some (u',s')∧f≤900000∧u.globals.length≤16∧u.funcs.length≤8 ∧
 ∀ Ag' cg' Af' cf' h,OkS ⟨s',h⟩→K [.slice Ag' u'.globals.length cg',.slice Af' u'.funcs.length cf'] [desD u'.globals,fusD u'.funcs] ⟨s',h⟩
def cfP_item:Cfg:=⟨[(26,sTy),(27,sTok),(13,sOne),(28,sOne),(29,sGlob),(30,sUnit),(31,sDes),(32,sSts)],[(100 * 100 + 6,8),(100 * 89 + 1,8),(100 * 89 + 2,9),(100 * 56 + 4,1),(100 * 60 + 4,6),(100 * 60 + 5,9),(100 * 60 + 6,6)],[],sItem,[],[]⟩
def TP_item_18:Tree:=tO 6 <| tW <| tI 7 1 <| tB 8 1 [[jL 7,jL 3,jL 4,jL 5,jD 15 2,jD 16 3,jP 6,jL 9]] <| tU 8 1 4 <| .ret [.v 1,.v 18] [jD 1 0,jD 18 5]
def TP_item_24:Tree:=tW <| tO 6 <| tI 7 1 <| tB 8 1 [[jL 7,jL 3,jL 4,jL 5,jD 15 2,jD 16 3,jP 6,jL 9]] <| tU 8 1 4 <| .ret [.v 1,.v 18] [jD 1 0,jD 18 5]
def Z37:Tree:=tS 3 [40] <| tT 11 <| .ite 12 (.nd (.call 4 [.one (.v 0),.agg [.v 1,.v 2],.agg [.v 7,.v 3,.v 4,.v 5,jN,.v 9]] [jD 1 0,jD 2 1,jP 1]) <| .ret [.v 13,.v 14] [jD 13 2,jD 14 3]) (.nd (.pv .len [.v 2]) <| tQ 13 8 <| .ite 14 (.nd (.call 5 [.one (.v 0),.one (jI 2),.one (.v 9)] []) <| .ret [.v 1,.v 2] [jD 1 0,jD 2 1]) (.both TP_item_18 TP_item_24))
def TP_item:Tree:=tO 0 <| tW <| tI 1 1 <| tW <| tO 2 <| .ite 10 (.ret [.v 1,.v 2] [jD 1 0,jD 2 1]) Z37
theorem TP_item_eq:fnS Tryz.prog cfP_item [.one,.ptr 27 2] 15=some TP_item:=by kernel_rfl
theorem mitem_any (F:Nat) (g:Nat) (args largs:List Value) (bl:List Nat) (ds:List D) (σ:QS) (w:World) (okk X:Nat→Prop) (K:List Value→List D→QS→Prop)
  (hG:g<w.heap.size) (hR:QR g σ w) (hok:∀ k,okk k→g<k∧¬ X k) (hX:∀ k,X k→g<k∧k<w.heap.size) (hbl:bl.Nodup) (hio:IoIn w X sItem.pt bl args largs) (hda:DaOw w okk (fun k=>X k∧k ∉ bl) (Sx.flat largs) sItem.da sItem.ao ds) (h1:∀ u ∈ Sx.flat largs,u.oneCell'=true) (hW:ItW g F largs ds σ K) :
  Calls Tryz.prog 15 args.toArray w (PostX g sItem okk X bl w K):=by
 obtain ⟨s,h0⟩:=σ
 refine fn_okX (cf:=cfP_item) [(qTyp g).x,(qKind g).x,(qBad g).x,(qIs g).x,(qGlobal g),(qFailAt g).x,(qParams g).x,(qBlock1 g).x] rfl mixed QR.stable TP_item_eq (W:=fun a' d' σ' K'=>a'=largs∧d'=ds∧σ'=⟨s,h0⟩∧K'=K)
  (fun a' d' σ' K' h=>by obtain ⟨rfl,_⟩:=h;obtain ⟨u,u',s',Ag,Af,cg,cf,rfl,_⟩:=hW;exact ⟨rfl,⟨_,rfl,rfl⟩,trivial⟩) ?_ args largs bl ds ⟨s,h0⟩ w okk X K hG hR hok hX hbl hio hda h1 ⟨rfl,rfl,rfl,rfl⟩
 rintro a' d' σ' K' bl' ⟨rfl,rfl,rfl,rfl⟩ _ hbl'
 obtain ⟨u,u',s',Ag,Af,cg,cf,rfl,rfl,hx,hF,hug,huf,hK'⟩:=hW
 obtain ⟨b,rfl⟩:∃ b,bl'=[b]:=by
  rcases bl' with _ | ⟨b,_ | ⟨c,l⟩⟩
  ·cases hbl'
  ·exact ⟨b,rfl⟩
  ·cases hbl'
 have hK:∀ vs ds σ',((∃ A c B e,vs=[.slice A u'.globals.length c,.slice B u'.funcs.length e])∧ds=[desD u'.globals,fusD u'.funcs]∧σ'.s=s'∧OkS σ')→K' vs ds σ':=fun vs ds σ' h=>by
  obtain ⟨⟨A,c,B,e,rfl⟩,rfl,rfl,h3⟩:=h
  exact hK' A c B e _ h3
 have hp0:=hR.1
 clear hda hio h1 hok hX hR hbl
 rw [mitem] at hx
 show Tree.holds _ _ _ _ (⟨Sx.flat [ptrV g,.agg #[.slice Ag u.globals.length cg,.slice Af u.funcs.length cf]],[b],[desD u.globals,fusD u.funcs],⟨s,h0⟩⟩:Env QS)
 simp only [Sx.flat,Value.cells,List.flatMap_cons,List.flatMap_nil,List.append_nil,List.cons_append,List.nil_append,Array.toList]
 refine kc (h:=w_ptyp fun h1 p1=>?_)
 try simp only [aS,List.length_nil]
 refine h_new fun g2=>?_
 refine kc (h:=w_pkind fun h3 p3=>?_)
 try simp only [aS,List.length_nil]
 refine h_new fun g4=>?_
 refine kc (h:=w_pbad ?_)
 try simp only [aS,List.length_nil]
 refine h_ite rfl (fun q6=>?_) (fun q6=>?_)
 ·skip
  try simp only [Bool.not_eq_true',Bool.not_eq_false'] at q6
  try simp only [q6,bS,↓reduceIte] at hx
  try simp only [q6,bS,↓reduceIte] at hx
  obtain ⟨rfl,rfl⟩:=sP hx
  refine kr (h:=?_)
  refine hK _ _ _ ⟨⟨Ag,cg,Af,cf,?_⟩,?_,rfl,p3⟩
  ·first | rfl | (simp only [List.length_append,List.length_map];rfl)
  ·first | rfl | (simp [desD,fusD,stsD,encDe,encFn];done) | (simp [desD,fusD,stsD,encDe,encFn];rfl)
 ·skip
  try simp only [Bool.not_eq_true',Bool.not_eq_false'] at q6
  try simp only [q6,bS,↓reduceIte] at hx
  refine kc (h:=w_pis ?_)
  try simp only [aS,List.length_nil]
  refine h_pv rfl rfl ?_
  try simp only [aS,List.length_nil]
  refine h_ite rfl (fun q9=>?_) (fun q9=>?_)
  ·skip
   simp only [nS] at q9
   try simp only [q6,q9,bS,↓reduceIte] at hx
   try simp only [q6,q9,bS,↓reduceIte] at hx
   refine kC (h:=w_pglobal hx hF hug fun A10 c10 B10 d10 h10 p10=>?_)
   try simp only [aS,List.length_nil]
   refine kr (h:=?_)
   exact hK _ _ _ ⟨⟨_,_,_,_,rfl⟩,rfl,rfl,p10⟩
  ·skip
   simp only [nS] at q9
   try simp only [q6,q9,bS,↓reduceIte] at hx
   refine h_pv rfl rfl ?_
   try simp only [aS,List.length_nil]
   refine h_pv rfl rfl ?_
   try simp only [aS,List.length_nil]
   refine h_ite rfl (fun q13=>?_) (fun q13=>?_)
   ·skip
    try dsimp only at q13
    have qn:u.funcs.length=8:=by have:=q13;simp at this;omega
    rw [if_pos qn] at hx
    try simp only [q6,q9,q13,bS,↓reduceIte] at hx
    refine kc (h:=w_pfailat fun h14 p14=>?_)
    try simp only [q6,q9,q13,bS,↓reduceIte] at hx
    obtain ⟨rfl,rfl⟩:=sP hx
    refine kr (h:=?_)
    refine hK _ _ _ ⟨⟨Ag,cg,Af,cf,?_⟩,?_,rfl,p14⟩
    ·first | rfl | (simp only [List.length_append,List.length_map];rfl)
    ·first | rfl | (simp [desD,fusD,stsD,encDe,encFn];done) | (simp [desD,fusD,stsD,encDe,encFn];rfl)
   ·skip
    try dsimp only at q13
    have qn:¬ u.funcs.length=8:=by have:=q13;simp at this;omega
    rw [if_neg qn] at hx
    try simp only [q6,q9,q13,bS,↓reduceIte] at hx
    refine h_both ?_ ?_
    ·unfold TP_item_18
     try simp only [q6,q9,q13,bS,↓reduceIte] at hx
     obtain ⟨⟨x15,s15⟩,e15,hx⟩:=Option.bind_eq_some_iff.1 hx
     simp only at hx
     refine kc (h:=w_pparams (f:=F) e15 fun A15 c15 h15 p15=>?_)
     try simp only [aS,List.length_nil]
     refine h_new fun g16=>?_
     try simp only [q6,q9,q13,bS,↓reduceIte] at hx
     obtain ⟨⟨x17,s17⟩,e17,hx⟩:=Option.bind_eq_some_iff.1 hx
     simp only at hx
     refine kc (h:=w_pblock1 (f:=F) e17 ⟨by omega,by omega⟩ fun A17 c17 h17 p17=>?_)
     try simp only [aS,List.length_nil]
     refine kb (h:=fun g18=>?_)
     try simp only [aS,List.length_nil]
     refine h_app rfl rfl (by simp only [List.length_map,List.length_cons,List.length_nil];omega) fun A19 c19=>?_
     try simp only [aS,List.length_nil]
     try simp only [q6,q9,q13,bS,↓reduceIte] at hx
     obtain ⟨rfl,rfl⟩:=sP hx
     refine kr (h:=?_)
     refine hK _ _ _ ⟨⟨Ag,cg,A19,c19,?_⟩,?_,rfl,p17⟩
     ·first | rfl | (simp only [List.length_append,List.length_map];rfl)
     ·first | rfl | (simp [desD,fusD,stsD,encDe,encFn];done) | (simp [desD,fusD,stsD,encDe,encFn];rfl)
    ·unfold TP_item_24
     refine h_new fun g20=>?_
     try simp only [q6,q9,q13,bS,↓reduceIte] at hx
     obtain ⟨⟨x21,s21⟩,e21,hx⟩:=Option.bind_eq_some_iff.1 hx
     simp only at hx
     refine kc (h:=w_pparams (f:=F) e21 fun A21 c21 h21 p21=>?_)
     try simp only [aS,List.length_nil]
     try simp only [q6,q9,q13,bS,↓reduceIte] at hx
     obtain ⟨⟨x22,s22⟩,e22,hx⟩:=Option.bind_eq_some_iff.1 hx
     simp only at hx
     refine kc (h:=w_pblock1 (f:=F) e22 ⟨by omega,by omega⟩ fun A22 c22 h22 p22=>?_)
     try simp only [aS,List.length_nil]
     refine kb (h:=fun g23=>?_)
     try simp only [aS,List.length_nil]
     refine h_app rfl rfl (by simp only [List.length_map,List.length_cons,List.length_nil];omega) fun A24 c24=>?_
     try simp only [aS,List.length_nil]
     try simp only [q6,q9,q13,bS,↓reduceIte] at hx
     obtain ⟨rfl,rfl⟩:=sP hx
     refine kr (h:=?_)
     refine hK _ _ _ ⟨⟨Ag,cg,A24,c24,?_⟩,?_,rfl,p22⟩
     ·first | rfl | (simp only [List.length_append,List.length_map];rfl)
     ·first | rfl | (simp [desD,fusD,stsD,encDe,encFn];done) | (simp [desD,fusD,stsD,encDe,encFn];rfl)
end Go.Proofs.YtdmacgoeikjdbaaGreatDoor
namespace Go.Proofs.YtdmacgoeikjdbaaGreatDoor
open Go.RowKit Sx
theorem mglobal_len {f:Nat} {u u':Un} {nm:List UInt8} {t:Ty} {p:Int} {s s':RS} (hx:mglobal f u nm t p s=some (u',s')) (h1:u.funcs.length≤8) (h2:u.globals.length≤16):u'.funcs.length≤8∧u'.globals.length≤16:=by
 unfold mglobal at hx
 simp only at hx
 split at hx
 ·cases hx;exact ⟨h1,h2⟩
 split at hx
 ·split at hx
  ·obtain ⟨v,_,hx⟩:=Option.bind_eq_some_iff.1 hx
   cases hx
   exact ⟨h1,by simp;omega⟩
  ·cases hx
   exact ⟨h1,by simp;omega⟩
 ·cases hx
  exact ⟨h1,by simp;omega⟩
theorem mitem_len {f:Nat} {u u':Un} {s s':RS} (hx:mitem f u s=some (u',s')) (h1:u.funcs.length≤8) (h2:u.globals.length≤16):u'.funcs.length≤8∧u'.globals.length≤16:=by
 unfold mitem at hx
 simp only at hx
 split at hx
 ·cases hx;exact ⟨h1,h2⟩
 split at hx
 ·exact mglobal_len hx h1 h2
 split at hx
 ·cases hx;exact ⟨h1,h2⟩
 ·obtain ⟨p,_,hx⟩:=Option.bind_eq_some_iff.1 hx
  obtain ⟨b,_,hx⟩:=Option.bind_eq_some_iff.1 hx
  cases hx
  exact ⟨by simp;omega,h2⟩
theorem witem_any (u u':Un) (s s':RS) (g gu:Nat) (gv fv:Value) (w:World) (h:QH) (hx:mitem 900000 u s=some (u',s')) (hr:QR g ⟨s,h⟩ w) (hb:BlkIs w gu 27 #[gv,fv]) (hu:UOk w gu gv fv u) (hg:g<gu) (hn1:u.funcs.length≤8) (hn2:u.globals.length≤16) :
  Calls Tryz.prog 15 #[ptrV g,.pointer (some ⟨gu,0,none⟩)] w (fun e w'=>e=.returned (.tuple #[])∧∃ gv' fv' h',QR g ⟨s',h'⟩ w'∧BlkIs w' gu 27 #[gv',fv']∧UOk w' gu gv' fv' u'∧KeepX (fun k=>k=g ∨ UX gu gv fv k) w w'):=by
 obtain ⟨Ag,cg,rfl⟩:∃ A c,gv=.slice A u.globals.length c:=by
  obtain ⟨_,A,c,h⟩:=own_one hu.ga
  exact ⟨A,c,by rw [h,List.length_map]⟩
 obtain ⟨Af,cf,rfl⟩:∃ A c,fv=.slice A u.funcs.length c:=by
  obtain ⟨_,A,c,h⟩:=own_one hu.fa
  exact ⟨A,c,by rw [h,List.length_map]⟩
 obtain ⟨gv,hgv⟩:∃ v,v=Value.slice Ag u.globals.length cg:=⟨_,rfl⟩
 obtain ⟨fv,hfv⟩:∃ v,v=Value.slice Af u.funcs.length cf:=⟨_,rfl⟩
 have hxg:∀ k,UX gu gv fv k→g<k∧k<w.heap.size:=fun k hk=>by
  rw [hgv,hfv] at hk
  rcases hk with rfl | hk | hk
  ·exact ⟨hg,hb.lt⟩
  ·exact ⟨by have:=hu.gg k hk;omega,own_lt_size hu.ga hk⟩
  ·exact ⟨by have:=hu.gf k hk;omega,own_lt_size hu.fa hk⟩
 have hokk:∀ k,(gu<k∧gv.ownBlock ≠ some k∧fv.ownBlock ≠ some k)→g<k∧¬ UX gu gv fv k:=fun k hk=>⟨by omega,fun hx=>by
  rcases hx with rfl | hx | hx
  ·omega
  ·exact hk.2.1 hx
  ·exact hk.2.2 hx⟩
 rw [← hgv,← hfv] at hu hb ⊢
 refine (mitem_any 900000 g [ptrV g,.pointer (some ⟨gu,0,none⟩)] [ptrV g,.agg #[gv,fv]] [gu] [desD u.globals,fusD u.funcs] ⟨s,h⟩ w (fun k=>gu<k∧gv.ownBlock ≠ some k∧fv.ownBlock ≠ some k) (UX gu gv fv)
  (fun vs ds σ=>(∃ A c B e,vs=[.slice A u'.globals.length c,.slice B u'.funcs.length e])∧ds=[desD u'.globals,fusD u'.funcs]∧σ.s=s'∧OkS σ) hr.lt hr hokk hxg (by simp) ?_ ?_ ?_ ?_).mono ?_
 ·exact ⟨.inl rfl,rfl,[gv,fv],rfl,hb,[ptrV g,.pointer (some ⟨gu,0,none⟩)],rfl,by simp,rfl⟩
 ·refine ⟨rfl,?_,?_⟩
  ·intro j x d hj hd
   have hj2:j=0 ∨ j=1:=by
    have h1:=(List.getElem?_eq_some_iff.1 hj).1
    have h2:j<2:=h1
    omega
   rcases hj2 with rfl | rfl
   ·cases hj
    cases hd
    exact ⟨gv,rfl,_,rfl,hu.ga,fun k hk=>⟨.inr (.inl hk),by have:=hu.gg k hk;simp;omega⟩⟩
   ·cases hj
    cases hd
    exact ⟨fv,rfl,_,rfl,hu.fa,fun k hk=>⟨.inr (.inr hk),by have:=hu.gf k hk;simp;omega⟩⟩
  ·intro j j' x x' v v' k hj hj' _ _ hv hv' hk hk'
   have hj2:∀ j (x:Nat × Nat),sItem.da[j]?=some x→j=0∧x=(1,6) ∨ j=1∧x=(2,8):=fun j x hj=>by
    have h1:=(List.getElem?_eq_some_iff.1 hj).1
    have h2:j<2:=h1
    have:j=0 ∨ j=1:=by omega
    rcases this with rfl | rfl
    ·cases hj;exact .inl ⟨rfl,rfl⟩
    ·cases hj;exact .inr ⟨rfl,rfl⟩
   rcases hj2 j x hj with ⟨rfl,rfl⟩ | ⟨rfl,rfl⟩ <;> rcases hj2 j' x' hj' with ⟨rfl,rfl⟩ | ⟨rfl,rfl⟩
   ·rfl
   ·cases hv;cases hv'
    exact absurd hk' (hu.ne k hk)
   ·cases hv;cases hv'
    exact absurd hk (hu.ne k hk')
   ·rfl
 ·intro x hx
  simp [Sx.flat,Value.cells] at hx
  rcases hx with hx | hx
  ·rw [hx];rfl
  ·rcases hx with hx | hx <;> rw [hx]
   ·rw [hgv];rfl
   ·rw [hfv];rfl
 ·exact ⟨u,u',s',Ag,Af,cg,cf,by rw [hgv,hfv],rfl,hx,Nat.le_refl _,hn2,hn1,fun Ag' cg' Af' cf' h ho=>⟨⟨_,_,_,_,rfl⟩,rfl,rfl,ho⟩⟩
 ·rintro e w' ⟨vs,ds',σ',r,X',⟨⟨A,c,B,d,rfl⟩,rfl,hs,ho⟩,hret,he,_,_,_,hR,hk,hio,hX',hda⟩
  have hret:some (Value.tuple #[])=some r:=hret
  injection hret with hret
  subst hret
  obtain ⟨s2,h2⟩:=σ'
  have hs:s2=s':=hs
  subst hs
  have hbz:BlkIs w' gu 27 #[.slice A u'.globals.length c,.slice B u'.funcs.length d]:=hio.1
  obtain ⟨v0,hv0,l0,hl0,ho0,hx0⟩:=hda.2.1 0 (0,6) (desD u'.globals) rfl rfl
  obtain ⟨v1,hv1,l1,hl1,ho1,hx1⟩:=hda.2.1 1 (1,8) (fusD u'.funcs) rfl rfl
  have hd:=hda.2.2 0 1 (0,6) (1,8) v0 v1
  cases hv0
  cases hv1
  have hl0:D.lst 6 (u'.globals.map encDe)=D.lst 6 l0:=hl0
  have hl1:D.lst 8 (u'.funcs.map encFn)=D.lst 8 l1:=hl1
  injection hl0 with _ hl0
  injection hl1 with _ hl1
  subst hl0 hl1
  have hgu:=hb.lt
  have big:∀ k,((gu<k∧gv.ownBlock ≠ some k∧fv.ownBlock ≠ some k) ∨ UX gu gv fv k ∨ w.heap.size≤k)→k ∉ [gu]→gu<k:=fun k hk hn=>by
   rcases hk with hk | hk | hk
   ·exact hk.1
   ·rcases hk with rfl | hk | hk
    ·exact absurd (by simp) hn
    ·exact hu.gg k hk
    ·exact hu.gf k hk
   ·omega
  have own:∀ k,X' k→gu<k:=fun k hk=>by
   obtain ⟨h1,h2⟩:=hX' k hk
   rcases h1 with h1 | h1
   ·exact big k (.inr (.inl h1)) h2
   ·omega
  have imp:∀ k,((gu<k∧gv.ownBlock ≠ some k∧fv.ownBlock ≠ some k) ∨ UX gu gv fv k ∨ w.heap.size≤k)∧¬ X' k∧k ∉ [gu]→k<w'.heap.size→gu<k∧(Value.slice A u'.globals.length c).ownBlock ≠ some k∧(Value.slice B u'.funcs.length d).ownBlock ≠ some k:=fun k hk _=>⟨big k hk.1 hk.2.2,fun e=>hk.2.1 (hx0 k e),fun e=>hk.2.1 (hx1 k e)⟩
  refine ⟨he,_,_,h2,hR,hbz,⟨ho0.imp imp,ho1.imp imp,fun k hk=>own k (hx0 k hk),fun k hk=>own k (hx1 k hk),fun k hk hk2=>?_⟩,hk⟩
  have:=hd k rfl rfl rfl rfl rfl rfl hk hk2
  omega
end Go.Proofs.YtdmacgoeikjdbaaGreatDoor

/- The program's parser: signs and words asked for (symbolic execution). -/
import Derived.Test.YtdmacgoeikjdbaaGreatDoorK36
import Derived.BigQuiet
import Derived.Deep.QuietTactic
import Derived.Outline
set_option linter.unusedSimpArgs false
set_option linter.unusedVariables false
set_option maxHeartbeats 8000000
namespace Go.Proofs.YtdmacgoeikjdbaaGreatDoor
open Go.RowKit Sx
theorem meat_noS {x:List UInt8} {s:RS} (h:(meat x s).1=false):(meat x s).2=s:=by
 unfold meat at h ⊢
 cases hb:ris x s
 ·rfl
 ·rw [hb] at h;cases h
def qFailAt (g:Nat):Con0 Tryz.prog (QR g) g where
 f:=30
 sh:=sUnit
 W args _ σ K:=∃ (e p:Int),args=[ptrV g,.int .i64 e,.int .i64 p]∧∀ h,OkS ⟨mfailAt e p σ.s,h⟩→K [] [] ⟨mfailAt e p σ.s,h⟩
 ok args ds σ w okk K hg hR _ _ _ hW:=by
  obtain ⟨e,p,rfl,hK⟩:=hW
  exact do_postP (mfailAt_any g σ e p w hR) hK rfl rfl rfl (by simp)
def qNext (g:Nat):Con0 Tryz.prog (QR g) g where
 f:=65
 sh:=sTok
 W args _ σ K:=args=[ptrV g]∧∀ h,OkS ⟨mnext σ.s,h⟩→K (tokC (hdT σ.s.ts)) [] ⟨mnext σ.s,h⟩
 ok args ds σ w okk K hg hR _ _ _ hW:=by
  obtain ⟨rfl,hK⟩:=hW
  exact do_postP (mnext_any g σ w hR) hK rfl rfl rfl (by simp [tokC,strV8,Value.oneCell'])
section
variable {g:Nat} {K:List Value→List D→QS→Prop} {ds:List D} {s:RS} {h0:QH}
theorem w_pfailat {e p:Int} (h:∀ h,OkS ⟨mfailAt e p s,h⟩→K [] [] ⟨mfailAt e p s,h⟩):(qFailAt g).W [ptrV g,.int .i64 e,.int .i64 p] ds ⟨s,h0⟩ K:=⟨e,p,rfl,h⟩
theorem w_pnext (h:∀ h,OkS ⟨mnext s,h⟩→K (tokC (hdT s.ts)) [] ⟨mnext s,h⟩):(qNext g).W [ptrV g] ds ⟨s,h0⟩ K:=⟨rfl,h⟩
end
def cfP_fail:Cfg:=⟨[(14,sTok),(30,sUnit)],[(100 * 100 + 6,8),(100 * 89 + 1,8),(100 * 89 + 2,9),(100 * 56 + 4,1),(100 * 60 + 4,6),(100 * 60 + 5,9),(100 * 60 + 6,6)],[],sUnit,[],[]⟩
def TP_fail:Tree:=tO 0 <| .nd (.call 1 [.one (.v 0),.one (.v 1),.one (.v 5)] []) <| .ret [] []
theorem TP_fail_eq:fnS Tryz.prog cfP_fail [.one,.one] 64=some TP_fail:=by kernel_rfl
def qFail (g:Nat):Con0 Tryz.prog (QR g) g where
 f:=64
 sh:=sUnit
 W args _ σ K:=∃ (e:Int),args=[ptrV g,.int .i64 e]∧∀ h,OkS ⟨mfail e σ.s,h⟩→K [] [] ⟨mfail e σ.s,h⟩
 ok args ds σ w okk K hg hR hokk hda h1 hW:=by
  obtain ⟨e,rfl,hK⟩:=hW
  obtain ⟨s,h0⟩:=σ
  have hx:=hK
  try simp only [mfail] at hx
  refine fn_ok (cf:=cfP_fail) [(qTok g).x,(qFailAt g).x] rfl mixed QR.stable TP_fail_eq (W:=fun args' ds' σ' K'=>args'=[ptrV g,.int .i64 e]∧ds'=[]∧σ'=⟨s,h0⟩∧K'=K)
   (fun args ds σ K hW=>by obtain ⟨rfl,_⟩:=hW;exact ⟨rfl,rfl,trivial⟩) ?_ [ptrV g,.int .i64 e] [] ⟨s,h0⟩ w _ _ hg hR hokk (daOk_nil _ _ _) (by simp [Sx.flat,Value.cells,Value.oneCell']) ⟨rfl,rfl,rfl,rfl⟩
  rintro args ds σ' K' ⟨rfl,rfl,rfl,rfl⟩ _
  have hp0:=hR.1
  try simp only at hx
  show Tree.holds _ _ _ _ (⟨[ptrV g,.int .i64 e],[],[],⟨s,h0⟩⟩:Env QS)
  refine kc (h:=w_ptok ?_)
  try simp only [aS]
  refine kc (h:=w_pfailat fun h2 p2=>?_)
  try simp only [bS,↓reduceIte] at hx
  exact h_ret rfl rfl (hx _ p2)
theorem w_pfail {g:Nat} {K:List Value→List D→QS→Prop} {ds:List D} {s:RS} {h0:QH} {e:Int} (h:∀ h,OkS ⟨mfail e s,h⟩→K [] [] ⟨mfail e s,h⟩):(qFail g).W [ptrV g,.int .i64 e] ds ⟨s,h0⟩ K:=⟨e,rfl,h⟩
def cfP_is:Cfg:=⟨[(14,sTok)],[(100 * 100 + 6,8),(100 * 89 + 1,8),(100 * 89 + 2,9),(100 * 56 + 4,1),(100 * 60 + 4,6),(100 * 60 + 5,9),(100 * 60 + 6,6)],[],sOne,[],[]⟩
def TP_is:Tree:=tO 0 <| tW <| tQ 2 3 <| .ite 6 (.nd (.pv (.bin .eql) [.v 3,.v 1]) <| .ret [.v 7] []) (tQ 2 4 <| .ite 7 (.nd (.pv (.bin .eql) [.v 3,.v 1]) <| .ret [.v 8] []) (.ret [.c (.bool false)] []))
theorem TP_is_eq:fnS Tryz.prog cfP_is [.one,.one] 28=some TP_is:=by kernel_rfl
def qIs (g:Nat):Con0 Tryz.prog (QR g) g where
 f:=28
 sh:=sOne
 W args _ σ K:=∃ (x:List UInt8),args=[ptrV g,strB x]∧K [.bool (ris x σ.s)] [] σ
 ok args ds σ w okk K hg hR hokk hda h1 hW:=by
  obtain ⟨x,rfl,hK⟩:=hW
  obtain ⟨s,h0⟩:=σ
  have hx:=hK
  try simp only [ris,isT] at hx
  refine fn_ok (cf:=cfP_is) [(qTok g).x] rfl mixed QR.stable TP_is_eq (W:=fun args' ds' σ' K'=>args'=[ptrV g,strB x]∧ds'=[]∧σ'=⟨s,h0⟩∧K'=K)
   (fun args ds σ K hW=>by obtain ⟨rfl,_⟩:=hW;exact ⟨rfl,rfl,trivial⟩) ?_ [ptrV g,strB x] [] ⟨s,h0⟩ w _ _ hg hR hokk (daOk_nil _ _ _) (by simp [Sx.flat,Value.cells,Value.oneCell']) ⟨rfl,rfl,rfl,rfl⟩
  rintro args ds σ' K' ⟨rfl,rfl,rfl,rfl⟩ _
  have hp0:=hR.1
  try simp only at hx
  show Tree.holds _ _ _ _ (⟨[ptrV g,strB x],[],[],⟨s,h0⟩⟩:Env QS)
  refine kc (h:=w_ptok ?_)
  try simp only [aS]
  refine h_new fun g2=>?_
  refine h_pv rfl rfl ?_
  try simp only [aS]
  refine h_ite rfl (fun q4=>?_) (fun q4=>?_)
  ·skip
   try simp only [q4,bS,↓reduceIte] at hx
   refine h_pv rfl rfl ?_
   try simp only [aS]
   try simp only [q4,bS,↓reduceIte] at hx
   exact h_ret rfl rfl hx
  ·skip
   try simp only [q4,bS,↓reduceIte] at hx
   refine h_pv rfl rfl ?_
   try simp only [aS]
   refine h_ite rfl (fun q7=>?_) (fun q7=>?_)
   ·skip
    try simp only [q4,q7,bS,↓reduceIte] at hx
    refine h_pv rfl rfl ?_
    try simp only [aS]
    try simp only [q4,q7,bS,↓reduceIte] at hx
    exact h_ret rfl rfl hx
   ·skip
    try simp only [q4,q7,bS,↓reduceIte] at hx
    try simp only [q4,q7,bS,↓reduceIte] at hx
    exact h_ret rfl rfl hx
theorem w_pis {g:Nat} {K:List Value→List D→QS→Prop} {ds:List D} {s:RS} {h0:QH} {x:List UInt8} (h:K [.bool (ris x s)] [] ⟨s,h0⟩):(qIs g).W [ptrV g,strB x] ds ⟨s,h0⟩ K:=⟨x,rfl,h⟩
def cfP_eat:Cfg:=⟨[(28,sOne),(65,sTok)],[(100 * 100 + 6,8),(100 * 89 + 1,8),(100 * 89 + 2,9),(100 * 56 + 4,1),(100 * 60 + 4,6),(100 * 60 + 5,9),(100 * 60 + 6,6)],[],sOne,[],[]⟩
def TP_eat:Tree:=tV 0 1 <| tT 2 <| .ite 3 (.ret [.c (.bool false)] []) (tO 1 <| .ret [.c (.bool true)] [])
theorem TP_eat_eq:fnS Tryz.prog cfP_eat [.one,.one] 67=some TP_eat:=by kernel_rfl
def qEat (g:Nat):Con0 Tryz.prog (QR g) g where
 f:=67
 sh:=sOne
 W args _ σ K:=∃ (x:List UInt8),args=[ptrV g,strB x]∧∀ h,OkS ⟨(meat x σ.s).2,h⟩→K [.bool (meat x σ.s).1] [] ⟨(meat x σ.s).2,h⟩
 ok args ds σ w okk K hg hR hokk hda h1 hW:=by
  obtain ⟨x,rfl,hK⟩:=hW
  obtain ⟨s,h0⟩:=σ
  have hx:=hK
  try simp only [meat] at hx
  refine fn_ok (cf:=cfP_eat) [(qIs g).x,(qNext g).x] rfl mixed QR.stable TP_eat_eq (W:=fun args' ds' σ' K'=>args'=[ptrV g,strB x]∧ds'=[]∧σ'=⟨s,h0⟩∧K'=K)
   (fun args ds σ K hW=>by obtain ⟨rfl,_⟩:=hW;exact ⟨rfl,rfl,trivial⟩) ?_ [ptrV g,strB x] [] ⟨s,h0⟩ w _ _ hg hR hokk (daOk_nil _ _ _) (by simp [Sx.flat,Value.cells,Value.oneCell']) ⟨rfl,rfl,rfl,rfl⟩
  rintro args ds σ' K' ⟨rfl,rfl,rfl,rfl⟩ _
  have hp0:=hR.1
  try simp only at hx
  show Tree.holds _ _ _ _ (⟨[ptrV g,strB x],[],[],⟨s,h0⟩⟩:Env QS)
  refine kc (h:=w_pis ?_)
  try simp only [aS]
  refine h_pv rfl rfl ?_
  try simp only [aS]
  refine h_ite rfl (fun q3=>?_) (fun q3=>?_)
  ·skip
   simp only [nS] at q3
   try simp only [q3,bS,↓reduceIte] at hx
   try simp only [q3,bS,↓reduceIte] at hx
   exact h_ret rfl rfl (hx _ hp0)
  ·skip
   simp only [nS] at q3
   try simp only [q3,bS,↓reduceIte] at hx
   refine kc (h:=w_pnext fun h4 p4=>?_)
   try simp only [aS]
   try simp only [q3,bS,↓reduceIte] at hx
   exact h_ret rfl rfl (hx _ p4)
theorem w_peat {g:Nat} {K:List Value→List D→QS→Prop} {ds:List D} {s:RS} {h0:QH} {x:List UInt8} (h:∀ h,OkS ⟨(meat x s).2,h⟩→K [.bool (meat x s).1] [] ⟨(meat x s).2,h⟩):(qEat g).W [ptrV g,strB x] ds ⟨s,h0⟩ K:=⟨x,rfl,h⟩
def cfP_want:Cfg:=⟨[(67,sOne),(64,sUnit)],[(100 * 100 + 6,8),(100 * 89 + 1,8),(100 * 89 + 2,9),(100 * 56 + 4,1),(100 * 60 + 4,6),(100 * 60 + 5,9),(100 * 60 + 6,6)],[],sUnit,[],[]⟩
def TP_want:Tree:=tV 0 1 <| tT 2 <| .ite 3 (tI 1 4 <| .ret [] []) (.ret [] [])
theorem TP_want_eq:fnS Tryz.prog cfP_want [.one,.one] 70=some TP_want:=by kernel_rfl
def qWant (g:Nat):Con0 Tryz.prog (QR g) g where
 f:=70
 sh:=sUnit
 W args _ σ K:=∃ (x:List UInt8),args=[ptrV g,strB x]∧∀ h,OkS ⟨mwant x σ.s,h⟩→K [] [] ⟨mwant x σ.s,h⟩
 ok args ds σ w okk K hg hR hokk hda h1 hW:=by
  obtain ⟨x,rfl,hK⟩:=hW
  obtain ⟨s,h0⟩:=σ
  have hx:=hK
  try simp only [mwant] at hx
  refine fn_ok (cf:=cfP_want) [(qEat g).x,(qFail g).x] rfl mixed QR.stable TP_want_eq (W:=fun args' ds' σ' K'=>args'=[ptrV g,strB x]∧ds'=[]∧σ'=⟨s,h0⟩∧K'=K)
   (fun args ds σ K hW=>by obtain ⟨rfl,_⟩:=hW;exact ⟨rfl,rfl,trivial⟩) ?_ [ptrV g,strB x] [] ⟨s,h0⟩ w _ _ hg hR hokk (daOk_nil _ _ _) (by simp [Sx.flat,Value.cells,Value.oneCell']) ⟨rfl,rfl,rfl,rfl⟩
  rintro args ds σ' K' ⟨rfl,rfl,rfl,rfl⟩ _
  have hp0:=hR.1
  try simp only at hx
  show Tree.holds _ _ _ _ (⟨[ptrV g,strB x],[],[],⟨s,h0⟩⟩:Env QS)
  refine kc (h:=w_peat fun h1 p1=>?_)
  try simp only [aS]
  refine h_pv rfl rfl ?_
  try simp only [aS]
  refine h_ite rfl (fun q3=>?_) (fun q3=>?_)
  ·skip
   simp only [nS] at q3
   have z3:=meat_noS q3
   rw [z3] at p1
   rw [z3]
   try simp only [z3] at hx
   try simp only [q3,bS,↓reduceIte] at hx
   refine kc (h:=w_pfail fun h4 p4=>?_)
   try simp only [q3,bS,↓reduceIte] at hx
   exact h_ret rfl rfl (hx _ p4)
  ·skip
   simp only [nS] at q3
   try simp only [q3,bS,↓reduceIte] at hx
   try simp only [q3,bS,↓reduceIte] at hx
   exact h_ret rfl rfl (hx _ p1)
theorem w_pwant {g:Nat} {K:List Value→List D→QS→Prop} {ds:List D} {s:RS} {h0:QH} {x:List UInt8} (h:∀ h,OkS ⟨mwant x s,h⟩→K [] [] ⟨mwant x s,h⟩):(qWant g).W [ptrV g,strB x] ds ⟨s,h0⟩ K:=⟨x,rfl,h⟩
def cfP_kind:Cfg:=⟨[(14,sTok),(64,sUnit),(65,sTok)],[(100 * 100 + 6,8),(100 * 89 + 1,8),(100 * 89 + 2,9),(100 * 56 + 4,1),(100 * 60 + 4,6),(100 * 60 + 5,9),(100 * 60 + 6,6)],[],sTok,[],[]⟩
def TP_kind:Tree:=tW <| tO 0 <| .nd (.pv (.bin .neq) [.v 2,.v 1]) <| .ite 6 (tI 1 4 <| .ret [jI 0,jE,jI 0,jI 0] []) (tO 2 <| .ret [.v 7,.v 8,.v 9,.v 10] [])
theorem TP_kind_eq:fnS Tryz.prog cfP_kind [.one,.one] 27=some TP_kind:=by kernel_rfl
def qKind (g:Nat):Con0 Tryz.prog (QR g) g where
 f:=27
 sh:=sTok
 W args _ σ K:=∃ (k:Int),args=[ptrV g,.int .i64 k]∧∀ h,OkS ⟨(mkind k σ.s).2,h⟩→K (tokC (mkind k σ.s).1) [] ⟨(mkind k σ.s).2,h⟩
 ok args ds σ w okk K hg hR hokk hda h1 hW:=by
  obtain ⟨k,rfl,hK⟩:=hW
  obtain ⟨s,h0⟩:=σ
  have hx:=hK
  try simp only [mkind,bne] at hx
  refine fn_ok (cf:=cfP_kind) [(qTok g).x,(qFail g).x,(qNext g).x] rfl mixed QR.stable TP_kind_eq (W:=fun args' ds' σ' K'=>args'=[ptrV g,.int .i64 k]∧ds'=[]∧σ'=⟨s,h0⟩∧K'=K)
   (fun args ds σ K hW=>by obtain ⟨rfl,_⟩:=hW;exact ⟨rfl,rfl,trivial⟩) ?_ [ptrV g,.int .i64 k] [] ⟨s,h0⟩ w _ _ hg hR hokk (daOk_nil _ _ _) (by simp [Sx.flat,Value.cells,Value.oneCell']) ⟨rfl,rfl,rfl,rfl⟩
  rintro args ds σ' K' ⟨rfl,rfl,rfl,rfl⟩ _
  have hp0:=hR.1
  try simp only at hx
  show Tree.holds _ _ _ _ (⟨[ptrV g,.int .i64 k],[],[],⟨s,h0⟩⟩:Env QS)
  refine h_new fun g1=>?_
  refine kc (h:=w_ptok ?_)
  try simp only [aS]
  refine h_pv rfl rfl ?_
  try simp only [aS]
  refine h_ite rfl (fun q4=>?_) (fun q4=>?_)
  ·skip
   try simp only [q4,bS,↓reduceIte] at hx
   refine kc (h:=w_pfail fun h5 p5=>?_)
   try simp only [q4,bS,↓reduceIte] at hx
   exact h_ret rfl rfl (hx _ p5)
  ·skip
   try simp only [q4,bS,↓reduceIte] at hx
   refine kc (h:=w_pnext fun h6 p6=>?_)
   try simp only [aS]
   try simp only [q4,bS,↓reduceIte] at hx
   exact h_ret rfl rfl (hx _ p6)
theorem w_pkind {g:Nat} {K:List Value→List D→QS→Prop} {ds:List D} {s:RS} {h0:QH} {k:Int} (h:∀ h,OkS ⟨(mkind k s).2,h⟩→K (tokC (mkind k s).1) [] ⟨(mkind k s).2,h⟩):(qKind g).W [ptrV g,.int .i64 k] ds ⟨s,h0⟩ K:=⟨k,rfl,h⟩
def cfP_deep:Cfg:=⟨[(64,sUnit)],[(100 * 100 + 6,8),(100 * 89 + 1,8),(100 * 89 + 2,9),(100 * 56 + 4,1),(100 * 60 + 4,6),(100 * 60 + 5,9),(100 * 60 + 6,6)],[],sUnit,[],[]⟩
def TP_deep:Tree:=.nd (.pv (.bin .gtr) [.v 1,jI 20]) <| .ite 2 (tI 0 2 <| .ret [] []) (.ret [] [])
theorem TP_deep_eq:fnS Tryz.prog cfP_deep [.one,.one] 84=some TP_deep:=by kernel_rfl
def qDeep (g:Nat):Con0 Tryz.prog (QR g) g where
 f:=84
 sh:=sUnit
 W args _ σ K:=∃ (d:Int),args=[ptrV g,.int .i64 d]∧∀ h,OkS ⟨mdeep d σ.s,h⟩→K [] [] ⟨mdeep d σ.s,h⟩
 ok args ds σ w okk K hg hR hokk hda h1 hW:=by
  obtain ⟨d,rfl,hK⟩:=hW
  obtain ⟨s,h0⟩:=σ
  have hx:=hK
  try simp only [mdeep] at hx
  refine fn_ok (cf:=cfP_deep) [(qFail g).x] rfl mixed QR.stable TP_deep_eq (W:=fun args' ds' σ' K'=>args'=[ptrV g,.int .i64 d]∧ds'=[]∧σ'=⟨s,h0⟩∧K'=K)
   (fun args ds σ K hW=>by obtain ⟨rfl,_⟩:=hW;exact ⟨rfl,rfl,trivial⟩) ?_ [ptrV g,.int .i64 d] [] ⟨s,h0⟩ w _ _ hg hR hokk (daOk_nil _ _ _) (by simp [Sx.flat,Value.cells,Value.oneCell']) ⟨rfl,rfl,rfl,rfl⟩
  rintro args ds σ' K' ⟨rfl,rfl,rfl,rfl⟩ _
  have hp0:=hR.1
  try simp only at hx
  show Tree.holds _ _ _ _ (⟨[ptrV g,.int .i64 d],[],[],⟨s,h0⟩⟩:Env QS)
  refine h_pv rfl rfl ?_
  try simp only [aS]
  refine h_ite rfl (fun q2=>?_) (fun q2=>?_)
  ·skip
   have qd:=of_decide_eq_true q2
   rw [if_pos qd] at hx
   try simp only [q2,bS,↓reduceIte] at hx
   refine kc (h:=w_pfail fun h3 p3=>?_)
   try simp only [q2,bS,↓reduceIte] at hx
   exact h_ret rfl rfl (hx _ p3)
  ·skip
   have qd:=of_decide_eq_false q2
   rw [if_neg qd] at hx
   try simp only [q2,bS,↓reduceIte] at hx
   try simp only [q2,bS,↓reduceIte] at hx
   exact h_ret rfl rfl (hx _ hp0)
theorem w_pdeep {g:Nat} {K:List Value→List D→QS→Prop} {ds:List D} {s:RS} {h0:QH} {d:Int} (h:∀ h,OkS ⟨mdeep d s,h⟩→K [] [] ⟨mdeep d s,h⟩):(qDeep g).W [ptrV g,.int .i64 d] ds ⟨s,h0⟩ K:=⟨d,rfl,h⟩
end Go.Proofs.YtdmacgoeikjdbaaGreatDoor
namespace Go.Proofs.YtdmacgoeikjdbaaGreatDoor
open Go.RowKit Sx
theorem is_calls {g:Nat} {σ:QS} {w:World} (x:List UInt8) (hR:QR g σ w):Calls Tryz.prog 28 #[ptrV g,strB x] w (fun e w'=>e=.returned (.bool (ris x σ.s))∧QR g σ w'∧KeepM g w w'):=
 ((qIs g).ok [ptrV g,strB x] [] σ w (fun _=>False) (fun vs ds σ'=>vs=[.bool (ris x σ.s)]∧σ'=σ) hR.lt hR (fun k h=>h.elim) (daOk_nil _ _ _) (by simp [Sx.flat,Value.cells,Value.oneCell']) ⟨x,rfl,rfl,rfl⟩).mono fun e w' ⟨vs,ds,σ',r,⟨h1,h2⟩,h3,h4,_,_,_,h5,h6,_⟩=>by
  subst h1 h2
  have h3:some (Value.bool (ris x σ'.s))=some r:=h3
  injection h3 with h3
  subst h3
  exact ⟨h4,h5,h6⟩
theorem eat_calls {g:Nat} {σ:QS} {w:World} (x:List UInt8) (hR:QR g σ w):Calls Tryz.prog 67 #[ptrV g,strB x] w (DoP (.bool (meat x σ.s).1) g (meat x σ.s).2 w):=
 do_of (sh:=sOne) rfl ((qEat g).ok [ptrV g,strB x] [] σ w (fun _=>False) (fun vs ds σ'=>vs=[.bool (meat x σ.s).1]∧σ'.s=(meat x σ.s).2) hR.lt hR (fun k h=>h.elim) (daOk_nil _ _ _) (by simp [Sx.flat,Value.cells,Value.oneCell']) ⟨x,rfl,fun h _=>⟨rfl,rfl⟩⟩)
theorem fail_calls {g:Nat} {σ:QS} {w:World} (x:Int) (hR:QR g σ w):Calls Tryz.prog 64 #[ptrV g,.int .i64 x] w (DoP (.tuple #[]) g (mfail x σ.s) w):=
 do_of (sh:=sUnit) (vs0:=[]) rfl ((qFail g).ok [ptrV g,.int .i64 x] [] σ w (fun _=>False) (fun vs ds σ'=>vs=[]∧σ'.s=(mfail x σ.s)) hR.lt hR (fun k h=>h.elim) (daOk_nil _ _ _) (by simp [Sx.flat,Value.cells,Value.oneCell']) ⟨x,rfl,fun h _=>⟨rfl,rfl⟩⟩)
abbrev wordCells:Array Value:=#[strB bChar,strB bShort,strB bInt,strB bLong]
abbrev kindCells:Array Value:=#[.int .i64 1,.int .i64 3,.int .i64 5,.int .i64 7]
theorem bases_any (w:World):Calls Tryz.prog 83 #[] w (fun e w'=>e=.returned (.tuple #[.slice (some ⟨w.heap.size,0,none⟩) 4 4,.slice (some ⟨w.heap.size + 1,0,none⟩) 4 4])∧BlkIs w' w.heap.size 9 wordCells∧BlkIs w' (w.heap.size + 1) 3 kindCells∧Below w.heap.size w w'):=by
 go_enter Tryz.func83,Tryz.ntmps83
 go_wp2_with fail
 refine bodyPost_ret (v:=.tuple #[.slice (some ⟨w.heap.size,0,none⟩) 4 4,.slice (some ⟨w.heap.size + 1,0,none⟩) 4 4]) (by simp [results,Tryz.results83,go_sem]) rfl ?_
 refine ⟨rfl,(BlkIs.fresh _ _ _).alloc _,BlkIs.fresh_at (by simp),Below.alloc (below_alloc _ _) (by simp) _⟩
theorem tok_f0 (k:Int) (s:ByteArray) (m p:Int) (w:World):Sem.run Tryz.prog (Instr.field 43 (.agg #[.int .i64 k,.string s,.int .i64 m,.int .i64 p]) 0) w=.ok (.int .i64 k) w:=by kernel_rfl
theorem tok_f1 (k:Int) (s:ByteArray) (m p:Int) (w:World):Sem.run Tryz.prog (Instr.field 43 (.agg #[.int .i64 k,.string s,.int .i64 m,.int .i64 p]) 1) w=.ok (.string s) w:=by kernel_rfl
theorem bytes_inj {x y:List UInt8}:(⟨x.toArray⟩:ByteArray)=⟨y.toArray⟩ ↔ x=y:=by
 constructor
 ·intro h
  injection h with h
  have:=congrArg Array.toList h
  simpa using this
 ·rintro rfl;rfl
theorem contains_words (x:List UInt8):Lib.containsS ([⟨bChar.toArray⟩,⟨bShort.toArray⟩,⟨bInt.toArray⟩,⟨bLong.toArray⟩]:List ByteArray) ⟨x.toArray⟩=decide (x ∈ intWords):=by
 rw [Bool.eq_iff_iff,Lib.containsS_iff,decide_eq_true_eq]
 simp only [intWords,List.mem_cons,List.not_mem_nil,or_false,bytes_inj]
theorem words_calls {w:World} {b c:Nat} (x:List UInt8) (hb:BlkIs w b 9 wordCells):Calls Tryz.prog 98 #[.slice (some ⟨b,0,none⟩) 4 c,strB x] w (fun e w'=>e=.returned (.bool (decide (x ∈ intWords)))∧w'=w):=by
 have h:=Tryz.slices_Contains_string b 0 4 c [⟨bChar.toArray⟩,⟨bShort.toArray⟩,⟨bInt.toArray⟩,⟨bLong.toArray⟩] ⟨x.toArray⟩ w (by simp) (by omega) (fun j hj=>by
  rw [Nat.zero_add,hb.cell j]
  have hj:j<4:=hj
  have:j=0 ∨ j=1 ∨ j=2 ∨ j=3:=by omega
  rcases this with rfl | rfl | rfl | rfl <;> rfl)
 rw [← contains_words]
 exact h
set_option maxRecDepth 8000 in
theorem mtyped_any (g:Nat) (σ:QS) (w:World) (hr:QR g σ w):Calls Tryz.prog 85 #[ptrV g] w (fun e w'=>e=.returned (.bool (mtyped σ.s))∧QR g σ w'∧KeepM g w w'):=by
 have HR0:=Lib.hid hr
 have hl:=hr.lt
 have HV:=fun W (h:QR g σ W)=>is_calls bVoid h
 have HU:=fun W (h:QR g σ W)=>is_calls bUnsigned h
 have HT:=fun W (h:QR g σ W)=>tok_calls h
 obtain ⟨r,hr2⟩:∃ r,Hid (mtyped σ.s=r):=⟨_,Lib.hid rfl⟩
 rw [hr2.out]
 obtain ⟨b1,hb1⟩:∃ b,ris bVoid σ.s=b:=⟨_,rfl⟩
 obtain ⟨b2,hb2⟩:∃ b,ris bUnsigned σ.s=b:=⟨_,rfl⟩
 obtain ⟨⟨kd,tx,m,ps⟩,ht⟩:∃ t,hdT σ.s.ts=t:=⟨_,rfl⟩
 have hz:r=(b1 || (b2 || (kd == 4 && decide (tx ∈ intWords)))):=by rw [← hr2.out,mtyped,hb1,hb2,ht]
 have hz:=Lib.hid hz
 simp only [hb1] at HV
 simp only [hb2] at HU
 simp only [ht,Tok.val,tokVal] at HT
 have hf0:=tok_f0 kd ⟨tx.toArray⟩ m ps
 have hf1:=tok_f1 kd ⟨tx.toArray⟩ m ps
 clear hr hr2 hb1 hb2 ht
 obtain ⟨b3,hb3⟩:∃ b,Hid (decide (tx ∈ intWords)=b):=⟨_,Lib.hid rfl⟩
 have HC:=fun W b c (h:BlkIs W b 9 wordCells)=>words_calls (c:=c) tx h
 rw [hb3.out] at HC hz
 cases b1
 ·cases b2
  ·by_cases hk:kd=4
   ·have e:(kd == 4)=true:=by simpa using hk
    rw [e] at hz
    clear hk
    go_enter Tryz.func85,Tryz.ntmps85
    go_wp2_with fail
    refine (bases_any _).mono ?_
    rintro e1 w1 ⟨rfl,hw,_,hb⟩
    have r1:=Lib.hid (HR0.out.below hb)
    have k1:=Lib.hid (KeepM.of (gm:=g) hb)
    go_wp2_with fail
    refine (HV _ r1.out).mono ?_
    rintro e1 w2 ⟨rfl,r2,k2⟩
    have r2:=Lib.hid r2
    have hw:=hw.keepM k2 (by omega)
    have k2:=Lib.hid (k1.out.trans k2)
    go_wp2_with fail
    refine (HU _ r2.out).mono ?_
    rintro e1 w3 ⟨rfl,r3,k3⟩
    have r3:=Lib.hid r3
    have hw:=hw.keepM k3 (by omega)
    have k3:=Lib.hid (k2.out.trans k3)
    go_wp2_with fail
    refine (HT _ r3.out).mono ?_
    rintro e1 w4 ⟨rfl,r4,k4⟩
    have r4:=Lib.hid r4
    have hw:=hw.keepM k4 (by omega)
    have k4:=Lib.hid (k3.out.trans k4)
    go_wp2_with fail
    refine (HT _ r4.out).mono ?_
    rintro e1 w5 ⟨rfl,r5,k5⟩
    have r5:=Lib.hid r5
    have hw:=hw.keepM k5 (by omega)
    have k5:=Lib.hid (k4.out.trans k5)
    go_wp2_with fail
    refine (HC _ _ _ hw).mono ?_
    rintro e1 w6 ⟨rfl,rfl⟩
    go_wp2_with fail
    first | go_ret | refine bodyPost_ret (v:=.bool r) (by rw [hz.out];simp [results,Tryz.results85,go_sem]) rfl ?_
    rw [hz.out]
    exact ⟨rfl,r5.out,k5.out⟩
   ·have e:(kd == 4)=false:=by simpa using hk
    rw [e] at hz
    clear hk
    go_enter Tryz.func85,Tryz.ntmps85
    go_wp2_with fail
    refine (bases_any _).mono ?_
    rintro e1 w1 ⟨rfl,hw,_,hb⟩
    have r1:=Lib.hid (HR0.out.below hb)
    have k1:=Lib.hid (KeepM.of (gm:=g) hb)
    go_wp2_with fail
    refine (HV _ r1.out).mono ?_
    rintro e1 w2 ⟨rfl,r2,k2⟩
    have r2:=Lib.hid r2
    have hw:=hw.keepM k2 (by omega)
    have k2:=Lib.hid (k1.out.trans k2)
    go_wp2_with fail
    refine (HU _ r2.out).mono ?_
    rintro e1 w3 ⟨rfl,r3,k3⟩
    have r3:=Lib.hid r3
    have hw:=hw.keepM k3 (by omega)
    have k3:=Lib.hid (k2.out.trans k3)
    go_wp2_with fail
    refine (HT _ r3.out).mono ?_
    rintro e1 w4 ⟨rfl,r4,k4⟩
    have r4:=Lib.hid r4
    have hw:=hw.keepM k4 (by omega)
    have k4:=Lib.hid (k3.out.trans k4)
    go_wp2_with fail
    first | go_ret | refine bodyPost_ret (v:=.bool r) (by rw [hz.out];simp [results,Tryz.results85,go_sem]) rfl ?_
    rw [hz.out]
    exact ⟨rfl,r4.out,k4.out⟩
  ·go_enter Tryz.func85,Tryz.ntmps85
   go_wp2_with fail
   refine (bases_any _).mono ?_
   rintro e1 w1 ⟨rfl,hw,_,hb⟩
   have r1:=Lib.hid (HR0.out.below hb)
   have k1:=Lib.hid (KeepM.of (gm:=g) hb)
   go_wp2_with fail
   refine (HV _ r1.out).mono ?_
   rintro e1 w2 ⟨rfl,r2,k2⟩
   have r2:=Lib.hid r2
   have hw:=hw.keepM k2 (by omega)
   have k2:=Lib.hid (k1.out.trans k2)
   go_wp2_with fail
   refine (HU _ r2.out).mono ?_
   rintro e1 w3 ⟨rfl,r3,k3⟩
   have r3:=Lib.hid r3
   have hw:=hw.keepM k3 (by omega)
   have k3:=Lib.hid (k2.out.trans k3)
   go_wp2_with fail
   first | go_ret | refine bodyPost_ret (v:=.bool r) (by rw [hz.out];simp [results,Tryz.results85,go_sem]) rfl ?_
   rw [hz.out]
   exact ⟨rfl,r3.out,k3.out⟩
 ·go_enter Tryz.func85,Tryz.ntmps85
  go_wp2_with fail
  refine (bases_any _).mono ?_
  rintro e1 w1 ⟨rfl,hw,_,hb⟩
  have r1:=Lib.hid (HR0.out.below hb)
  have k1:=Lib.hid (KeepM.of (gm:=g) hb)
  go_wp2_with fail
  refine (HV _ r1.out).mono ?_
  rintro e1 w2 ⟨rfl,r2,k2⟩
  have r2:=Lib.hid r2
  have hw:=hw.keepM k2 (by omega)
  have k2:=Lib.hid (k1.out.trans k2)
  go_wp2_with fail
  first | go_ret | refine bodyPost_ret (v:=.bool r) (by rw [hz.out];simp [results,Tryz.results85,go_sem]) rfl ?_
  rw [hz.out]
  exact ⟨rfl,r2.out,k2.out⟩
end Go.Proofs.YtdmacgoeikjdbaaGreatDoor
namespace Go.Proofs.YtdmacgoeikjdbaaGreatDoor
open Go.RowKit Sx
theorem wordCells_at (k:Nat) (h:k<intWords.length):wordCells[k]?=some (strB intWords[k]):=by
 have h:k<4:=h
 have:k=0 ∨ k=1 ∨ k=2 ∨ k=3:=by omega
 rcases this with rfl | rfl | rfl | rfl <;> rfl
theorem kindCells_at (k:Nat) (h:k<4):kindCells[k]?=some (.int .i64 (1 + 2 * (k:Int))):=by
 have:k=0 ∨ k=1 ∨ k=2 ∨ k=3:=by omega
 rcases this with rfl | rfl | rfl | rfl <;> rfl
set_option maxRecDepth 8000 in
theorem mbase_any (g:Nat) (σ:QS) (w:World) (hr:QR g σ w):Calls Tryz.prog 62 #[ptrV g] w (DoP (.int .i64 (mbase σ.s).1) g (mbase σ.s).2 w):=by
 have ht:=eat_calls bVoid hr
 have hl:=hr.lt
 obtain ⟨s,h0⟩:=σ
 simp only at ht ⊢
 unfold mbase
 cases hta:(meat bVoid s).1
 ·rw [hta] at ht
  rw [if_neg (by decide)]
  rw [meat_noS hta] at ht ⊢
  clear hta
  obtain ⟨b,hb⟩:∃ b,Hid ((meat bUnsigned s).1=b):=⟨_,Lib.hid rfl⟩
  obtain ⟨s2,hs2⟩:∃ b,Hid ((meat bUnsigned s).2=b):=⟨_,Lib.hid rfl⟩
  have ht2:=fun W h (hq:QR g ⟨s,h⟩ W)=>eat_calls bUnsigned hq
  simp only [hb.out,hs2.out] at ht2 ⊢
  obtain ⟨R,hR⟩:∃ R,Hid (mkindL (if b=true then 1 else 0) intWords 1 s2=R):=⟨_,Lib.hid rfl⟩
  rw [hR.out]
  clear hs2 hb
  go_enter Tryz.func62,Tryz.ntmps62
  go_wp2_with fail
  refine ht.mono ?_
  rintro e w1 ⟨rfl,k1,h1,r1⟩
  go_wp2_with fail
  refine (ht2 _ _ r1).mono ?_
  rintro e w2 ⟨rfl,k2,h2,r2⟩
  have k12:=k1.trans k2
  clear ht ht2 k1 k2 r1
  go_wp2_with fail
  refine (bases_any _).mono ?_
  rintro e w3 ⟨rfl,hz0,hy0,hb3⟩
  have kz:=KeepM.of (gm:=g) hb3
  have rz:=r2.below hb3
  have hgz:=r2.lt
  clear hb3
  obtain ⟨gz,hgze⟩:∃ x,Hid (w2.heap.size=x):=⟨_,Lib.hid rfl⟩
  rw [hgze.out] at hz0 hy0 hgz
  cases b
  ·have hR:Hid (mkindL 0 intWords 1 s2=R):=Lib.hid (by rw [← hR.out];rfl)
   go_wp2_with fail
   rw [hgze.out]
   go_loopw [18] (fun i wr=>∃ (k:Nat) (sk:RS),k≤4∧i=.int .i64 k∧(∃ h,QR g ⟨sk,h⟩ wr)∧KeepM g w wr∧BlkIs wr gz 9 wordCells∧BlkIs wr (gz + 1) 3 kindCells∧Hid (mkindL 0 (intWords.drop k) (1 + 2 * k) sk=R)) (fun i _=>4 - (intOf i).toNat)
   case atStart=>exact ⟨0,s2,by omega,rfl,⟨_,rz⟩,k12.trans kz,hz0,hy0,hR⟩
   case round=>
    obtain ⟨k,sk,hk,rfl,⟨hh,hRk⟩,hkm,hZ,hY,hL⟩:=hrel
    obtain ⟨wo,rfl⟩:∃ wo:World,wo=wr:=⟨_,rfl⟩
    clear rz kz hz0 hy0 r2 k12 hR
    have hlo:=hRk.lt
    have hzl:=hZ.lt
    by_cases hlt:k<4
    ·have hkl:k<intWords.length:=hlt
     have hc:wo.cell? ⟨gz,k,none⟩=some (.string ⟨(intWords[k]).toArray⟩):=by rw [hZ.cell,wordCells_at k hkl]
     have hcy:=kindCells_at k hlt
     have htk:=eat_calls (intWords[k]) hRk
     simp only at htk
     have hL1:=hL.out
     rw [List.drop_eq_getElem_cons hkl,mkindL] at hL1
     obtain ⟨x,hx⟩:∃ x,Hid (intWords[k]=x):=⟨_,Lib.hid rfl⟩
     rw [hx.out] at hc htk hL1
     cases hb:(meat x sk).1
     ·rw [hb] at htk hL1
      rw [if_neg (by decide)] at hL1
      have HL:=Lib.hid hL1
      clear hb hL1 hcy
      go_wp2_with fail
      refine htk.mono ?_
      rintro e w5 ⟨rfl,k5,h5,r5⟩
      have z5:=hZ.keepM k5 (by omega)
      have y5:=hY.keepM k5 (by omega)
      go_wp2_with fail
      go_roundw
      case rel=>exact ⟨k + 1,(meat x sk).2,by omega,by go_num,⟨h5,r5⟩,hkm.trans k5,z5,y5,Lib.hid (by rw [← HL.out];first | (congr 1;done) | (congr 1;omega))⟩
      case measure=>simp [intOf];omega
     ·rw [hb] at htk hL1
      rw [if_pos rfl] at hL1
      have HL:=Lib.hid hL1
      clear hb hL1
      go_wp2_with fail
      refine htk.mono ?_
      rintro e w5 ⟨rfl,k5,h5,r5⟩
      have y5:=hY.keepM k5 (by omega)
      have hcy5:w5.cell? ⟨gz + 1,k,none⟩=some (.int .i64 (1 + 2 * (k:Int))):=by rw [y5.cell,hcy]
      clear hcy
      go_wp2_with fail
      go_ret
      rw [← HL.out]
      refine ⟨?_,hkm.trans k5,h5,r5⟩
      first | rfl | (congr 2;omega) | (refine congrArg Ending.returned (congrArg (Value.int IntKind.i64) ?_);omega)
    ·obtain rfl:k=4:=by omega
     have HL:=hL.out
     have e:intWords.drop 4=[]:=rfl
     rw [e,mkindL] at HL
     have HL:=Lib.hid HL
     go_wp2_with fail
     refine (fail_calls 4 hRk).mono ?_
     rintro e w5 ⟨rfl,k5,h5,r5⟩
     go_wp2_with fail
     go_ret
     rw [← HL.out]
     exact ⟨rfl,hkm.trans k5,h5,r5⟩
  ·have hR:Hid (mkindL 1 intWords 1 s2=R):=Lib.hid (by rw [← hR.out];rfl)
   go_wp2_with fail
   rw [hgze.out]
   go_loopw [18] (fun i wr=>∃ (k:Nat) (sk:RS),k≤4∧i=.int .i64 k∧(∃ h,QR g ⟨sk,h⟩ wr)∧KeepM g w wr∧BlkIs wr gz 9 wordCells∧BlkIs wr (gz + 1) 3 kindCells∧Hid (mkindL 1 (intWords.drop k) (1 + 2 * k) sk=R)) (fun i _=>4 - (intOf i).toNat)
   case atStart=>exact ⟨0,s2,by omega,rfl,⟨_,rz⟩,k12.trans kz,hz0,hy0,hR⟩
   case round=>
    obtain ⟨k,sk,hk,rfl,⟨hh,hRk⟩,hkm,hZ,hY,hL⟩:=hrel
    obtain ⟨wo,rfl⟩:∃ wo:World,wo=wr:=⟨_,rfl⟩
    clear rz kz hz0 hy0 r2 k12 hR
    have hlo:=hRk.lt
    have hzl:=hZ.lt
    by_cases hlt:k<4
    ·have hkl:k<intWords.length:=hlt
     have hc:wo.cell? ⟨gz,k,none⟩=some (.string ⟨(intWords[k]).toArray⟩):=by rw [hZ.cell,wordCells_at k hkl]
     have hcy:=kindCells_at k hlt
     have htk:=eat_calls (intWords[k]) hRk
     simp only at htk
     have hL1:=hL.out
     rw [List.drop_eq_getElem_cons hkl,mkindL] at hL1
     obtain ⟨x,hx⟩:∃ x,Hid (intWords[k]=x):=⟨_,Lib.hid rfl⟩
     rw [hx.out] at hc htk hL1
     cases hb:(meat x sk).1
     ·rw [hb] at htk hL1
      rw [if_neg (by decide)] at hL1
      have HL:=Lib.hid hL1
      clear hb hL1 hcy
      go_wp2_with fail
      refine htk.mono ?_
      rintro e w5 ⟨rfl,k5,h5,r5⟩
      have z5:=hZ.keepM k5 (by omega)
      have y5:=hY.keepM k5 (by omega)
      go_wp2_with fail
      go_roundw
      case rel=>exact ⟨k + 1,(meat x sk).2,by omega,by go_num,⟨h5,r5⟩,hkm.trans k5,z5,y5,Lib.hid (by rw [← HL.out];first | (congr 1;done) | (congr 1;omega))⟩
      case measure=>simp [intOf];omega
     ·rw [hb] at htk hL1
      rw [if_pos rfl] at hL1
      have HL:=Lib.hid hL1
      clear hb hL1
      go_wp2_with fail
      refine htk.mono ?_
      rintro e w5 ⟨rfl,k5,h5,r5⟩
      have y5:=hY.keepM k5 (by omega)
      have hcy5:w5.cell? ⟨gz + 1,k,none⟩=some (.int .i64 (1 + 2 * (k:Int))):=by rw [y5.cell,hcy]
      clear hcy
      go_wp2_with fail
      go_ret
      rw [← HL.out]
      refine ⟨?_,hkm.trans k5,h5,r5⟩
      first | rfl | (congr 2;omega) | (refine congrArg Ending.returned (congrArg (Value.int IntKind.i64) ?_);omega)
    ·obtain rfl:k=4:=by omega
     have HL:=hL.out
     have e:intWords.drop 4=[]:=rfl
     rw [e,mkindL] at HL
     have HL:=Lib.hid HL
     go_wp2_with fail
     refine (fail_calls 4 hRk).mono ?_
     rintro e w5 ⟨rfl,k5,h5,r5⟩
     go_wp2_with fail
     go_ret
     rw [← HL.out]
     exact ⟨rfl,hkm.trans k5,h5,r5⟩
 ·rw [hta] at ht
  rw [if_pos rfl]
  clear hta
  go_enter Tryz.func62,Tryz.ntmps62
  go_wp2_with fail
  refine ht.mono ?_
  rintro e w1 ⟨rfl,k1,h1,r1⟩
  go_wp2_with fail
  go_ret
  exact ⟨rfl,k1,h1,r1⟩
def qTyped (g:Nat):Con0 Tryz.prog (QR g) g where
 f:=85
 sh:=sOne
 W args _ σ K:=args=[ptrV g]∧K [.bool (mtyped σ.s)] [] σ
 ok args ds σ w okk K hg hR _ _ _ hW:=by
  obtain ⟨rfl,hK⟩:=hW
  exact (mtyped_any g σ w hR).mono fun e w' ⟨he,hr,hk⟩=>⟨_,[],σ,_,hK,rfl,he,rfl,rfl,by simp [Value.oneCell'],hr,hk,daOk_nil _ _ _⟩
def qBase (g:Nat):Con0 Tryz.prog (QR g) g where
 f:=62
 sh:=sOne
 W args _ σ K:=args=[ptrV g]∧∀ h,OkS ⟨(mbase σ.s).2,h⟩→K [.int .i64 (mbase σ.s).1] [] ⟨(mbase σ.s).2,h⟩
 ok args ds σ w okk K hg hR _ _ _ hW:=by
  obtain ⟨rfl,hK⟩:=hW
  exact do_postP (mbase_any g σ w hR) hK rfl rfl rfl (by simp [Value.oneCell'])
section
variable {g:Nat} {K:List Value→List D→QS→Prop} {ds:List D} {s:RS} {h0:QH}
theorem w_ptyped (h:K [.bool (mtyped s)] [] ⟨s,h0⟩):(qTyped g).W [ptrV g] ds ⟨s,h0⟩ K:=⟨rfl,h⟩
theorem w_pbase (h:∀ h,OkS ⟨(mbase s).2,h⟩→K [.int .i64 (mbase s).1] [] ⟨(mbase s).2,h⟩):(qBase g).W [ptrV g] ds ⟨s,h0⟩ K:=⟨rfl,h⟩
end
end Go.Proofs.YtdmacgoeikjdbaaGreatDoor

/- The program's parser: types, numbers, lengths (symbolic execution). Pr -/
import Derived.Test.YtdmacgoeikjdbaaGreatDoorK37
import Derived.Maps.OwnSet
import Derived.Maps.OwnOps
import Derived.StringKeys
import Derived.Test.YtdmacgoeikjdbaaGreatDoorK02
set_option linter.unusedSimpArgs false
set_option linter.unusedVariables false
set_option maxHeartbeats 4000000
namespace Go.Proofs.YtdmacgoeikjdbaaGreatDoor
open Go.RowKit Sx
theorem mstars5 (s:RS):mstars 5 0 s=if ris [42] s then (if ris [42] (mnext s) then (if ris [42] (mnext (mnext s)) then (if ris [42] (mnext (mnext (mnext s))) then (3,mfail 2 (mnext (mnext (mnext s)))) else (3,mnext (mnext (mnext s)))) else (2,mnext (mnext s))) else (1,mnext s)) else (0,s):=by simp [mstars]
theorem wrap_neg (n:Int):wrap64 (-n)=IntKind.i64.wrap (-n):=by rw [IntKind.wrap_i64,wrap64];try omega
def cfP_stars:Cfg:=⟨[(28,sOne),(64,sUnit),(65,sTok)],[(100 * 100 + 6,8),(100 * 89 + 1,8),(100 * 89 + 2,9),(100 * 56 + 4,1),(100 * 60 + 4,6),(100 * 60 + 5,9),(100 * 60 + 6,6)],[],sOne,[],[]⟩
def TP_stars:Tree:=tS 0 [42] <| .ite 1 (tO 2 <| tS 0 [42] <| .ite 6 (tO 2 <| tS 0 [42] <| .ite 11 (tO 2 <| tS 0 [42] <| .ite 16 (tI 1 2 <| .ret [jI 3] []) (.ret [jI 3] [])) (.ret [jI 2] [])) (.ret [jI 1] [])) (.ret [jI 0] [])
theorem TP_stars_eq:fnS Tryz.prog cfP_stars [.one] 63=some TP_stars:=by kernel_rfl
def qStars (g:Nat):Con0 Tryz.prog (QR g) g where
 f:=63
 sh:=sOne
 W args _ σ K:=args=[ptrV g]∧∀ h,OkS ⟨(mstars 5 0 σ.s).2,h⟩→K [.int .i64 (mstars 5 0 σ.s).1] [] ⟨(mstars 5 0 σ.s).2,h⟩
 ok args ds σ w okk K hg hR hokk hda h1 hW:=by
  obtain ⟨rfl,hK⟩:=hW
  obtain ⟨s,h0⟩:=σ
  have hx:=hK
  try simp only [mstars5] at hx
  refine fn_ok (cf:=cfP_stars) [(qIs g).x,(qFail g).x,(qNext g).x] rfl mixed QR.stable TP_stars_eq (W:=fun args' ds' σ' K'=>args'=[ptrV g]∧ds'=[]∧σ'=⟨s,h0⟩∧K'=K)
   (fun args ds σ K hW=>by obtain ⟨rfl,_⟩:=hW;exact ⟨rfl,trivial⟩) ?_ [ptrV g] [] ⟨s,h0⟩ w _ _ hg hR hokk (daOk_nil _ _ _) (by simp [Sx.flat,Value.cells,Value.oneCell']) ⟨rfl,rfl,rfl,rfl⟩
  rintro args ds σ' K' ⟨rfl,rfl,rfl,rfl⟩ _
  have hp0:=hR.1
  try simp only at hx
  show Tree.holds _ _ _ _ (⟨[ptrV g],[],[],⟨s,h0⟩⟩:Env QS)
  refine kc (h:=w_pis ?_)
  try simp only [aS]
  refine h_ite rfl (fun q2=>?_) (fun q2=>?_)
  ·skip
   try simp only [q2,bS,↓reduceIte] at hx
   refine kc (h:=w_pnext fun h3 p3=>?_)
   try simp only [aS]
   refine kc (h:=w_pis ?_)
   try simp only [aS]
   refine h_ite rfl (fun q5=>?_) (fun q5=>?_)
   ·skip
    try simp only [q2,q5,bS,↓reduceIte] at hx
    refine kc (h:=w_pnext fun h6 p6=>?_)
    try simp only [aS]
    refine kc (h:=w_pis ?_)
    try simp only [aS]
    refine h_ite rfl (fun q8=>?_) (fun q8=>?_)
    ·skip
     try simp only [q2,q5,q8,bS,↓reduceIte] at hx
     refine kc (h:=w_pnext fun h9 p9=>?_)
     try simp only [aS]
     refine kc (h:=w_pis ?_)
     try simp only [aS]
     refine h_ite rfl (fun q11=>?_) (fun q11=>?_)
     ·skip
      try simp only [q2,q5,q8,q11,bS,↓reduceIte] at hx
      refine kc (h:=w_pfail fun h12 p12=>?_)
      try simp only [q2,q5,q8,q11,bS,↓reduceIte] at hx
      exact h_ret rfl rfl (hx _ p12)
     ·skip
      try simp only [q2,q5,q8,q11,bS,↓reduceIte] at hx
      try simp only [q2,q5,q8,q11,bS,↓reduceIte] at hx
      exact h_ret rfl rfl (hx _ p9)
    ·skip
     try simp only [q2,q5,q8,bS,↓reduceIte] at hx
     try simp only [q2,q5,q8,bS,↓reduceIte] at hx
     exact h_ret rfl rfl (hx _ p6)
   ·skip
    try simp only [q2,q5,bS,↓reduceIte] at hx
    try simp only [q2,q5,bS,↓reduceIte] at hx
    exact h_ret rfl rfl (hx _ p3)
  ·skip
   try simp only [q2,bS,↓reduceIte] at hx
   try simp only [q2,bS,↓reduceIte] at hx
   exact h_ret rfl rfl (hx _ hp0)
theorem w_pstars {g:Nat} {K:List Value→List D→QS→Prop} {ds:List D} {s:RS} {h0:QH}  (h:∀ h,OkS ⟨(mstars 5 0 s).2,h⟩→K [.int .i64 (mstars 5 0 s).1] [] ⟨(mstars 5 0 s).2,h⟩):(qStars g).W [ptrV g] ds ⟨s,h0⟩ K:=⟨rfl,h⟩
def cfP_typeOf:Cfg:=⟨[(62,sOne),(63,sOne)],[(100 * 100 + 6,8),(100 * 89 + 1,8),(100 * 89 + 2,9),(100 * 56 + 4,1),(100 * 60 + 4,6),(100 * 60 + 5,9),(100 * 60 + 6,6)],[],sTy,[],[]⟩
def TP_typeOf:Tree:=tW <| tO 0 <| tO 1 <| .ret [.v 1,.v 2,jI 0] []
theorem TP_typeOf_eq:fnS Tryz.prog cfP_typeOf [.one] 26=some TP_typeOf:=by kernel_rfl
def qTyp (g:Nat):Con0 Tryz.prog (QR g) g where
 f:=26
 sh:=sTy
 W args _ σ K:=args=[ptrV g]∧∀ h,OkS ⟨(mtyp σ.s).2,h⟩→K (tyV (mtyp σ.s).1) [] ⟨(mtyp σ.s).2,h⟩
 ok args ds σ w okk K hg hR hokk hda h1 hW:=by
  obtain ⟨rfl,hK⟩:=hW
  obtain ⟨s,h0⟩:=σ
  have hx:=hK
  try simp only [mtyp] at hx
  refine fn_ok (cf:=cfP_typeOf) [(qBase g).x,(qStars g).x] rfl mixed QR.stable TP_typeOf_eq (W:=fun args' ds' σ' K'=>args'=[ptrV g]∧ds'=[]∧σ'=⟨s,h0⟩∧K'=K)
   (fun args ds σ K hW=>by obtain ⟨rfl,_⟩:=hW;exact ⟨rfl,trivial⟩) ?_ [ptrV g] [] ⟨s,h0⟩ w _ _ hg hR hokk (daOk_nil _ _ _) (by simp [Sx.flat,Value.cells,Value.oneCell']) ⟨rfl,rfl,rfl,rfl⟩
  rintro args ds σ' K' ⟨rfl,rfl,rfl,rfl⟩ _
  have hp0:=hR.1
  try simp only at hx
  show Tree.holds _ _ _ _ (⟨[ptrV g],[],[],⟨s,h0⟩⟩:Env QS)
  refine h_new fun g1=>?_
  refine kc (h:=w_pbase fun h2 p2=>?_)
  try simp only [aS]
  refine kc (h:=w_pstars fun h3 p3=>?_)
  try simp only [aS]
  try simp only [bS,↓reduceIte] at hx
  exact h_ret rfl rfl (hx _ p3)
theorem w_ptyp {g:Nat} {K:List Value→List D→QS→Prop} {ds:List D} {s:RS} {h0:QH}  (h:∀ h,OkS ⟨(mtyp s).2,h⟩→K (tyV (mtyp s).1) [] ⟨(mtyp s).2,h⟩):(qTyp g).W [ptrV g] ds ⟨s,h0⟩ K:=⟨rfl,h⟩
def cfP_number:Cfg:=⟨[(67,sOne),(27,sTok)],[(100 * 100 + 6,8),(100 * 89 + 1,8),(100 * 89 + 2,9),(100 * 56 + 4,1),(100 * 60 + 4,6),(100 * 60 + 5,9),(100 * 60 + 6,6)],[],sOne,[],[]⟩
def TP_number:Tree:=tS 0 [45] <| tI 1 2 <| .ite 1 (.nd (.pv (.un .neg) [.v 4]) <| .ret [.v 6] []) (.ret [.v 4] [])
theorem TP_number_eq:fnS Tryz.prog cfP_number [.one] 69=some TP_number:=by kernel_rfl
def qNumber (g:Nat):Con0 Tryz.prog (QR g) g where
 f:=69
 sh:=sOne
 W args _ σ K:=args=[ptrV g]∧∀ h,OkS ⟨(mnumber σ.s).2,h⟩→K [.int .i64 (mnumber σ.s).1] [] ⟨(mnumber σ.s).2,h⟩
 ok args ds σ w okk K hg hR hokk hda h1 hW:=by
  obtain ⟨rfl,hK⟩:=hW
  obtain ⟨s,h0⟩:=σ
  have hx:=hK
  try simp only [mnumber,wrap_neg] at hx
  refine fn_ok (cf:=cfP_number) [(qEat g).x,(qKind g).x] rfl mixed QR.stable TP_number_eq (W:=fun args' ds' σ' K'=>args'=[ptrV g]∧ds'=[]∧σ'=⟨s,h0⟩∧K'=K)
   (fun args ds σ K hW=>by obtain ⟨rfl,_⟩:=hW;exact ⟨rfl,trivial⟩) ?_ [ptrV g] [] ⟨s,h0⟩ w _ _ hg hR hokk (daOk_nil _ _ _) (by simp [Sx.flat,Value.cells,Value.oneCell']) ⟨rfl,rfl,rfl,rfl⟩
  rintro args ds σ' K' ⟨rfl,rfl,rfl,rfl⟩ _
  have hp0:=hR.1
  try simp only at hx
  show Tree.holds _ _ _ _ (⟨[ptrV g],[],[],⟨s,h0⟩⟩:Env QS)
  refine kc (h:=w_peat fun h1 p1=>?_)
  try simp only [aS]
  refine kc (h:=w_pkind fun h2 p2=>?_)
  try simp only [aS]
  refine h_ite rfl (fun q3=>?_) (fun q3=>?_)
  ·skip
   try simp only [q3,bS,↓reduceIte] at hx
   refine h_pv rfl rfl ?_
   try simp only [aS]
   try simp only [q3,bS,↓reduceIte] at hx
   exact h_ret rfl rfl (hx _ p2)
  ·skip
   have z3:=meat_noS q3
   rw [z3] at p2
   rw [z3]
   try simp only [z3] at hx
   try simp only [q3,bS,↓reduceIte] at hx
   try simp only [q3,bS,↓reduceIte] at hx
   exact h_ret rfl rfl (hx _ p2)
theorem w_pnumber {g:Nat} {K:List Value→List D→QS→Prop} {ds:List D} {s:RS} {h0:QH}  (h:∀ h,OkS ⟨(mnumber s).2,h⟩→K [.int .i64 (mnumber s).1] [] ⟨(mnumber s).2,h⟩):(qNumber g).W [ptrV g] ds ⟨s,h0⟩ K:=⟨rfl,h⟩
def cfP_length:Cfg:=⟨[(67,sOne),(14,sTok),(27,sTok),(13,sOne),(30,sUnit),(70,sUnit)],[(100 * 100 + 6,8),(100 * 89 + 1,8),(100 * 89 + 2,9),(100 * 56 + 4,1),(100 * 60 + 4,6),(100 * 60 + 5,9),(100 * 60 + 6,6)],[],sOne,[],[]⟩
def Z107:Tree:=tO 1 <| tW <| tI 2 2 <| tO 3 <| tT 11 <| .ite 12 (.nd (.pv (.bin .lss) [.v 9,jI 1]) <| .ite 13 (.nd (.call 4 [.one (.v 0),.one (jI 10),.one (.v 6)] []) <| tS 5 [93] <| .ret [.v 9] []) (.nd (.pv (.bin .gtr) [.v 9,jI 64]) <| .ite 14 (.nd (.call 4 [.one (.v 0),.one (jI 10),.one (.v 6)] []) <| tS 5 [93] <| .ret [.v 9] []) (tS 5 [93] <| .ret [.v 9] []))) (tS 5 [93] <| .ret [.v 9] [])
def TP_length:Tree:=tS 0 [91] <| tT 1 <| .ite 2 (.ret [jI 0] []) Z107
theorem TP_length_eq:fnS Tryz.prog cfP_length [.one] 66=some TP_length:=by kernel_rfl
def qLength (g:Nat):Con0 Tryz.prog (QR g) g where
 f:=66
 sh:=sOne
 W args _ σ K:=args=[ptrV g]∧∀ h,OkS ⟨(mlength σ.s).2,h⟩→K [.int .i64 (mlength σ.s).1] [] ⟨(mlength σ.s).2,h⟩
 ok args ds σ w okk K hg hR hokk hda h1 hW:=by
  obtain ⟨rfl,hK⟩:=hW
  obtain ⟨s,h0⟩:=σ
  have hx:=hK
  try simp only [mlength,mbetween] at hx
  refine fn_ok (cf:=cfP_length) [(qEat g).x,(qTok g).x,(qKind g).x,(qBad g).x,(qFailAt g).x,(qWant g).x] rfl mixed QR.stable TP_length_eq (W:=fun args' ds' σ' K'=>args'=[ptrV g]∧ds'=[]∧σ'=⟨s,h0⟩∧K'=K)
   (fun args ds σ K hW=>by obtain ⟨rfl,_⟩:=hW;exact ⟨rfl,trivial⟩) ?_ [ptrV g] [] ⟨s,h0⟩ w _ _ hg hR hokk (daOk_nil _ _ _) (by simp [Sx.flat,Value.cells,Value.oneCell']) ⟨rfl,rfl,rfl,rfl⟩
  rintro args ds σ' K' ⟨rfl,rfl,rfl,rfl⟩ _
  have hp0:=hR.1
  try simp only at hx
  show Tree.holds _ _ _ _ (⟨[ptrV g],[],[],⟨s,h0⟩⟩:Env QS)
  refine kc (h:=w_peat fun h1 p1=>?_)
  try simp only [aS]
  refine h_pv rfl rfl ?_
  try simp only [aS]
  refine h_ite rfl (fun q3=>?_) (fun q3=>?_)
  ·skip
   simp only [nS] at q3
   have z3:=meat_noS q3
   rw [z3] at p1
   rw [z3]
   try simp only [z3] at hx
   try simp only [q3,bS,↓reduceIte] at hx
   try simp only [q3,bS,↓reduceIte] at hx
   exact h_ret rfl rfl (hx _ p1)
  ·skip
   simp only [nS] at q3
   try simp only [q3,bS,↓reduceIte] at hx
   refine kc (h:=w_ptok ?_)
   try simp only [aS]
   refine h_new fun g5=>?_
   refine kc (h:=w_pkind fun h6 p6=>?_)
   try simp only [aS]
   refine kc (h:=w_pbad ?_)
   try simp only [aS]
   refine h_pv rfl rfl ?_
   try simp only [aS]
   refine h_ite rfl (fun q9=>?_) (fun q9=>?_)
   ·skip
    simp only [nS] at q9
    try simp only [Bool.not_eq_true',Bool.not_eq_false'] at q9
    try simp only [q3,q9,bS,↓reduceIte] at hx
    refine h_pv rfl rfl ?_
    try simp only [aS]
    refine h_ite rfl (fun q11=>?_) (fun q11=>?_)
    ·skip
     try simp only [q3,q9,q11,bS,↓reduceIte] at hx
     refine kc (h:=w_pfailat fun h12 p12=>?_)
     refine kc (h:=w_pwant fun h13 p13=>?_)
     try simp only [q3,q9,q11,bS,↓reduceIte] at hx
     exact h_ret rfl rfl (hx _ p13)
    ·skip
     try simp only [q3,q9,q11,bS,↓reduceIte] at hx
     refine h_pv rfl rfl ?_
     try simp only [aS]
     refine h_ite rfl (fun q15=>?_) (fun q15=>?_)
     ·skip
      try simp only [q3,q9,q11,q15,bS,↓reduceIte] at hx
      refine kc (h:=w_pfailat fun h16 p16=>?_)
      refine kc (h:=w_pwant fun h17 p17=>?_)
      try simp only [q3,q9,q11,q15,bS,↓reduceIte] at hx
      exact h_ret rfl rfl (hx _ p17)
     ·skip
      try simp only [q3,q9,q11,q15,bS,↓reduceIte] at hx
      refine kc (h:=w_pwant fun h18 p18=>?_)
      try simp only [q3,q9,q11,q15,bS,↓reduceIte] at hx
      exact h_ret rfl rfl (hx _ p18)
   ·skip
    simp only [nS] at q9
    try simp only [Bool.not_eq_true',Bool.not_eq_false'] at q9
    try simp only [q3,q9,bS,↓reduceIte] at hx
    refine kc (h:=w_pwant fun h19 p19=>?_)
    try simp only [q3,q9,bS,↓reduceIte] at hx
    exact h_ret rfl rfl (hx _ p19)
theorem w_plength {g:Nat} {K:List Value→List D→QS→Prop} {ds:List D} {s:RS} {h0:QH}  (h:∀ h,OkS ⟨(mlength s).2,h⟩→K [.int .i64 (mlength s).1] [] ⟨(mlength s).2,h⟩):(qLength g).W [ptrV g] ds ⟨s,h0⟩ K:=⟨rfl,h⟩
end Go.Proofs.YtdmacgoeikjdbaaGreatDoor
namespace Go.Proofs.YtdmacgoeikjdbaaGreatDoor
open Go.RowKit Sx
theorem ris_kind {x:List UInt8} {s:RS} (h:ris x s=true):(hdT s.ts).kind ≠ 0:=isT_kind h
theorem at_wrap {σ:QS} (h:OkS σ):IntKind.i64.wrap ((σ.h.at_:Int) + 1)=Int.ofNat (σ.h.at_ + 1):=by
 have h1:=h.lt
 have h2:=h.le
 rw [IntKind.wrap_i64]
 show _=((σ.h.at_ + 1:Nat):Int)
 omega
theorem OkS.hd1 {σ:QS} (h:OkS σ):σ.h.all.getD (σ.h.at_ + 1) noTokT=σ.s.ts.getD 1 noTokT:=by
 rw [h.ts,List.getD_eq_getElem?_getD,List.getD_eq_getElem?_getD,List.getElem?_drop]
theorem QR.ldK0 {g:Nat} {σ:QS} (ho:OkS σ) (h1:σ.h.at_ + 1<σ.h.all.length):∀ w,QR g σ w→LoadsAt w (.pointer (some ⟨σ.h.q,σ.h.off + (σ.h.at_ + 1) * 4 + 0,none⟩)) [.int .i64 (σ.s.ts.getD 1 noTokT).kind]:=fun w h=>loads_at (j:=0) (QR.ldT _ h1 w h) (by rw [ho.hd1];rfl)
theorem QR.ldK1 {g:Nat} {σ:QS} (ho:OkS σ) (h1:σ.h.at_ + 1<σ.h.all.length):∀ w,QR g σ w→LoadsAt w (.pointer (some ⟨σ.h.q,σ.h.off + (σ.h.at_ + 1) * 4 + 1,none⟩)) [strV8 (σ.s.ts.getD 1 noTokT).text]:=fun w h=>loads_at (j:=1) (QR.ldT _ h1 w h) (by rw [ho.hd1];rfl)
def cfP_nothing:Cfg:=⟨[(28,sOne),(65,sTok),(67,sOne)],[(100 * 100 + 6,8),(100 * 89 + 1,8),(100 * 89 + 2,9),(100 * 56 + 4,1),(100 * 60 + 4,6),(100 * 60 + 5,9),(100 * 60 + 6,6)],[],sOne,[],[]⟩
def Z108:Tree:=tN 0 <| tF 0 2 <| tL 3 1 <| tN 0 <| tF 1 5 <| tL 6 1 <| tA 7 1 <| .nd (.pv (.ia 4) [.v 4,.v 8]) <| tF 0 9 <| tL 10 1 <| tQ 11 3 <| .ite 12 (tN 0 <| tF 0 13 <| tL 14 1 <| tN 0 <| tF 1 16 <| tL 17 1 <| tA 18 1 <| .nd (.pv (.ia 4) [.v 15,.v 19]) <| tF 1 20 <| tL 21 1 <| .nd (.pv (.bin .eql) [.v 22,.c (.string ⟨#[41]⟩)]) <| .ite 23 (tO 1 <| tS 2 [41] <| .ret [.v 28] []) (tS 2 [41] <| .ret [.v 24] [])) (tS 2 [41] <| .ret [.v 13] [])
def TP_nothing:Tree:=tS 0 [118,111,105,100] <| .ite 1 Z108 (tS 2 [41] <| .ret [.v 2] [])
theorem TP_nothing_eq:fnS Tryz.prog cfP_nothing [.one] 71=some TP_nothing:=by kernel_rfl
def qNothing (g:Nat):Con0 Tryz.prog (QR g) g where
 f:=71
 sh:=sOne
 W args _ σ K:=args=[ptrV g]∧∀ h,OkS ⟨(mnothing σ.s).2,h⟩→K [.bool (mnothing σ.s).1] [] ⟨(mnothing σ.s).2,h⟩
 ok args ds σ w okk K hg hR hokk hda h1 hW:=by
  obtain ⟨rfl,hK⟩:=hW
  obtain ⟨s,h0⟩:=σ
  have hx:=hK
  try simp only [mnothing,bVoid] at hx
  refine fn_ok (cf:=cfP_nothing) [(qIs g).x,(qNext g).x,(qEat g).x] rfl mixed QR.stable TP_nothing_eq (W:=fun args' ds' σ' K'=>args'=[ptrV g]∧ds'=[]∧σ'=⟨s,h0⟩∧K'=K)
   (fun args ds σ K hW=>by obtain ⟨rfl,_⟩:=hW;exact ⟨rfl,trivial⟩) ?_ [ptrV g] [] ⟨s,h0⟩ w _ _ hg hR hokk (daOk_nil _ _ _) (by simp [Sx.flat,Value.cells,Value.oneCell']) ⟨rfl,rfl,rfl,rfl⟩
  rintro args ds σ' K' ⟨rfl,rfl,rfl,rfl⟩ _
  have hp0:=hR.1
  try simp only at hx
  show Tree.holds _ _ _ _ (⟨[ptrV g],[],[],⟨s,h0⟩⟩:Env QS)
  refine kc (h:=w_pis ?_)
  try simp only [aS]
  refine h_ite rfl (fun q2=>?_) (fun q2=>?_)
  ·skip
   try simp only [q2,bS,↓reduceIte] at hx
   have hone:=OkS.one hp0 (ris_kind q2)
   have hat1:=at_wrap hp0
   refine h_pv rfl rfl ?_
   try simp only [aS]
   refine h_pv rfl rfl ?_
   try simp only [aS]
   refine h_ld rfl QR.ld0 rfl (allV_one _) ?_
   try simp only [aS]
   refine h_pv rfl rfl ?_
   try simp only [aS]
   refine h_pv rfl rfl ?_
   try simp only [aS]
   refine h_ld rfl QR.ld1 rfl (int_one _) ?_
   try simp only [aS]
   refine h_pv rfl rfl ?_
   rw [hat1]
   try simp only [aS]
   refine h_pv rfl (sem_iaQ _ hone) ?_
   try simp only [aS]
   refine h_pv rfl rfl ?_
   try simp only [aS]
   refine h_ld rfl (QR.ldK0 hp0 hone) rfl (by simp [strV8,Value.oneCell']) ?_
   try simp only [aS]
   refine h_pv rfl rfl ?_
   try simp only [aS]
   refine h_ite rfl (fun q14=>?_) (fun q14=>?_)
   ·skip
    try dsimp only at q14
    try simp only [q2,q14,bS,↓reduceIte] at hx
    refine h_pv rfl rfl ?_
    try simp only [aS]
    refine h_pv rfl rfl ?_
    try simp only [aS]
    refine h_ld rfl QR.ld0 rfl (allV_one _) ?_
    try simp only [aS]
    refine h_pv rfl rfl ?_
    try simp only [aS]
    refine h_pv rfl rfl ?_
    try simp only [aS]
    refine h_ld rfl QR.ld1 rfl (int_one _) ?_
    try simp only [aS]
    refine h_pv rfl rfl ?_
    rw [hat1]
    try simp only [aS]
    refine h_pv rfl (sem_iaQ _ hone) ?_
    try simp only [aS]
    refine h_pv rfl rfl ?_
    try simp only [aS]
    refine h_ld rfl (QR.ldK1 hp0 hone) rfl (by simp [strV8,Value.oneCell']) ?_
    try simp only [aS]
    refine h_pv rfl rfl ?_
    try simp only [aS]
    refine h_ite rfl (fun q26=>?_) (fun q26=>?_)
    ·skip
     try dsimp only at q26
     try simp only [List.toList_toArray] at q26
     try simp only [q2,q14,q26,bS,↓reduceIte] at hx
     refine kc (h:=w_pnext fun h27 p27=>?_)
     try simp only [aS]
     refine kc (h:=w_peat fun h28 p28=>?_)
     try simp only [aS]
     try simp only [q2,q14,q26,bS,↓reduceIte] at hx
     exact h_ret rfl rfl (hx _ p28)
    ·skip
     try dsimp only at q26
     try simp only [List.toList_toArray] at q26
     try simp only [q2,q14,q26,bS,↓reduceIte] at hx
     refine kc (h:=w_peat fun h29 p29=>?_)
     try simp only [aS]
     try simp only [q2,q14,q26,bS,↓reduceIte] at hx
     exact h_ret rfl rfl (hx _ p29)
   ·skip
    try dsimp only at q14
    try simp only [q2,q14,bS,↓reduceIte] at hx
    refine kc (h:=w_peat fun h30 p30=>?_)
    try simp only [aS]
    try simp only [q2,q14,bS,↓reduceIte] at hx
    exact h_ret rfl rfl (hx _ p30)
  ·skip
   try simp only [q2,bS,↓reduceIte] at hx
   refine kc (h:=w_peat fun h31 p31=>?_)
   try simp only [aS]
   try simp only [q2,bS,↓reduceIte] at hx
   exact h_ret rfl rfl (hx _ p31)
theorem w_pnothing {g:Nat} {K:List Value→List D→QS→Prop} {ds:List D} {s:RS} {h0:QH}  (h:∀ h,OkS ⟨(mnothing s).2,h⟩→K [.bool (mnothing s).1] [] ⟨(mnothing s).2,h⟩):(qNothing g).W [ptrV g] ds ⟨s,h0⟩ K:=⟨rfl,h⟩
end Go.Proofs.YtdmacgoeikjdbaaGreatDoor
namespace Go.Proofs.YtdmacgoeikjdbaaGreatDoor
open Go.RowKit Sx Go.WideMaps Go.Maps
theorem wpList_insert_own {H:Type} {P:Program} (w:World) {ops:Array Oper} {rest:List Oper} {o:Oper} {a:Act} {Q:Exit→Act→World→Prop}
  (hg:o.guard=none) (m x v:Operand) (t:TypeId) (hop:o.op=Op.insert t m x v)
  (k e:TypeId) (K:Keyed P k) (ht:P.underlying t=some (.map k e)) (R:Value→Option (DataW H × List MemPlace)) (b n:Nat) (D:DataW H)
  (hm:a.eval m=.map (some b)) (hown:w.ownsMap P k R b n D) (hn:n<maxLen) (key val:Value) (kl:Lit) (hx:a.eval x=key) (hv:a.eval v=val) (hkey:keyOf P k key=some kl)
  (d:DataW H) (ps:List MemPlace) (hval:R val=some (d,ps))
  (hK:∀ w',w'.ownsMap P k R b (n + 1) (D.put kl d)→w.grownBy w' (some b)→wpList P ops Q rest (a.put o.dst undef) w') :
  wpList P ops Q (o :: rest) a w:=by
 refine wpList_plain hg fun K' hK'=>?_
 obtain ⟨w',hrun,r1,r2⟩:=hown.update K ht hn hkey hval
 unfold Oper.wp
 simp [execOp,hop,hm,hx,hv,hrun,Result.andThen]
 exact hK' _ _ (hK w' r1 r2)
theorem keyedS:Keyed Tryz.prog 9:=string_keyed Tryz.underlying9
theorem keyedI:Keyed Tryz.prog 3:=int_keyed Tryz.underlying3
theorem zeroI (w:World):(zeroValue 3).run Tryz.prog w=.ok (.int .i64 0) w:=by kernel_rfl
def mapS (l:List (List UInt8 × Int)):DataW Unit:=l.foldr (fun p D=>D.put (.string p.1) (.lit (.int .i64 p.2))) (.map [])
def mapI (l:List (Int × Int)):DataW Unit:=l.foldr (fun p D=>D.put (.int .i64 p.1) (.lit (.int .i64 p.2))) (.map [])
def prefR:List (List UInt8 × Int):=[([45,45],12),([43,43],11),([33],8),([126],7),([45],6),([38],5),([42],4)]
def levelR:List (Int × Int):=[(17,9),(16,9),(15,9),(19,8),(18,8),(21,7),(20,7),(25,6),(24,6),(23,6),(22,6),(27,5),(26,5),(28,4),(29,3),(30,2),(31,1),(32,0)]
theorem map_isMap:∀ l,IsMap (mapS l)
 | []=>⟨_,rfl⟩
 | p :: l=>by
  obtain ⟨es,h⟩:=map_isMap l
  show IsMap ((mapS l).put _ _)
  rw [h]
  exact ⟨_,rfl⟩
theorem mapI_isMap:∀ l,IsMap (mapI l)
 | []=>⟨_,rfl⟩
 | p :: l=>by
  obtain ⟨es,h⟩:=mapI_isMap l
  show IsMap ((mapI l).put _ _)
  rw [h]
  exact ⟨_,rfl⟩
theorem mapS_at (x:List UInt8):∀ l:List (List UInt8 × Int),(∀ p ∈ l,p.2 ≠ 0)→(mapS l).atKey (.string x) (.lit (.int .i64 0))=.lit (.int .i64 (lookS x l))∧Maps.has (mapS l) (.string x)=(lookS x l != 0)
 | [],_=>⟨rfl,rfl⟩
 | p :: l,h=>by
  obtain ⟨h1,h2⟩:=mapS_at x l fun q hq=>h q (List.mem_cons_of_mem _ hq)
  have hp:=h p List.mem_cons_self
  have hk:WideAt.IsKeyLit (.string p.1):=by trivial
  unfold mapS
  rw [List.foldr_cons]
  change DataW.atKey ((mapS l).put _ _) _ _=_∧Maps.has ((mapS l).put _ _) _=_
  by_cases e:p.1=x
  ·subst e
   rw [atKey_put_same (map_isMap l) hk,has_put_same (map_isMap l) hk]
   simp [lookS,hp]
  ·have hne:(Lit.string x) ≠ Lit.string p.1:=by
    intro h
    injection h with h
    exact e h.symm
   rw [atKey_put_other hne,has_put_other hne,h1,h2]
   simp [lookS,e]
theorem look_prefR (x:List UInt8):lookS x prefR=lookS x prefixes:=by
 by_cases h1:x=[45,45]
 ·subst h1;rfl
 by_cases h2:x=[43,43]
 ·subst h2;rfl
 by_cases h3:x=[33]
 ·subst h3;rfl
 by_cases h4:x=[126]
 ·subst h4;rfl
 by_cases h5:x=[45]
 ·subst h5;rfl
 by_cases h6:x=[38]
 ·subst h6;rfl
 by_cases h7:x=[42]
 ·subst h7;rfl
 simp [lookS,prefR,prefixes,Ne.symm h1,Ne.symm h2,Ne.symm h3,Ne.symm h4,Ne.symm h5,Ne.symm h6,Ne.symm h7]
set_option maxRecDepth 8000 in
theorem prefix_any (w:World):Calls Tryz.prog 129 #[] w (fun e w'=>e=.returned (.map (some w.heap.size))∧w'.ownsMap Tryz.prog 9 (plainElem (H:=Unit) Tryz.prog 3) w.heap.size 7 (mapS prefR)∧Below w.heap.size w w'):=by
 have hown:(w.alloc (.map #[] 0)).ownsMap Tryz.prog 9 (plainElem (H:=Unit) Tryz.prog 3) w.heap.size 0 (.map []):=World.ownsMap_made _ _ _ _
 have hb:Below w.heap.size w (w.alloc (.map #[] 0)):=below_alloc _ _
 have hmm:=@run_makeMap Tryz.prog
 go_enter Tryz.func129,Tryz.ntmps129
 go_wp2_with (first | (refine wpList_insert_own _ rfl _ _ _ 139 rfl 9 3 keyedS Tryz.underlying139 (plainElem (H:=Unit) Tryz.prog 3) w.heap.size _ _ rfl hown (by unfold maxLen;omega) _ _ _ rfl rfl (keyOf_string_mk Tryz.underlying9 (by decide)) _ [] (plainElem_int Tryz.underlying3 (by decide)) ?_;intro w1 hown hgrow;have hb:=hb.grown hgrow hb.size (fun j hj=>by cases hj;exact Nat.le_refl _);clear hgrow) | go_in)
 go_ret
 exact ⟨rfl,hown,hb⟩
set_option maxRecDepth 8000 in
theorem level_any (n:Int) (hn:15≤n∧n≤32) (w:World):Calls Tryz.prog 134 #[.int .i64 n] w (fun e w'=>∃ c:Int,(mapI levelR).atKey (.int .i64 n) (.lit (.int .i64 0))=.lit (.int .i64 c)∧e=.returned (.int .i64 c)∧Below w.heap.size w w'):=by
 have hown:(w.alloc (.map #[] 0)).ownsMap Tryz.prog 3 (plainElem (H:=Unit) Tryz.prog 3) w.heap.size 0 (.map []):=World.ownsMap_made _ _ _ _
 have hb:Below w.heap.size w (w.alloc (.map #[] 0)):=below_alloc _ _
 have hmm:=@run_makeMap Tryz.prog
 have hwf:(Lit.int .i64 n).wf=true:=WalkArith.wf_i64 (by omega)
 go_enter Tryz.func134,Tryz.ntmps134
 go_wp2_with (first | (refine wpList_insert_own _ rfl _ _ _ 147 rfl 3 3 keyedI Tryz.underlying147 (plainElem (H:=Unit) Tryz.prog 3) w.heap.size _ _ rfl hown (by unfold maxLen;omega) _ _ _ rfl rfl (keyOf_int_mk Tryz.underlying3 (by decide)) _ [] (plainElem_int Tryz.underlying3 (by decide)) ?_;intro w1 hown hgrow;have hb:=hb.grown hgrow hb.size (fun j hj=>by cases hj;exact Nat.le_refl _);clear hgrow) | (refine wpList_lookup_own_int _ rfl _ _ 147 rfl 3 3 .i64 keyedI Tryz.underlying147 Tryz.underlying3 (zeroI _) w.heap.size _ _ rfl hown _ _ rfl (keyOf_int_mk Tryz.underlying3 hwf) ?_;intro c hat hwc) | go_in)
 go_ret
 exact ⟨c,hat,rfl,hb⟩
end Go.Proofs.YtdmacgoeikjdbaaGreatDoor
namespace Go.Proofs.YtdmacgoeikjdbaaGreatDoor
open Go.RowKit Sx
def sgnL:List (List UInt8):=[[42],[47],[37],[43],[45],[60,60],[62,62],[60],[60,61],[62],[62,61],[61,61],[33,61],[38],[94],[124],[38,38],[124,124]]
def sgnB:List ByteArray:=sgnL.map fun x=>⟨x.toArray⟩
abbrev sgnCells:Array Value:=(sgnL.map fun l=>Value.string ⟨l.toArray⟩).toArray
def sIdx (x:List UInt8):Int:=Lib.idxOfS sgnB ⟨x.toArray⟩
def bareB:List UInt8:=[32,60,32,62,32,33,32,61,32,38,38,32,124,124,32]
def sOp (x:List UInt8):List UInt8:=Lib.trimSuffix x [61]
theorem bytes_eq {x y:List UInt8}:(⟨x.toArray⟩:ByteArray)=⟨y.toArray⟩ ↔ x=y:=bytes_inj
theorem sIdx_neg {x:List UInt8} (h:x ∉ sgnL):sIdx x=-1:=by
 have:=Lib.idxOfS_miss sgnB 18 ⟨x.toArray⟩ (fun j hj he=>by
  have hj2:j<sgnL.length:=hj
  have e:sgnB.getD j ByteArray.empty=⟨(sgnL[j]).toArray⟩:=by
   unfold sgnB
   rw [List.getD_eq_getElem?_getD,List.getElem?_map,List.getElem?_eq_getElem hj2]
   rfl
  rw [e,bytes_eq] at he
  exact h (he ▸ List.getElem_mem _))
 exact this
theorem fields_words:Lib.fields [42,32,47,32,37,32,43,32,45,32,60,60,32,62,62,32,60,32,60,61,32,62,32,62,61,32,61,61,32,33,61,32,38,32,94,32,124,32,38,38,32,124,124]=sgnL:=by kernel_rfl
set_option maxRecDepth 8000 in
theorem sgnWords_any (w:World) (htab:Lib.TabIs Tryz.prog w "strings.asciiSpace" .u8 Lib.asciiSpaceTab):Calls Tryz.prog 114 #[] w (fun e w'=>e=.returned (.slice (some ⟨w.heap.size,0,none⟩) 18 18)∧w'=w.alloc (.cells sgnCells 9)):=by
 have hf:=Tryz.strings_Fields ⟨#[42,32,47,32,37,32,43,32,45,32,60,60,32,62,62,32,60,32,60,61,32,62,32,62,61,32,61,61,32,33,61,32,38,32,94,32,124,32,38,38,32,124,124]⟩ w (by decide) (by
  intro j b hb
  have:∀ c ∈ [42,32,47,32,37,32,43,32,45,32,60,60,32,62,62,32,60,32,60,61,32,62,32,62,61,32,61,61,32,33,61,32,38,32,94,32,124,32,38,38,32,124,(124:UInt8)],c.toNat<128:=by decide
  exact this b (List.mem_of_getElem? hb)) htab
 simp only at hf
 rw [fields_words] at hf
 clear htab
 go_enter Tryz.func114,Tryz.ntmps114
 go_wp2_with fail
 refine hf.mono ?_
 rintro e w1 ⟨rfl,rfl⟩
 go_wp2_with fail
 go_ret
 exact ⟨rfl,rfl⟩
theorem sgnIdx_any {w:World} {b c:Nat} (x:List UInt8) (hb:BlkIs w b 9 sgnCells):Calls Tryz.prog 110 #[.slice (some ⟨b,0,none⟩) 18 c,strB x] w (fun e w'=>e=.returned (.int .i64 (sIdx x))∧w'=w):=
 Tryz.slices_Index_string b 0 18 c sgnB ⟨x.toArray⟩ w (by decide) (by omega) (fun j hj=>by
  have hj2:j<sgnL.length:=hj
  have e:sgnB.getD j ByteArray.empty=⟨(sgnL[j]).toArray⟩:=by
   unfold sgnB
   rw [List.getD_eq_getElem?_getD,List.getElem?_map,List.getElem?_eq_getElem hj2]
   rfl
  rw [e,hb.cell]
  simp [sgnCells,List.getElem?_eq_getElem hj2])
theorem lookS_zero {x:List UInt8}:∀ {l:List (List UInt8 × Int)},(∀ p ∈ l,p.1 ≠ x)→lookS x l=0
 | [],_=>rfl
 | (y,n) :: l,h=>by
  have h1:=h (y,n) List.mem_cons_self
  rw [lookS,if_neg h1]
  exact lookS_zero fun p hp=>h p (List.mem_cons_of_mem _ hp)
theorem sOp_of {x:List UInt8} (h:Lib.hasSuffix x [61]=true):x=sOp x ++ [61]:=by
 unfold sOp Lib.trimSuffix
 rw [if_pos h]
 unfold Lib.hasSuffix at h
 rw [List.isSuffixOf_iff_suffix] at h
 obtain ⟨t,ht⟩:=h
 rw [← ht]
 simp
theorem mass_key:∀ p ∈ massL,Lib.hasSuffix p.1 [61]=true∧sOp p.1 ∈ sgnL:=by decide
theorem mass_op:∀ y ∈ sgnL,(if Lib.contains bareB ([32] ++ y ++ [32]) then (0,false) else (15 + sIdx y,true):Int × Bool)=(massigns (y ++ [61]),massigns (y ++ [61]) != 0):=by decide
theorem mass_ne:∀ y ∈ sgnL,y ++ [61] ≠ [61]∧0≤sIdx y∧sIdx y<18:=by decide
theorem mass_none {x:List UInt8} (h:Lib.hasSuffix x [61]=false ∨ sOp x ∉ sgnL):massigns x=0:=lookS_zero fun p hp he=>by
 have:=mass_key p hp
 rw [he] at this
 rcases h with h | h
 ·rw [h] at this
  cases this.1
 ·exact h this.2
end Go.Proofs.YtdmacgoeikjdbaaGreatDoor
namespace Go.Proofs.YtdmacgoeikjdbaaGreatDoor
open Go.RowKit Sx
set_option maxRecDepth 8000 in
theorem massigns_any (x:List UInt8) (hx:x.length≤1000000) (g:Nat) (w:World) (hl:LibW g w) (hg:g<w.heap.size):Calls Tryz.prog 103 #[strB x] w (TellP (.tuple #[.int .i64 (massigns x),.bool (misAss x)]) w):=by
 obtain ⟨R,hR⟩:∃ R,Hid (Value.tuple #[.int .i64 (massigns x),.bool (misAss x)]=R):=⟨_,Lib.hid rfl⟩
 rw [hR.out]
 by_cases h1:x=[61]
 ·subst h1
  go_enter Tryz.func103,Tryz.ntmps103
  go_wp2_with fail
  refine bodyPost_ret (v:=.tuple #[.int .i64 0,.bool true]) (by simp [results,Tryz.results103,go_sem]) rfl ?_
  exact ⟨congrArg Ending.returned hR.out,Below.refl _ _⟩
 have hne:(x == [61])=false:=by simpa using h1
 have hcut:=Tryz.strings_CutSuffix ⟨x.toArray⟩ ⟨#[61]⟩ w (by show x.toArray.size≤_;simp;omega)
 obtain ⟨b2,hb2⟩:∃ b,Hid (Lib.hasSuffix x [61]=b):=⟨_,Lib.hid rfl⟩
 obtain ⟨op,hop⟩:∃ o,Hid (sOp x=o):=⟨_,Lib.hid rfl⟩
 rw [show Lib.hasSuffix (⟨x.toArray⟩:ByteArray).data.toList (⟨#[61]⟩:ByteArray).data.toList=Lib.hasSuffix x [61] from rfl,hb2.out,show Lib.trimSuffix (⟨x.toArray⟩:ByteArray).data.toList (⟨#[61]⟩:ByteArray).data.toList=sOp x from rfl,hop.out] at hcut
 obtain ⟨hg0,⟨m,hm⟩,kt,_,_,htab⟩:=hl
 have hwd:=sgnWords_any w htab
 have hz:=BlkIs.fresh w 9 sgnCells
 have hb:=below_alloc w (.cells sgnCells 9)
 obtain ⟨w1,hw1⟩:∃ w1,w1=w.alloc (.cells sgnCells 9):=⟨_,rfl⟩
 rw [← hw1] at hwd hz hb
 have hix:=sgnIdx_any (c:=18) op hz
 obtain ⟨i,hi⟩:∃ i,Hid (sIdx op=i):=⟨_,Lib.hid rfl⟩
 rw [hi.out] at hix
 have hm1:w1.cell? ⟨0,0,none⟩=some (.int .i64 m):=by rw [← hm];exact World.cell?_of_block (hb.block 0 (by omega))
 have hol:op.length≤1000000:=by
  rw [← hop.out]
  unfold sOp Lib.trimSuffix
  split
  ·simp;omega
  ·exact hx
 clear htab hw1 hz
 cases b2
 ·have e0:massigns x=0:=mass_none (.inl hb2.out)
  have e1:misAss x=false:=by rw [misAss,e0,hne];rfl
  have hR:Value.tuple #[.int .i64 0,.bool false]=R:=by rw [← hR.out,e0,e1]
  have hR:=Lib.hid hR
  go_enter Tryz.func103,Tryz.ntmps103
  go_wp2_with fail
  refine hcut.mono ?_
  rintro e w2 ⟨rfl,rfl⟩
  go_wp2_with fail
  refine hwd.mono ?_
  rintro e w2 ⟨rfl,rfl⟩
  go_wp2_with fail
  refine hix.mono ?_
  rintro e w2 ⟨rfl,rfl⟩
  go_wp2_with fail
  refine bodyPost_ret (v:=.tuple #[.int .i64 0,.bool false]) (by simp [results,Tryz.results103,go_sem]) rfl ?_
  exact ⟨congrArg Ending.returned hR.out,hb⟩
 by_cases hi0:i<0
 ·have e0:massigns x=0:=mass_none (.inr (by
   intro hm
   have:=(mass_ne _ hm).2.1
   rw [hop.out,hi.out] at this
   omega))
  have e1:misAss x=false:=by rw [misAss,e0,hne];rfl
  have hR:Value.tuple #[.int .i64 0,.bool false]=R:=by rw [← hR.out,e0,e1]
  have hR:=Lib.hid hR
  go_enter Tryz.func103,Tryz.ntmps103
  go_wp2_with fail
  refine hcut.mono ?_
  rintro e w2 ⟨rfl,rfl⟩
  go_wp2_with fail
  refine hwd.mono ?_
  rintro e w2 ⟨rfl,rfl⟩
  go_wp2_with fail
  refine hix.mono ?_
  rintro e w2 ⟨rfl,rfl⟩
  go_wp2_with fail
  refine bodyPost_ret (v:=.tuple #[.int .i64 0,.bool false]) (by simp [results,Tryz.results103,go_sem]) rfl ?_
  exact ⟨congrArg Ending.returned hR.out,hb⟩
 ·have hmem:op ∈ sgnL:=by
   by_cases h:op ∈ sgnL
   ·exact h
   ·have:=sIdx_neg h
    rw [hi.out] at this
    omega
  have hmo:=mass_op op hmem
  have hi18:=(mass_ne op hmem).2.2
  rw [hi.out] at hmo hi18
  have hxe:x=op ++ [61]:=by rw [← hop.out];exact sOp_of hb2.out
  rw [← hxe] at hmo
  have hcon:=Tryz.strings_Contains ⟨#[32,60,32,62,32,33,32,61,32,38,38,32,124,124,32]⟩ (⟨#[32]⟩ ++ ⟨op.toArray⟩ ++ ⟨#[32]⟩) m w1 (by decide) hm1
  have esub:(((⟨#[32]⟩:ByteArray) ++ ⟨op.toArray⟩ ++ ⟨#[32]⟩).data.toList)=[32] ++ op ++ [32]:=by simp [ByteArray.data_append]
  rw [esub] at hcon
  obtain ⟨cb,hcb⟩:∃ b,Hid (Lib.contains bareB ([32] ++ op ++ [32])=b):=⟨_,Lib.hid rfl⟩
  rw [show (⟨#[32,60,32,62,32,33,32,61,32,38,38,32,124,124,32]⟩:ByteArray).data.toList=bareB from rfl,hcb.out] at hcon
  rw [hcb.out] at hmo
  clear esub
  have hip:0≤i:=by omega
  obtain ⟨A,hA⟩:∃ A,Hid (massigns x=A):=⟨_,Lib.hid rfl⟩
  have hRA:Value.tuple #[.int .i64 A,.bool (A != 0)]=R:=by
   rw [← hR.out,misAss,hne,Bool.false_or,hA.out]
  rw [hA.out] at hmo
  have hRA:=Lib.hid hRA
  clear hxe hR hi0
  cases cb
  ·injection hmo with q1 q2
   have q1:15 + i=A:=q1
   subst q1
   have q2:true=(15 + i != 0):=q2
   have hRA:Value.tuple #[.int .i64 (15 + i),.bool true]=R:=by rw [← hRA.out,← q2]
   have hRA:=Lib.hid hRA
   clear q2
   go_enter Tryz.func103,Tryz.ntmps103
   go_wp2_with fail
   refine hcut.mono ?_
   rintro e w2 ⟨rfl,rfl⟩
   go_wp2_with fail
   refine hwd.mono ?_
   rintro e w2 ⟨rfl,rfl⟩
   go_wp2_with fail
   refine hix.mono ?_
   rintro e w2 ⟨rfl,rfl⟩
   go_wp2_with fail
   refine hcon.mono ?_
   rintro e w2 ⟨rfl,rfl⟩
   go_wp2_with fail
   refine bodyPost_ret (v:=.tuple #[.int .i64 (15 + i),.bool true]) (by simp [results,Tryz.results103,go_sem]) rfl ?_
   exact ⟨congrArg Ending.returned hRA.out,hb⟩
  ·injection hmo with q1 q2
   have q1:0=A:=q1
   subst q1
   have hRA:Value.tuple #[.int .i64 0,.bool false]=R:=hRA.out
   have hRA:=Lib.hid hRA
   clear q2 hA
   go_enter Tryz.func103,Tryz.ntmps103
   go_wp2_with fail
   refine hcut.mono ?_
   rintro e w2 ⟨rfl,rfl⟩
   go_wp2_with fail
   refine hwd.mono ?_
   rintro e w2 ⟨rfl,rfl⟩
   go_wp2_with fail
   refine hix.mono ?_
   rintro e w2 ⟨rfl,rfl⟩
   go_wp2_with fail
   refine hcon.mono ?_
   rintro e w2 ⟨rfl,rfl⟩
   go_wp2_with fail
   refine bodyPost_ret (v:=.tuple #[.int .i64 0,.bool false]) (by simp [results,Tryz.results103,go_sem]) rfl ?_
   exact ⟨congrArg Ending.returned hRA.out,hb⟩
end Go.Proofs.YtdmacgoeikjdbaaGreatDoor

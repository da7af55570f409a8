/- The program's parser: statements (symbolic execution). Printed by wip/ -/
import Derived.Test.YtdmacgoeikjdbaaGreatDoorL28
import Derived.Test.YtdmacgoeikjdbaaGreatDoorL29
set_option linter.unusedSimpArgs false
set_option linter.unusedVariables false
set_option maxHeartbeats 16000000
namespace Go.Proofs.YtdmacgoeikjdbaaGreatDoor
open Go.RowKit Sx
def cfP_stmt:Cfg:=⟨[(84,sUnit),(14,sTok),(85,sOne),(86,sStP),(87,sStP),(67,sOne),(28,sOne),(32,sSts),(65,sTok),(88,sEx),(70,sUnit)],[(100 * 100 + 6,8),(100 * 89 + 1,8),(100 * 89 + 2,9),(100 * 56 + 4,1),(100 * 60 + 4,6),(100 * 60 + 5,9),(100 * 60 + 6,6)],[],sSt,[],[]⟩
def Z29:Tree:=tN 0 <| tF 0 23 <| tL 24 1 <| tN 0 <| tF 1 26 <| tL 27 1 <| tA 28 1 <| .nd (.pv (.ia 4) [.v 25,.v 29]) <| tF 1 30 <| tL 31 1 <| .nd (.pv (.bin .eql) [.v 32,.c (.string ⟨#[58]⟩)]) <| .ite 33 (tO 8 <| tO 8 <| .ret [jI 15,jN,jN,jI 0,jI 0,jI 0,.v 3,jI 0,.v 5] [jP 8,jP 9]) (tA 1 1 <| tV 9 34 <| tB 8 1 [rX 35 0] <| tS 10 [59] <| tR 1 (.v 43) jN (.v 5) (.dat 1) (.nil 9))
def Z28:Tree:=tN 0 <| tF 0 12 <| tL 13 1 <| tN 0 <| tF 1 15 <| tL 16 1 <| tA 17 1 <| .nd (.pv (.ia 4) [.v 14,.v 18]) <| tF 0 19 <| tL 20 1 <| tQ 21 3 <| .ite 22 Z29 (tA 1 1 <| tV 9 23 <| tB 8 1 [rX 24 0] <| tS 10 [59] <| tR 1 (.v 32) jN (.v 5) (.dat 1) (.nil 9))
def Z27:Tree:=tQ 2 1 <| .ite 11 Z28 (tA 1 1 <| tV 9 12 <| tB 8 1 [rX 13 0] <| tS 10 [59] <| tR 1 (.v 21) jN (.v 5) (.dat 1) (.nil 9))
def Z26:Tree:=tS 6 [123] <| .ite 10 (tV 7 1 <| tR 3 jN (.v 11) (.v 5) (.nil 8) (.dat 0)) Z27
def Z25:Tree:=tS 5 [59] <| .ite 9 (tR 16 jN jN (.v 5) (.nil 8) (.nil 9)) Z26
def Z24:Tree:=tQ 2 4 <| .ite 8 (.nd (.call 4 [.one (.v 0),.agg [jI 0,jN,jN,jI 0,jI 0,jI 0,jE,jI 0,.v 5],.one (.v 1)] [jP 8,jP 9]) <| .ret [.v 9,.v 10,.v 11,.v 12,.v 13,.v 14,.v 15,.v 16,.v 17] [jD 10 0,jD 11 1]) Z25
def Z23:Tree:=tO 2 <| .ite 7 (.nd (.call 3 [.one (.v 0),.agg [jI 0,jN,jN,jI 0,jI 0,jI 0,jE,jI 0,.v 5],.one (.v 1)] [jP 8,jP 9]) <| .ret [.v 8,.v 9,.v 10,.v 11,.v 12,.v 13,.v 14,.v 15,.v 16] [jD 9 0,jD 10 1]) Z24
def Z35:Tree:=tN 0 <| tF 0 22 <| tL 23 1 <| tN 0 <| tF 1 25 <| tL 26 1 <| tA 27 1 <| .nd (.pv (.ia 4) [.v 24,.v 28]) <| tF 1 29 <| tL 30 1 <| .nd (.pv (.bin .eql) [.v 31,.c (.string ⟨#[58]⟩)]) <| .ite 32 (tO 8 <| tO 8 <| .ret [jI 15,jN,jN,jI 0,jI 0,jI 0,.v 3,jI 0,.v 5] [jP 8,jP 9]) (tA 1 1 <| tV 9 33 <| tB 8 1 [rX 34 0] <| tS 10 [59] <| tR 1 (.v 42) jN (.v 5) (.dat 1) (.nil 9))
def Z34:Tree:=tN 0 <| tF 0 11 <| tL 12 1 <| tN 0 <| tF 1 14 <| tL 15 1 <| tA 16 1 <| .nd (.pv (.ia 4) [.v 13,.v 17]) <| tF 0 18 <| tL 19 1 <| tQ 20 3 <| .ite 21 Z35 (tA 1 1 <| tV 9 22 <| tB 8 1 [rX 23 0] <| tS 10 [59] <| tR 1 (.v 31) jN (.v 5) (.dat 1) (.nil 9))
def Z33:Tree:=tQ 2 1 <| .ite 10 Z34 (tA 1 1 <| tV 9 11 <| tB 8 1 [rX 12 0] <| tS 10 [59] <| tR 1 (.v 20) jN (.v 5) (.dat 1) (.nil 9))
def Z32:Tree:=tS 6 [123] <| .ite 9 (tV 7 1 <| tR 3 jN (.v 10) (.v 5) (.nil 8) (.dat 0)) Z33
def Z31:Tree:=tS 5 [59] <| .ite 8 (tR 16 jN jN (.v 5) (.nil 8) (.nil 9)) Z32
def Z30:Tree:=tQ 2 4 <| .ite 7 (.nd (.call 4 [.one (.v 0),.agg [jI 0,jN,jN,jI 0,jI 0,jI 0,jE,jI 0,.v 5],.one (.v 1)] [jP 8,jP 9]) <| .ret [.v 8,.v 9,.v 10,.v 11,.v 12,.v 13,.v 14,.v 15,.v 16] [jD 9 0,jD 10 1]) Z31
def TP_stmt:Tree:=tW <| tV 0 1 <| tO 1 <| tW <| tW <| tQ 2 4 <| .ite 6 Z23 Z30
theorem TP_stmt_eq:fnS Tryz.prog cfP_stmt [.one,.one] 72=some TP_stmt:=by kernel_rfl
theorem mstmt_step (F:Nat) (ihk:∀ f,f≤F→MBlkOk f) (ihd:∀ f,f≤F→MStP 86 (mdecl f) f) (ihw:∀ f,f≤F→MStP 87 (mword f) f):MStOk (F + 1):=by
 intro g d s s' x h0 w okk K hx hd hr hok hK'
 have hK:∀ vs ds σ',((∃ A c B e,vs=stC x A c B e)∧ds=[exsOf x,bodyOf x]∧σ'.s=s'∧OkS σ')→K vs ds σ':=fun vs ds σ' h=>by
  obtain ⟨⟨A,c,B,e,rfl⟩,rfl,rfl,h3⟩:=h
  exact hK' A c B e _ h3
 refine fn_ok (cf:=cfP_stmt) [(qDeep g).x,(qTok g).x,(qTyped g).x,(qStp 86 mdecl g ihd),(qStp 87 mword g ihw),(qEat g).x,(qIs g).x,(qBlock g ihk).x,(qNext g).x,(qExpr g).x,(qWant g).x] rfl mixed QR.stable TP_stmt_eq (W:=fun args ds σ K'=>args=[ptrV g,.int .i64 d]∧ds=[]∧σ=⟨s,h0⟩∧K'=K)
  (fun args ds σ K hW=>by obtain ⟨rfl,_⟩:=hW;exact ⟨rfl,rfl,trivial⟩) ?_ [ptrV g,.int .i64 d] [] ⟨s,h0⟩ w okk K hr.lt hr hok (daOk_nil _ _ _) (by simp [Sx.flat,Value.cells,Value.oneCell',exC,strV8]) ⟨rfl,rfl,rfl,rfl⟩
 rintro args ds σ K' ⟨rfl,rfl,rfl,rfl⟩ _
 have hp0:=hr.1
 have hd1:=hd.1
 have hd2:=hd.2
 have hdd:=deeper hd
 simp only [mstmt] at hx
 show Tree.holds _ _ _ _ (⟨Sx.flat [ptrV g,.int .i64 d],[],[],⟨s,h0⟩⟩:Env QS)
 simp only [Sx.flat,Value.cells,List.flatMap_cons,List.flatMap_nil,List.append_nil,List.cons_append,List.nil_append,Array.toList]
 refine h_new fun g1=>?_
 refine kc (h:=w_pdeep fun h2 p2=>?_)
 refine kc (h:=w_ptok ?_)
 try simp only [aS,hdd.2]
 refine h_new fun g4=>?_
 refine h_new fun g5=>?_
 refine h_pv rfl rfl ?_
 try simp only [aS,hdd.2]
 refine h_ite rfl (fun q7=>?_) (fun q7=>?_)
 ·skip
  try dsimp only at q7
  try simp only [q7,bS,↓reduceIte] at hx
  refine kc (h:=w_ptyped ?_)
  try simp only [aS,hdd.2]
  refine h_ite rfl (fun q9=>?_) (fun q9=>?_)
  ·skip
   try simp only [q7,q9,bS,↓reduceIte] at hx
   try simp only [q7,q9,bS,↓reduceIte] at hx
   refine kC (h:=w_pstp (f:=F) (F:=F) (by omega) hx ⟨by omega,by omega⟩ fun A10 c10 B10 d10 h10 p10=>?_)
   try simp only [aS,hdd.2]
   refine kr (h:=?_)
   exact hK _ _ _ ⟨⟨_,_,_,_,rfl⟩,rfl,rfl,p10⟩
  ·skip
   try simp only [q7,q9,bS,↓reduceIte] at hx
   refine h_pv rfl rfl ?_
   try simp only [aS,hdd.2]
   refine h_ite rfl (fun q12=>?_) (fun q12=>?_)
   ·skip
    try dsimp only at q12
    try simp only [q7,q9,q12,bS,↓reduceIte] at hx
    try simp only [q7,q9,q12,bS,↓reduceIte] at hx
    refine kC (h:=w_pstp (f:=F) (F:=F) (by omega) hx ⟨by omega,by omega⟩ fun A13 c13 B13 d13 h13 p13=>?_)
    try simp only [aS,hdd.2]
    refine kr (h:=?_)
    exact hK _ _ _ ⟨⟨_,_,_,_,rfl⟩,rfl,rfl,p13⟩
   ·skip
    try dsimp only at q12
    try simp only [q7,q9,q12,bS,↓reduceIte] at hx
    rw [q7] at q12
    cases q12
 ·skip
  try dsimp only at q7
  try simp only [q7,bS,↓reduceIte] at hx
  refine h_pv rfl rfl ?_
  try simp only [aS,hdd.2]
  refine h_ite rfl (fun q15=>?_) (fun q15=>?_)
  ·skip
   try dsimp only at q15
   try simp only [q7,q15,bS,↓reduceIte] at hx
   rw [q7] at q15
   cases q15
  ·skip
   try dsimp only at q15
   try simp only [q7,q15,bS,↓reduceIte] at hx
   refine kc (h:=w_peat fun h16 p16=>?_)
   try simp only [aS,hdd.2]
   refine h_ite rfl (fun q17=>?_) (fun q17=>?_)
   ·skip
    try simp only [q7,q15,q17,bS,↓reduceIte] at hx
    try simp only [q7,q15,q17,bS,↓reduceIte] at hx
    obtain ⟨rfl,rfl⟩:=sP hx
    refine kr (h:=?_)
    refine hK _ _ _ ⟨⟨_,_,_,_,rfl⟩,?_,rfl,p16⟩
    exact lF
   ·skip
    have z17:=meat_noS q17
    rw [z17] at p16
    rw [z17]
    try simp only [z17] at hx
    try simp only [q7,q15,q17,bS,↓reduceIte] at hx
    refine kc (h:=w_pis ?_)
    try simp only [aS,hdd.2]
    refine h_ite rfl (fun q19=>?_) (fun q19=>?_)
    ·skip
     try simp only [q7,q15,q17,q19,bS,↓reduceIte] at hx
     try simp only [q7,q15,q17,q19,bS,↓reduceIte] at hx
     obtain ⟨⟨x20,s20⟩,e20,hx⟩:=Option.bind_eq_some_iff.1 hx
     simp only at hx
     refine kc (h:=w_pblock (f:=F) (by omega) e20 ⟨by omega,by omega⟩ fun A20 c20 h20 p20=>?_)
     try simp only [aS,hdd.2]
     try simp only [q7,q15,q17,q19,bS,↓reduceIte] at hx
     obtain ⟨rfl,rfl⟩:=sP hx
     refine kr (h:=?_)
     refine hK _ _ _ ⟨⟨_,_,_,_,rfl⟩,?_,rfl,p20⟩
     exact lF
    ·skip
     try simp only [q7,q15,q17,q19,bS,↓reduceIte] at hx
     refine h_pv rfl rfl ?_
     try simp only [aS,hdd.2]
     refine h_ite rfl (fun q22=>?_) (fun q22=>?_)
     ·skip
      try dsimp only at q22
      try simp only [q7,q15,q17,q19,q22,bS,↓reduceIte] at hx
      have hone:=OkS.one p16 (by intro hz;simp only at hz;rw [hz] at q22;exact absurd q22 (by decide))
      have hat1:=at_wrap p16
      refine h_pv rfl rfl ?_
      try simp only [aS,hdd.2]
      refine h_pv rfl rfl ?_
      try simp only [aS,hdd.2]
      refine h_ld rfl QR.ld0 rfl (allV_one _) ?_
      try simp only [aS,hdd.2]
      refine h_pv rfl rfl ?_
      try simp only [aS,hdd.2]
      refine h_pv rfl rfl ?_
      try simp only [aS,hdd.2]
      refine h_ld rfl QR.ld1 rfl (int_one _) ?_
      try simp only [aS,hdd.2]
      refine h_pv rfl rfl ?_
      rw [hat1]
      try simp only [aS,hdd.2]
      refine h_pv rfl (sem_iaQ _ hone) ?_
      try simp only [aS,hdd.2]
      refine h_pv rfl rfl ?_
      try simp only [aS,hdd.2]
      refine h_ld rfl (QR.ldK0 p16 hone) rfl (by simp [strV8,Value.oneCell']) ?_
      try simp only [aS,hdd.2]
      refine h_pv rfl rfl ?_
      try simp only [aS,hdd.2]
      refine h_ite rfl (fun q34=>?_) (fun q34=>?_)
      ·skip
       try dsimp only at q34
       try simp only [q7,q15,q17,q19,q22,q34,bS,↓reduceIte] at hx
       refine h_pv rfl rfl ?_
       try simp only [aS,hdd.2]
       refine h_pv rfl rfl ?_
       try simp only [aS,hdd.2]
       refine h_ld rfl QR.ld0 rfl (allV_one _) ?_
       try simp only [aS,hdd.2]
       refine h_pv rfl rfl ?_
       try simp only [aS,hdd.2]
       refine h_pv rfl rfl ?_
       try simp only [aS,hdd.2]
       refine h_ld rfl QR.ld1 rfl (int_one _) ?_
       try simp only [aS,hdd.2]
       refine h_pv rfl rfl ?_
       rw [hat1]
       try simp only [aS,hdd.2]
       refine h_pv rfl (sem_iaQ _ hone) ?_
       try simp only [aS,hdd.2]
       refine h_pv rfl rfl ?_
       try simp only [aS,hdd.2]
       refine h_ld rfl (QR.ldK1 p16 hone) rfl (by simp [strV8,Value.oneCell']) ?_
       try simp only [aS,hdd.2]
       refine h_pv rfl rfl ?_
       try simp only [aS,hdd.2]
       refine h_ite rfl (fun q46=>?_) (fun q46=>?_)
       ·skip
        try dsimp only at q46
        try simp only [List.toList_toArray] at q46
        try simp only [q7,q15,q17,q19,q22,q34,q46,bS,↓reduceIte] at hx
        refine kc (h:=w_pnext fun h47 p47=>?_)
        try simp only [aS,hdd.2]
        refine kc (h:=w_pnext fun h48 p48=>?_)
        try simp only [aS,hdd.2]
        try simp only [q7,q15,q17,q19,q22,q34,q46,bS,↓reduceIte] at hx
        obtain ⟨rfl,rfl⟩:=sP hx
        refine kr (h:=?_)
        refine hK _ _ _ ⟨⟨_,_,_,_,rfl⟩,?_,rfl,p48⟩
        exact lF
       ·skip
        try dsimp only at q46
        try simp only [List.toList_toArray] at q46
        try simp only [q7,q15,q17,q19,q22,q34,q46,bS,↓reduceIte] at hx
        refine h_pv rfl rfl ?_
        try simp only [aS,hdd.2]
        try simp only [q7,q15,q17,q19,q22,q34,q46,bS,↓reduceIte] at hx
        obtain ⟨⟨x50,s50⟩,e50,hx⟩:=Option.bind_eq_some_iff.1 hx
        simp only at hx
        refine kc (h:=w_pexpr (f:=F)  e50 ⟨by omega,by omega⟩ fun A50 c50 h50 p50=>?_)
        try simp only [aS,hdd.2]
        refine kb (h:=fun g51=>?_)
        try simp only [aS,hdd.2]
        refine kc (h:=w_pwant fun h52 p52=>?_)
        try simp only [q7,q15,q17,q19,q22,q34,q46,bS,↓reduceIte] at hx
        obtain ⟨rfl,rfl⟩:=sP hx
        refine kr (h:=?_)
        refine hK _ _ _ ⟨⟨_,_,_,_,rfl⟩,?_,rfl,p52⟩
        exact lF
      ·skip
       try dsimp only at q34
       try simp only [q7,q15,q17,q19,q22,q34,bS,↓reduceIte] at hx
       refine h_pv rfl rfl ?_
       try simp only [aS,hdd.2]
       try simp only [q7,q15,q17,q19,q22,q34,bS,↓reduceIte] at hx
       obtain ⟨⟨x54,s54⟩,e54,hx⟩:=Option.bind_eq_some_iff.1 hx
       simp only at hx
       refine kc (h:=w_pexpr (f:=F)  e54 ⟨by omega,by omega⟩ fun A54 c54 h54 p54=>?_)
       try simp only [aS,hdd.2]
       refine kb (h:=fun g55=>?_)
       try simp only [aS,hdd.2]
       refine kc (h:=w_pwant fun h56 p56=>?_)
       try simp only [q7,q15,q17,q19,q22,q34,bS,↓reduceIte] at hx
       obtain ⟨rfl,rfl⟩:=sP hx
       refine kr (h:=?_)
       refine hK _ _ _ ⟨⟨_,_,_,_,rfl⟩,?_,rfl,p56⟩
       exact lF
     ·skip
      try dsimp only at q22
      try simp only [q7,q15,q17,q19,q22,bS,↓reduceIte] at hx
      refine h_pv rfl rfl ?_
      try simp only [aS,hdd.2]
      try simp only [q7,q15,q17,q19,q22,bS,↓reduceIte] at hx
      obtain ⟨⟨x58,s58⟩,e58,hx⟩:=Option.bind_eq_some_iff.1 hx
      simp only at hx
      refine kc (h:=w_pexpr (f:=F)  e58 ⟨by omega,by omega⟩ fun A58 c58 h58 p58=>?_)
      try simp only [aS,hdd.2]
      refine kb (h:=fun g59=>?_)
      try simp only [aS,hdd.2]
      refine kc (h:=w_pwant fun h60 p60=>?_)
      try simp only [q7,q15,q17,q19,q22,bS,↓reduceIte] at hx
      obtain ⟨rfl,rfl⟩:=sP hx
      refine kr (h:=?_)
      refine hK _ _ _ ⟨⟨_,_,_,_,rfl⟩,?_,rfl,p60⟩
      exact lF
end Go.Proofs.YtdmacgoeikjdbaaGreatDoor
namespace Go.Proofs.YtdmacgoeikjdbaaGreatDoor
open Go.RowKit Sx
theorem st_ret {fn:FuncId} {args:Array Value} {g:Nat} {x:St} {s':RS} {w:World} (hc:Calls Tryz.prog fn args w (PostQ g sSt (fun _=>False) w (fun vs ds σ'=>(∃ A c B d,vs=stC x A c B d)∧ds=[exsOf x,bodyOf x]∧σ'.s=s'))):Calls Tryz.prog fn args w (StRet x g s' w):=
 hc.mono fun e w' ⟨vs,ds,σ',r,⟨⟨A,c,B,d,h1⟩,h2,h3⟩,h4,he,_,_,_,hr,hk,hda⟩=>by
  subst h1 h2
  have h4:some (Value.agg (stC x A c B d).toArray)=some r:=h4
  injection h4 with h4
  have imp:∀ {D:D} {v:Value},Rep w' (fun k=>False ∨ w.heap.size≤k) D [v]→Rep w' (fun k=>w.heap.size≤k) D [v]:=fun h=>h.imp fun k hk _=>hk.elim (fun h=>h.elim) id
  obtain ⟨v,h5,h6⟩:=hda.2 0 (1,8) (exsOf x) rfl rfl
  have h5:some (Value.slice A x.ex.length c)=some v:=h5
  injection h5 with h5
  subst h5
  obtain ⟨v,h5,h7⟩:=hda.2 1 (2,9) (bodyOf x) rfl rfl
  have h5:some (Value.slice B x.body.length d)=some v:=h5
  injection h5 with h5
  subst h5
  obtain ⟨s1,h1⟩:=σ'
  simp only at h3
  subst h3
  exact ⟨A,c,B,d,h1,by rw [he,h4],rep_st.2 ⟨A,c,B,d,rfl,imp h6,imp h7⟩,hr,hk⟩
theorem word_res (t:Array Value) (w:World):(results Tryz.f87 t).run Tryz.prog w=.ok (.tuple #[]) w:=results_none rfl _ _ _
set_option maxRecDepth 8000 in
theorem mword_step (F:Nat) (ihs:∀ f,f≤F→MStOk f) (ihl:∀ f,f≤F→MStP 100 (mfor f) f) (ihh:∀ f,f≤F→MStP 101 (mshort f) f):MStP 87 (mword (F + 1)) (F + 1):=by
 intro g args largs bl ds σ w okk X K hG hR hok hX hbl hio hda h1 hW
 obtain ⟨s,h0⟩:=σ
 obtain ⟨d,p,x,s',rfl,rfl,hx,hd,hK⟩:=hW
 have hp0:=hR.1
 have hdd:=deeper hd
 refine (fn_core (cf:=cfP_word) [(qEat g).x,(qParen g).x,(qStmt g ihs).x,(qWant g).x,(qStp 100 mfor g ihl),(qStp 101 mshort g ihh)] rfl mixed QR.stable TP_word_eq args [ptrV g,.agg (stZ p).toArray,.int .i64 d] bl [.lst 8 [],.lst 9 []] ⟨s,h0⟩ w okk X K (VW F g d p x s') (EndsAs cfP_word (QR g) g bl w okk X K) ⟨rfl,⟨_,rfl,rfl⟩,rfl,trivial⟩ (fun hb=>?_) hG hR hok hX hbl hio hda h1 (fun r w' h=>h) ?_).mono ?_
 ·obtain ⟨b,rfl⟩:∃ b,bl=[b]:=by
   rcases bl with _ | ⟨b,_ | ⟨c,l⟩⟩
   ·cases hb
   ·exact ⟨b,rfl⟩
   ·cases hb
  exact mword_tree F ihs ihl ihh g d p s s' x h0 b K hx hd hp0 hK
 ·intro fn body hfn hbody
  have hres:∀ (a:Act) (w:World),(results fn a.tmps).run Tryz.prog w=.ok (.tuple #[]) w:=fun a w=>by
   rw [Tryz.func87] at hfn
   injection hfn with hfn
   rw [← hfn]
   exact word_res a.tmps w
  refine regsP_find body fun id y hy=>?_
  rw [← bodyT_of hfn hbody] at hy
  by_cases h5:id=5
  ·subst h5
   show ∀ va dd bl' σ' a w',_→_→_→_→_
   rintro va dd bl' σ1 a w1 hbl1 hV hT hM
   have hV:VW F g d p x s' 1000005 va dd σ1:=hV
   unfold VW at hV
   rw [if_pos rfl] at hV
   obtain ⟨e,b1,c1,ga,gb,rfl,rfl,ho,hst,rfl⟩:=hV
   obtain ⟨b,rfl⟩:∃ b,bl'=[b]:=by
    rcases bl' with _ | ⟨b,_ | ⟨c,l⟩⟩
    ·cases hbl1
    ·exact ⟨b,rfl⟩
    ·cases hbl1
   obtain ⟨_,q0,t0⟩:=hT.tm 0 _ rfl
   have q0:some (ptrV g)=some _:=q0
   injection q0 with q0
   subst q0
   obtain ⟨_,q1,t1⟩:=hT.tm 1 _ rfl
   have q1:some (ptrV b)=some _:=q1
   injection q1 with q1
   subst q1
   obtain ⟨_,q2,t2⟩:=hT.tm 2 _ rfl
   have q2:some (Value.int .i64 d)=some _:=q2
   injection q2 with q2
   subst q2
   obtain ⟨b2,cs,m1,m2,m3,_⟩:=hM.mem _ List.mem_cons_self
   have m1:some b=some b2:=m1
   injection m1 with m1
   subst m1
   have m2:some [.int .i64 4,.slice (some ⟨ga,0,none⟩) 1 1,.slice (some ⟨gb,0,none⟩) 1 1,.int .i64 0,.int .i64 0,.int .i64 0,.string ⟨#[]⟩,.int .i64 0,.int .i64 p]=some cs:=m2
   injection m2 with m2
   subst m2
   have hnb:=hM.lt b List.mem_cons_self
   have hgb:g<b:=by
    rcases hnb.1 with h | h
    ·exact (hX b h).1
    ·have:w.heap.size≤b:=h
     omega
   obtain ⟨v,dd1,f1,f2,l1,f3,f4,f5⟩:=hM.fs ⟨3,1,some (89,9)⟩ (List.mem_cons_of_mem _ List.mem_cons_self)
   have f1:some (Value.slice (some ⟨gb,0,none⟩) 1 1)=some v:=f1
   have f2:some (stsD [b1])=some dd1:=f2
   injection f1 with f1
   injection f2 with f2
   subst f1 f2
   injection f3 with _ f3
   subst f3
   obtain ⟨v,dd1,f1,f2,f6⟩:=hM.fs ⟨2,0,none⟩ List.mem_cons_self
   have f1:some (Value.slice (some ⟨ga,0,none⟩) 1 1)=some v:=f1
   have f2:some (exsD [e])=some dd1:=f2
   injection f1 with f1
   injection f2 with f2
   subst f1 f2
   have hown:ownAt (⟨[ptrV g,.int .i64 d,.slice (some ⟨ga,0,none⟩) 1 1,.slice (some ⟨gb,0,none⟩) 1 1,.int .i64 0,.int .i64 0,.int .i64 0,.string ⟨#[]⟩,.int .i64 0,.int .i64 p],[b],[exsD [e],stsD [b1]],σ1⟩:Env QS) ⟨3,1,some (89,9)⟩ gb:=⟨rfl,_,rfl,rfl⟩
   have hngb:gb ≠ b:=fun h=>hM.own _ (List.mem_cons_of_mem _ List.mem_cons_self) gb hown (by rw [h];exact List.mem_cons_self)
   have hgbn:=f5 gb rfl
   have hggb:g<gb:=by
    rcases hgbn with h | h
    ·exact (hX gb h).1
    ·have:w.heap.size≤gb:=h
     omega
   have hd1:=hd.1
   have hd2:=hd.2
   have hbl2:bl=[b]:=by
    have i1:bl[0]?=some b:=by
     obtain ⟨g2,i1,i2⟩:=hM.io 0 0 (by rfl)
     have i2:some b=some g2:=i2
     rw [i2]
     exact i1
    have hlen:bl.length=1:=by
     rcases bl with _ | ⟨c,_ | ⟨c2,l⟩⟩
     ·cases i1
     ·rfl
     ·exact hio.2.2.elim fun cs h=>h.2.2.elim fun mid h=>h.1.elim
    rcases bl with _ | ⟨c,_ | ⟨c2,l⟩⟩
    ·cases i1
    ·injection i1 with i1;rw [i1]
    ·cases hlen
   refine word5 (bb:=y.2) hy a w1 _ g b ga gb d p _ b1 c1 σ1 s' hT.sz (by simp [Act.eval,t0]) (by simp [Act.eval,t1]) (by simp [Act.eval,t2]) hdd.2 m3 hgb hngb hggb hnb.2 hM.rs f4 ?_ ?_ ?_ ?_
   ·intro k hk
    exact ⟨Ctx.hg _ k hk.1,fun h=>hk.2.1 (by rw [h];exact List.mem_cons_self)⟩
   ·intro W hW
    exact st_ret (ihs F (Nat.le_refl _) g (d + 1) σ1.s s' c1 σ1.h W _ _ hst ⟨by omega,by omega⟩ hW (fun k h=>h.elim) fun A c B e h _=>⟨⟨A,c,B,e,rfl⟩,rfl,rfl⟩)
   ·intro c a w d v h
    cases h.1
   ·rintro a' W hdf ⟨h,gn,cp,hbW,hrW,hrep,hkW⟩
    refine ⟨rfl,hdf.trans hT.df,_,hres a' W,stC (.mk 4 [e] [b1,c1] noTy [] 0 p) (some ⟨ga,0,none⟩) 1 (some ⟨gn,0,none⟩) cp,[exsOf (.mk 4 [e] [b1,c1] noTy [] 0 p),bodyOf (.mk 4 [e] [b1,c1] noTy [] 0 p)],⟨s',h⟩,fun _=>False,hK _ _ _ _ h hrW.1,rfl,rfl,rfl,stC_one _ _ _ _ _,hrW,?_,?_,fun k hk=>hk.elim,?_⟩
    ·have hk1:=hM.keep
     refine ⟨hkW.os.trans hk1.os,hkW.tape.trans hk1.tape,hkW.output.trans hk1.output,Nat.le_trans hk1.size hkW.size,fun k hk hl=>?_⟩
     have hl:k<w.heap.size:=hl
     rw [hkW.block k (fun h=>?_) (Nat.lt_of_lt_of_le hl hk1.size)]
     ·exact hk1.block k (fun h=>hk (h.imp (fun h=>h) fun h=>h)) hl
     ·rcases h with h | h | h
      ·exact hk (.inl h)
      ·rcases hnb.1 with h2 | h2
       ·exact hk (.inr (h ▸ h2))
       ·have h2:w.heap.size≤b:=h2
        omega
      ·rcases hgbn with h2 | h2
       ·exact hk (.inr (h ▸ h2))
       ·have h2:w.heap.size≤gb:=h2
        omega
    ·rw [hbl2]
     exact ⟨hbW,trivial⟩
    ·have hnotb:∀ k,k ≠ b→k ∉ bl:=fun k hk h=>by
      rw [hbl2] at h
      exact hk (by simpa using h)
     refine DaOw.none.2 ⟨rfl,fun j y dd2 hj hdd2=>?_⟩
     match j with
     | 0=>
      have hj:some ((1,8):Nat × Nat)=some y:=hj
      have hdd2:some (exsOf (.mk 4 [e] [b1,c1] noTy [] 0 p:St))=some dd2:=hdd2
      injection hj with hj
      injection hdd2 with hdd2
      subst hj hdd2
      refine ⟨_,rfl,Rep.keep (fun k hk _=>⟨hk.1,id,hnotb k fun h=>hk.2.1 (by rw [h];exact List.mem_cons_self)⟩) (fun k hk hl=>hkW.block k (fun h=>?_) hl) _ _ f6⟩
      rcases h with h | h | h
      ·have:=Ctx.hg _ k hk.1
       have:g<k:=this
       omega
      ·exact hk.2.1 (by rw [h];exact List.mem_cons_self)
      ·exact hk.2.2 _ (List.mem_cons_of_mem _ List.mem_cons_self) (h ▸ hown)
     | 1=>
      have hj:some ((2,9):Nat × Nat)=some y:=hj
      have hdd2:some (bodyOf (.mk 4 [e] [b1,c1] noTy [] 0 p:St))=some dd2:=hdd2
      injection hj with hj
      injection hdd2 with hdd2
      subst hj hdd2
      refine ⟨_,rfl,Rep.imp hrep fun k hk _=>⟨?_,id,hnotb k hk.2⟩⟩
      rcases hk.1 with h | h | h
      ·exact h.1
      ·rcases hgbn with h2 | h2
       ·exact .inr (.inl (h ▸ h2))
       ·exact .inr (.inr (h ▸ h2))
      ·exact .inr (.inr (Nat.le_trans hM.keep.size h))
     | j + 2=>
      have hj:([(1,8),(2,9)]:List (Nat × Nat))[j + 2]?=some y:=hj
      simp at hj
  ·have hl:lookN id cfP_word.tails=none:=by
    have e1:Nat.beq 5 id=false:=by
     cases h:Nat.beq 5 id with
     | false=>rfl
     | true=>exact (h5 (Nat.eq_of_beq_eq_true h).symm).elim
    simp only [cfP_word,lookN,e1]
   rw [hl]
   trivial
 ·rintro e w' ⟨r,rfl,vs,ds',σ',X',a1,a2,a3,a4,a5,a6,a7,a8,a9,a10⟩
  exact ⟨vs,ds',σ',r,X',a1,a2,rfl,a3,a4,a5,a6,a7,a8,a9,a10⟩
end Go.Proofs.YtdmacgoeikjdbaaGreatDoor
namespace Go.Proofs.YtdmacgoeikjdbaaGreatDoor
open Go.RowKit Sx
structure MSts (f:Nat):Prop where
 s:MStOk f
 k:MBlkOk f
 w:MStP 87 (mword f) f
 l:MStP 100 (mfor f) f
theorem msts:∀ f,MSts f:=by
 intro f
 induction f using Nat.strongRecOn with
 | ind f ih=>
  cases f with
  | zero=>
   refine ⟨?_,?_,?_,?_⟩
   ·intro g d s s' x h0 w okk K hx;rw [mstmt] at hx;cases hx
   ·intro g d s s' x h0 w okk K hx;rw [mblock] at hx;cases hx
   ·intro g args largs bl ds σ w okk X K _ _ _ _ _ _ _ _ hW
    obtain ⟨d,p,x,s',_,_,hx,_⟩:=hW
    rw [mword] at hx;cases hx
   ·intro g args largs bl ds σ w okk X K _ _ _ _ _ _ _ _ hW
    obtain ⟨d,p,x,s',_,_,hx,_⟩:=hW
    rw [mfor] at hx;cases hx
  | succ F=>
   exact ⟨mstmt_step F (fun f h=>(ih f (by omega)).k) (fun f _=>mdecl_step f) (fun f h=>(ih f (by omega)).w),mblock_step F (fun f h=>(ih f (by omega)).s),mword_step F (fun f h=>(ih f (by omega)).s) (fun f h=>(ih f (by omega)).l) (fun f _=>mshort_step f),mfor_step F (fun f h=>(ih f (by omega)).s)⟩
def qBlock1 (g:Nat):Con0 Tryz.prog (QR g) g where
 f:=32
 sh:=sSts
 W args _ σ K:=∃ f d x s',args=[ptrV g,.int .i64 d]∧mblock f d σ.s=some (x,s')∧DepthOk d f∧∀ A c h,OkS ⟨s',h⟩→K [.slice A x.length c] [stsD x] ⟨s',h⟩
 ok args ds σ w okk K hg hR hokk _ _ hW:=by
  obtain ⟨f,d,x,s',rfl,h1,h2,hK⟩:=hW
  exact (msts f).k g d σ.s s' x σ.h w okk K h1 h2 hR hokk hK
theorem w_pblock1 {g f:Nat} {K:List Value→List D→QS→Prop} {ds:List D} {s s':RS} {h0:QH} {d:Int} {x:List St} (h1:mblock f d s=some (x,s')) (h2:DepthOk d f) (h:∀ A c h,OkS ⟨s',h⟩→K [.slice A x.length c] [stsD x] ⟨s',h⟩):(qBlock1 g).W [ptrV g,.int .i64 d] ds ⟨s,h0⟩ K:=⟨f,d,x,s',rfl,h1,h2,h⟩
end Go.Proofs.YtdmacgoeikjdbaaGreatDoor
namespace Go.Proofs.YtdmacgoeikjdbaaGreatDoor
open Go.RowKit Sx
abbrev sGlob:Shp:=⟨2,.tup [],[(0,6),(1,8)],[(1,6),(2,8),(7,1)],[(1,27,2)],[(0,56),(1,60)],[(0,56),(1,60)]⟩
abbrev fusD (x:List Fn):D:=.lst 8 (x.map encFn)
abbrev GlW (g:Nat) (f:Nat) (args:List Value) (ds:List D) (σ:QS) (K:List Value→List D→QS→Prop):Prop:=∃ (u u':Un) (nm:List UInt8) (ty:Ty) (p:Int) (s':RS) (Ag Af:Option Addr) (cg cf:Nat),
 args=[ptrV g,.agg #[.slice Ag u.globals.length cg,.slice Af u.funcs.length cf],.agg #[strB nm,.int .i64 ty.kind,.int .i64 ty.ptr,.int .i64 ty.len,.slice none 0 0,.int .i64 p]]∧ds=[desD u.globals,fusD u.funcs,.lst 1 []]∧mglobal f u nm ty p σ.s=some (u',s')∧f≤900000∧u.globals.length≤16 ∧
 ∀ Ag' cg' Af' cf' h,OkS ⟨s',h⟩→K [.slice Ag' u'.globals.length cg',.slice Af' u'.funcs.length cf'] [desD u'.globals,fusD u'.funcs] ⟨s',h⟩
def cfP_global:Cfg:=⟨[(30,sUnit),(66,sOne),(67,sOne),(68,sLongs),(69,sOne),(70,sUnit)],[(100 * 100 + 6,8),(100 * 89 + 1,8),(100 * 89 + 2,9),(100 * 56 + 4,1),(100 * 60 + 4,6),(100 * 60 + 5,9),(100 * 60 + 6,6)],[],sGlob,[],[]⟩
def Z36:Tree:=tO 1 <| tS 2 [61] <| .ite 12 (.nd (.pv (.bin .gtr) [.v 11,jI 0]) <| .ite 13 (tV 3 11 <| tS 5 [59] <| tB 6 1 [[jL 3,jL 4,jL 5,jL 11,jD 14 3,jL 8]] <| tU 6 0 4 <| .ret [.v 16,.v 2] [jD 16 5,jD 2 1]) (tO 4 <| .nd (.bs 1 1 false [[jL 14]]) <| tS 5 [59] <| tB 6 1 [[jL 3,jL 4,jL 5,jL 11,jD 15 3,jL 8]] <| tU 6 0 4 <| .ret [.v 17,.v 2] [jD 17 5,jD 2 1])) (tS 5 [59] <| tB 6 1 [[jL 3,jL 4,jL 5,jL 11,jD 7 2,jL 8]] <| tU 6 0 3 <| .ret [.v 14,.v 2] [jD 14 4,jD 2 1])
def TP_global:Tree:=tW <| .nd (.pv .len [.v 1]) <| tQ 9 16 <| .ite 10 (.nd (.call 0 [.one (.v 0),.one (jI 2),.one (.v 8)] []) <| .ret [.v 1,.v 2] [jD 1 0,jD 2 1]) Z36
theorem TP_global_eq:fnS Tryz.prog cfP_global [.one,.ptr 27 2,.agg 6] 29=some TP_global:=by kernel_rfl
theorem mglobal_any (F:Nat) (g:Nat) (args largs:List Value) (bl:List Nat) (ds:List D) (σ:QS) (w:World) (okk X:Nat→Prop) (K:List Value→List D→QS→Prop)
  (hG:g<w.heap.size) (hR:QR g σ w) (hok:∀ k,okk k→g<k∧¬ X k) (hX:∀ k,X k→g<k∧k<w.heap.size) (hbl:bl.Nodup) (hio:IoIn w X sGlob.pt bl args largs) (hda:DaOw w okk (fun k=>X k∧k ∉ bl) (Sx.flat largs) sGlob.da sGlob.ao ds) (h1:∀ u ∈ Sx.flat largs,u.oneCell'=true) (hW:GlW g F largs ds σ K) :
  Calls Tryz.prog 29 args.toArray w (PostX g sGlob okk X bl w K):=by
 obtain ⟨s,h0⟩:=σ
 refine fn_okX (cf:=cfP_global) [(qFailAt g).x,(qLength g).x,(qEat g).x,(qValues g).x,(qNumber g).x,(qWant g).x] rfl mixed QR.stable TP_global_eq (W:=fun a' d' σ' K'=>a'=largs∧d'=ds∧σ'=⟨s,h0⟩∧K'=K)
  (fun a' d' σ' K' h=>by obtain ⟨rfl,_⟩:=h;obtain ⟨u,u',nm,ty,p,s',Ag,Af,cg,cf,rfl,_⟩:=hW;exact ⟨rfl,⟨_,rfl,rfl⟩,⟨_,rfl,rfl⟩,trivial⟩) ?_ args largs bl ds ⟨s,h0⟩ w okk X K hG hR hok hX hbl hio hda h1 ⟨rfl,rfl,rfl,rfl⟩
 rintro a' d' σ' K' bl' ⟨rfl,rfl,rfl,rfl⟩ _ hbl'
 obtain ⟨u,u',nm,ty,p,s',Ag,Af,cg,cf,rfl,rfl,hx,hF,hu,hK'⟩:=hW
 obtain ⟨b,rfl⟩:∃ b,bl'=[b]:=by
  rcases bl' with _ | ⟨b,_ | ⟨c,l⟩⟩
  ·cases hbl'
  ·exact ⟨b,rfl⟩
  ·cases hbl'
 have hK:∀ vs ds σ',((∃ A c B e,vs=[.slice A u'.globals.length c,.slice B u'.funcs.length e])∧ds=[desD u'.globals,fusD u'.funcs]∧σ'.s=s'∧OkS σ')→K' vs ds σ':=fun vs ds σ' h=>by
  obtain ⟨⟨A,c,B,e,rfl⟩,rfl,rfl,h3⟩:=h
  exact hK' A c B e _ h3
 have hp0:=hR.1
 clear hda hio h1 hok hX hR hbl
 rw [mglobal] at hx
 show Tree.holds _ _ _ _ (⟨Sx.flat [ptrV g,.agg #[.slice Ag u.globals.length cg,.slice Af u.funcs.length cf],.agg #[strB nm,.int .i64 ty.kind,.int .i64 ty.ptr,.int .i64 ty.len,.slice none 0 0,.int .i64 p]],[b],[desD u.globals,fusD u.funcs,.lst 1 []],⟨s,h0⟩⟩:Env QS)
 simp only [Sx.flat,Value.cells,List.flatMap_cons,List.flatMap_nil,List.append_nil,List.cons_append,List.nil_append,Array.toList]
 refine h_new fun g1=>?_
 refine h_pv rfl rfl ?_
 try simp only [aS,List.length_nil]
 refine h_pv rfl rfl ?_
 try simp only [aS,List.length_nil]
 refine h_ite rfl (fun q4=>?_) (fun q4=>?_)
 ·skip
  try dsimp only at q4
  have qn:u.globals.length=16:=by have:=q4;simp at this;omega
  rw [if_pos qn] at hx
  try simp only [q4,bS,↓reduceIte] at hx
  refine kc (h:=w_pfailat fun h5 p5=>?_)
  try simp only [q4,bS,↓reduceIte] at hx
  obtain ⟨rfl,rfl⟩:=sP hx
  refine kr (h:=?_)
  refine hK _ _ _ ⟨⟨Ag,cg,Af,cf,?_⟩,?_,rfl,p5⟩
  ·first | rfl | (simp only [List.length_append,List.length_map];rfl)
  ·first | rfl | (simp [desD,fusD,encDe];done) | (simp [desD,fusD,encDe];rfl)
 ·skip
  try dsimp only at q4
  have qn:¬ u.globals.length=16:=by have:=q4;simp at this;omega
  rw [if_neg qn] at hx
  try simp only [q4,bS,↓reduceIte] at hx
  refine kc (h:=w_plength fun h6 p6=>?_)
  try simp only [aS,List.length_nil]
  refine kc (h:=w_peat fun h7 p7=>?_)
  try simp only [aS,List.length_nil]
  refine h_ite rfl (fun q8=>?_) (fun q8=>?_)
  ·skip
   try simp only [q4,q8,bS,↓reduceIte] at hx
   refine h_pv rfl rfl ?_
   try simp only [aS,List.length_nil]
   refine h_ite rfl (fun q10=>?_) (fun q10=>?_)
   ·skip
    try dsimp only at q10
    have qd:0<(mlength s).1:=by have:=q10;simp at this;omega
    try rw [if_pos qd] at hx
    try simp only [q4,q8,q10,bS,↓reduceIte] at hx
    try simp only [q4,q8,q10,bS,↓reduceIte] at hx
    obtain ⟨⟨x11,s11⟩,e11,hx⟩:=Option.bind_eq_some_iff.1 hx
    simp only at hx
    refine kc (h:=w_pvalues (f:=F) hF e11 fun A11 c11 h11 p11=>?_)
    try simp only [aS,List.length_nil]
    refine kc (h:=w_pwant fun h12 p12=>?_)
    refine kb (h:=fun g13=>?_)
    try simp only [aS,List.length_nil]
    refine h_app rfl rfl (by simp only [List.length_map,List.length_cons,List.length_nil];omega) fun A14 c14=>?_
    try simp only [aS,List.length_nil]
    try simp only [q4,q8,q10,bS,↓reduceIte] at hx
    obtain ⟨rfl,rfl⟩:=sP hx
    refine kr (h:=?_)
    refine hK _ _ _ ⟨⟨A14,c14,Af,cf,?_⟩,?_,rfl,p12⟩
    ·first | rfl | (simp only [List.length_append,List.length_map];rfl)
    ·first | rfl | (simp [desD,fusD,encDe];done) | (simp [desD,fusD,encDe];rfl)
   ·skip
    try dsimp only at q10
    have qd:¬ 0<(mlength s).1:=by have:=q10;simp at this;omega
    try rw [if_neg qd] at hx
    try simp only [q4,q8,q10,bS,↓reduceIte] at hx
    refine kc (h:=w_pnumber fun h15 p15=>?_)
    try simp only [aS,List.length_nil]
    refine kb (h:=fun g16=>?_)
    try simp only [aS,List.length_nil]
    refine kc (h:=w_pwant fun h17 p17=>?_)
    refine kb (h:=fun g18=>?_)
    try simp only [aS,List.length_nil]
    refine h_app rfl rfl (by simp only [List.length_map,List.length_cons,List.length_nil];omega) fun A19 c19=>?_
    try simp only [aS,List.length_nil]
    try simp only [q4,q8,q10,bS,↓reduceIte] at hx
    obtain ⟨rfl,rfl⟩:=sP hx
    refine kr (h:=?_)
    refine hK _ _ _ ⟨⟨A19,c19,Af,cf,?_⟩,?_,rfl,p17⟩
    ·first | rfl | (simp only [List.length_append,List.length_map];rfl)
    ·first | rfl | (simp [desD,fusD,encDe];done) | (simp [desD,fusD,encDe];rfl)
  ·skip
   have z8:=meat_noS q8
   rw [z8] at p7
   rw [z8]
   try simp only [z8] at hx
   try simp only [q4,q8,bS,↓reduceIte] at hx
   refine kc (h:=w_pwant fun h20 p20=>?_)
   refine kb (h:=fun g21=>?_)
   try simp only [aS,List.length_nil]
   refine h_app rfl rfl (by simp only [List.length_map,List.length_cons,List.length_nil];omega) fun A22 c22=>?_
   try simp only [aS,List.length_nil]
   try simp only [q4,q8,bS,↓reduceIte] at hx
   obtain ⟨rfl,rfl⟩:=sP hx
   refine kr (h:=?_)
   refine hK _ _ _ ⟨⟨A22,c22,Af,cf,?_⟩,?_,rfl,p20⟩
   ·first | rfl | (simp only [List.length_append,List.length_map];rfl)
   ·first | rfl | (simp [desD,fusD,encDe];done) | (simp [desD,fusD,encDe];rfl)
end Go.Proofs.YtdmacgoeikjdbaaGreatDoor

/- The program's parser: lists of numbers, parameters (symbolic execution -/
import Derived.Test.YtdmacgoeikjdbaaGreatDoorK38
import Derived.Test.YtdmacgoeikjdbaaGreatDoorK41
set_option linter.unusedSimpArgs false
set_option linter.unusedVariables false
set_option maxHeartbeats 16000000
namespace Go.Proofs.YtdmacgoeikjdbaaGreatDoor
open Go.RowKit Sx
abbrev sLongs:Shp:=⟨1,.el (.one (.v 0)),[(0,1)],[],[],[],[]⟩
abbrev intsD (x:List Int):D:=.lst 1 (x.map (.int .i64))
def cfP_values:Cfg:=⟨[(70,sUnit),(13,sOne),(28,sOne),(14,sTok),(64,sUnit),(69,sOne),(67,sOne)],[(100 * 100 + 6,8),(100 * 89 + 1,8),(100 * 89 + 2,9),(100 * 56 + 4,1),(100 * 60 + 4,6),(100 * 60 + 5,9),(100 * 60 + 6,6)],[(0,⟨[(0,.el (.one (.v 0))),(1,.el (.one (.v 1))),(4,.el (.one (.v 2)))],[],[⟨2,0,some (2,1)⟩],3,0,1,37,[],[]⟩)],sLongs,[],[]⟩
def Z119:Tree:=tO 3 <| tQ 8 2 <| .ite 12 (tI 4 10 <| tO 5 <| .nd (.bs 1 1 false [[jL 13]]) <| tU 1 0 1 <| tS 6 [44] <| tT 16 <| .ite 17 (tS 0 [125] <| .ret [.v 15] [jD 15 2]) (.again 0 [.v 0,.v 1,.v 15] [jD 15 2])) (tO 5 <| .nd (.bs 1 1 false [[jL 13]]) <| tU 1 0 1 <| tS 6 [44] <| tT 16 <| .ite 17 (tS 0 [125] <| .ret [.v 15] [jD 15 2]) (.again 0 [.v 0,.v 1,.v 15] [jD 15 2]))
def Z118:Tree:=tS 2 [45] <| .ite 7 (tI 4 10 <| tO 5 <| .nd (.bs 1 1 false [[jL 8]]) <| tU 1 0 1 <| tS 6 [44] <| tT 11 <| .ite 12 (tS 0 [125] <| .ret [.v 10] [jD 10 2]) (.again 0 [.v 0,.v 1,.v 10] [jD 10 2])) Z119
def Z117:Tree:=.nd (.pv .len [.v 2]) <| .nd (.pv (.bin .eql) [.v 5,.v 1]) <| .ite 6 Z118 (tO 5 <| .nd (.bs 1 1 false [[jL 7]]) <| tU 1 0 1 <| tS 6 [44] <| tT 10 <| .ite 11 (tS 0 [125] <| .ret [.v 9] [jD 9 2]) (.again 0 [.v 0,.v 1,.v 9] [jD 9 2]))
def Z116:Tree:=tO 1 <| tT 3 <| .ite 4 Z117 (.ret [.v 2] [jD 2 0])
def TP_values:Tree:=tS 0 [123] <| .loop 0 0 [.v 0,.v 1,jN] [jP 1] Z116
theorem TP_values_eq:fnS Tryz.prog cfP_values [.one,.one] 68=some TP_values:=by kernel_rfl
theorem mvalues_any (F:Nat) :∀ (g:Nat) (len:Int) (s s':RS) (x:List Int) (h0:QH) (w:World) (okk:Nat→Prop) (K:List Value→List D→QS→Prop),F≤900000→mvalues F len s=some (x,s')→QR g ⟨s,h0⟩ w→(∀ k,okk k→g<k)→(∀ A c h,OkS ⟨s',h⟩→K [.slice A x.length c] [intsD x] ⟨s',h⟩)→Calls Tryz.prog 68 #[ptrV g,.int .i64 len] w (PostQ g sLongs okk w K):=by
 intro g len s s' x h0 w okk K hF hx hr hok hK'
 have hK:∀ vs ds σ',((∃ A c,vs=[.slice A x.length c])∧ds=[intsD x]∧σ'.s=s'∧OkS σ')→K vs ds σ':=fun vs ds σ' h=>by
  obtain ⟨⟨A,c,rfl⟩,rfl,rfl,h3⟩:=h
  exact hK' A c _ h3
 refine fn_ok (cf:=cfP_values) [(qWant g).x,(qBad g).x,(qIs g).x,(qTok g).x,(qFail g).x,(qNumber g).x,(qEat g).x] rfl mixed QR.stable TP_values_eq (W:=fun args ds σ K'=>args=[ptrV g,.int .i64 len]∧ds=[]∧σ=⟨s,h0⟩∧K'=K)
  (fun args ds σ K hW=>by obtain ⟨rfl,_⟩:=hW;exact ⟨rfl,rfl,trivial⟩) ?_ [ptrV g,.int .i64 len] [] ⟨s,h0⟩ w okk K hr.lt hr hok (daOk_nil _ _ _) (by simp [Sx.flat,Value.cells,Value.oneCell',exC,strV8]) ⟨rfl,rfl,rfl,rfl⟩
 rintro args ds σ K' ⟨rfl,rfl,rfl,rfl⟩ _
 have hp0:=hr.1
 rw [mvalues] at hx
 show Tree.holds _ _ _ _ (⟨Sx.flat [ptrV g,.int .i64 len],[],[],⟨s,h0⟩⟩:Env QS)
 simp only [Sx.flat,Value.cells,List.flatMap_cons,List.flatMap_nil,List.append_nil,List.cons_append,List.nil_append,Array.toList]
 refine kc (h:=w_pwant fun h1 p1=>?_)
 try simp only [mfull,bS,↓reduceIte] at hx
 refine h_loop (fun k vs ds σ=>∃ (acc:List Int) (A:Option Addr) (c:Nat),vs=[ptrV g,.int .i64 len,.slice A acc.length c]∧ds=[intsD acc]∧OkS σ∧acc.length + k≤900000∧mvals k len acc σ.s=some (x,s')) F (by simp only [rowsD,ldens,dens,dens2,T2.den,L.den,CD.den,leafD,rowD,List.getElem?_cons_zero,List.getElem?_cons_succ] <;> rfl) (by simp only [rowsD,ldens,dens,dens2,T2.den,L.den,CD.den,leafD,rowD,List.getElem?_cons_zero,List.getElem?_cons_succ] <;> rfl) (fun vs ds σ ⟨a,A,c,_,_,_,_,h⟩=>by cases h) ⟨[],none,0,rfl,rfl,p1,by simpa using hF,hx⟩ ?_
 clear hx
 rintro k vs ds bl ⟨s,h0⟩ hbl ⟨acc,A,c,rfl,rfl,hp0,hacc,hx⟩
 rw [mvals] at hx
 simp only at hx
 try simp only [aS,List.length_nil]
 refine kc (h:=w_pbad ?_)
 try simp only [aS,List.length_nil]
 refine h_pv rfl rfl ?_
 try simp only [aS,List.length_nil]
 refine h_ite rfl (fun q4=>?_) (fun q4=>?_)
 ·skip
  simp only [nS] at q4
  try simp only [Bool.not_eq_true',Bool.not_eq_false'] at q4
  try simp only [q4,mfull,bS,↓reduceIte] at hx
  refine h_pv rfl rfl ?_
  try simp only [aS,List.length_nil]
  refine h_pv rfl rfl ?_
  try simp only [aS,List.length_nil]
  refine h_ite rfl (fun q7=>?_) (fun q7=>?_)
  ·skip
   try dsimp only at q7
   try simp only [q4,q7,mfull,bS,↓reduceIte] at hx
   refine kc (h:=w_pis ?_)
   try simp only [aS,List.length_nil]
   refine h_ite rfl (fun q9=>?_) (fun q9=>?_)
   ·skip
    try simp only [q4,q7,q9,mfull,bS,↓reduceIte] at hx
    refine kc (h:=w_pfail fun h10 p10=>?_)
    refine kc (h:=w_pnumber fun h11 p11=>?_)
    try simp only [aS,List.length_nil]
    refine kb (h:=fun g12=>?_)
    try simp only [aS,List.length_nil]
    refine h_app rfl rfl (by simp only [List.length_map,List.length_cons,List.length_nil];omega) fun A13 c13=>?_
    try simp only [aS,List.length_nil]
    refine kc (h:=w_peat fun h14 p14=>?_)
    try simp only [aS,List.length_nil]
    refine h_pv rfl rfl ?_
    try simp only [aS,List.length_nil]
    refine h_ite rfl (fun q16=>?_) (fun q16=>?_)
    ·skip
     simp only [nS] at q16
     have z16:=meat_noS q16
     rw [z16] at p14
     rw [z16]
     try simp only [z16] at hx
     try simp only [q4,q7,q9,q16,mfull,bS,↓reduceIte] at hx
     refine kc (h:=w_pwant fun h17 p17=>?_)
     try simp only [q4,q7,q9,q16,mfull,bS,↓reduceIte] at hx
     obtain ⟨rfl,rfl⟩:=sP hx
     refine kr (h:=?_)
     refine hK _ _ _ ⟨⟨A13,c13,?_⟩,?_,rfl,p17⟩
     ·first | rfl | (simp only [List.length_append,List.length_map];rfl)
     ·first | rfl | (simp [intsD,encEx_eq,encSt_eq,encDe];done)
    ·skip
     simp only [nS] at q16
     try simp only [q4,q7,q9,q16,mfull,bS,↓reduceIte] at hx
     try simp only [q4,q7,q9,q16,mfull,bS,↓reduceIte] at hx
     refine ka (h:=?_)
     show (ite ((0:Nat)=0) _ _:List Value→List D→QS→Prop) _ _ _
     rw [if_pos rfl]
     refine ⟨_,A13,c13,?_,?_,p14,?_,hx⟩
     ·simp only [List.length_append,List.length_map];rfl
     ·simp [intsD,encEx_eq,encSt_eq,encDe]
     ·simp only [List.length_append,List.length_cons,List.length_nil];omega
   ·skip
    try simp only [q4,q7,q9,mfull,bS,↓reduceIte] at hx
    refine kc (h:=w_ptok ?_)
    try simp only [aS,List.length_nil]
    refine h_pv rfl rfl ?_
    try simp only [aS,List.length_nil]
    refine h_ite rfl (fun q20=>?_) (fun q20=>?_)
    ·skip
     try dsimp only at q20
     try simp only [q4,q7,q9,q20,mfull,bS,↓reduceIte] at hx
     refine kc (h:=w_pfail fun h21 p21=>?_)
     refine kc (h:=w_pnumber fun h22 p22=>?_)
     try simp only [aS,List.length_nil]
     refine kb (h:=fun g23=>?_)
     try simp only [aS,List.length_nil]
     refine h_app rfl rfl (by simp only [List.length_map,List.length_cons,List.length_nil];omega) fun A24 c24=>?_
     try simp only [aS,List.length_nil]
     refine kc (h:=w_peat fun h25 p25=>?_)
     try simp only [aS,List.length_nil]
     refine h_pv rfl rfl ?_
     try simp only [aS,List.length_nil]
     refine h_ite rfl (fun q27=>?_) (fun q27=>?_)
     ·skip
      simp only [nS] at q27
      have z27:=meat_noS q27
      rw [z27] at p25
      rw [z27]
      try simp only [z27] at hx
      try simp only [q4,q7,q9,q20,q27,mfull,bS,↓reduceIte] at hx
      refine kc (h:=w_pwant fun h28 p28=>?_)
      try simp only [q4,q7,q9,q20,q27,mfull,bS,↓reduceIte] at hx
      obtain ⟨rfl,rfl⟩:=sP hx
      refine kr (h:=?_)
      refine hK _ _ _ ⟨⟨A24,c24,?_⟩,?_,rfl,p28⟩
      ·first | rfl | (simp only [List.length_append,List.length_map];rfl)
      ·first | rfl | (simp [intsD,encEx_eq,encSt_eq,encDe];done)
     ·skip
      simp only [nS] at q27
      try simp only [q4,q7,q9,q20,q27,mfull,bS,↓reduceIte] at hx
      try simp only [q4,q7,q9,q20,q27,mfull,bS,↓reduceIte] at hx
      refine ka (h:=?_)
      show (ite ((0:Nat)=0) _ _:List Value→List D→QS→Prop) _ _ _
      rw [if_pos rfl]
      refine ⟨_,A24,c24,?_,?_,p25,?_,hx⟩
      ·simp only [List.length_append,List.length_map];rfl
      ·simp [intsD,encEx_eq,encSt_eq,encDe]
      ·simp only [List.length_append,List.length_cons,List.length_nil];omega
    ·skip
     try dsimp only at q20
     try simp only [q4,q7,q9,q20,mfull,bS,↓reduceIte] at hx
     refine kc (h:=w_pnumber fun h29 p29=>?_)
     try simp only [aS,List.length_nil]
     refine kb (h:=fun g30=>?_)
     try simp only [aS,List.length_nil]
     refine h_app rfl rfl (by simp only [List.length_map,List.length_cons,List.length_nil];omega) fun A31 c31=>?_
     try simp only [aS,List.length_nil]
     refine kc (h:=w_peat fun h32 p32=>?_)
     try simp only [aS,List.length_nil]
     refine h_pv rfl rfl ?_
     try simp only [aS,List.length_nil]
     refine h_ite rfl (fun q34=>?_) (fun q34=>?_)
     ·skip
      simp only [nS] at q34
      have z34:=meat_noS q34
      rw [z34] at p32
      rw [z34]
      try simp only [z34] at hx
      try simp only [q4,q7,q9,q20,q34,mfull,bS,↓reduceIte] at hx
      refine kc (h:=w_pwant fun h35 p35=>?_)
      try simp only [q4,q7,q9,q20,q34,mfull,bS,↓reduceIte] at hx
      obtain ⟨rfl,rfl⟩:=sP hx
      refine kr (h:=?_)
      refine hK _ _ _ ⟨⟨A31,c31,?_⟩,?_,rfl,p35⟩
      ·first | rfl | (simp only [List.length_append,List.length_map];rfl)
      ·first | rfl | (simp [intsD,encEx_eq,encSt_eq,encDe];done)
     ·skip
      simp only [nS] at q34
      try simp only [q4,q7,q9,q20,q34,mfull,bS,↓reduceIte] at hx
      try simp only [q4,q7,q9,q20,q34,mfull,bS,↓reduceIte] at hx
      refine ka (h:=?_)
      show (ite ((0:Nat)=0) _ _:List Value→List D→QS→Prop) _ _ _
      rw [if_pos rfl]
      refine ⟨_,A31,c31,?_,?_,p32,?_,hx⟩
      ·simp only [List.length_append,List.length_map];rfl
      ·simp [intsD,encEx_eq,encSt_eq,encDe]
      ·simp only [List.length_append,List.length_cons,List.length_nil];omega
  ·skip
   try dsimp only at q7
   try simp only [q4,q7,mfull,bS,↓reduceIte] at hx
   refine kc (h:=w_pnumber fun h36 p36=>?_)
   try simp only [aS,List.length_nil]
   refine kb (h:=fun g37=>?_)
   try simp only [aS,List.length_nil]
   refine h_app rfl rfl (by simp only [List.length_map,List.length_cons,List.length_nil];omega) fun A38 c38=>?_
   try simp only [aS,List.length_nil]
   refine kc (h:=w_peat fun h39 p39=>?_)
   try simp only [aS,List.length_nil]
   refine h_pv rfl rfl ?_
   try simp only [aS,List.length_nil]
   refine h_ite rfl (fun q41=>?_) (fun q41=>?_)
   ·skip
    simp only [nS] at q41
    have z41:=meat_noS q41
    rw [z41] at p39
    rw [z41]
    try simp only [z41] at hx
    try simp only [q4,q7,q41,mfull,bS,↓reduceIte] at hx
    refine kc (h:=w_pwant fun h42 p42=>?_)
    try simp only [q4,q7,q41,mfull,bS,↓reduceIte] at hx
    obtain ⟨rfl,rfl⟩:=sP hx
    refine kr (h:=?_)
    refine hK _ _ _ ⟨⟨A38,c38,?_⟩,?_,rfl,p42⟩
    ·first | rfl | (simp only [List.length_append,List.length_map];rfl)
    ·first | rfl | (simp [intsD,encEx_eq,encSt_eq,encDe];done)
   ·skip
    simp only [nS] at q41
    try simp only [q4,q7,q41,mfull,bS,↓reduceIte] at hx
    try simp only [q4,q7,q41,mfull,bS,↓reduceIte] at hx
    refine ka (h:=?_)
    show (ite ((0:Nat)=0) _ _:List Value→List D→QS→Prop) _ _ _
    rw [if_pos rfl]
    refine ⟨_,A38,c38,?_,?_,p39,?_,hx⟩
    ·simp only [List.length_append,List.length_map];rfl
    ·simp [intsD,encEx_eq,encSt_eq,encDe]
    ·simp only [List.length_append,List.length_cons,List.length_nil];omega
 ·skip
  simp only [nS] at q4
  try simp only [Bool.not_eq_true',Bool.not_eq_false'] at q4
  try simp only [q4,mfull,bS,↓reduceIte] at hx
  try simp only [q4,mfull,bS,↓reduceIte] at hx
  obtain ⟨rfl,rfl⟩:=sP hx
  refine kr (h:=?_)
  refine hK _ _ _ ⟨⟨A,c,?_⟩,?_,rfl,hp0⟩
  ·first | rfl | (simp only [List.length_append,List.length_map];rfl)
  ·first | rfl | (simp [intsD,encEx_eq,encSt_eq,encDe];done)
def cfP_params:Cfg:=⟨[(70,sUnit),(71,sOne),(13,sOne),(64,sUnit),(26,sTy),(27,sTok),(67,sOne)],[(100 * 100 + 6,8),(100 * 89 + 1,8),(100 * 89 + 2,9),(100 * 56 + 4,1),(100 * 60 + 4,6),(100 * 60 + 5,9),(100 * 60 + 6,6)],[(0,⟨[(0,.el (.one (.v 0))),(2,.el (.one (.v 1)))],[],[⟨1,0,some (56,6)⟩],2,0,1,36,[],[]⟩)],sDes,[],[]⟩
def Z121:Tree:=tO 2 <| tT 2 <| .ite 3 (.nd (.pv .len [.v 1]) <| tQ 4 4 <| .ite 5 (tI 3 2 <| .ret [.v 1] [jD 1 0]) (tO 4 <| tW <| tI 5 1 <| tW <| tB 6 1 [[jL 10,jL 6,jL 7,jL 8,jP 1,jL 12]] <| tU 6 0 1 <| tS 6 [44] <| tT 15 <| .ite 16 (tS 0 [41] <| .ret [.v 14] [jD 14 2]) (.again 0 [.v 0,.v 14] [jD 14 2]))) (.ret [.v 1] [jD 1 0])
def Z120:Tree:=.loop 0 0 [.v 0,jN] [jP 6] Z121
def TP_params:Tree:=tS 0 [40] <| tO 1 <| .ite 1 (.ret [jN] [jP 6]) Z120
theorem TP_params_eq:fnS Tryz.prog cfP_params [.one] 31=some TP_params:=by kernel_rfl
theorem mparams_any (F:Nat) :∀ (g:Nat) (s s':RS) (x:List De) (h0:QH) (w:World) (okk:Nat→Prop) (K:List Value→List D→QS→Prop),mparams F s=some (x,s')→QR g ⟨s,h0⟩ w→(∀ k,okk k→g<k)→(∀ A c h,OkS ⟨s',h⟩→K [.slice A x.length c] [desD x] ⟨s',h⟩)→Calls Tryz.prog 31 #[ptrV g] w (PostQ g sDes okk w K):=by
 intro g s s' x h0 w okk K hx hr hok hK'
 have hK:∀ vs ds σ',((∃ A c,vs=[.slice A x.length c])∧ds=[desD x]∧σ'.s=s'∧OkS σ')→K vs ds σ':=fun vs ds σ' h=>by
  obtain ⟨⟨A,c,rfl⟩,rfl,rfl,h3⟩:=h
  exact hK' A c _ h3
 refine fn_ok (cf:=cfP_params) [(qWant g).x,(qNothing g).x,(qBad g).x,(qFail g).x,(qTyp g).x,(qKind g).x,(qEat g).x] rfl mixed QR.stable TP_params_eq (W:=fun args ds σ K'=>args=[ptrV g]∧ds=[]∧σ=⟨s,h0⟩∧K'=K)
  (fun args ds σ K hW=>by obtain ⟨rfl,_⟩:=hW;exact ⟨rfl,trivial⟩) ?_ [ptrV g] [] ⟨s,h0⟩ w okk K hr.lt hr hok (daOk_nil _ _ _) (by simp [Sx.flat,Value.cells,Value.oneCell',exC,strV8]) ⟨rfl,rfl,rfl,rfl⟩
 rintro args ds σ K' ⟨rfl,rfl,rfl,rfl⟩ _
 have hp0:=hr.1
 rw [mparams] at hx
 show Tree.holds _ _ _ _ (⟨Sx.flat [ptrV g],[],[],⟨s,h0⟩⟩:Env QS)
 simp only [Sx.flat,Value.cells,List.flatMap_cons,List.flatMap_nil,List.append_nil,List.cons_append,List.nil_append,Array.toList]
 refine kc (h:=w_pwant fun h1 p1=>?_)
 refine kc (h:=w_pnothing fun h2 p2=>?_)
 try simp only [aS,List.length_nil]
 refine h_ite rfl (fun q3=>?_) (fun q3=>?_)
 ·skip
  try simp only [q3,bS,↓reduceIte] at hx
  try simp only [q3,bS,↓reduceIte] at hx
  obtain ⟨rfl,rfl⟩:=sP hx
  refine kr (h:=?_)
  refine hK _ _ _ ⟨⟨none,0,?_⟩,?_,rfl,p2⟩
  ·first | rfl | (simp only [List.length_append,List.length_map];rfl)
  ·first | rfl | (simp [desD,encEx_eq,encSt_eq,encDe];done)
 ·skip
  try simp only [q3,bS,↓reduceIte] at hx
  try simp only [q3,bS,↓reduceIte] at hx
  refine h_loop (fun k vs ds σ=>∃ (acc:List De) (A:Option Addr) (c:Nat),vs=[ptrV g,.slice A acc.length c]∧ds=[desD acc]∧OkS σ∧acc.length≤4∧mparams1 k acc σ.s=some (x,s')) F (by simp only [rowsD,ldens,dens,dens2,T2.den,L.den,CD.den,leafD,rowD,List.getElem?_cons_zero,List.getElem?_cons_succ] <;> rfl) (by simp only [rowsD,ldens,dens,dens2,T2.den,L.den,CD.den,leafD,rowD,List.getElem?_cons_zero,List.getElem?_cons_succ] <;> rfl) (fun vs ds σ ⟨a,A,c,_,_,_,_,h⟩=>by cases h) ⟨[],none,0,rfl,rfl,p2,Nat.zero_le _,hx⟩ ?_
  clear hx
  rintro k vs ds bl ⟨s,h0⟩ hbl ⟨acc,A,c,rfl,rfl,hp0,hacc,hx⟩
  rw [mparams1] at hx
  simp only at hx
  try simp only [aS,List.length_nil]
  refine kc (h:=w_pbad ?_)
  try simp only [aS,List.length_nil]
  refine h_pv rfl rfl ?_
  try simp only [aS,List.length_nil]
  refine h_ite rfl (fun q6=>?_) (fun q6=>?_)
  ·skip
   simp only [nS] at q6
   try simp only [Bool.not_eq_true',Bool.not_eq_false'] at q6
   try simp only [q6,bS,↓reduceIte] at hx
   refine h_pv rfl rfl ?_
   try simp only [aS,List.length_nil]
   refine h_pv rfl rfl ?_
   try simp only [aS,List.length_nil]
   refine h_ite rfl (fun q9=>?_) (fun q9=>?_)
   ·skip
    try dsimp only at q9
    have qn:acc.length=4:=by have:=q9;simp at this;omega
    rw [if_pos qn] at hx
    try simp only [q6,q9,bS,↓reduceIte] at hx
    refine kc (h:=w_pfail fun h10 p10=>?_)
    try simp only [q6,q9,bS,↓reduceIte] at hx
    obtain ⟨rfl,rfl⟩:=sP hx
    refine kr (h:=?_)
    refine hK _ _ _ ⟨⟨A,c,?_⟩,?_,rfl,p10⟩
    ·first | rfl | (simp only [List.length_append,List.length_map];rfl)
    ·first | rfl | (simp [desD,encEx_eq,encSt_eq,encDe];done)
   ·skip
    try dsimp only at q9
    have qn:¬ acc.length=4:=by have:=q9;simp at this;omega
    rw [if_neg qn] at hx
    try simp only [q6,q9,bS,↓reduceIte] at hx
    refine kc (h:=w_ptyp fun h11 p11=>?_)
    try simp only [aS,List.length_nil]
    refine h_new fun g12=>?_
    refine kc (h:=w_pkind fun h13 p13=>?_)
    try simp only [aS,List.length_nil]
    refine h_new fun g14=>?_
    refine kb (h:=fun g15=>?_)
    try simp only [aS,List.length_nil]
    refine h_app rfl rfl (by simp only [List.length_map,List.length_cons,List.length_nil];omega) fun A16 c16=>?_
    try simp only [aS,List.length_nil]
    refine kc (h:=w_peat fun h17 p17=>?_)
    try simp only [aS,List.length_nil]
    refine h_pv rfl rfl ?_
    try simp only [aS,List.length_nil]
    refine h_ite rfl (fun q19=>?_) (fun q19=>?_)
    ·skip
     simp only [nS] at q19
     have z19:=meat_noS q19
     rw [z19] at p17
     rw [z19]
     try simp only [z19] at hx
     try simp only [q6,q9,q19,bS,↓reduceIte] at hx
     refine kc (h:=w_pwant fun h20 p20=>?_)
     try simp only [q6,q9,q19,bS,↓reduceIte] at hx
     obtain ⟨rfl,rfl⟩:=sP hx
     refine kr (h:=?_)
     refine hK _ _ _ ⟨⟨A16,c16,?_⟩,?_,rfl,p20⟩
     ·first | rfl | (simp only [List.length_append,List.length_map];rfl)
     ·first | rfl | (simp [desD,encEx_eq,encSt_eq,encDe];done)
    ·skip
     simp only [nS] at q19
     try simp only [q6,q9,q19,bS,↓reduceIte] at hx
     try simp only [q6,q9,q19,bS,↓reduceIte] at hx
     refine ka (h:=?_)
     show (ite ((0:Nat)=0) _ _:List Value→List D→QS→Prop) _ _ _
     rw [if_pos rfl]
     refine ⟨_,A16,c16,?_,?_,p17,?_,hx⟩
     ·simp only [List.length_append,List.length_map];rfl
     ·simp [desD,encEx_eq,encSt_eq,encDe]
     ·simp only [List.length_append,List.length_cons,List.length_nil];omega
  ·skip
   simp only [nS] at q6
   try simp only [Bool.not_eq_true',Bool.not_eq_false'] at q6
   try simp only [q6,bS,↓reduceIte] at hx
   try simp only [q6,bS,↓reduceIte] at hx
   obtain ⟨rfl,rfl⟩:=sP hx
   refine kr (h:=?_)
   refine hK _ _ _ ⟨⟨A,c,?_⟩,?_,rfl,hp0⟩
   ·first | rfl | (simp only [List.length_append,List.length_map];rfl)
   ·first | rfl | (simp [desD,encEx_eq,encSt_eq,encDe];done)
def qValues (g:Nat):Con0 Tryz.prog (QR g) g where
 f:=68
 sh:=sLongs
 W args _ σ K:=∃ f len x s',f≤900000∧args=[ptrV g,.int .i64 len]∧mvalues f len σ.s=some (x,s')∧∀ A c h,OkS ⟨s',h⟩→K [.slice A x.length c] [intsD x] ⟨s',h⟩
 ok args ds σ w okk K hg hR hokk _ _ hW:=by
  obtain ⟨f,len,x,s',hf,rfl,h1,hK⟩:=hW
  exact mvalues_any f g len σ.s s' x σ.h w okk K hf h1 hR hokk hK
def qParams (g:Nat):Con0 Tryz.prog (QR g) g where
 f:=31
 sh:=sDes
 W args _ σ K:=∃ f x s',args=[ptrV g]∧mparams f σ.s=some (x,s')∧∀ A c h,OkS ⟨s',h⟩→K [.slice A x.length c] [desD x] ⟨s',h⟩
 ok args ds σ w okk K hg hR hokk _ _ hW:=by
  obtain ⟨f,x,s',rfl,h1,hK⟩:=hW
  exact mparams_any f g σ.s s' x σ.h w okk K h1 hR hokk hK
section
variable {g f:Nat} {K:List Value→List D→QS→Prop} {ds:List D} {s s':RS} {h0:QH}
theorem w_pvalues {len:Int} {x:List Int} (hf:f≤900000) (h1:mvalues f len s=some (x,s')) (h:∀ A c h,OkS ⟨s',h⟩→K [.slice A x.length c] [intsD x] ⟨s',h⟩):(qValues g).W [ptrV g,.int .i64 len] ds ⟨s,h0⟩ K:=⟨f,len,x,s',hf,rfl,h1,h⟩
theorem w_pparams {x:List De} (h1:mparams f s=some (x,s')) (h:∀ A c h,OkS ⟨s',h⟩→K [.slice A x.length c] [desD x] ⟨s',h⟩):(qParams g).W [ptrV g] ds ⟨s,h0⟩ K:=⟨f,x,s',rfl,h1,h⟩
end
end Go.Proofs.YtdmacgoeikjdbaaGreatDoor
namespace Go.Proofs.YtdmacgoeikjdbaaGreatDoor
open Go.RowKit Sx
structure MAllOk (f:Nat):Prop where
 e:MEx 88 (mexpr f) f
 c:MEx 102 (mcond f) f
 u:MEx 121 (munary f) f
 t:MEx 131 (mcast f) f
 r:MEx 133 (mprimary f) f
 o:MExs 130 (moperand f) f
 a:MExs 140 (margs f) f
 b:MBinOk f
 p:MPostOk f
theorem mall:∀ f,MAllOk f:=by
 intro f
 induction f using Nat.strongRecOn with
 | ind f ih=>
  cases f with
  | zero=>
   refine ⟨?_,?_,?_,?_,?_,?_,?_,?_,?_⟩
   ·intro g d s s' x h0 w okk K hx;rw [mexpr] at hx;cases hx
   ·intro g d s s' x h0 w okk K hx;rw [mcond] at hx;cases hx
   ·intro g d s s' x h0 w okk K hx;rw [munary] at hx;cases hx
   ·intro g d s s' x h0 w okk K hx;rw [mcast] at hx;cases hx
   ·intro g d s s' x h0 w okk K hx;rw [mprimary] at hx;cases hx
   ·intro g d s s' x h0 w okk K hx;rw [moperand] at hx;cases hx
   ·intro g d s s' x h0 w okk K hx;rw [margs] at hx;cases hx
   ·intro g d n s s' x h0 w okk K _ hx;rw [mbinary] at hx;cases hx
   ·intro g d a B e s s' x h0 w okk K hx;rw [mpostloop] at hx;cases hx
  | succ F=>
   exact ⟨mexpr_step F (fun f h=>(ih f (by omega)).c) (fun f h=>(ih f (by omega)).e),mcond_step F (fun f h=>(ih f (by omega)).b) (fun f h=>(ih f (by omega)).e) (fun f h=>(ih f (by omega)).c),munary_step F (fun f h=>(ih f (by omega)).o) (fun f h=>(ih f (by omega)).t) (fun f h=>(ih f (by omega)).r) (fun f h=>(ih f (by omega)).p),mcast_step F (fun f h=>(ih f (by omega)).o) (fun f h=>(ih f (by omega)).e) (fun f h=>(ih f (by omega)).p),mprimary_step F (fun f h=>(ih f (by omega)).a),moperand_step F (fun f h=>(ih f (by omega)).u),margs_step F (fun f h=>(ih f (by omega)).e),mbin_step F (fun f h=>(ih f (by omega)).u) (fun f h=>(ih f (by omega)).b),mpost_step F (fun f h=>(ih f (by omega)).e)⟩
def cfP_paren:Cfg:=⟨[(70,sUnit),(88,sEx)],[(100 * 100 + 6,8),(100 * 89 + 1,8),(100 * 89 + 2,9),(100 * 56 + 4,1),(100 * 60 + 4,6),(100 * 60 + 5,9),(100 * 60 + 6,6)],[],sEx,[],[]⟩
def TP_paren:Tree:=tW <| tS 0 [40] <| tV 1 1 <| tW <| tS 0 [41] <| .ret [.v 2,.v 3,.v 4,.v 5,.v 6,.v 7,.v 8,.v 9] [jD 8 0]
theorem TP_paren_eq:fnS Tryz.prog cfP_paren [.one,.one] 99=some TP_paren:=by kernel_rfl
theorem mparen_step (F:Nat) (ihe:∀ f,f≤F→MEx 88 (mexpr f) f):MEx 99 (mparen F) F:=by
 intro g d s s' x h0 w okk K hx hd hr hok hK'
 have hK:∀ vs ds σ',((∃ A c,vs=exV x A c)∧ds=[kidsD x]∧σ'.s=s'∧OkS σ')→K vs ds σ':=fun vs ds σ' h=>by
  obtain ⟨⟨A,c,rfl⟩,rfl,rfl,h3⟩:=h
  exact hK' A c _ h3
 refine fn_ok (cf:=cfP_paren) [(qWant g).x,(qEx 88 mexpr g ihe).x] rfl mixed QR.stable TP_paren_eq (W:=fun args ds σ K'=>args=[ptrV g,.int .i64 d]∧ds=[]∧σ=⟨s,h0⟩∧K'=K)
  (fun args ds σ K hW=>by obtain ⟨rfl,_⟩:=hW;exact ⟨rfl,rfl,trivial⟩) ?_ [ptrV g,.int .i64 d] [] ⟨s,h0⟩ w okk K hr.lt hr hok (daOk_nil _ _ _) (by simp [Sx.flat,Value.cells,Value.oneCell',exC,strV8]) ⟨rfl,rfl,rfl,rfl⟩
 rintro args ds σ K' ⟨rfl,rfl,rfl,rfl⟩ _
 have hp0:=hr.1
 have hd1:=hd.1
 have hd2:=hd.2
 rw [mparen] at hx
 show Tree.holds _ _ _ _ (⟨Sx.flat [ptrV g,.int .i64 d],[],[],⟨s,h0⟩⟩:Env QS)
 simp only [Sx.flat,Value.cells,List.flatMap_cons,List.flatMap_nil,List.append_nil,List.cons_append,List.nil_append,Array.toList]
 refine h_new fun g1=>?_
 refine kc (h:=w_pwant fun h2 p2=>?_)
 try simp only [bS,↓reduceIte] at hx
 obtain ⟨⟨x3,s3⟩,e3,hx⟩:=Option.bind_eq_some_iff.1 hx
 simp only at hx
 refine kc (h:=w_pex (f:=F) (by omega) e3 ⟨by omega,by omega⟩ fun A3 c3 h3 p3=>?_)
 try simp only [aS,List.length_nil]
 refine h_new fun g4=>?_
 refine kc (h:=w_pwant fun h5 p5=>?_)
 try simp only [bS,↓reduceIte] at hx
 obtain ⟨rfl,rfl⟩:=sP hx
 refine kr (h:=?_)
 refine hK _ _ _ ⟨⟨_,_,rfl⟩,?_,rfl,p5⟩
 first | rfl | (simp only [kidsD,Ex.kids,List.map,encEx_eq];done) | (simp only [kidsD,Ex.kids,List.map,encEx_eq];rfl) | (simp only [exsD,List.map,encEx_eq];done) | (simp only [exsD,List.map,encEx_eq];rfl) | (simp [kidsD,exsD,Ex.kids,encEx_eq];done)
def MPer (f:Nat):Prop:=∀ (g:Nat) (d:Int) (y:List UInt8) (s s':RS) (x:Ex) (h0:QH) (w:World) (okk:Nat→Prop) (K:List Value→List D→QS→Prop),mperhaps f d y s=some (x,s')→DepthOk d f→QR g ⟨s,h0⟩ w→(∀ k,okk k→g<k) →
 (∀ A c h,OkS ⟨s',h⟩→K (exV x A c) [kidsD x] ⟨s',h⟩)→Calls Tryz.prog 111 #[ptrV g,.int .i64 d,strB y] w (PostQ g sEx okk w K)
def cfP_perhaps:Cfg:=⟨[(28,sOne),(88,sEx)],[(100 * 100 + 6,8),(100 * 89 + 1,8),(100 * 89 + 2,9),(100 * 56 + 4,1),(100 * 60 + 4,6),(100 * 60 + 5,9),(100 * 60 + 6,6)],[],sEx,[],[]⟩
def TP_perhaps:Tree:=tW <| tV 0 2 <| .ite 3 (.ret [jI 0,jI 0,jI 0,jI 0,jE,jI 0,jN,jI 0] [jP 8]) (tV 1 1 <| .ret [.v 4,.v 5,.v 6,.v 7,.v 8,.v 9,.v 10,.v 11] [jD 10 0])
theorem TP_perhaps_eq:fnS Tryz.prog cfP_perhaps [.one,.one,.one] 111=some TP_perhaps:=by kernel_rfl
theorem mperhaps_step (F:Nat) (ihe:∀ f,f≤F→MEx 88 (mexpr f) f):MPer F:=by
 intro g d y s s' x h0 w okk K hx hd hr hok hK'
 have hK:∀ vs ds σ',((∃ A c,vs=exV x A c)∧ds=[kidsD x]∧σ'.s=s'∧OkS σ')→K vs ds σ':=fun vs ds σ' h=>by
  obtain ⟨⟨A,c,rfl⟩,rfl,rfl,h3⟩:=h
  exact hK' A c _ h3
 refine fn_ok (cf:=cfP_perhaps) [(qIs g).x,(qEx 88 mexpr g ihe).x] rfl mixed QR.stable TP_perhaps_eq (W:=fun args ds σ K'=>args=[ptrV g,.int .i64 d,strB y]∧ds=[]∧σ=⟨s,h0⟩∧K'=K)
  (fun args ds σ K hW=>by obtain ⟨rfl,_⟩:=hW;exact ⟨rfl,rfl,rfl,trivial⟩) ?_ [ptrV g,.int .i64 d,strB y] [] ⟨s,h0⟩ w okk K hr.lt hr hok (daOk_nil _ _ _) (by simp [Sx.flat,Value.cells,Value.oneCell',exC,strV8]) ⟨rfl,rfl,rfl,rfl⟩
 rintro args ds σ K' ⟨rfl,rfl,rfl,rfl⟩ _
 have hp0:=hr.1
 have hd1:=hd.1
 have hd2:=hd.2
 rw [mperhaps] at hx
 show Tree.holds _ _ _ _ (⟨Sx.flat [ptrV g,.int .i64 d,strB y],[],[],⟨s,h0⟩⟩:Env QS)
 simp only [Sx.flat,Value.cells,List.flatMap_cons,List.flatMap_nil,List.append_nil,List.cons_append,List.nil_append,Array.toList]
 refine h_new fun g1=>?_
 refine kc (h:=w_pis ?_)
 try simp only [aS,List.length_nil]
 refine h_ite rfl (fun q3=>?_) (fun q3=>?_)
 ·skip
  try simp only [q3,bS,↓reduceIte] at hx
  try simp only [q3,bS,↓reduceIte] at hx
  obtain ⟨rfl,rfl⟩:=sP hx
  refine kr (h:=?_)
  refine hK _ _ _ ⟨⟨_,_,rfl⟩,?_,rfl,hp0⟩
  first | rfl | (simp only [kidsD,Ex.kids,List.map,encEx_eq];done) | (simp only [kidsD,Ex.kids,List.map,encEx_eq];rfl) | (simp only [exsD,List.map,encEx_eq];done) | (simp only [exsD,List.map,encEx_eq];rfl) | (simp [kidsD,exsD,Ex.kids,encEx_eq];done)
 ·skip
  try simp only [q3,bS,↓reduceIte] at hx
  try simp only [q3,bS,↓reduceIte] at hx
  refine kc (h:=w_pex (f:=F)  (by omega) hx ⟨by omega,by omega⟩ fun A4 c4 h4 p4=>?_)
  try simp only [aS,List.length_nil]
  refine kr (h:=?_)
  exact hK _ _ _ ⟨⟨_,_,rfl⟩,rfl,rfl,p4⟩
theorem mparen_any (f:Nat):MEx 99 (mparen f) f:=mparen_step f fun f _=>(mall f).e
theorem mperhaps_any (f:Nat):MPer f:=mperhaps_step f fun f _=>(mall f).e
def qPerhaps (g:Nat):Con0 Tryz.prog (QR g) g where
 f:=111
 sh:=sEx
 W args _ σ K:=∃ f d y x s',args=[ptrV g,.int .i64 d,strB y]∧mperhaps f d y σ.s=some (x,s')∧DepthOk d f∧∀ A c h,OkS ⟨s',h⟩→K (exV x A c) [kidsD x] ⟨s',h⟩
 ok args ds σ w okk K hg hR hokk _ _ hW:=by
  obtain ⟨f,d,y,x,s',rfl,h1,h2,hK⟩:=hW
  exact mperhaps_any f g d y σ.s s' x σ.h w okk K h1 h2 hR hokk hK
def qParen (g:Nat):Con0 Tryz.prog (QR g) g where
 f:=99
 sh:=sEx
 W args _ σ K:=∃ f d x s',args=[ptrV g,.int .i64 d]∧mparen f d σ.s=some (x,s')∧DepthOk d f∧∀ A c h,OkS ⟨s',h⟩→K (exV x A c) [kidsD x] ⟨s',h⟩
 ok args ds σ w okk K hg hR hokk _ _ hW:=by
  obtain ⟨f,d,x,s',rfl,h1,h2,hK⟩:=hW
  exact mparen_any f g d σ.s s' x σ.h w okk K h1 h2 hR hokk hK
def qExpr (g:Nat):Con0 Tryz.prog (QR g) g where
 f:=88
 sh:=sEx
 W args _ σ K:=∃ f d x s',args=[ptrV g,.int .i64 d]∧mexpr f d σ.s=some (x,s')∧DepthOk d f∧∀ A c h,OkS ⟨s',h⟩→K (exV x A c) [kidsD x] ⟨s',h⟩
 ok args ds σ w okk K hg hR hokk _ _ hW:=by
  obtain ⟨f,d,x,s',rfl,h1,h2,hK⟩:=hW
  exact (mall f).e g d σ.s s' x σ.h w okk K h1 h2 hR hokk hK
abbrev sStP:Shp:=⟨9,.tup [],[(1,8),(2,9)],[(2,8),(3,9)],[(1,89,9)],[],[]⟩
abbrev stZ (p:Int):List Value:=[.int .i64 0,.slice none 0 0,.slice none 0 0,.int .i64 0,.int .i64 0,.int .i64 0,.string ⟨#[]⟩,.int .i64 0,.int .i64 p]
abbrev StpW (g:Nat) (fu:Int→Int→RS→Option (St × RS)) (f:Nat) (args:List Value) (ds:List D) (σ:QS) (K:List Value→List D→QS→Prop):Prop:=
 ∃ d p x s',args=[ptrV g,.agg (stZ p).toArray,.int .i64 d]∧ds=[.lst 8 [],.lst 9 []]∧fu d p σ.s=some (x,s')∧DepthOk d (f + 1)∧∀ A c B e h,OkS ⟨s',h⟩→K (stC x A c B e) [exsOf x,bodyOf x] ⟨s',h⟩
abbrev PostX (g:Nat) (sh:Shp) (okk X:Nat→Prop) (bl:List Nat) (w:World) (K:List Value→List D→QS→Prop) (e:Ending) (w':World):Prop:=
 ∃ vs ds' σ' r,∃ X':Nat→Prop,K vs ds' σ'∧sh.ret.den vs []=some r∧e=.returned r∧vs.length=sh.nv∧ds'.length=sh.fs.length∧(∀ u ∈ vs,u.oneCell'=true) ∧
   QR g σ' w'∧KeepX (fun k=>k=g ∨ X k) w w'∧IoOut w' sh.pt bl (vs.drop (sh.nv - ioN sh.pt))∧(∀ k,X' k→(X k ∨ w.heap.size≤k)∧k ∉ bl)∧DaOw w' (fun k=>(okk k ∨ X k ∨ w.heap.size≤k)∧¬ X' k∧k ∉ bl) X' vs sh.fs sh.fo ds'
def MStP (fn:FuncId) (fu:Int→Int→RS→Option (St × RS)) (f:Nat):Prop:=∀ (g:Nat) (args largs:List Value) (bl:List Nat) (ds:List D) (σ:QS) (w:World) (okk X:Nat→Prop) (K:List Value→List D→QS→Prop),
 g<w.heap.size→QR g σ w→(∀ k,okk k→g<k∧¬ X k)→(∀ k,X k→g<k∧k<w.heap.size)→bl.Nodup→IoIn w X sStP.pt bl args largs→DaOw w okk (fun k=>X k∧k ∉ bl) (Sx.flat largs) sStP.da sStP.ao ds→(∀ u ∈ Sx.flat largs,u.oneCell'=true)→StpW g fu f largs ds σ K →
 Calls Tryz.prog fn args.toArray w (PostX g sStP okk X bl w K)
def qStp (fn:FuncId) (fu:Nat→Int→Int→RS→Option (St × RS)) (g:Nat) {F:Nat} (ih:∀ f,f≤F→MStP fn (fu f) f):Con Tryz.prog (QR g) g where
 f:=fn
 sh:=sStP
 W args ds σ K:=∃ f,f≤F∧StpW g (fu f) f args ds σ K
 ok args largs bl ds σ w okk X K hG hR hok hX hbl hio hda h1 hW:=by
  obtain ⟨f,hf,hW⟩:=hW
  exact ih f hf g args largs bl ds σ w okk X K hG hR hok hX hbl hio hda h1 hW
def MStOk (f:Nat):Prop:=∀ (g:Nat) (d:Int) (s s':RS) (x:St) (h0:QH) (w:World) (okk:Nat→Prop) (K:List Value→List D→QS→Prop),mstmt f d s=some (x,s')→DepthOk d f→QR g ⟨s,h0⟩ w→(∀ k,okk k→g<k) →
 (∀ A c B e h,OkS ⟨s',h⟩→K (stC x A c B e) [exsOf x,bodyOf x] ⟨s',h⟩)→Calls Tryz.prog 72 #[ptrV g,.int .i64 d] w (PostQ g sSt okk w K)
def MBlkOk (f:Nat):Prop:=∀ (g:Nat) (d:Int) (s s':RS) (x:List St) (h0:QH) (w:World) (okk:Nat→Prop) (K:List Value→List D→QS→Prop),mblock f d s=some (x,s')→DepthOk d f→QR g ⟨s,h0⟩ w→(∀ k,okk k→g<k) →
 (∀ A c h,OkS ⟨s',h⟩→K [.slice A x.length c] [stsD x] ⟨s',h⟩)→Calls Tryz.prog 32 #[ptrV g,.int .i64 d] w (PostQ g sSts okk w K)
def qStmt (g:Nat) {F:Nat} (ih:∀ f,f≤F→MStOk f):Con0 Tryz.prog (QR g) g where
 f:=72
 sh:=sSt
 W args _ σ K:=∃ f d x s',f≤F∧args=[ptrV g,.int .i64 d]∧mstmt f d σ.s=some (x,s')∧DepthOk d f∧∀ A c B e h,OkS ⟨s',h⟩→K (stC x A c B e) [exsOf x,bodyOf x] ⟨s',h⟩
 ok args ds σ w okk K hg hR hokk _ _ hW:=by
  obtain ⟨f,d,x,s',hf,rfl,h1,h2,hK⟩:=hW
  exact ih f hf g d σ.s s' x σ.h w okk K h1 h2 hR hokk hK
def qBlock (g:Nat) {F:Nat} (ih:∀ f,f≤F→MBlkOk f):Con0 Tryz.prog (QR g) g where
 f:=32
 sh:=sSts
 W args _ σ K:=∃ f d x s',f≤F∧args=[ptrV g,.int .i64 d]∧mblock f d σ.s=some (x,s')∧DepthOk d f∧∀ A c h,OkS ⟨s',h⟩→K [.slice A x.length c] [stsD x] ⟨s',h⟩
 ok args ds σ w okk K hg hR hokk _ _ hW:=by
  obtain ⟨f,d,x,s',hf,rfl,h1,h2,hK⟩:=hW
  exact ih f hf g d σ.s s' x σ.h w okk K h1 h2 hR hokk hK
section
variable {g F f:Nat} {K:List Value→List D→QS→Prop} {ds:List D} {s s':RS} {h0:QH} {d:Int}
theorem w_pparen {x:Ex} (h1:mparen f d s=some (x,s')) (h2:DepthOk d f) (h:∀ A c h,OkS ⟨s',h⟩→K (exV x A c) [kidsD x] ⟨s',h⟩):(qParen g).W [ptrV g,.int .i64 d] ds ⟨s,h0⟩ K:=⟨f,d,x,s',rfl,h1,h2,h⟩
theorem w_pexpr {x:Ex} (h1:mexpr f d s=some (x,s')) (h2:DepthOk d f) (h:∀ A c h,OkS ⟨s',h⟩→K (exV x A c) [kidsD x] ⟨s',h⟩):(qExpr g).W [ptrV g,.int .i64 d] ds ⟨s,h0⟩ K:=⟨f,d,x,s',rfl,h1,h2,h⟩
theorem w_pperhaps {x:Ex} {y:List UInt8} (h1:mperhaps f d y s=some (x,s')) (h2:DepthOk d f) (h:∀ A c h,OkS ⟨s',h⟩→K (exV x A c) [kidsD x] ⟨s',h⟩):(qPerhaps g).W [ptrV g,.int .i64 d,strB y] ds ⟨s,h0⟩ K:=⟨f,d,y,x,s',rfl,h1,h2,h⟩
theorem w_pstmt {ih:∀ f,f≤F→MStOk f} {x:St} (hf:f≤F) (h1:mstmt f d s=some (x,s')) (h2:DepthOk d f) (h:∀ A c B e h,OkS ⟨s',h⟩→K (stC x A c B e) [exsOf x,bodyOf x] ⟨s',h⟩):(qStmt g ih).W [ptrV g,.int .i64 d] ds ⟨s,h0⟩ K:=⟨f,d,x,s',hf,rfl,h1,h2,h⟩
theorem w_pblock {ih:∀ f,f≤F→MBlkOk f} {x:List St} (hf:f≤F) (h1:mblock f d s=some (x,s')) (h2:DepthOk d f) (h:∀ A c h,OkS ⟨s',h⟩→K [.slice A x.length c] [stsD x] ⟨s',h⟩):(qBlock g ih).W [ptrV g,.int .i64 d] ds ⟨s,h0⟩ K:=⟨f,d,x,s',hf,rfl,h1,h2,h⟩
theorem w_pstp {fn:FuncId} {fu:Nat→Int→Int→RS→Option (St × RS)} {ih:∀ f,f≤F→MStP fn (fu f) f} {x:St} {p:Int} (hf:f≤F) (h1:fu f d p s=some (x,s')) (h2:DepthOk d (f + 1)) (h:∀ A c B e h,OkS ⟨s',h⟩→K (stC x A c B e) [exsOf x,bodyOf x] ⟨s',h⟩) :
  (qStp fn fu g ih).W [ptrV g,.agg (stZ p).toArray,.int .i64 d] [.lst 8 [],.lst 9 []] ⟨s,h0⟩ K:=⟨f,hf,d,p,x,s',rfl,rfl,h1,h2,h⟩
end
end Go.Proofs.YtdmacgoeikjdbaaGreatDoor

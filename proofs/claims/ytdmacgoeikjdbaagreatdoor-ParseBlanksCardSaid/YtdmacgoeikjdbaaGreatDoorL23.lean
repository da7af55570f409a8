/- The program's parser: "void" alone (symbolic execution). Printed by wi -/
import Derived.Test.YtdmacgoeikjdbaaGreatDoorL22
import Derived.Maps.OwnSet
import Derived.Maps.OwnOps
import Derived.StringKeys
import Derived.Test.YtdmacgoeikjdbaaGreatDoorL02
set_option linter.unusedSimpArgs false
set_option linter.unusedVariables false
set_option maxHeartbeats 8000000
namespace Go.Proofs.YtdmacgoeikjdbaaGreatDoor
open Go.RowKit Sx
theorem ris_kind {x:List UInt8} {s:RS} (h:ris x s=true):(hdT s.ts).kind ≠ 0:=isT_kind h
theorem at_wrap {σ:QS} (h:OkS σ):IntKind.i64.wrap ((σ.h.at_:Int) + 1)=Int.ofNat (σ.h.at_ + 1):=by
 have h1:=h.lt
 have h2:=h.le
 rw [IntKind.wrap_i64]
 show _=((σ.h.at_ + 1:Nat):Int)
 omega
theorem OkS.hd1 {σ:QS} (h:OkS σ):σ.h.all.getD (σ.h.at_ + 1) noTokT=σ.s.ts.getD 1 noTokT:=by
 rw [h.ts,List.getD_eq_getElem?_getD,List.getD_eq_getElem?_getD,List.getElem?_drop]
theorem QR.ldK0 {g:Nat} {σ:QS} (ho:OkS σ) (h1:σ.h.at_ + 1<σ.h.all.length):∀ w,QR g σ w→LoadsAt w (.pointer (some ⟨σ.h.q,σ.h.off + (σ.h.at_ + 1) * 4 + 0,none⟩)) [.int .i64 (σ.s.ts.getD 1 noTokT).kind]:=fun w h=>loads_at (j:=0) (QR.ldT _ h1 w h) (by rw [ho.hd1];rfl)
theorem QR.ldK1 {g:Nat} {σ:QS} (ho:OkS σ) (h1:σ.h.at_ + 1<σ.h.all.length):∀ w,QR g σ w→LoadsAt w (.pointer (some ⟨σ.h.q,σ.h.off + (σ.h.at_ + 1) * 4 + 1,none⟩)) [strV8 (σ.s.ts.getD 1 noTokT).text]:=fun w h=>loads_at (j:=1) (QR.ldT _ h1 w h) (by rw [ho.hd1];rfl)
def cfP_nothing:Cfg:=⟨[(28,sOne),(65,sTok),(67,sOne)],[(100 * 100 + 6,8),(100 * 89 + 1,8),(100 * 89 + 2,9),(100 * 56 + 4,1),(100 * 60 + 4,6),(100 * 60 + 5,9),(100 * 60 + 6,6)],[],sOne,[],[]⟩
def Z2:Tree:=tN 0 <| tF 0 2 <| tL 3 1 <| tN 0 <| tF 1 5 <| tL 6 1 <| tA 7 1 <| .nd (.pv (.ia 4) [.v 4,.v 8]) <| tF 0 9 <| tL 10 1 <| tQ 11 3 <| .ite 12 (tN 0 <| tF 0 13 <| tL 14 1 <| tN 0 <| tF 1 16 <| tL 17 1 <| tA 18 1 <| .nd (.pv (.ia 4) [.v 15,.v 19]) <| tF 1 20 <| tL 21 1 <| .nd (.pv (.bin .eql) [.v 22,.c (.string ⟨#[41]⟩)]) <| .ite 23 (tO 1 <| tS 2 [41] <| .ret [.v 28] []) (tS 2 [41] <| .ret [.v 24] [])) (tS 2 [41] <| .ret [.v 13] [])
def TP_nothing:Tree:=tS 0 [118,111,105,100] <| .ite 1 Z2 (tS 2 [41] <| .ret [.v 2] [])
theorem TP_nothing_eq:fnS Tryz.prog cfP_nothing [.one] 71=some TP_nothing:=by kernel_rfl
def qNothing (g:Nat):Con0 Tryz.prog (QR g) g where
 f:=71
 sh:=sOne
 W args _ σ K:=args=[ptrV g]∧∀ h,OkS ⟨(mnothing σ.s).2,h⟩→K [.bool (mnothing σ.s).1] [] ⟨(mnothing σ.s).2,h⟩
 ok args ds σ w okk K hg hR hokk hda h1 hW:=by
  obtain ⟨rfl,hK⟩:=hW
  obtain ⟨s,h0⟩:=σ
  have hx:=hK
  try simp only [mnothing,bVoid] at hx
  refine fn_ok (cf:=cfP_nothing) [(qIs g).x,(qNext g).x,(qEat g).x] rfl mixed QR.stable TP_nothing_eq (W:=fun args' ds' σ' K'=>args'=[ptrV g]∧ds'=[]∧σ'=⟨s,h0⟩∧K'=K)
   (fun args ds σ K hW=>by obtain ⟨rfl,_⟩:=hW;exact ⟨rfl,trivial⟩) ?_ [ptrV g] [] ⟨s,h0⟩ w _ _ hg hR hokk (daOk_nil _ _ _) (by simp [Sx.flat,Value.cells,Value.oneCell']) ⟨rfl,rfl,rfl,rfl⟩
  rintro args ds σ' K' ⟨rfl,rfl,rfl,rfl⟩ _
  have hp0:=hR.1
  try simp only at hx
  show Tree.holds _ _ _ _ (⟨[ptrV g],[],[],⟨s,h0⟩⟩:Env QS)
  refine kc (h:=w_pis ?_)
  try simp only [aS]
  refine h_ite rfl (fun q2=>?_) (fun q2=>?_)
  ·skip
   try simp only [q2,bS,↓reduceIte] at hx
   have hone:=OkS.one hp0 (ris_kind q2)
   have hat1:=at_wrap hp0
   refine h_pv rfl rfl ?_
   try simp only [aS]
   refine h_pv rfl rfl ?_
   try simp only [aS]
   refine h_ld rfl QR.ld0 rfl (allV_one _) ?_
   try simp only [aS]
   refine h_pv rfl rfl ?_
   try simp only [aS]
   refine h_pv rfl rfl ?_
   try simp only [aS]
   refine h_ld rfl QR.ld1 rfl (int_one _) ?_
   try simp only [aS]
   refine h_pv rfl rfl ?_
   rw [hat1]
   try simp only [aS]
   refine h_pv rfl (sem_iaQ _ hone) ?_
   try simp only [aS]
   refine h_pv rfl rfl ?_
   try simp only [aS]
   refine h_ld rfl (QR.ldK0 hp0 hone) rfl (by simp [strV8,Value.oneCell']) ?_
   try simp only [aS]
   refine h_pv rfl rfl ?_
   try simp only [aS]
   refine h_ite rfl (fun q14=>?_) (fun q14=>?_)
   ·skip
    try dsimp only at q14
    try simp only [q2,q14,bS,↓reduceIte] at hx
    refine h_pv rfl rfl ?_
    try simp only [aS]
    refine h_pv rfl rfl ?_
    try simp only [aS]
    refine h_ld rfl QR.ld0 rfl (allV_one _) ?_
    try simp only [aS]
    refine h_pv rfl rfl ?_
    try simp only [aS]
    refine h_pv rfl rfl ?_
    try simp only [aS]
    refine h_ld rfl QR.ld1 rfl (int_one _) ?_
    try simp only [aS]
    refine h_pv rfl rfl ?_
    rw [hat1]
    try simp only [aS]
    refine h_pv rfl (sem_iaQ _ hone) ?_
    try simp only [aS]
    refine h_pv rfl rfl ?_
    try simp only [aS]
    refine h_ld rfl (QR.ldK1 hp0 hone) rfl (by simp [strV8,Value.oneCell']) ?_
    try simp only [aS]
    refine h_pv rfl rfl ?_
    try simp only [aS]
    refine h_ite rfl (fun q26=>?_) (fun q26=>?_)
    ·skip
     try dsimp only at q26
     try simp only [List.toList_toArray] at q26
     try simp only [q2,q14,q26,bS,↓reduceIte] at hx
     refine kc (h:=w_pnext fun h27 p27=>?_)
     try simp only [aS]
     refine kc (h:=w_peat fun h28 p28=>?_)
     try simp only [aS]
     try simp only [q2,q14,q26,bS,↓reduceIte] at hx
     exact h_ret rfl rfl (hx _ p28)
    ·skip
     try dsimp only at q26
     try simp only [List.toList_toArray] at q26
     try simp only [q2,q14,q26,bS,↓reduceIte] at hx
     refine kc (h:=w_peat fun h29 p29=>?_)
     try simp only [aS]
     try simp only [q2,q14,q26,bS,↓reduceIte] at hx
     exact h_ret rfl rfl (hx _ p29)
   ·skip
    try dsimp only at q14
    try simp only [q2,q14,bS,↓reduceIte] at hx
    refine kc (h:=w_peat fun h30 p30=>?_)
    try simp only [aS]
    try simp only [q2,q14,bS,↓reduceIte] at hx
    exact h_ret rfl rfl (hx _ p30)
  ·skip
   try simp only [q2,bS,↓reduceIte] at hx
   refine kc (h:=w_peat fun h31 p31=>?_)
   try simp only [aS]
   try simp only [q2,bS,↓reduceIte] at hx
   exact h_ret rfl rfl (hx _ p31)
theorem w_pnothing {g:Nat} {K:List Value→List D→QS→Prop} {ds:List D} {s:RS} {h0:QH}  (h:∀ h,OkS ⟨(mnothing s).2,h⟩→K [.bool (mnothing s).1] [] ⟨(mnothing s).2,h⟩):(qNothing g).W [ptrV g] ds ⟨s,h0⟩ K:=⟨rfl,h⟩
end Go.Proofs.YtdmacgoeikjdbaaGreatDoor
namespace Go.Proofs.YtdmacgoeikjdbaaGreatDoor
open Go.RowKit Sx Go.WideMaps Go.Maps
theorem wpList_insert_own {H:Type} {P:Program} (w:World) {ops:Array Oper} {rest:List Oper} {o:Oper} {a:Act} {Q:Exit→Act→World→Prop}
  (hg:o.guard=none) (m x v:Operand) (t:TypeId) (hop:o.op=Op.insert t m x v)
  (k e:TypeId) (K:Keyed P k) (ht:P.underlying t=some (.map k e)) (R:Value→Option (DataW H × List MemPlace)) (b n:Nat) (D:DataW H)
  (hm:a.eval m=.map (some b)) (hown:w.ownsMap P k R b n D) (hn:n<maxLen) (key val:Value) (kl:Lit) (hx:a.eval x=key) (hv:a.eval v=val) (hkey:keyOf P k key=some kl)
  (d:DataW H) (ps:List MemPlace) (hval:R val=some (d,ps))
  (hK:∀ w',w'.ownsMap P k R b (n + 1) (D.put kl d)→w.grownBy w' (some b)→wpList P ops Q rest (a.put o.dst undef) w') :
  wpList P ops Q (o :: rest) a w:=by
 refine wpList_plain hg fun K' hK'=>?_
 obtain ⟨w',hrun,r1,r2⟩:=hown.update K ht hn hkey hval
 unfold Oper.wp
 simp [execOp,hop,hm,hx,hv,hrun,Result.andThen]
 exact hK' _ _ (hK w' r1 r2)
theorem keyedS:Keyed Tryz.prog 9:=string_keyed Tryz.underlying9
theorem keyedI:Keyed Tryz.prog 3:=int_keyed Tryz.underlying3
theorem zeroI (w:World):(zeroValue 3).run Tryz.prog w=.ok (.int .i64 0) w:=by kernel_rfl
def mapS (l:List (List UInt8 × Int)):DataW Unit:=l.foldr (fun p D=>D.put (.string p.1) (.lit (.int .i64 p.2))) (.map [])
def mapI (l:List (Int × Int)):DataW Unit:=l.foldr (fun p D=>D.put (.int .i64 p.1) (.lit (.int .i64 p.2))) (.map [])
def prefR:List (List UInt8 × Int):=[([45,45],12),([43,43],11),([33],8),([126],7),([45],6),([38],5),([42],4)]
def levelR:List (Int × Int):=[(17,9),(16,9),(15,9),(19,8),(18,8),(21,7),(20,7),(25,6),(24,6),(23,6),(22,6),(27,5),(26,5),(28,4),(29,3),(30,2),(31,1),(32,0)]
theorem map_isMap:∀ l,IsMap (mapS l)
 | []=>⟨_,rfl⟩
 | p :: l=>by
  obtain ⟨es,h⟩:=map_isMap l
  show IsMap ((mapS l).put _ _)
  rw [h]
  exact ⟨_,rfl⟩
theorem mapI_isMap:∀ l,IsMap (mapI l)
 | []=>⟨_,rfl⟩
 | p :: l=>by
  obtain ⟨es,h⟩:=mapI_isMap l
  show IsMap ((mapI l).put _ _)
  rw [h]
  exact ⟨_,rfl⟩
theorem mapS_at (x:List UInt8):∀ l:List (List UInt8 × Int),(∀ p ∈ l,p.2 ≠ 0)→(mapS l).atKey (.string x) (.lit (.int .i64 0))=.lit (.int .i64 (lookS x l))∧Maps.has (mapS l) (.string x)=(lookS x l != 0)
 | [],_=>⟨rfl,rfl⟩
 | p :: l,h=>by
  obtain ⟨h1,h2⟩:=mapS_at x l fun q hq=>h q (List.mem_cons_of_mem _ hq)
  have hp:=h p List.mem_cons_self
  have hk:WideAt.IsKeyLit (.string p.1):=by trivial
  unfold mapS
  rw [List.foldr_cons]
  change DataW.atKey ((mapS l).put _ _) _ _=_∧Maps.has ((mapS l).put _ _) _=_
  by_cases e:p.1=x
  ·subst e
   rw [atKey_put_same (map_isMap l) hk,has_put_same (map_isMap l) hk]
   simp [lookS,hp]
  ·have hne:(Lit.string x) ≠ Lit.string p.1:=by
    intro h
    injection h with h
    exact e h.symm
   rw [atKey_put_other hne,has_put_other hne,h1,h2]
   simp [lookS,e]
theorem look_prefR (x:List UInt8):lookS x prefR=lookS x prefixes:=by
 by_cases h1:x=[45,45]
 ·subst h1;rfl
 by_cases h2:x=[43,43]
 ·subst h2;rfl
 by_cases h3:x=[33]
 ·subst h3;rfl
 by_cases h4:x=[126]
 ·subst h4;rfl
 by_cases h5:x=[45]
 ·subst h5;rfl
 by_cases h6:x=[38]
 ·subst h6;rfl
 by_cases h7:x=[42]
 ·subst h7;rfl
 simp [lookS,prefR,prefixes,Ne.symm h1,Ne.symm h2,Ne.symm h3,Ne.symm h4,Ne.symm h5,Ne.symm h6,Ne.symm h7]
set_option maxRecDepth 8000 in
theorem prefix_any (w:World):Calls Tryz.prog 129 #[] w (fun e w'=>e=.returned (.map (some w.heap.size))∧w'.ownsMap Tryz.prog 9 (plainElem (H:=Unit) Tryz.prog 3) w.heap.size 7 (mapS prefR)∧Below w.heap.size w w'):=by
 have hown:(w.alloc (.map #[] 0)).ownsMap Tryz.prog 9 (plainElem (H:=Unit) Tryz.prog 3) w.heap.size 0 (.map []):=World.ownsMap_made _ _ _ _
 have hb:Below w.heap.size w (w.alloc (.map #[] 0)):=below_alloc _ _
 have hmm:=@run_makeMap Tryz.prog
 go_enter Tryz.func129,Tryz.ntmps129
 go_wp2_with (first | (refine wpList_insert_own _ rfl _ _ _ 139 rfl 9 3 keyedS Tryz.underlying139 (plainElem (H:=Unit) Tryz.prog 3) w.heap.size _ _ rfl hown (by unfold maxLen;omega) _ _ _ rfl rfl (keyOf_string_mk Tryz.underlying9 (by decide)) _ [] (plainElem_int Tryz.underlying3 (by decide)) ?_;intro w1 hown hgrow;have hb:=hb.grown hgrow hb.size (fun j hj=>by cases hj;exact Nat.le_refl _);clear hgrow) | go_in)
 go_ret
 exact ⟨rfl,hown,hb⟩
set_option maxRecDepth 8000 in
theorem level_any (n:Int) (hn:15≤n∧n≤32) (w:World):Calls Tryz.prog 134 #[.int .i64 n] w (fun e w'=>∃ c:Int,(mapI levelR).atKey (.int .i64 n) (.lit (.int .i64 0))=.lit (.int .i64 c)∧e=.returned (.int .i64 c)∧Below w.heap.size w w'):=by
 have hown:(w.alloc (.map #[] 0)).ownsMap Tryz.prog 3 (plainElem (H:=Unit) Tryz.prog 3) w.heap.size 0 (.map []):=World.ownsMap_made _ _ _ _
 have hb:Below w.heap.size w (w.alloc (.map #[] 0)):=below_alloc _ _
 have hmm:=@run_makeMap Tryz.prog
 have hwf:(Lit.int .i64 n).wf=true:=WalkArith.wf_i64 (by omega)
 go_enter Tryz.func134,Tryz.ntmps134
 go_wp2_with (first | (refine wpList_insert_own _ rfl _ _ _ 147 rfl 3 3 keyedI Tryz.underlying147 (plainElem (H:=Unit) Tryz.prog 3) w.heap.size _ _ rfl hown (by unfold maxLen;omega) _ _ _ rfl rfl (keyOf_int_mk Tryz.underlying3 (by decide)) _ [] (plainElem_int Tryz.underlying3 (by decide)) ?_;intro w1 hown hgrow;have hb:=hb.grown hgrow hb.size (fun j hj=>by cases hj;exact Nat.le_refl _);clear hgrow) | (refine wpList_lookup_own_int _ rfl _ _ 147 rfl 3 3 .i64 keyedI Tryz.underlying147 Tryz.underlying3 (zeroI _) w.heap.size _ _ rfl hown _ _ rfl (keyOf_int_mk Tryz.underlying3 hwf) ?_;intro c hat hwc) | go_in)
 go_ret
 exact ⟨c,hat,rfl,hb⟩
end Go.Proofs.YtdmacgoeikjdbaaGreatDoor
namespace Go.Proofs.YtdmacgoeikjdbaaGreatDoor
open Go.RowKit Sx
def sgnL:List (List UInt8):=[[42],[47],[37],[43],[45],[60,60],[62,62],[60],[60,61],[62],[62,61],[61,61],[33,61],[38],[94],[124],[38,38],[124,124]]
def sgnB:List ByteArray:=sgnL.map fun x=>⟨x.toArray⟩
abbrev sgnCells:Array Value:=(sgnL.map fun l=>Value.string ⟨l.toArray⟩).toArray
def sIdx (x:List UInt8):Int:=Lib.idxOfS sgnB ⟨x.toArray⟩
def bareB:List UInt8:=[32,60,32,62,32,33,32,61,32,38,38,32,124,124,32]
def sOp (x:List UInt8):List UInt8:=Lib.trimSuffix x [61]
theorem bytes_eq {x y:List UInt8}:(⟨x.toArray⟩:ByteArray)=⟨y.toArray⟩ ↔ x=y:=bytes_inj
theorem sIdx_neg {x:List UInt8} (h:x ∉ sgnL):sIdx x=-1:=by
 have:=Lib.idxOfS_miss sgnB 18 ⟨x.toArray⟩ (fun j hj he=>by
  have hj2:j<sgnL.length:=hj
  have e:sgnB.getD j ByteArray.empty=⟨(sgnL[j]).toArray⟩:=by
   unfold sgnB
   rw [List.getD_eq_getElem?_getD,List.getElem?_map,List.getElem?_eq_getElem hj2]
   rfl
  rw [e,bytes_eq] at he
  exact h (he ▸ List.getElem_mem _))
 exact this
theorem fields_words:Lib.fields [42,32,47,32,37,32,43,32,45,32,60,60,32,62,62,32,60,32,60,61,32,62,32,62,61,32,61,61,32,33,61,32,38,32,94,32,124,32,38,38,32,124,124]=sgnL:=by kernel_rfl
set_option maxRecDepth 8000 in
theorem sgnWords_any (w:World) (htab:Lib.TabIs Tryz.prog w "strings.asciiSpace" .u8 Lib.asciiSpaceTab):Calls Tryz.prog 114 #[] w (fun e w'=>e=.returned (.slice (some ⟨w.heap.size,0,none⟩) 18 18)∧w'=w.alloc (.cells sgnCells 9)):=by
 have hf:=Tryz.strings_Fields ⟨#[42,32,47,32,37,32,43,32,45,32,60,60,32,62,62,32,60,32,60,61,32,62,32,62,61,32,61,61,32,33,61,32,38,32,94,32,124,32,38,38,32,124,124]⟩ w (by decide) (by
  intro j b hb
  have:∀ c ∈ [42,32,47,32,37,32,43,32,45,32,60,60,32,62,62,32,60,32,60,61,32,62,32,62,61,32,61,61,32,33,61,32,38,32,94,32,124,32,38,38,32,124,(124:UInt8)],c.toNat<128:=by decide
  exact this b (List.mem_of_getElem? hb)) htab
 simp only at hf
 rw [fields_words] at hf
 clear htab
 go_enter Tryz.func114,Tryz.ntmps114
 go_wp2_with fail
 refine hf.mono ?_
 rintro e w1 ⟨rfl,rfl⟩
 go_wp2_with fail
 go_ret
 exact ⟨rfl,rfl⟩
theorem sgnIdx_any {w:World} {b c:Nat} (x:List UInt8) (hb:BlkIs w b 9 sgnCells):Calls Tryz.prog 110 #[.slice (some ⟨b,0,none⟩) 18 c,strB x] w (fun e w'=>e=.returned (.int .i64 (sIdx x))∧w'=w):=
 Tryz.slices_Index_string b 0 18 c sgnB ⟨x.toArray⟩ w (by decide) (by omega) (fun j hj=>by
  have hj2:j<sgnL.length:=hj
  have e:sgnB.getD j ByteArray.empty=⟨(sgnL[j]).toArray⟩:=by
   unfold sgnB
   rw [List.getD_eq_getElem?_getD,List.getElem?_map,List.getElem?_eq_getElem hj2]
   rfl
  rw [e,hb.cell]
  simp [sgnCells,List.getElem?_eq_getElem hj2])
theorem lookS_zero {x:List UInt8}:∀ {l:List (List UInt8 × Int)},(∀ p ∈ l,p.1 ≠ x)→lookS x l=0
 | [],_=>rfl
 | (y,n) :: l,h=>by
  have h1:=h (y,n) List.mem_cons_self
  rw [lookS,if_neg h1]
  exact lookS_zero fun p hp=>h p (List.mem_cons_of_mem _ hp)
theorem sOp_of {x:List UInt8} (h:Lib.hasSuffix x [61]=true):x=sOp x ++ [61]:=by
 unfold sOp Lib.trimSuffix
 rw [if_pos h]
 unfold Lib.hasSuffix at h
 rw [List.isSuffixOf_iff_suffix] at h
 obtain ⟨t,ht⟩:=h
 rw [← ht]
 simp
theorem mass_key:∀ p ∈ massL,Lib.hasSuffix p.1 [61]=true∧sOp p.1 ∈ sgnL:=by decide
theorem mass_op:∀ y ∈ sgnL,(if Lib.contains bareB ([32] ++ y ++ [32]) then (0,false) else (15 + sIdx y,true):Int × Bool)=(massigns (y ++ [61]),massigns (y ++ [61]) != 0):=by decide
theorem mass_ne:∀ y ∈ sgnL,y ++ [61] ≠ [61]∧0≤sIdx y∧sIdx y<18:=by decide
theorem mass_none {x:List UInt8} (h:Lib.hasSuffix x [61]=false ∨ sOp x ∉ sgnL):massigns x=0:=lookS_zero fun p hp he=>by
 have:=mass_key p hp
 rw [he] at this
 rcases h with h | h
 ·rw [h] at this
  cases this.1
 ·exact h this.2
end Go.Proofs.YtdmacgoeikjdbaaGreatDoor
namespace Go.Proofs.YtdmacgoeikjdbaaGreatDoor
open Go.RowKit Sx
set_option maxRecDepth 8000 in
theorem massigns_any (x:List UInt8) (hx:x.length≤1000000) (g:Nat) (w:World) (hl:LibW g w) (hg:g<w.heap.size):Calls Tryz.prog 103 #[strB x] w (TellP (.tuple #[.int .i64 (massigns x),.bool (misAss x)]) w):=by
 obtain ⟨R,hR⟩:∃ R,Hid (Value.tuple #[.int .i64 (massigns x),.bool (misAss x)]=R):=⟨_,Lib.hid rfl⟩
 rw [hR.out]
 by_cases h1:x=[61]
 ·subst h1
  go_enter Tryz.func103,Tryz.ntmps103
  go_wp2_with fail
  refine bodyPost_ret (v:=.tuple #[.int .i64 0,.bool true]) (by simp [results,Tryz.results103,go_sem]) rfl ?_
  exact ⟨congrArg Ending.returned hR.out,Below.refl _ _⟩
 have hne:(x == [61])=false:=by simpa using h1
 have hcut:=Tryz.strings_CutSuffix ⟨x.toArray⟩ ⟨#[61]⟩ w (by show x.toArray.size≤_;simp;omega)
 obtain ⟨b2,hb2⟩:∃ b,Hid (Lib.hasSuffix x [61]=b):=⟨_,Lib.hid rfl⟩
 obtain ⟨op,hop⟩:∃ o,Hid (sOp x=o):=⟨_,Lib.hid rfl⟩
 rw [show Lib.hasSuffix (⟨x.toArray⟩:ByteArray).data.toList (⟨#[61]⟩:ByteArray).data.toList=Lib.hasSuffix x [61] from rfl,hb2.out,show Lib.trimSuffix (⟨x.toArray⟩:ByteArray).data.toList (⟨#[61]⟩:ByteArray).data.toList=sOp x from rfl,hop.out] at hcut
 obtain ⟨hg0,⟨m,hm⟩,kt,_,_,htab⟩:=hl
 have hwd:=sgnWords_any w htab
 have hz:=BlkIs.fresh w 9 sgnCells
 have hb:=below_alloc w (.cells sgnCells 9)
 obtain ⟨w1,hw1⟩:∃ w1,w1=w.alloc (.cells sgnCells 9):=⟨_,rfl⟩
 rw [← hw1] at hwd hz hb
 have hix:=sgnIdx_any (c:=18) op hz
 obtain ⟨i,hi⟩:∃ i,Hid (sIdx op=i):=⟨_,Lib.hid rfl⟩
 rw [hi.out] at hix
 have hm1:w1.cell? ⟨0,0,none⟩=some (.int .i64 m):=by rw [← hm];exact World.cell?_of_block (hb.block 0 (by omega))
 have hol:op.length≤1000000:=by
  rw [← hop.out]
  unfold sOp Lib.trimSuffix
  split
  ·simp;omega
  ·exact hx
 clear htab hw1 hz
 cases b2
 ·have e0:massigns x=0:=mass_none (.inl hb2.out)
  have e1:misAss x=false:=by rw [misAss,e0,hne];rfl
  have hR:Value.tuple #[.int .i64 0,.bool false]=R:=by rw [← hR.out,e0,e1]
  have hR:=Lib.hid hR
  go_enter Tryz.func103,Tryz.ntmps103
  go_wp2_with fail
  refine hcut.mono ?_
  rintro e w2 ⟨rfl,rfl⟩
  go_wp2_with fail
  refine hwd.mono ?_
  rintro e w2 ⟨rfl,rfl⟩
  go_wp2_with fail
  refine hix.mono ?_
  rintro e w2 ⟨rfl,rfl⟩
  go_wp2_with fail
  refine bodyPost_ret (v:=.tuple #[.int .i64 0,.bool false]) (by simp [results,Tryz.results103,go_sem]) rfl ?_
  exact ⟨congrArg Ending.returned hR.out,hb⟩
 by_cases hi0:i<0
 ·have e0:massigns x=0:=mass_none (.inr (by
   intro hm
   have:=(mass_ne _ hm).2.1
   rw [hop.out,hi.out] at this
   omega))
  have e1:misAss x=false:=by rw [misAss,e0,hne];rfl
  have hR:Value.tuple #[.int .i64 0,.bool false]=R:=by rw [← hR.out,e0,e1]
  have hR:=Lib.hid hR
  go_enter Tryz.func103,Tryz.ntmps103
  go_wp2_with fail
  refine hcut.mono ?_
  rintro e w2 ⟨rfl,rfl⟩
  go_wp2_with fail
  refine hwd.mono ?_
  rintro e w2 ⟨rfl,rfl⟩
  go_wp2_with fail
  refine hix.mono ?_
  rintro e w2 ⟨rfl,rfl⟩
  go_wp2_with fail
  refine bodyPost_ret (v:=.tuple #[.int .i64 0,.bool false]) (by simp [results,Tryz.results103,go_sem]) rfl ?_
  exact ⟨congrArg Ending.returned hR.out,hb⟩
 ·have hmem:op ∈ sgnL:=by
   by_cases h:op ∈ sgnL
   ·exact h
   ·have:=sIdx_neg h
    rw [hi.out] at this
    omega
  have hmo:=mass_op op hmem
  have hi18:=(mass_ne op hmem).2.2
  rw [hi.out] at hmo hi18
  have hxe:x=op ++ [61]:=by rw [← hop.out];exact sOp_of hb2.out
  rw [← hxe] at hmo
  have hcon:=Tryz.strings_Contains ⟨#[32,60,32,62,32,33,32,61,32,38,38,32,124,124,32]⟩ (⟨#[32]⟩ ++ ⟨op.toArray⟩ ++ ⟨#[32]⟩) m w1 (by decide) hm1
  have esub:(((⟨#[32]⟩:ByteArray) ++ ⟨op.toArray⟩ ++ ⟨#[32]⟩).data.toList)=[32] ++ op ++ [32]:=by simp [ByteArray.data_append]
  rw [esub] at hcon
  obtain ⟨cb,hcb⟩:∃ b,Hid (Lib.contains bareB ([32] ++ op ++ [32])=b):=⟨_,Lib.hid rfl⟩
  rw [show (⟨#[32,60,32,62,32,33,32,61,32,38,38,32,124,124,32]⟩:ByteArray).data.toList=bareB from rfl,hcb.out] at hcon
  rw [hcb.out] at hmo
  clear esub
  have hip:0≤i:=by omega
  obtain ⟨A,hA⟩:∃ A,Hid (massigns x=A):=⟨_,Lib.hid rfl⟩
  have hRA:Value.tuple #[.int .i64 A,.bool (A != 0)]=R:=by
   rw [← hR.out,misAss,hne,Bool.false_or,hA.out]
  rw [hA.out] at hmo
  have hRA:=Lib.hid hRA
  clear hxe hR hi0
  cases cb
  ·injection hmo with q1 q2
   have q1:15 + i=A:=q1
   subst q1
   have q2:true=(15 + i != 0):=q2
   have hRA:Value.tuple #[.int .i64 (15 + i),.bool true]=R:=by rw [← hRA.out,← q2]
   have hRA:=Lib.hid hRA
   clear q2
   go_enter Tryz.func103,Tryz.ntmps103
   go_wp2_with fail
   refine hcut.mono ?_
   rintro e w2 ⟨rfl,rfl⟩
   go_wp2_with fail
   refine hwd.mono ?_
   rintro e w2 ⟨rfl,rfl⟩
   go_wp2_with fail
   refine hix.mono ?_
   rintro e w2 ⟨rfl,rfl⟩
   go_wp2_with fail
   refine hcon.mono ?_
   rintro e w2 ⟨rfl,rfl⟩
   go_wp2_with fail
   refine bodyPost_ret (v:=.tuple #[.int .i64 (15 + i),.bool true]) (by simp [results,Tryz.results103,go_sem]) rfl ?_
   exact ⟨congrArg Ending.returned hRA.out,hb⟩
  ·injection hmo with q1 q2
   have q1:0=A:=q1
   subst q1
   have hRA:Value.tuple #[.int .i64 0,.bool false]=R:=hRA.out
   have hRA:=Lib.hid hRA
   clear q2 hA
   go_enter Tryz.func103,Tryz.ntmps103
   go_wp2_with fail
   refine hcut.mono ?_
   rintro e w2 ⟨rfl,rfl⟩
   go_wp2_with fail
   refine hwd.mono ?_
   rintro e w2 ⟨rfl,rfl⟩
   go_wp2_with fail
   refine hix.mono ?_
   rintro e w2 ⟨rfl,rfl⟩
   go_wp2_with fail
   refine hcon.mono ?_
   rintro e w2 ⟨rfl,rfl⟩
   go_wp2_with fail
   refine bodyPost_ret (v:=.tuple #[.int .i64 0,.bool false]) (by simp [results,Tryz.results103,go_sem]) rfl ?_
   exact ⟨congrArg Ending.returned hRA.out,hb⟩
end Go.Proofs.YtdmacgoeikjdbaaGreatDoor
namespace Go.Proofs.YtdmacgoeikjdbaaGreatDoor
open Go.RowKit Sx
def lookI (n:Int):List (Int × Int)→Int
 | []=>0
 | (k,v) :: l=>if k=n then v else lookI n l
theorem mapI_at (n:Int):∀ l:List (Int × Int),(mapI l).atKey (.int .i64 n) (.lit (.int .i64 0))=.lit (.int .i64 (lookI n l))
 | []=>rfl
 | p :: l=>by
  have h1:=mapI_at n l
  have hk:WideAt.IsKeyLit (.int .i64 p.1):=by trivial
  unfold mapI
  rw [List.foldr_cons]
  change DataW.atKey ((mapI l).put _ _) _ _=_
  by_cases e:p.1=n
  ·subst e
   rw [Maps.atKey_put_same (mapI_isMap l) hk]
   simp [lookI]
  ·have hne:(Lit.int .i64 n) ≠ Lit.int .i64 p.1:=by
    intro h
    injection h with _ h
    exact e h.symm
   rw [Maps.atKey_put_other hne,h1]
   simp [lookI,e]
theorem level_key:∀ n,n<10→∀ p ∈ levels.getD n [],p.1 ∈ sgnL:=by decide
theorem level_op:∀ y ∈ sgnL,∀ n:Nat,n<10→(lookI (15 + sIdx y) levelR == (n:Int))=(rlevel n y != 0)∧((rlevel n y != 0)=true→15 + sIdx y=rlevel n y):=by decide
theorem level_none {x:List UInt8} {n:Nat} (hn:n<10) (h:x ∉ sgnL):rlevel n x=0:=lookS_zero fun p hp he=>h (he ▸ level_key n hn p hp)
theorem level_calls (n:Int) (hn:15≤n∧n≤32) (w:World):Calls Tryz.prog 134 #[.int .i64 n] w (fun e w'=>e=.returned (.int .i64 (lookI n levelR))∧Below w.heap.size w w'):=
 (level_any n hn w).mono fun e w' ⟨c,h1,h2,h3⟩=>by
  rw [mapI_at] at h1
  injection h1 with h1
  injection h1 with _ h1
  subst h1
  exact ⟨h2,h3⟩
set_option maxRecDepth 8000 in
theorem moperator_any (n:Nat) (hn:n<10) (g:Nat) (σ:QS) (w:World) (hr:QR g σ w):Calls Tryz.prog 122 #[ptrV g,.int .i64 n] w (fun e w'=>∃ v,(((hdT σ.s.ts).kind == 3 && rlevel n (hdT σ.s.ts).text != 0)=true→v=rlevel n (hdT σ.s.ts).text)∧e=.returned (.tuple #[.int .i64 v,.bool ((hdT σ.s.ts).kind == 3 && rlevel n (hdT σ.s.ts).text != 0)])∧QR g σ w'∧KeepM g w w'):=by
 have htok:=tok_calls hr
 have hlt:=hr.lt
 obtain ⟨⟨kd,tx,m,ps⟩,ht⟩:∃ t,hdT σ.s.ts=t:=⟨_,rfl⟩
 simp only [ht,Tok.val,tokVal] at htok
 simp only [ht]
 obtain ⟨i,hi⟩:∃ i,sIdx tx=i:=⟨_,rfl⟩
 obtain ⟨bk,hbk⟩:∃ b,(kd == 3)=b:=⟨_,rfl⟩
 obtain ⟨br,hbr⟩:∃ b,(rlevel n tx != 0)=b:=⟨_,rfl⟩
 obtain ⟨lv,hlv⟩:∃ v,lookI (15 + i) levelR=v:=⟨_,rfl⟩
 have hix:∀ (w:World) (b c:Nat),BlkIs w b 9 sgnCells→Calls Tryz.prog 110 #[.slice (some ⟨b,0,none⟩) 18 c,strB tx] w (fun e w'=>e=.returned (.int .i64 i)∧w'=w):=fun w b c h=>by rw [← hi];exact sgnIdx_any tx h
 have hi1:i<0→br=false:=fun h=>by
  rw [← hbr,level_none hn (fun hm=>by have:=(mass_ne _ hm).2.1;rw [hi] at this;omega)];rfl
 have hi2:0≤i→i<18∧(lv == (n:Int))=br∧(br=true→15 + i=rlevel n tx):=fun h=>by
  have hm:tx ∈ sgnL:=by
   by_cases hm:tx ∈ sgnL
   ·exact hm
   ·have:=sIdx_neg hm
    rw [hi] at this
    omega
  have h1:=level_op tx hm n hn
  rw [hi,hlv,hbr] at h1
  have h2:=(mass_ne tx hm).2.2
  rw [hi] at h2
  exact ⟨h2,h1⟩
 have HI1:=Lib.hid hi1
 have HI2:=Lib.hid hi2
 rw [hbk,hbr]
 obtain ⟨rl,hrl⟩:∃ v,rlevel n tx=v:=⟨_,rfl⟩
 rw [hrl] at HI2 ⊢
 have HLV:=Lib.hid hlv
 have HBK:=Lib.hid hbk
 clear hi1 hi2 hrl hbr hlv hbk hi
 obtain ⟨Q,hQ⟩:∃ Q:Ending→World→Prop,Hid ((fun e w'=>∃ v,((bk && br)=true→v=rl)∧e=.returned (.tuple #[.int .i64 v,.bool (bk && br)])∧QR g σ w'∧KeepM g w w')=Q):=⟨_,Lib.hid rfl⟩
 rw [hQ.out]
 go_enter Tryz.func122,Tryz.ntmps122
 go_wp2_with fail
 refine htok.mono ?_
 rintro e w2 ⟨rfl,r2,k2⟩
 clear htok hr
 go_upto_region 2 with fail
 have hb0:=below_alloc w2 (.cells #[.int .i64 kd,.string ⟨tx.toArray⟩,.int .i64 m,.int .i64 ps] 43)
 have z5:BlkIs (w2.alloc (.cells #[.int .i64 kd,.string ⟨tx.toArray⟩,.int .i64 m,.int .i64 ps] 43)) w2.heap.size 43 #[.int .i64 kd,.string ⟨tx.toArray⟩,.int .i64 m,.int .i64 ps]:=BlkIs.fresh _ _ _
 have r3:=r2.below hb0
 have hk3:=k2.trans (KeepM.of hb0)
 have hg3:=r2.lt
 obtain ⟨w3,hw3⟩:∃ w3,w3=w2.alloc (.cells #[.int .i64 kd,.string ⟨tx.toArray⟩,.int .i64 m,.int .i64 ps] 43):=⟨_,rfl⟩
 rw [← hw3] at z5 r3 hk3 ⊢
 clear hw3 hb0 r2 k2
 have c1:w3.cell? ⟨w2.heap.size,1,none⟩=some (.string ⟨tx.toArray⟩):=by rw [z5.cell];rfl
 have hs3:=z5.lt
 refine beginH (fun W'=>Below w3.heap.size w3 W') (by kernel_rfl) ((Below.refl _ _).drew) (fun hHeld=>?_)
 refine takeH (i:=1) (d:=some 12) (v:=.pointer (some ⟨w2.heap.size,1,none⟩)) (by kernel_rfl) rfl rfl rfl (fun _ _ _ h=>h) hHeld (fun W hSw=>by go_simp) ?_
 simp only [Act.put,List.setIfInBounds_toArray,List.set_cons_zero,List.set_cons_succ]
 refine takeH (i:=2) (d:=some 13) (v:=.string ⟨tx.toArray⟩) (by kernel_rfl) rfl rfl rfl (fun _ _ _ h=>h) hHeld (fun W hSw=>by have x0:=(hSw.cell (p:=⟨w2.heap.size,1,none⟩) (by show w2.heap.size<_;omega)).trans c1;go_simp) ?_
 simp only [Act.put,List.setIfInBounds_toArray,List.set_cons_zero,List.set_cons_succ]
 refine onlyH (i:=0) (d:=some 11) (by kernel_rfl) rfl rfl rfl (fun K' hK=>?_)
 refine wp_go_call 114 _ _ rfl #[] rfl (fun W'=>by go_simp) (sgnWords_any _ (r3.below hHeld).2.2.2.2.2.choose_spec.2.2) (fun e wg he=>?_)
 obtain ⟨rfl,hw4⟩:=he
 have hz:BlkIs wg w3.heap.size 9 sgnCells:=by rw [hw4];exact BlkIs.fresh_at rfl
 refine ⟨_,rfl,hK.out _ _ (by rw [hw4];exact hHeld.trans ((below_alloc _ _).mono hHeld.size)) (fun hHeld=>?_)⟩
 clear hw4
 simp only [Act.put,List.setIfInBounds_toArray,List.set_cons_zero,List.set_cons_succ]
 refine onlyH (i:=3) (d:=some 14) (by kernel_rfl) rfl rfl rfl (fun K' hK=>?_)
 refine wp_go_call 110 _ _ rfl #[.slice (some ⟨w3.heap.size,0,none⟩) 18 18,strB tx] rfl (fun W'=>by go_simp) (hix _ _ _ hz) (fun e wh he=>?_)
 obtain ⟨rfl,rfl⟩:=he
 clear hz hix
 refine ⟨_,rfl,hK.out _ _ hHeld (fun hHeld=>?_)⟩
 simp only [Act.put,List.setIfInBounds_toArray,List.set_cons_zero,List.set_cons_succ]
 refine takeH (i:=4) (d:=some 7) (v:=.int .i64 i) (by kernel_rfl) rfl rfl rfl (fun _ _ _ h=>h) hHeld (fun W hSw=>by go_simp) ?_
 simp only [Act.put,List.setIfInBounds_toArray,List.set_cons_zero,List.set_cons_succ]
 refine wpAnyH_done (by kernel_rfl) ?_ _
 have z5:=z5.below hHeld hs3
 have r4:=r3.below hHeld
 have hk4:=hk3.trans (KeepM.of hHeld)
 have c0:wh.cell? ⟨w2.heap.size,0,none⟩=some (.int .i64 kd):=by rw [z5.cell];rfl
 go_step
 go_step
 cases bk
 ·have hk:¬ kd=3:=by simpa using HBK.out
  have hQ2:Q (.returned (.tuple #[.int .i64 0,.bool false])) wh:=by
   rw [← hQ.out]
   exact ⟨0,fun h=>(by cases h),rfl,r4,hk4⟩
  clear hQ HBK HI1 HI2 HLV r4 hk4
  go_wp2_with fail
  exact hQ2
 ·have hk:kd=3:=by simpa using HBK.out
  subst hk
  clear HBK
  by_cases hi0:i<0
  ·have hbr:=HI1.out hi0
   have hQ2:Q (.returned (.tuple #[.int .i64 0,.bool false])) wh:=by
    rw [← hQ.out,hbr]
    exact ⟨0,fun h=>(by cases h),rfl,r4,hk4⟩
   clear hQ HI1 HI2 HLV r4 hk4
   go_wp2_with fail
   exact hQ2
  ·obtain ⟨h18,hb1,hb2⟩:=HI2.out (by omega)
   have hip:0≤i:=by omega
   have hlc:=fun w=>level_calls (15 + i) (by omega) w
   rw [HLV.out] at hlc
   clear HI1 HI2 HLV hi0
   have hQ2:∀ w',Below wh.heap.size wh w'→Q (.returned (.tuple #[.int .i64 (15 + i),.bool br])) w':=by
    intro w' hb
    rw [← hQ.out]
    exact ⟨15 + i,fun h=>hb2 (by simpa using h),by simp,r4.below hb,hk4.trans (KeepM.of hb)⟩
   have hQ2:=Lib.hid hQ2
   have hb1:=Lib.hid hb1
   clear hQ hb2 r4 hk4
   go_wp2_with fail
   refine (hlc _).mono ?_
   rintro e w5 ⟨rfl,hb5⟩
   go_wp2_with fail
   all_goals first | exact hb5 | (have h5:=hQ2.out _ hb5;rw [← hb1.out] at h5;exact h5)
end Go.Proofs.YtdmacgoeikjdbaaGreatDoor

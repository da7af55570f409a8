/- Symbolic execution: regions of any order. -/
import Derived.Test.YtdmacgoeikjdbaaGreatDoorL11
set_option linter.unusedSimpArgs false
set_option linter.unusedVariables false
namespace Go.Proofs.YtdmacgoeikjdbaaGreatDoor.Sx
open Go.RowKit
section
variable {S:Type} {P:Program} {R:S→World→Prop} {C:Ctx R} {E:Env S} {st st':St} {a:Act} {o:Oper} {cf:Cfg} {w:World} {T:List (Con P R C.G)} {K:List Value→List D→S→Prop} {A:Nat→List Value→List D→S→Prop}
theorem step_mem {r:SR} {op:Op} (hp:pureO cf op=true) (hr:stepO P cf st op=some r):∀ B ∈ st.mem,B ∈ r.aft.mem:=by
 cases op <;> simp only [stepO] at hr
 case store t x y=>cases hp
 case call c=>
  unfold callS at hr
  split at hr
  ·rename_i f hf
   unfold callF at hr
   split at hr
   case h_2=>cases hr
   rename_i k sh ts hk _ _
   have hpt:sh.pt=[]:=by
    simp only [pureO,hf,hk] at hp
    split at hp
    ·assumption
    ·cases hp
   rw [hpt] at hr
   split at hr
   case h_2=>cases hr
   rename_i bs hbs
   simp only [ptrB,Option.some.injEq] at hbs
   subst hbs
   repeat' (first | (cases hr;done) | (injection hr with hr;subst hr;exact fun B h=>h) | split at hr)
  ·unfold pvS at hr
   repeat' (first | (cases hr;done) | (injection hr with hr;subst hr;exact fun B h=>h) | split at hr)
  ·unfold appS at hr
   repeat' (first | (cases hr;done) | (injection hr with hr;subst hr;exact fun B h=>h) | split at hr)
  ·cases hr
 case buildSlice t n ps=>
  unfold buildSliceS at hr
  repeat' (first | (cases hr;done) | (injection hr with hr;subst hr;exact fun B h=>h) | (injection hr with hr;subst hr;exact fun B h=>List.mem_cons_of_mem _ h) | split at hr)
 case build t ps=>
  unfold buildS at hr
  repeat' (first | (cases hr;done) | (injection hr with hr;subst hr;exact fun B h=>h) | split at hr)
 case load t x=>
  unfold loadS at hr
  repeat' (first | (cases hr;done) | (injection hr with hr;subst hr;exact fun B h=>h) | split at hr)
 case alloc t=>
  unfold newB at hr
  repeat' (first | (cases hr;done) | (injection hr with hr;subst hr;exact fun B h=>List.mem_cons_of_mem _ h) | split at hr)
 case box t x=>
  unfold newB at hr
  repeat' (first | (cases hr;done) | (injection hr with hr;subst hr;exact fun B h=>List.mem_cons_of_mem _ h) | split at hr)
 case nilCheck x=>
  unfold pvS at hr
  repeat' (first | (cases hr;done) | (injection hr with hr;subst hr;exact fun B h=>h) | split at hr)
 case binOp op t x y t2=>
  unfold pvS at hr
  repeat' (first | (cases hr;done) | (injection hr with hr;subst hr;exact fun B h=>h) | split at hr)
 case unOp op t x=>
  unfold pvS at hr
  repeat' (first | (cases hr;done) | (injection hr with hr;subst hr;exact fun B h=>h) | split at hr)
 case fieldAddr t x i=>
  unfold pvS at hr
  repeat' (first | (cases hr;done) | (injection hr with hr;subst hr;exact fun B h=>h) | split at hr)
 case indexAddr t x i=>
  unfold pvS at hr
  repeat' (first | (cases hr;done) | (injection hr with hr;subst hr;exact fun B h=>h) | split at hr)
 case move x=>repeat' (first | (cases hr;done) | (injection hr with hr;subst hr;exact fun B h=>h) | split at hr)
 case assign x=>repeat' (first | (cases hr;done) | (injection hr with hr;subst hr;exact fun B h=>h) | split at hr)
 case pick c x y=>repeat' (first | (cases hr;done) | (injection hr with hr;subst hr;exact fun B h=>h) | split at hr)
 case field t x i=>repeat' (first | (cases hr;done) | (injection hr with hr;subst hr;exact fun B h=>h) | split at hr)
 case extract x i=>repeat' (first | (cases hr;done) | (injection hr with hr;subst hr;exact fun B h=>h) | split at hr)
 all_goals (cases hr;done)
theorem putT_mem (d:Option Nat) (v:SV) (st:St):(putT d v st).mem=st.mem:=by cases d <;> rfl
theorem step_quiet {op:Op} (hq:funcCall op=false) {n:Nd} {v:SV} (hr:stepO P cf st op=some (.nd n v st')):∀ k xs ds,n ≠ .call k xs ds:=by
 intro k xs ds hn
 subst hn
 cases op <;> simp only [stepO] at hr
 case call c=>
  unfold callS at hr
  split at hr
  ·rename_i f hf
   simp [funcCall,hf] at hq
  ·unfold pvS at hr;repeat' (first | (cases hr;done) | split at hr)
  ·unfold appS at hr;repeat' (first | (cases hr;done) | split at hr)
  ·cases hr
 case buildSlice t n ps=>unfold buildSliceS at hr;repeat' (first | (cases hr;done) | split at hr)
 case build t ps=>unfold buildS at hr;repeat' (first | (cases hr;done) | split at hr)
 case load t x=>unfold loadS at hr;repeat' (first | (cases hr;done) | split at hr)
 case store t x y=>unfold storeS at hr;repeat' (first | (cases hr;done) | split at hr)
 case alloc t=>unfold newB at hr;repeat' (first | (cases hr;done) | split at hr)
 case box t x=>unfold newB at hr;repeat' (first | (cases hr;done) | split at hr)
 case nilCheck x=>unfold pvS at hr;repeat' (first | (cases hr;done) | split at hr)
 case binOp op t x y t2=>unfold pvS at hr;repeat' (first | (cases hr;done) | split at hr)
 case unOp op t x=>unfold pvS at hr;repeat' (first | (cases hr;done) | split at hr)
 case fieldAddr t x i=>unfold pvS at hr;repeat' (first | (cases hr;done) | split at hr)
 case indexAddr t x i=>unfold pvS at hr;repeat' (first | (cases hr;done) | split at hr)
 case move x=>repeat' (first | (cases hr;done) | split at hr)
 case assign x=>repeat' (first | (cases hr;done) | split at hr)
 case pick c x y=>repeat' (first | (cases hr;done) | split at hr)
 case field t x i=>repeat' (first | (cases hr;done) | split at hr)
 case extract x i=>repeat' (first | (cases hr;done) | split at hr)
 all_goals (cases hr;done)
theorem wpN_quiet {n:Nd} (hn:∀ k xs ds,n ≠ .call k xs ds) {K2:Env S→Prop} (h:wpN T n E K2):wpN T n E (fun E'=>K2 E'∧E'.st=E.st):=by
 cases n with
 | new=>exact fun g=>⟨h g,rfl⟩
 | pv p xs=>obtain ⟨vs,r,h1,h2,h3⟩:=h;exact ⟨vs,r,h1,h2,h3,rfl⟩
 | ld x n=>obtain ⟨p,vs,h1,h2,h3,h4,h5⟩:=h;exact ⟨p,vs,h1,h2,h3,h4,h5,rfl⟩
 | call k xs ds=>exact absurd rfl (hn k xs ds)
 | bs z n row cs=>obtain ⟨ds,h1,h2⟩:=h;exact ⟨ds,h1,fun g=>⟨h2 g,rfl⟩⟩
 | app z s x=>obtain ⟨d1,d2,h1,h2,h3,h4⟩:=h;exact ⟨d1,d2,h1,h2,h3,fun A c=>⟨h4 A c,rfl⟩⟩
theorem oper_ok2 (hcf:TabOk C cf T) (hT:Tms E st a) (h:Mm C E st w) {k:Kn} {Tr:Tree} (ho:oper P cf o st k=some Tr) (hh:Tr.holds T K A E) {Kc:Act→World→Prop} {Q:Exit→Act→World→Prop}
  (hk:∀ (E':Env S) (st':St) (a':Act) (w':World) (T':Tree),Le E E'→(pureO cf o.op=true→∀ B ∈ st.mem,B ∈ st'.mem)→(funcCall o.op=false→E'.st=E.st)→k st'=some T'→T'.holds T K A E'→Tms E' st' a'→Mm C E' st' w'→Kc a' w'):o.wp P a w Kc Q:=by
 unfold oper at ho
 split at ho
 ·rename_i v st' hd hr
  obtain ⟨h1,h2,_⟩:=step_tm hr
  exact val_ok hT h hr fun u w' hv hM=>hk E _ _ w' Tr (Le.refl E) (fun hp B hB=>by rw [putT_mem];exact step_mem hp hr B hB) (fun _=>rfl) ho hh ((hT.aft h1 h2).put (okD_aft h2 hd) hv) (hM.putT _ _)
 ·rename_i n v st' hd hr
  obtain ⟨h1,h2,_⟩:=step_tm hr
  split at ho
  case h_2=>cases ho
  rename_i T1 hT1
  injection ho with ho
  subst ho
  rcases Bool.eq_false_or_eq_true (funcCall o.op) with hq | hq
  rotate_left
  ·exact nd_ok hcf hT h hr (wpN_quiet (step_quiet hq hr) hh) fun E' u w' hl h3 hv hM=>hk E' _ _ w' T1 hl (fun hp B hB=>by rw [putT_mem];exact step_mem hp hr B hB) (fun _=>h3.2) hT1 h3.1 (((hT.le hl).aft h1 h2).put (okD_aft h2 hd) hv) (hM.putT _ _)
  ·exact nd_ok hcf hT h hr hh fun E' u w' hl h3 hv hM=>hk E' _ _ w' T1 hl (fun hp B hB=>by rw [putT_mem];exact step_mem hp hr B hB) (fun hf=>by rw [hq] at hf;cases hf) hT1 h3 (((hT.le hl).aft h1 h2).put (okD_aft h2 hd) hv) (hM.putT _ _)
 ·cases ho
theorem MemR.le {E':Env S} {mem:List Bk} (h:MemR E mem w) (hl:Le E E'):MemR E' mem w:=fun B hB=>by
 obtain ⟨g,cs,h1,h2,h3,h4⟩:=h B hB
 exact ⟨g,cs,hl.b _ _ h1,dens_le hl h2,h3,h4⟩
theorem MemR.later {E':Env S} {mem mem':List Bk} {w':World} (h:MemR E mem w) (hl:Le E E') (h':MemR E' mem' w') (hs:∀ B ∈ mem,B ∈ mem'):MemR E mem w':=fun B hB=>by
 obtain ⟨g,cs,h1,h2,_,h4⟩:=h B hB
 obtain ⟨g',cs',i1,i2,i3,_⟩:=h' B (hs B hB)
 have:=hl.b _ _ h1
 rw [this] at i1
 injection i1 with i1
 subst i1
 have:=dens_le hl h2
 rw [this] at i2
 injection i2 with i2
 subst i2
 exact ⟨g,cs,h1,h2,i3,h4⟩
theorem firstP_spec {ops:Array Oper} {listed:Array Bool} {st0:St} {last i:Nat} {rk yes:Bool}:∀ {l:List Nat},firstP P cf ops listed st0 st last rk l=some (i,o,yes)→ops[i]?=some o∧pureO cf o.op=true∧takeOkK .any ops listed last i=true ∧
  (yes=true→gdS ops { st with mem:=st0.mem } o=.yes∧∃ r,stepO P cf { st with mem:=st0.mem } o.op=some r∧pureR rk r=true)∧(yes=false→gdS ops { st with mem:=st0.mem } o=.no)
 | [],h=>by cases h
 | j :: l,h=>by
  simp only [firstP] at h
  split at h
  case h_2=>exact firstP_spec h
  rename_i q hq
  split at h
  case h_2=>exact firstP_spec h
  rename_i h1 h2
  simp only [Bool.and_eq_true] at h2
  split at h
  ·rename_i hg
   split at h
   case h_2=>exact firstP_spec h
   rename_i r hr
   split at h
   case h_2=>exact firstP_spec h
   rename_i hp
   injection h with h
   injection h with h5 h6
   injection h6 with h6 h7
   subst h5 h6 h7
   exact ⟨hq,h2.1,h2.2,fun _=>⟨hg,r,hr,hp⟩,fun h=>by cases h⟩
  ·rename_i hg
   injection h with h
   injection h with h5 h6
   injection h6 with h6 h7
   subst h5 h6 h7
   exact ⟨hq,h2.1,h2.2,(fun h=>by cases h),fun _=>hg⟩
  ·exact firstP_spec h
theorem eqC_eq {x y:Value} (h:eqC x y=true):x=y:=by
 unfold eqC at h
 split at h <;> first | (cases h;done) | rfl | (simp only [beq_iff_eq] at h;subst h;rfl) | skip
 rename_i a b
 simp only [beq_iff_eq] at h
 cases a;cases b
 simp only [Array.toList_inj] at h
 rw [h]
theorem eqL_eq {x y:L} (h:eqL x y=true):x=y:=by
 cases x <;> cases y <;> simp only [eqL] at h <;> first | (cases h;done) | skip
 ·simp only [Nat.beq_eq] at h;rw [h]
 ·rw [eqC_eq h]
 ·simp only [Bool.and_eq_true,Nat.beq_eq] at h;rw [h.1,h.2]
theorem eqLs2_eq:∀ {x y:List L},eqLs2 x y=true→x=y
 | [],[],_=>rfl
 | a :: l,b :: m,h=>by
  simp only [eqLs2,Bool.and_eq_true] at h
  rw [eqL_eq h.1,eqLs2_eq h.2]
 | [],_ :: _,h=>by cases h
 | _ :: _,[],h=>by cases h
theorem eqCD_eq {x y:CD} (h:eqCD x y=true):x=y:=by
 cases x <;> cases y <;> simp only [eqCD] at h <;> first | (cases h;done) | rfl | (simp only [Nat.beq_eq] at h;rw [h])
theorem eqLCs_eq:∀ {x y:List (L × CD)},eqLCs x y=true→x=y
 | [],[],_=>rfl
 | (a,c) :: l,(b,d) :: m,h=>by
  simp only [eqLCs,Bool.and_eq_true] at h
  rw [eqL_eq h.1.1,eqCD_eq h.1.2,eqLCs_eq h.2]
 | [],_ :: _,h=>by cases h
 | _ :: _,[],h=>by cases h
theorem eqRows_eq:∀ {x y:List (List (L × CD))},eqRows x y=true→x=y
 | [],[],_=>rfl
 | a :: l,b :: m,h=>by
  simp only [eqRows,Bool.and_eq_true] at h
  rw [eqLCs_eq h.1,eqRows_eq h.2]
 | [],_ :: _,h=>by cases h
 | _ :: _,[],h=>by cases h
theorem eqT2c_eq {x y:T2} (h:eqT2c x y=true):x=y:=by
 cases x <;> cases y <;> simp only [eqT2c] at h <;> first | (cases h;done) | (rw [eqL_eq h]) | (rw [eqLs2_eq h])
theorem eqT2cs_eq:∀ {x y:List T2},eqT2cs x y=true→x=y
 | [],[],_=>rfl
 | a :: l,b :: m,h=>by
  simp only [eqT2cs,Bool.and_eq_true] at h
  rw [eqT2c_eq h.1,eqT2cs_eq h.2]
 | [],_ :: _,h=>by cases h
 | _ :: _,[],h=>by cases h
theorem eqPV_eq {x y:PV} (h:eqPV x y=true):x=y:=by
 cases x <;> cases y <;> simp only [eqPV] at h <;> first | (cases h;done) | rfl | (simp only [Nat.beq_eq] at h;rw [h];done) | (rw [eq_of_beq h];done)
theorem eqNd_eq {x y:Nd} (h:eqNd x y=true):x=y:=by
 cases x <;> cases y <;> simp only [eqNd] at h <;> first | (cases h;done) | rfl | skip
 ·simp only [Bool.and_eq_true] at h;rw [eqPV_eq h.1,eqLs2_eq h.2]
 ·simp only [Bool.and_eq_true,Nat.beq_eq] at h;rw [eqL_eq h.1,h.2]
 ·simp only [Bool.and_eq_true,Nat.beq_eq] at h;rw [h.1.1,eqT2cs_eq h.1.2,eqLCs_eq h.2]
 ·simp only [Bool.and_eq_true,Nat.beq_eq,beq_iff_eq] at h;rw [h.1.1.1,h.1.1.2,h.1.2,eqRows_eq h.2]
 ·simp only [Bool.and_eq_true,Nat.beq_eq] at h;rw [h.1.1,eqCD_eq h.1.2,h.2]
theorem eqTr_eq:∀ {x y:Tree},eqTr x y=true→x=y
 | .nd n k,.nd m l,h=>by
  simp only [eqTr,Bool.and_eq_true] at h
  rw [eqNd_eq h.1,eqTr_eq h.2]
 | .ite n a b,.ite m c d,h=>by
  simp only [eqTr,Bool.and_eq_true,Nat.beq_eq] at h
  rw [h.1,eqTr_eq h.2.1,eqTr_eq h.2.2]
 | .ret cs ds,.ret cs' ds',h=>by
  simp only [eqTr,Bool.and_eq_true] at h
  rw [eqLs2_eq h.1,eqLCs_eq h.2]
 | .again i cs ds,.again j cs' ds',h=>by
  simp only [eqTr,Bool.and_eq_true,Nat.beq_eq] at h
  rw [h.1.1,eqLs2_eq h.1.2,eqLCs_eq h.2]
 | .nd ..,.ite ..,h=>by cases h
 | .nd ..,.both ..,h=>by cases h
 | .nd ..,.ret ..,h=>by cases h
 | .nd ..,.again ..,h=>by cases h
 | .nd ..,.loop ..,h=>by cases h
 | .ret ..,.nd ..,h=>by cases h
 | .ret ..,.ite ..,h=>by cases h
 | .ret ..,.both ..,h=>by cases h
 | .ret ..,.again ..,h=>by cases h
 | .ret ..,.loop ..,h=>by cases h
 | .again ..,.nd ..,h=>by cases h
 | .again ..,.ite ..,h=>by cases h
 | .again ..,.both ..,h=>by cases h
 | .again ..,.ret ..,h=>by cases h
 | .again ..,.loop ..,h=>by cases h
 | .ite ..,.nd ..,h=>by cases h
 | .ite ..,.both ..,h=>by cases h
 | .ite ..,.ret ..,h=>by cases h
 | .ite ..,.again ..,h=>by cases h
 | .ite ..,.loop ..,h=>by cases h
 | .both ..,_,h=>by cases h
 | .loop ..,_,h=>by cases h
theorem bothT_holds {x y:Tree} (h:(bothT x y).holds T K A E):x.holds T K A E∧y.holds T K A E:=by
 unfold bothT at h
 split at h
 ·rename_i he
  have:=eqTr_eq he
  subst this
  exact ⟨h,h⟩
 ·exact h
theorem eachS_spec {ops:Array Oper} {last:Nat} {k:Nat→Oper→Option Tree}:∀ {l:List Nat} {Tr:Tree},eachS cf ops last k l=some Tr→Tr.holds T K A E→∀ i ∈ l,∃ o Ti,ops[i]?=some o∧(i ≠ last→pureO cf o.op=true)∧k i o=some Ti∧Ti.holds T K A E
 | [],Tr,h,_=>by cases h
 | j :: l,Tr,h,hh=>by
  simp only [eachS] at h
  split at h
  case h_2=>cases h
  rename_i o ho
  split at h
  case h_2=>cases h
  rename_i hp
  split at h
  case h_2=>cases h
  rename_i Tj hTj
  have hp:j ≠ last→pureO cf o.op=true:=fun hne=>by
   rw [Bool.or_eq_true] at hp
   rcases hp with hp | hp
   ·exact absurd (by simpa using hp) hne
   ·exact hp
  split at h
  ·injection h with h
   subst h
   intro i hi
   have:i=j:=by simpa using hi
   subst this
   exact ⟨o,Tj,ho,hp,hTj,hh⟩
  ·split at h
   case h_2=>cases h
   rename_i U hU
   injection h with h
   subst h
   obtain ⟨h1,h2⟩:=bothT_holds hh
   intro i hi
   rcases List.mem_cons.1 hi with rfl | hi
   ·exact ⟨o,Tj,ho,hp,hTj,h1⟩
   ·exact eachS_spec hU h2 i hi
theorem operG_ok2 (hcf:TabOk C cf T) {ops:Array Oper} {i:Nat} (hi:ops[i]?=some o) (hT:Tms E st a) (h:Mm C E st w) {k:Kn} {Tr:Tree} (ho:operG P cf ops o st k=some Tr) (hh:Tr.holds T K A E) {Kc:Act→World→Prop} {Q:Exit→Act→World→Prop}
  (hk:∀ (E':Env S) (st':St) (a':Act) (w':World) (T':Tree),Le E E'→(pureO cf o.op=true→∀ B ∈ st.mem,B ∈ st'.mem)→(funcCall o.op=false→E'.st=E.st)→k st'=some T'→T'.holds T K A E'→Tms E' st' a'→Mm C E' st' w'→Kc a' w'):wpOp P ops Q i Kc a w:=by
 have hg:=gd_spec (o:=o) hT h (ops:=ops)
 refine wpOp_step hi fun K' hK'=>?_
 have hyes:∀ (st1:St) (T1:Tree),st1.mem=st.mem→Tms E st1 a→Mm C E st1 w→oper P cf o st1 k=some T1→T1.holds T K A E→o.wp P a w K' Q:=fun st1 T1 hm hT h ho hh=>
  oper_ok2 hcf hT h ho hh fun E' st' a' w' T' g1 g2 g0 g3 g4 g5 g6=>hK' _ _ (hk E' st' a' w' T' g1 (fun hp=>hm ▸ g2 hp) g0 g3 g4 g5 g6)
 have hskip:∀ (st1:St) (T1:Tree),st1.mem=st.mem→Tms E st1 a→Mm C E st1 w→skipO o st1 k=some T1→T1.holds T K A E→K' (a.put o.dst undef) w:=fun st1 T1 hm hT h ho hh=>by
  unfold skipO at ho
  split at ho
  ·rename_i hd
   exact hK' _ _ (hk E _ _ w T1 (Le.refl E) (fun _ B hB=>by rw [putT_mem,hm];exact hB) (fun _=>rfl) ho hh (hT.put hd rfl) (h.putT _ _))
  ·cases ho
 unfold operG at ho
 split at ho
 ·rename_i he
  rw [he] at hg
  simp only at hg
  rw [if_pos hg]
  exact hyes st Tr rfl hT h ho hh
 ·rename_i he
  rw [he] at hg
  simp only at hg
  rw [if_neg (by rw [hg];simp)]
  exact hskip st Tr rfl hT h ho hh
 ·rename_i n b he
  rw [he] at hg
  simp only at hg
  obtain ⟨c,T',h1,h2,h3,h4,h5⟩:=ite_ok hT h ho hh
  have hg:=hg c h1
  cases hbc:(b == c)
  ·rw [hbc] at hg h2
   rw [if_neg (by rw [hg];simp)]
   exact hskip (knows n c st) T' rfl h4 h5 h2 h3
  ·rw [hbc] at hg h2
   rw [if_pos hg]
   exact hyes (knows n c st) T' rfl h4 h5 h2 h3
 ·cases ho
theorem wanted_none {o:Oper} (h:o.guard=none) {y:Nat→Option Bool}:Region.wanted o y=true:=by simp [Region.wanted,h]
theorem putT_swap (d:Option Nat) (v:SV) (st:St) (m:List Bk):{ putT d v { st with mem:=m } with mem:=st.mem }=putT d v st:=by cases d <;> rfl
theorem putT_swap1 (d:Option Nat) (v:SV) (st:St) (m:List Bk) (n:Nat):{ putT d v { st with mem:=m,nv:=n } with mem:=st.mem }=putT d v { st with nv:=n }:=by cases d <;> rfl
theorem gdS_mem (ops:Array Oper) (st:St) (m:List Bk) (o:Oper):gdS ops { st with mem:=m } o=gdS ops st o:=rfl
def SR2 {R:S→World→Prop} (E0:Env S) (st0:St) (rk:Bool) (w:World):Prop:=MemR E0 st0.mem w∧(rk=true→R E0.st w)
theorem firstQ_spec {ops:Array Oper} {listed:Array Bool} {last i:Nat}:∀ {l:List Nat},firstQ P cf ops listed st last l=some (i,o)→ops[i]?=some o∧pureO cf o.op=true∧takeOkP .any ops listed last i=true ∧
  gdS ops { st with mem:=[] } o=.yes∧∃ r,stepO P cf { st with mem:=[] } o.op=some r∧pureN r=true
 | [],h=>by cases h
 | j :: l,h=>by
  simp only [firstQ] at h
  split at h
  case h_2=>exact firstQ_spec h
  rename_i q hq
  split at h
  case h_2=>exact firstQ_spec h
  rename_i h2
  simp only [Bool.and_eq_true] at h2
  split at h
  case h_2=>exact firstQ_spec h
  rename_i hg
  split at h
  case h_2=>exact firstQ_spec h
  rename_i r hr
  split at h
  case h_2=>exact firstQ_spec h
  rename_i hp
  injection h with h
  injection h with h5 h6
  subst h5 h6
  exact ⟨hq,h2.1,h2.2,hg,r,hr,hp⟩
theorem draw_ok (hcf:TabOk C cf T) {ops:Array Oper} {Q:Exit→Act→World→Prop} {k:Kn} (hQ:∀ c a w d v,Q (.panic c) (a.put d v) w→Q (.panic c) a w) (hk:Next C T K A k fun a w=>Q .normal a w) :
  ∀ (f:Nat) {E0:Env S} {last:Nat} {rk:Bool} {st0:St} {E:Env S} {listed:Array Bool} {st:St} {a:Act} {w:World} {Tr:Tree},drawS P cf ops f last rk st0 listed st k=some Tr→Tr.holds T K A E→Le E0 E→(rk=true→E.st=E0.st)→(∀ B ∈ st0.mem,B ∈ st.mem)→SR2 (R:=R) E0 st0 rk w→Tms E st a→Mm C E st w →
   AnyK P .any ops Q f (SR2 (R:=R) E0 st0 rk) last listed a w
 | 0,E0,last,rk,st0,E,listed,st,a,w,Tr,ho,hh,_,_,_,_,hT,h=>by
  simp only [drawS] at ho
  split at ho
  ·rename_i hr
   exact anyK_done hr (hk E st a w Tr ho hh hT h) 0
  ·cases ho
 | f + 1,E0,last,rk,st0,E,listed,st,a,w,Tr,ho,hh,hl,hrk,hs,hS,hT,h=>by
  simp only [drawS] at ho
  split at ho
  ·
   rename_i i o hf
   obtain ⟨h1,h3,h4,hy,_⟩:=firstP_spec hf
   obtain ⟨hgd,r,h5,h6⟩:=hy rfl
   have hwt:=gd_spec (o:=o) hT h (ops:=ops)
   rw [gdS_mem] at hgd
   rw [hgd] at hwt
   simp only at hwt
   unfold oper at ho
   rw [h5] at ho
   have hT1:Tms E { st with mem:=st0.mem } a:=hT.aft rfl rfl
   split at ho
   ·rename_i v st' hd hr
    injection hr with hr
    subst hr
    obtain ⟨rfl,u,h7,h8⟩:=pure_val hT1 h.one h.kn (notSt_of h3) ⟨w,hS.1.le hl⟩ h5
    refine takeK h4 h1 (fun c a w=>hQ c a w o.dst u) hS (.inl ⟨hwt,fun W hW=>h8 W (hW.1.le hl)⟩) ?_
    refine draw_ok hcf hQ hk f ho hh hl hrk (by intro B hB;exact hs B hB) hS ?_ ?_
    ·rw [putT_swap]
     exact hT.put (d:=o.dst) hd h7
    ·rw [putT_swap]
     exact h.putT o.dst v
   ·rename_i n v st' hd hr
    injection hr with hr
    subst hr
    split at ho
    case h_2=>cases ho
    rename_i T1 hT1'
    injection ho with ho
    subst ho
    cases n with
    | pv p xs=>
     obtain ⟨rfl,rfl,h7⟩:=pure_pv hT1 h.one h5
     obtain ⟨vs,q,h8,h9,h10⟩:=hh
     have h11:=sem_one h9
     have hM:=h.push [q] (by simpa using h11)
     refine takeK h4 h1 (fun c a w=>hQ c a w o.dst q) hS (.inl ⟨hwt,fun W hW=>h7 vs q h8 h9 W⟩) ?_
     have hle:Le E { E with vals:=E.vals ++ [q] }:=⟨fun _ _ h=>app_get h,fun _ _ h=>h,fun _ _ h=>h⟩
     have hv:(SV.el (.one (.v st.nv))).den (E.vals ++ [q]) E.blks=some q:=by
      show (E.vals ++ [q])[st.nv]?=_
      rw [← h.nv]
      simp
     refine draw_ok hcf hQ hk f (E:={ E with vals:=E.vals ++ [q] }) hT1' h10 ⟨fun i v h=>hle.v i v (hl.v i v h),fun i v h=>hle.b i v (hl.b i v h),fun i v h=>hle.d i v (hl.d i v h)⟩ hrk (by intro B hB;exact hs B hB) hS ?_ ?_
     ·have X:=((hT.le hle).aft (st':={ st with nv:=st.nv + 1 }) rfl rfl).put (d:=o.dst) (okD_aft rfl hd) hv
      rw [← putT_swap1 o.dst (.el (.one (.v st.nv))) st st0.mem (st.nv + 1)] at X
      exact X
     ·have X:=hM.putT o.dst (.el (.one (.v st.nv)))
      have e:=putT_swap1 o.dst (.el (.one (.v st.nv))) st st0.mem (st.nv + 1)
      have X:Mm C { E with vals:=E.vals ++ [q] } (putT o.dst (.el (.one (.v st.nv))) { st with nv:=st.nv + 1 }) w:=X
      rw [← e] at X
      exact X
    | ld x n=>
     have hrk1:rk=true:=h6
     obtain ⟨p,vs,h8,h9,h10,h11,h12⟩:=hh
     cases hop:o.op <;> rw [hop] at h5 <;> simp only [stepO] at h5
     case load t y=>
      obtain ⟨u,i1,i2,i3⟩:=ld_exec hT1 (by exact h.nv) hop h5 h8 h9
      subst i2
      refine takeK h4 h1 (fun c a w=>hQ c a w o.dst u) hS (.inl ⟨hwt,fun W hW=>i3 W (h11 W (by rw [hrk hrk1];exact hW.2 hrk1))⟩) ?_
      have hle:Le E { E with vals:=E.vals ++ vs }:=⟨fun _ _ h=>app_get h,fun _ _ h=>h,fun _ _ h=>h⟩
      have hM:=h.push vs h10
      rw [h9] at hM
      refine draw_ok hcf hQ hk f (E:={ E with vals:=E.vals ++ vs }) hT1' h12 ⟨fun i v h=>hle.v i v (hl.v i v h),fun i v h=>hle.b i v (hl.b i v h),fun i v h=>hle.d i v (hl.d i v h)⟩ hrk (by intro B hB;exact hs B hB) hS ?_ ?_
      ·have X:=((hT.le hle).aft (st':={ st with nv:=st.nv + n }) rfl rfl).put (d:=o.dst) (okD_aft rfl hd) i1
       rw [← putT_swap1 o.dst v st st0.mem (st.nv + n)] at X
       exact X
      ·have X:=hM.putT o.dst v
       have e:=putT_swap1 o.dst v st st0.mem (st.nv + n)
       have X:Mm C { E with vals:=E.vals ++ vs } (putT o.dst v { st with nv:=st.nv + n }) w:=X
       rw [← e] at X
       exact X
     case call c=>unfold callS callF appS pvS at h5;repeat' (first | (cases h5;done) | split at h5)
     case buildSlice t n ps=>unfold buildSliceS at h5;repeat' (first | (cases h5;done) | split at h5)
     case build t ps=>unfold buildS at h5;repeat' (first | (cases h5;done) | split at h5)
     case store t x y=>unfold storeS at h5;repeat' (first | (cases h5;done) | split at h5)
     case alloc t=>unfold newB at h5;repeat' (first | (cases h5;done) | split at h5)
     case box t x=>unfold newB at h5;repeat' (first | (cases h5;done) | split at h5)
     case nilCheck x=>unfold pvS at h5;repeat' (first | (cases h5;done) | split at h5)
     case binOp op t x y t2=>unfold pvS at h5;repeat' (first | (cases h5;done) | split at h5)
     case unOp op t x=>unfold pvS at h5;repeat' (first | (cases h5;done) | split at h5)
     case fieldAddr t x i=>unfold pvS at h5;repeat' (first | (cases h5;done) | split at h5)
     case indexAddr t x i=>unfold pvS at h5;repeat' (first | (cases h5;done) | split at h5)
     case move x=>repeat' (first | (cases h5;done) | split at h5)
     case assign x=>repeat' (first | (cases h5;done) | split at h5)
     case pick c x y=>repeat' (first | (cases h5;done) | split at h5)
     case field t x i=>repeat' (first | (cases h5;done) | split at h5)
     case extract x i=>repeat' (first | (cases h5;done) | split at h5)
     all_goals (cases h5;done)
    | _=>cases h6
   ·cases ho
  ·
   rename_i i o hf
   obtain ⟨h1,h3,h4,_,hn⟩:=firstP_spec hf
   have hgd:=hn rfl
   have hwt:=gd_spec (o:=o) hT h (ops:=ops)
   rw [gdS_mem] at hgd
   rw [hgd] at hwt
   simp only at hwt
   unfold skipO at ho
   split at ho
   case h_2=>cases ho
   rename_i hd
   refine takeK h4 h1 (fun c a w=>hQ c a w o.dst undef) hS (.inr ⟨hwt,rfl⟩) ?_
   exact draw_ok hcf hQ hk f ho hh hl hrk (fun B hB=>by rw [putT_mem];exact hs B hB) hS (hT.put hd rfl) (h.putT _ _)
  ·split at ho
   ·
    rename_i i o hf
    obtain ⟨h1,h3,h4,hgd,r,h5,h6⟩:=firstQ_spec hf
    have hwt:=gd_spec (o:=o) hT h (ops:=ops)
    rw [gdS_mem] at hgd
    rw [hgd] at hwt
    simp only at hwt
    unfold oper at ho
    rw [h5] at ho
    have hT1:Tms E { st with mem:=[] } a:=hT.aft rfl rfl
    split at ho
    ·rename_i v st' hd hr
     injection hr with hr
     subst hr
     obtain ⟨rfl,u,h7,h8⟩:=pure_val hT1 h.one h.kn (notSt_of h3) ⟨w,fun B hB=>by cases hB⟩ h5
     refine takeP h4 h1 (fun c a w=>hQ c a w o.dst u) hS (.inl ⟨hwt,fun W _=>h8 W (fun B hB=>by cases hB)⟩) ?_
     refine draw_ok hcf hQ hk f ho hh hl hrk (by intro B hB;exact hs B hB) hS ?_ ?_
     ·rw [putT_swap]
      exact hT.put (d:=o.dst) hd h7
     ·rw [putT_swap]
      exact h.putT o.dst v
    ·rename_i n v st' hd hr
     injection hr with hr
     subst hr
     split at ho
     case h_2=>cases ho
     rename_i T1 hT1'
     injection ho with ho
     subst ho
     cases n with
     | pv p xs=>
      obtain ⟨rfl,rfl,h7⟩:=pure_pv hT1 h.one h5
      obtain ⟨vs,q,h8,h9,h10⟩:=hh
      have h11:=sem_one h9
      have hM:=h.push [q] (by simpa using h11)
      refine takeP h4 h1 (fun c a w=>hQ c a w o.dst q) hS (.inl ⟨hwt,fun W _=>h7 vs q h8 h9 W⟩) ?_
      have hle:Le E { E with vals:=E.vals ++ [q] }:=⟨fun _ _ h=>app_get h,fun _ _ h=>h,fun _ _ h=>h⟩
      have hv:(SV.el (.one (.v st.nv))).den (E.vals ++ [q]) E.blks=some q:=by
       show (E.vals ++ [q])[st.nv]?=_
       rw [← h.nv]
       simp
      refine draw_ok hcf hQ hk f (E:={ E with vals:=E.vals ++ [q] }) hT1' h10 ⟨fun i v h=>hle.v i v (hl.v i v h),fun i v h=>hle.b i v (hl.b i v h),fun i v h=>hle.d i v (hl.d i v h)⟩ hrk (by intro B hB;exact hs B hB) hS ?_ ?_
      ·have X:=((hT.le hle).aft (st':={ st with nv:=st.nv + 1 }) rfl rfl).put (d:=o.dst) (okD_aft rfl hd) hv
       rw [← putT_swap1 o.dst (.el (.one (.v st.nv))) st [] (st.nv + 1)] at X
       exact X
      ·have X:=hM.putT o.dst (.el (.one (.v st.nv)))
       have e:=putT_swap1 o.dst (.el (.one (.v st.nv))) st [] (st.nv + 1)
       have X:Mm C { E with vals:=E.vals ++ [q] } (putT o.dst (.el (.one (.v st.nv))) { st with nv:=st.nv + 1 }) w:=X
       rw [← e] at X
       exact X
     | _=>cases h6
    ·cases ho
   ·split at ho
    ·rename_i hr
     exact anyK_done hr (hk E st a w Tr ho hh hT h) _
    ·rename_i l hnil
     have hne:Region.ready .any ops listed ≠ []:=fun e=>hnil e
     refine ⟨fun e=>absurd e hne,fun i hi=>?_⟩
     obtain ⟨o,Ti,h1,h3,h4,h5⟩:=eachS_spec ho hh i hi
     split at h4
     case h_1=>cases h4
     rename_i hnc
     refine operG_ok2 hcf h1 hT h h4 h5 fun E' st' a' w' T' g1 g2 g0 g3 g4 g5 g6=>?_
     have hl':Le E0 E':=⟨fun i v h=>g1.v i v (hl.v i v h),fun i v h=>g1.b i v (hl.b i v h),fun i v h=>g1.d i v (hl.d i v h)⟩
     split at g3
     ·rename_i hil
      have hil:i=last:=by simpa using hil
      exact ⟨fun hne=>absurd hil hne,fun _=>⟨_,_,draw_ok hcf hQ hk f g3 g4 (Le.refl E') (fun _=>rfl) (fun B hB=>hB) ⟨g6.memR,fun _=>g6.rs⟩ g5 g6⟩⟩
     ·rename_i hil
      have hne:i ≠ last:=Nat.ne_of_beq_eq_false hil
      have hst:rk=true→E'.st=E0.st:=fun hr=>by
       rw [hr,hil] at hnc
       have hf:funcCall o.op=false:=by simpa using hnc
       rw [g0 hf]
       exact hrk hr
      have hS':SR2 (R:=R) E0 st0 rk w':=⟨hS.1.later hl' g6.memR (fun B hB=>g2 (h3 hne) B (hs B hB)),fun hr=>by rw [← hst hr];exact g6.rs⟩
      exact ⟨fun _=>⟨hS',draw_ok hcf hQ hk f g3 g4 hl' hst (fun B hB=>g2 (h3 hne) B (hs B hB)) hS' g5 g6⟩,fun e=>absurd e hne⟩
theorem eachT_spec {ops:Array Oper} {k:Nat→Oper→Option Tree}:∀ {l:List Nat} {Tr:Tree},eachT ops k l=some Tr→Tr.holds T K A E→∀ i ∈ l,∃ o Ti,ops[i]?=some o∧o.guard=none∧k i o=some Ti∧Ti.holds T K A E
 | [],Tr,h,_=>by cases h
 | j :: l,Tr,h,hh=>by
  simp only [eachT] at h
  split at h
  case h_2=>cases h
  rename_i o ho
  split at h
  case h_2=>cases h
  rename_i hg
  split at h
  case h_2=>cases h
  rename_i Tj hTj
  split at h
  ·injection h with h
   subst h
   intro i hi
   have:i=j:=by simpa using hi
   subst this
   exact ⟨o,Tj,ho,hg,hTj,hh⟩
  ·split at h
   case h_2=>cases h
   rename_i U hU
   injection h with h
   subst h
   obtain ⟨h1,h2⟩:=bothT_holds hh
   intro i hi
   rcases List.mem_cons.1 hi with rfl | hi
   ·exact ⟨o,Tj,ho,hg,hTj,h1⟩
   ·exact eachT_spec hU h2 i hi
theorem drawT_ok (hcf:TabOk C cf T) {ops:Array Oper} {last:Nat} {Q:Exit→Act→World→Prop} {k:Kn} (hk:Next C T K A k fun a w=>Q .normal a w) :
  ∀ (f:Nat) {E:Env S} {listed:Array Bool} {st:St} {a:Act} {w:World} {Tr:Tree},drawT P cf ops f listed st k=some Tr→Tr.holds T K A E→Tms E st a→Mm C E st w→AnyJ P .any ops Q (fun _=>True) last f listed a w
 | 0,E,listed,st,a,w,Tr,ho,hh,hT,h=>by
  simp only [drawT] at ho
  split at ho
  ·rename_i hr
   exact anyJ_done hr (hk E st a w Tr ho hh hT h) 0
  ·cases ho
 | f + 1,E,listed,st,a,w,Tr,ho,hh,hT,h=>by
  simp only [drawT] at ho
  split at ho
  ·rename_i hr
   exact anyJ_done hr (hk E st a w Tr ho hh hT h) _
  ·rename_i l hnil
   have hne:Region.ready .any ops listed ≠ []:=fun e=>hnil e
   refine ⟨fun e=>absurd e hne,fun i hi=>?_⟩
   obtain ⟨o,Ti,h1,h2,h4,h5⟩:=eachT_spec ho hh i hi
   refine wpOp_step h1 fun K' hK'=>?_
   rw [if_pos (wanted_none h2)]
   refine oper_ok hcf hT h h4 h5 fun E' st' a' w' T' g3 g4 g5 g6=>hK' _ _ ⟨fun _=>trivial,drawT_ok hcf hk f g3 g4 g5 g6⟩
end
end Go.Proofs.YtdmacgoeikjdbaaGreatDoor.Sx

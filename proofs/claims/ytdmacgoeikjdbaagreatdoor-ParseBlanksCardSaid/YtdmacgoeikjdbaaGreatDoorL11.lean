/- Symbolic execution: one operation; regions. Symbolic execution: region -/
import Derived.Test.YtdmacgoeikjdbaaGreatDoorL10
set_option linter.unusedSimpArgs false
set_option linter.unusedVariables false
namespace Go.Proofs.YtdmacgoeikjdbaaGreatDoor.Sx
open Go.RowKit
def SR.aft:SR→St
 | .val _ s=>s
 | .nd _ _ s=>s
section
variable {S:Type} {P:Program} {R:S→World→Prop} {C:Ctx R} {E:Env S} {st st':St} {a:Act} {o:Oper} {cf:Cfg} {w:World} {T:List (Con P R C.G)}
theorem Mm.putT (h:Mm C E st w) (d:Option Nat) (v:SV):Mm C E (putT d v st) w:=by
 cases d
 ·exact h
 ·exact ⟨h.nv,h.nb,h.nd,h.one,h.dis,h.lt,h.mem,h.fs,h.own,h.ownd,h.rs,h.keep,h.kn,h.io⟩
theorem Mm.memR (h:Mm C E st w):MemR E st.mem w:=h.mem
theorem step_tm {r:SR} {op:Op} (hr:stepO P cf st op=some r):r.aft.tm=st.tm∧r.aft.nt=st.nt∧r.aft.kn=st.kn:=by
 cases op <;> simp only [stepO] at hr
 case call c=>
  unfold callS callF appS pvS at hr
  repeat' (first | (cases hr;done) | (injection hr with hr;subst hr;exact ⟨rfl,rfl,rfl⟩) | split at hr)
 case buildSlice t n ps=>
  unfold buildSliceS at hr
  repeat' (first | (cases hr;done) | (injection hr with hr;subst hr;exact ⟨rfl,rfl,rfl⟩) | split at hr)
 case build t ps=>
  unfold buildS at hr
  repeat' (first | (cases hr;done) | (injection hr with hr;subst hr;exact ⟨rfl,rfl,rfl⟩) | split at hr)
 case load t x=>
  unfold loadS at hr
  repeat' (first | (cases hr;done) | (injection hr with hr;subst hr;exact ⟨rfl,rfl,rfl⟩) | split at hr)
 case store t x y=>
  unfold storeS at hr
  repeat' (first | (cases hr;done) | (injection hr with hr;subst hr;exact ⟨rfl,rfl,rfl⟩) | split at hr)
 case alloc t=>
  unfold newB at hr
  repeat' (first | (cases hr;done) | (injection hr with hr;subst hr;exact ⟨rfl,rfl,rfl⟩) | split at hr)
 case box t x=>
  unfold newB at hr
  repeat' (first | (cases hr;done) | (injection hr with hr;subst hr;exact ⟨rfl,rfl,rfl⟩) | split at hr)
 case nilCheck x=>
  unfold pvS at hr
  repeat' (first | (cases hr;done) | (injection hr with hr;subst hr;exact ⟨rfl,rfl,rfl⟩) | split at hr)
 case binOp op t x y t2=>
  unfold pvS at hr
  repeat' (first | (cases hr;done) | (injection hr with hr;subst hr;exact ⟨rfl,rfl,rfl⟩) | split at hr)
 case unOp op t x=>
  unfold pvS at hr
  repeat' (first | (cases hr;done) | (injection hr with hr;subst hr;exact ⟨rfl,rfl,rfl⟩) | split at hr)
 case fieldAddr t x i=>
  unfold pvS at hr
  repeat' (first | (cases hr;done) | (injection hr with hr;subst hr;exact ⟨rfl,rfl,rfl⟩) | split at hr)
 case indexAddr t x i=>
  unfold pvS at hr
  repeat' (first | (cases hr;done) | (injection hr with hr;subst hr;exact ⟨rfl,rfl,rfl⟩) | split at hr)
 case move x=>
  repeat' (first | (cases hr;done) | (injection hr with hr;subst hr;exact ⟨rfl,rfl,rfl⟩) | split at hr)
 case assign x=>
  repeat' (first | (cases hr;done) | (injection hr with hr;subst hr;exact ⟨rfl,rfl,rfl⟩) | split at hr)
 case pick c x y=>
  repeat' (first | (cases hr;done) | (injection hr with hr;subst hr;exact ⟨rfl,rfl,rfl⟩) | split at hr)
 case field t x i=>
  repeat' (first | (cases hr;done) | (injection hr with hr;subst hr;exact ⟨rfl,rfl,rfl⟩) | split at hr)
 case extract x i=>
  repeat' (first | (cases hr;done) | (injection hr with hr;subst hr;exact ⟨rfl,rfl,rfl⟩) | split at hr)
 all_goals (cases hr;done)
theorem val_ok (hT:Tms E st a) (h:Mm C E st w) {v:SV} (hr:stepO P cf st o.op=some (.val v st')) {K:Act→World→Prop} {Q:Exit→Act→World→Prop}
  (hK:∀ u w',v.den E.vals E.blks=some u→Mm C E st' w'→K (a.put o.dst u) w'):o.wp P a w K Q:=by
 by_cases hp:notSt o.op=true
 ·obtain ⟨rfl,u,h1,h2⟩:=pure_val hT h.one h.kn hp ⟨w,h.memR⟩ hr
  exact wp_val (h2 w h.memR) (hK u w h1 h)
 ·cases ho:o.op with
  | store t x y=>
   rw [ho] at hr
   exact store_ok hT h ho hr fun w' h1 h2=>hK _ w' h1 h2
  | _=>rw [ho] at hp;exact absurd rfl hp
theorem nd_ok (hcf:TabOk C cf T) (hT:Tms E st a) (h:Mm C E st w) {n:Nd} {v:SV} (hr:stepO P cf st o.op=some (.nd n v st')) {K:Act→World→Prop} {Q:Exit→Act→World→Prop} {K2:Env S→Prop} (hw:wpN T n E K2)
  (hK:∀ E' u w',Le E E'→K2 E'→v.den E'.vals E'.blks=some u→Mm C E' st' w'→K (a.put o.dst u) w'):o.wp P a w K Q:=by
 cases n with
 | new=>exact new_ok hT h hr hw hK
 | pv p xs=>
  obtain ⟨rfl,rfl,h1⟩:=pure_pv hT h.one hr
  obtain ⟨vs,r,h2,h3,h4⟩:=hw
  have h5:=sem_one h3
  refine wp_val (h1 vs r h2 h3 w) (hK { E with vals:=E.vals ++ [r] } r w ⟨fun _ _ h=>app_get h,fun _ _ h=>h,fun _ _ h=>h⟩ h4 ?_ (h.push [r] (by simpa using h5)))
  show (E.vals ++ [r])[st.nv]?=_
  rw [← h.nv]
  simp
 | ld x n=>
  obtain ⟨p,vs,h1,h2,h3,h4,h5⟩:=hw
  cases ho:o.op <;> rw [ho] at hr <;> simp only [stepO] at hr
  case load t y=>
   refine ld_ok hT h ho hr (fun vs' g1 g2 g3 u g4 g5=>?_) ⟨p,vs,h1,h2,h3,h4 w h.rs⟩
   obtain ⟨p',g6,g7⟩:=g3
   rw [h1] at g6
   injection g6 with g6
   subst g6
   have e:vs'=vs:=by
    obtain ⟨q1,o1,e1,r1⟩:=g7
    obtain ⟨q2,o2,e2,r2⟩:=h4 w h.rs
    rw [e1] at e2
    injection e2 with e2
    injection e2 with e2
    injection e2 with e2 e3
    subst e2 e3
    apply List.ext_getElem (by omega)
    intro i i1 i2
    have j1:=r1 i _ (List.getElem?_eq_getElem i1)
    have j2:=r2 i _ (List.getElem?_eq_getElem i2)
    rw [j1] at j2
    injection j2
   subst e g5
   refine hK { E with vals:=E.vals ++ vs' } u w ⟨fun _ _ h=>app_get h,fun _ _ h=>h,fun _ _ h=>h⟩ h5 g4 ?_
   have:=h.push vs' g2
   rw [g1] at this
   exact this
  case call c=>unfold callS callF appS pvS at hr;repeat' (first | (cases hr;done) | split at hr)
  case buildSlice t n ps=>unfold buildSliceS at hr;repeat' (first | (cases hr;done) | split at hr)
  case build t ps=>unfold buildS at hr;repeat' (first | (cases hr;done) | split at hr)
  case store t x y=>unfold storeS at hr;repeat' (first | (cases hr;done) | split at hr)
  case alloc t=>unfold newB at hr;repeat' (first | (cases hr;done) | split at hr)
  case box t x=>unfold newB at hr;repeat' (first | (cases hr;done) | split at hr)
  case nilCheck x=>unfold pvS at hr;repeat' (first | (cases hr;done) | split at hr)
  case binOp op t x y t2=>unfold pvS at hr;repeat' (first | (cases hr;done) | split at hr)
  case unOp op t x=>unfold pvS at hr;repeat' (first | (cases hr;done) | split at hr)
  case fieldAddr t x i=>unfold pvS at hr;repeat' (first | (cases hr;done) | split at hr)
  case indexAddr t x i=>unfold pvS at hr;repeat' (first | (cases hr;done) | split at hr)
  case move x=>repeat' (first | (cases hr;done) | split at hr)
  case assign x=>repeat' (first | (cases hr;done) | split at hr)
  case pick c x y=>repeat' (first | (cases hr;done) | split at hr)
  case field t x i=>repeat' (first | (cases hr;done) | split at hr)
  case extract x i=>repeat' (first | (cases hr;done) | split at hr)
  all_goals (cases hr;done)
 | call k args dl=>
  cases ho:o.op <;> rw [ho] at hr <;> simp only [stepO] at hr
  case call c=>
   unfold callS at hr
   split at hr
   ·rename_i f hc
    exact call_ok T hT h ho hc hcf hr hw hK
   ·unfold pvS at hr;repeat' (first | (cases hr;done) | split at hr)
   ·unfold appS at hr;repeat' (first | (cases hr;done) | split at hr)
   ·cases hr
  case buildSlice t n ps=>unfold buildSliceS at hr;repeat' (first | (cases hr;done) | split at hr)
  case build t ps=>unfold buildS at hr;repeat' (first | (cases hr;done) | split at hr)
  case load t x=>unfold loadS at hr;repeat' (first | (cases hr;done) | split at hr)
  case store t x y=>unfold storeS at hr;repeat' (first | (cases hr;done) | split at hr)
  case alloc t=>unfold newB at hr;repeat' (first | (cases hr;done) | split at hr)
  case box t x=>unfold newB at hr;repeat' (first | (cases hr;done) | split at hr)
  case nilCheck x=>unfold pvS at hr;repeat' (first | (cases hr;done) | split at hr)
  case binOp op t x y t2=>unfold pvS at hr;repeat' (first | (cases hr;done) | split at hr)
  case unOp op t x=>unfold pvS at hr;repeat' (first | (cases hr;done) | split at hr)
  case fieldAddr t x i=>unfold pvS at hr;repeat' (first | (cases hr;done) | split at hr)
  case indexAddr t x i=>unfold pvS at hr;repeat' (first | (cases hr;done) | split at hr)
  case move x=>repeat' (first | (cases hr;done) | split at hr)
  case assign x=>repeat' (first | (cases hr;done) | split at hr)
  case pick c x y=>repeat' (first | (cases hr;done) | split at hr)
  case field t x i=>repeat' (first | (cases hr;done) | split at hr)
  case extract x i=>repeat' (first | (cases hr;done) | split at hr)
  all_goals (cases hr;done)
 | bs z n row cs=>
  obtain ⟨ds,h1,h2⟩:=hw
  cases ho:o.op <;> rw [ho] at hr <;> simp only [stepO] at hr
  case buildSlice t n0 ps=>exact bs_ok hT h ho hr h1 h2 hK
  case call c=>unfold callS callF appS pvS at hr;repeat' (first | (cases hr;done) | split at hr)
  case build t ps=>unfold buildS at hr;repeat' (first | (cases hr;done) | split at hr)
  case load t x=>unfold loadS at hr;repeat' (first | (cases hr;done) | split at hr)
  case store t x y=>unfold storeS at hr;repeat' (first | (cases hr;done) | split at hr)
  case alloc t=>unfold newB at hr;repeat' (first | (cases hr;done) | split at hr)
  case box t x=>unfold newB at hr;repeat' (first | (cases hr;done) | split at hr)
  case nilCheck x=>unfold pvS at hr;repeat' (first | (cases hr;done) | split at hr)
  case binOp op t x y t2=>unfold pvS at hr;repeat' (first | (cases hr;done) | split at hr)
  case unOp op t x=>unfold pvS at hr;repeat' (first | (cases hr;done) | split at hr)
  case fieldAddr t x i=>unfold pvS at hr;repeat' (first | (cases hr;done) | split at hr)
  case indexAddr t x i=>unfold pvS at hr;repeat' (first | (cases hr;done) | split at hr)
  case move x=>repeat' (first | (cases hr;done) | split at hr)
  case assign x=>repeat' (first | (cases hr;done) | split at hr)
  case pick c x y=>repeat' (first | (cases hr;done) | split at hr)
  case field t x i=>repeat' (first | (cases hr;done) | split at hr)
  case extract x i=>repeat' (first | (cases hr;done) | split at hr)
  all_goals (cases hr;done)
 | app z s x=>
  cases ho:o.op <;> rw [ho] at hr <;> simp only [stepO] at hr
  case call c=>
   unfold callS at hr
   split at hr
   ·unfold callF at hr;repeat' (first | (cases hr;done) | split at hr)
   ·unfold pvS at hr;repeat' (first | (cases hr;done) | split at hr)
   ·rename_i hc
    split at hr
    ·rename_i s' x' t u hargs hty
     have htu:u=t:=by
      unfold appS at hr
      split at hr
      ·rename_i htu _ _
       exact (by simpa using htu:t=u).symm
      ·cases hr
     exact app_ok hT h ho hc hargs (by rw [hty,htu]) hr hw hK
    ·cases hr
   ·cases hr
  case buildSlice t n ps=>unfold buildSliceS at hr;repeat' (first | (cases hr;done) | split at hr)
  case build t ps=>unfold buildS at hr;repeat' (first | (cases hr;done) | split at hr)
  case load t x=>unfold loadS at hr;repeat' (first | (cases hr;done) | split at hr)
  case store t x y=>unfold storeS at hr;repeat' (first | (cases hr;done) | split at hr)
  case alloc t=>unfold newB at hr;repeat' (first | (cases hr;done) | split at hr)
  case box t x=>unfold newB at hr;repeat' (first | (cases hr;done) | split at hr)
  case nilCheck x=>unfold pvS at hr;repeat' (first | (cases hr;done) | split at hr)
  case binOp op t x y t2=>unfold pvS at hr;repeat' (first | (cases hr;done) | split at hr)
  case unOp op t x=>unfold pvS at hr;repeat' (first | (cases hr;done) | split at hr)
  case fieldAddr t x i=>unfold pvS at hr;repeat' (first | (cases hr;done) | split at hr)
  case indexAddr t x i=>unfold pvS at hr;repeat' (first | (cases hr;done) | split at hr)
  case move x=>repeat' (first | (cases hr;done) | split at hr)
  case assign x=>repeat' (first | (cases hr;done) | split at hr)
  case pick c x y=>repeat' (first | (cases hr;done) | split at hr)
  case field t x i=>repeat' (first | (cases hr;done) | split at hr)
  case extract x i=>repeat' (first | (cases hr;done) | split at hr)
  all_goals (cases hr;done)
end
end Go.Proofs.YtdmacgoeikjdbaaGreatDoor.Sx
namespace Go.Proofs.YtdmacgoeikjdbaaGreatDoor.Sx
open Go.RowKit
section
variable {S:Type} {P:Program} {R:S→World→Prop} {C:Ctx R} {E:Env S} {st st':St} {a:Act} {o:Oper} {cf:Cfg} {w:World} {T:List (Con P R C.G)} {K:List Value→List D→S→Prop} {A:Nat→List Value→List D→S→Prop}
theorem Tms.aft (hT:Tms E st a) (h1:st'.tm=st.tm) (h2:st'.nt=st.nt):Tms E st' a:=
 ⟨by rw [hT.sz,h2],hT.df,fun t sv ht=>hT.tm t sv (by rw [← h1];exact ht)⟩
theorem okD_aft (h2:st'.nt=st.nt) {d:Option Nat} (h:okD st d=true):okD st' d=true:=by
 cases d
 ·rfl
 ·simpa [okD,h2] using h
def Next (C:Ctx R) (T:List (Con P R C.G)) (K:List Value→List D→S→Prop) (A:Nat→List Value→List D→S→Prop) (k:Kn) (Kc:Act→World→Prop):Prop:=
 ∀ (E':Env S) (st':St) (a':Act) (w':World) (T':Tree),k st'=some T'→T'.holds T K A E'→Tms E' st' a'→Mm C E' st' w'→Kc a' w'
theorem oper_ok (hcf:TabOk C cf T) (hT:Tms E st a) (h:Mm C E st w) {k:Kn} {Tr:Tree} (ho:oper P cf o st k=some Tr) (hh:Tr.holds T K A E) {Kc:Act→World→Prop} {Q:Exit→Act→World→Prop} (hk:Next C T K A k Kc):o.wp P a w Kc Q:=by
 unfold oper at ho
 split at ho
 ·rename_i v st' hd hr
  obtain ⟨h1,h2,_⟩:=step_tm hr
  exact val_ok hT h hr fun u w' hv hM=>hk E _ _ w' Tr ho hh ((hT.aft h1 h2).put (okD_aft h2 hd) hv) (hM.putT _ _)
 ·rename_i n v st' hd hr
  obtain ⟨h1,h2,_⟩:=step_tm hr
  split at ho
  case h_2=>cases ho
  rename_i T1 hT1
  injection ho with ho
  subst ho
  exact nd_ok hcf hT h hr hh fun E' u w' hl h3 hv hM=>hk E' _ _ w' T1 hT1 h3 (((hT.le hl).aft h1 h2).put (okD_aft h2 hd) hv) (hM.putT _ _)
 ·cases ho
theorem skip_ok (hT:Tms E st a) (h:Mm C E st w) {k:Kn} {Tr:Tree} (ho:skipO o st k=some Tr) (hh:Tr.holds T K A E) {Kc:Act→World→Prop} (hk:Next C T K A k Kc):Kc (a.put o.dst undef) w:=by
 unfold skipO at ho
 split at ho
 ·rename_i hd
  exact hk E _ _ w Tr ho hh (hT.put hd rfl) (h.putT _ _)
 ·cases ho
theorem Mm.knows (h:Mm C E st w) {n:Nat} {b:Bool} (hn:E.vals[n]?=some (.bool b)):Mm C E (knows n b st) w:=
 ⟨h.nv,h.nb,h.nd,h.one,h.dis,h.lt,h.mem,h.fs,h.own,h.ownd,h.rs,h.keep,fun x hx=>by
  rcases List.mem_cons.1 hx with rfl | hx
  ·exact hn
  ·exact h.kn x hx,h.io⟩
theorem ite_ok (hT:Tms E st a) (h:Mm C E st w) {n:Nat} {k:Bool→Kn} {Tr:Tree} (ho:iteS n st k=some Tr) (hh:Tr.holds T K A E) :
  ∃ c T',E.vals[n]?=some (.bool c)∧k c (knows n c st)=some T'∧T'.holds T K A E∧Tms E (knows n c st) a∧Mm C E (knows n c st) w:=by
 unfold iteS at ho
 split at ho
 ·rename_i x y hx hy
  injection ho with ho
  subst ho
  obtain ⟨c,h1,h2,h3⟩:=hh
  cases c with
  | true=>exact ⟨true,x,h1,hx,h2 rfl,hT.aft rfl rfl,h.knows h1⟩
  | false=>exact ⟨false,y,h1,hy,h3 rfl,hT.aft rfl rfl,h.knows h1⟩
 ·cases ho
theorem lookN_mem {α:Type} {k:Nat} {x:α}:∀ {l:List (Nat × α)},lookN k l=some x→(k,x) ∈ l
 | [],h=>by cases h
 | (i,y) :: l,h=>by
  simp only [lookN] at h
  split at h
  ·rename_i he
   injection h with h
   have he:i=k:=by simpa using he
   subst h he
   exact List.mem_cons_self
  ·exact List.mem_cons_of_mem _ (lookN_mem h)
theorem gd_spec (hT:Tms E st a) (h:Mm C E st w) {ops:Array Oper}:match gdS ops st o with
  | .yes=>Region.wanted o (yielded ops a.tmps)=true
  | .no=>Region.wanted o (yielded ops a.tmps)=false
  | .ask n b=>∀ c,E.vals[n]?=some (.bool c)→Region.wanted o (yielded ops a.tmps)=(b == c)
  | .bad=>True:=by
 unfold gdS
 cases hg:o.guard with
 | none=>simp [Region.wanted,hg]
 | some jb=>
  obtain ⟨j,b⟩:=jb
  simp only
  have hw:∀ (q:Oper) (d:Nat),ops[j]?=some q→q.dst=some d→∀ v,a.tmps[d]?=some v→Region.wanted o (yielded ops a.tmps)=((match v with | .bool c=>some c | _=>none) == some b):=fun q d h1 h2 v h3=>by
   unfold Region.wanted yielded
   simp only [hg,h1,Option.bind_some,h2,h3]
   cases v <;> rfl
  cases ho:ops[j]? with
  | none=>simp
  | some q=>
   simp only
   cases hd:q.dst with
   | none=>simp
   | some d=>
    simp only
    cases ht:lookN d st.tm with
    | none=>simp
    | some sv=>
     obtain ⟨v,h1,h2⟩:=hT.tm d sv ht
     have hw:=hw q d ho hd v h2
     cases sv with
     | tup l=>simp
     | el t=>
      cases t with
      | agg ls=>simp
      | one l=>
       cases l with
       | p i j=>simp
       | s i j=>simp
       | c x=>
        have h1:some x=some v:=h1
        injection h1 with h1
        subst h1
        cases x <;> simp only <;> first | (rw [hw];rfl) | skip
        rename_i c
        cases hbc:(b == c)
        ·simp only
         rw [hw]
         simp only [Option.some_beq_some]
         cases b <;> cases c <;> simp_all
        ·simp only
         rw [hw]
         simp only [Option.some_beq_some]
         cases b <;> cases c <;> simp_all
       | v n=>
        have h1:E.vals[n]?=some v:=h1
        simp only
        cases hk:lookN n st.kn with
        | none=>
         simp only
         intro c hc
         rw [h1] at hc
         injection hc with hc
         subst hc
         rw [hw]
         cases b <;> cases c <;> rfl
        | some c=>
         have h3:=h.kn _ (lookN_mem hk)
         simp only at h3
         rw [h1] at h3
         injection h3 with h3
         subst h3
         simp only
         cases b <;> cases c <;> simp only [hw] <;> rfl
theorem operG_ok (hcf:TabOk C cf T) {ops:Array Oper} {l:List Oper} (hT:Tms E st a) (h:Mm C E st w) {k:Kn} {Tr:Tree} (ho:operG P cf ops o st k=some Tr) (hh:Tr.holds T K A E) {Q:Exit→Act→World→Prop}
  (hk:Next C T K A k (wpList P ops Q l)):wpList P ops Q (o :: l) a w:=by
 have hg:=gd_spec (o:=o) hT h (ops:=ops)
 refine wpList_step fun K' hK'=>?_
 have hk':Next C T K A k K':=fun E' st' a' w' T' h1 h2 h3 h4=>hK' _ _ (hk E' st' a' w' T' h1 h2 h3 h4)
 unfold operG at ho
 split at ho
 ·rename_i he
  rw [he] at hg
  simp only at hg
  rw [if_pos hg]
  exact oper_ok hcf hT h ho hh hk'
 ·rename_i he
  rw [he] at hg
  simp only at hg
  rw [if_neg (by rw [hg];simp)]
  exact skip_ok hT h ho hh hk'
 ·rename_i n b he
  rw [he] at hg
  simp only at hg
  obtain ⟨c,T',h1,h2,h3,h4,h5⟩:=ite_ok hT h ho hh
  have hg:=hg c h1
  cases hbc:(b == c)
  ·rw [hbc] at hg h2
   rw [if_neg (by rw [hg];simp)]
   exact skip_ok h4 h5 h2 h3 hk'
  ·rw [hbc] at hg h2
   rw [if_pos hg]
   exact oper_ok hcf h4 h5 h2 h3 hk'
 ·cases ho
theorem ops_ok (hcf:TabOk C cf T) {ops:Array Oper} {Q:Exit→Act→World→Prop} {k:Kn} (hk:Next C T K A k fun a w=>Q .normal a w) :
  ∀ (l:List Oper) {E:Env S} {st:St} {a:Act} {w:World} {Tr:Tree},opsS P cf ops l st k=some Tr→Tr.holds T K A E→Tms E st a→Mm C E st w→wpList P ops Q l a w
 | [],E,st,a,w,Tr,ho,hh,hT,h=>wpList_nil (hk E st a w Tr ho hh hT h)
 | _ :: l,E,st,a,w,Tr,ho,hh,hT,h=>operG_ok hcf hT h ho hh fun _ _ _ _ _ h1 h2 h3 h4=>ops_ok hcf hk l h1 h2 h3 h4
end
end Go.Proofs.YtdmacgoeikjdbaaGreatDoor.Sx

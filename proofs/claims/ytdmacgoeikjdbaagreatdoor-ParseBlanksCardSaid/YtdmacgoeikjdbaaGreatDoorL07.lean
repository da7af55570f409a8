/- Symbolic execution: what an operation does, where it hangs on its oper -/
import Derived.Test.YtdmacgoeikjdbaaGreatDoorL06
set_option linter.unusedSimpArgs false
set_option linter.unusedVariables false
namespace Go.Proofs.YtdmacgoeikjdbaaGreatDoor.Sx
open Go.RowKit
section
variable {S:Type} {P:Program} {E:Env S} {st st':St} {a:Act} {o:Oper} {cf:Cfg} {w:World}
theorem szT_info {t:TypeId} {k:Nat} (h:szT P t=some k):∃ i,P.info? t=some i∧i.size=k:=by
 unfold szT at h
 split at h
 ·rename_i i hi;injection h with h;exact ⟨i,hi,h⟩
 ·cases h
theorem rowT_cases {t:TypeId} {r:Option Nat} (h:rowT P t=some r):(∃ k i d,r=some k∧P.underlying t=some d∧d.isRow=true∧P.info? t=some i∧i.size=k) ∨ (r=none∧∃ d,P.underlying t=some d∧d.isRow=false):=by
 unfold rowT at h
 split at h
 ·rename_i fs hd
  split at h
  case h_2=>cases h
  rename_i k hk
  injection h with h
  obtain ⟨i,h1,h2⟩:=szT_info hk
  exact .inl ⟨k,i,_,h.symm,hd,rfl,h1,h2⟩
 ·rename_i n e hd
  split at h
  case h_2=>cases h
  rename_i k hk
  injection h with h
  obtain ⟨i,h1,h2⟩:=szT_info hk
  exact .inl ⟨k,i,_,h.symm,hd,rfl,h1,h2⟩
 ·rename_i d hn1 hn2 hd
  injection h with h
  refine .inr ⟨h.symm,d,hd,?_⟩
  cases d <;> first | rfl | (exact absurd rfl (hn1 _)) | (exact absurd rfl (hn2 _ _)) | simp_all
 ·cases h
theorem run_isAgg {t:TypeId} {d:TypeDesc} (hd:P.underlying t=some d):(isAgg t).run P w=.ok d.isRow w:=by
 unfold isAgg
 rw [Sem.run_bind,run_underlying hd w]
 cases d <;> rfl
theorem range_of {g off:Nat} {arr:Array Value} {t:TypeId} {fr:Nat × Nat} {vs:List Value} (hg:w.heap[g]?=some (.cells arr t fr)) (hv:∀ j u,vs[j]?=some u→arr[off + j]?=some u):w.rangeAt g off vs:=by
 intro j u hu
 rw [cell_of_row w g _ arr t fr hg]
 exact hv j u hu
theorem load_one {t:TypeId} (hrow:rowT P t=some none) {g off:Nat} {u:Value} (hc:w.cell? ⟨g,off,none⟩=some u):(loadVar t ⟨g,off,none⟩).run P w=.ok u w:=by
 rcases rowT_cases hrow with ⟨k,i,d,h,_⟩ | ⟨_,d,hd,hrw⟩
 ·cases h
 ·unfold loadVar
  simp [run_isAgg hd,hrw,load,Sem.run,hc]
theorem load_row {t:TypeId} {k:Nat} (hrow:rowT P t=some (some k)) {g off:Nat} {vs:List Value} (hc:w.rangeAt g off vs) (hl:vs.length=k):(loadVar t ⟨g,off,none⟩).run P w=.ok (.agg vs.toArray) w:=by
 rcases rowT_cases hrow with ⟨k',i,d,h,hd,hrw,hi,hs⟩ | ⟨h,_⟩
 ·injection h with h
  subst h
  exact run_loadVar_mid w g off t vs d hc hd hrw (by rw [hi,hl,← hs];rfl)
 ·cases h
theorem exec_load {t:TypeId} {x:Operand} (ho:o.op=.load t x) {ad:Addr} {u:Value} (hx:a.eval x=.pointer (some ad)) (hrun:(loadVar t ad).run P w=.ok u w):(execOp a.eval o).run P w=.ok (.value u) w:=by
 unfold execOp
 rw [ho]
 simp [hx,Instr.loadAt,Instr.sureAddr,hrun]
def MemR (E:Env S) (mem:List Bk) (w:World):Prop:=∀ B ∈ mem,∃ g cs,E.blks[B.b]?=some g∧dens E.vals E.blks B.cs=some cs∧BlkIs w g B.t cs.toArray∧∀ u ∈ cs,u.oneCell'=true
theorem elemT_spec {t e:TypeId} (h:elemT P t=some e):P.underlying t=some (.slice e):=by
 unfold elemT at h
 split at h
 ·rename_i e' he;injection h with h;subst h;exact he
 ·cases h
theorem fieldT_spec {t:TypeId} {i:Nat} {f:Field} (h:fieldT P t i=some f):∃ fs,P.underlying t=some (.struct fs)∧fs[i]?=some f:=by
 unfold fieldT at h
 split at h
 ·rename_i fs hfs;exact ⟨fs,hfs,by simpa using h⟩
 ·cases h
theorem guard_plain {op:BinOp} (t:TypeId) (p r:Operand) (u q:Value) (hu:u.oneCell'=true) (hi:u ≠ .nilIface):(eqGuard op t p r u q).run P w=.ok () w:=by
 unfold eqGuard
 cases u <;> first | exact absurd rfl hi | (cases hu;done) | (simp only;split <;> simp)
theorem bin_exec {op:BinOp} {t t2:TypeId} {x y:Operand} (ho:o.op=.binOp op t x y t2) {r:Value} (hg:(eqGuard op t x y (a.eval x) (a.eval y)).run P w=.ok () w) (hb:(binOp op t (a.eval x) (a.eval y)).run P w=.ok r w):(execOp a.eval o).run P w=.ok (.value r) w:=by
 unfold execOp
 rw [ho]
 simp only [Sem.run_bind,hg,hb,Result.andThen_ok,Sem.run_pure]
theorem bytes_eq (s t:ByteArray):(s.toList == t.toList)=(s.data.toList == t.data.toList):=by rw [ByteArray.toList_eq,ByteArray.toList_eq]
theorem binV_run {op:BinOp} {t:TypeId} {x y r:Value} (h:binV op x y=some r):(binOp op t x y).run P w=.ok r w∧x.oneCell'=true∧x ≠ .nilIface∧r.oneCell'=true:=by
 unfold binV at h
 split at h
 ·rename_i a b
  split at h <;> first | (cases h;done) | (injection h with h;subst h;refine ⟨?_,rfl,nofun,rfl⟩)
  ·simp [binOp,Op.intArith] <;> try rfl
  ·simp [binOp,Op.intArith] <;> try rfl
  ·simp [binOp,Op.intCmp]
  ·simp [binOp,Op.intCmp,bne]
  ·simp [binOp,Op.intCmp]
  ·simp [binOp,Op.intCmp] <;> (rw [← decide_not];exact decide_eq_decide.2 (by omega))
  ·simp [binOp,Op.intCmp]
  ·simp [binOp,Op.intCmp] <;> (rw [← decide_not];exact decide_eq_decide.2 (by omega))
 ·rename_i s q
  split at h <;> first | (cases h;done) | (injection h with h;subst h;refine ⟨?_,rfl,nofun,rfl⟩)
  ·simp only [binOp,Op.stringOp,bytes_eq];rfl
  ·simp only [binOp,Op.stringOp,bytes_eq];rfl
 ·cases h
theorem sem_one {p:PV} {vs:List Value} {r:Value} (h:p.sem vs=some r):r.oneCell'=true:=by
 unfold PV.sem at h
 split at h
 ·exact (binV_run (P:=(default:Program)) (t:=0) (w:=(default:World)) h).2.2.2
 ·unfold unV at h;split at h <;> first | (cases h;done) | (injection h with h;subst h;rfl)
 ·unfold lenV at h;split at h <;> first | (cases h;done) | (injection h with h;subst h;rfl)
 ·unfold nilcV at h;split at h <;> first | (cases h;done) | (injection h with h;subst h;rfl)
 ·unfold faV at h;split at h <;> first | (cases h;done) | (injection h with h;subst h;rfl)
 ·unfold iaV at h
  split at h
  ·split at h <;> first | (cases h;done) | (injection h with h;subst h;rfl)
  ·cases h
 ·cases h
theorem dens1 {l:L} {vs:List Value} (h:dens E.vals E.blks [l]=some vs):∃ v,vs=[v]∧l.den E.vals E.blks=some v:=by
 simp only [dens] at h
 split at h
 ·rename_i v vs' h1 h2
  injection h2 with h2
  subst h2
  injection h with h
  exact ⟨v,h.symm,h1⟩
 ·cases h
theorem dens_two {l m:L} {vs:List Value} (h:dens E.vals E.blks [l,m]=some vs):∃ u v,vs=[u,v]∧l.den E.vals E.blks=some u∧m.den E.vals E.blks=some v:=by
 simp only [dens] at h
 split at h
 ·rename_i v vs' h1 h2
  injection h with h
  have:=dens1 (E:=E) (l:=m) (vs:=vs') (by simp only [dens];exact h2)
  obtain ⟨q,rfl,h3⟩:=this
  exact ⟨v,q,h.symm,h1,h3⟩
 ·cases h
theorem pvS_eq {p q:PV} {xs ys:List L} {v:SV} (h:pvS st q ys=some (.nd (.pv p xs) v st')):q=p∧ys=xs∧v=.el (.one (.v st.nv))∧st'={ st with nv:=st.nv + 1 }:=by
 simp only [pvS,Option.some.injEq,SR.nd.injEq,Nd.pv.injEq] at h
 obtain ⟨⟨rfl,rfl⟩,rfl,rfl⟩:=h
 exact ⟨rfl,rfl,rfl,rfl⟩
theorem un_run {op:UnOp} {t:TypeId} {x:Operand} (ho:o.op=.unOp op t x) {v r:Value} (hv:a.eval x=v) (hs:unV op v=some r):(execOp a.eval o).run P w=.ok (.value r) w:=by
 unfold execOp
 rw [ho]
 unfold unV at hs
 split at hs
 ·injection hs with hs
  subst hs
  simp [hv,Op.unary]
 ·injection hs with hs
  subst hs
  simp [hv,Op.unary,Op.intArith] <;> try rfl
 ·cases hs
theorem pure_pv (hT:Tms E st a) (h1:∀ v ∈ E.vals,v.oneCell'=true) {p:PV} {xs:List L} {v:SV} (hr:stepO P cf st o.op=some (.nd (.pv p xs) v st')) :
  v=.el (.one (.v st.nv))∧st'={ st with nv:=st.nv + 1 }∧∀ vs r,dens E.vals E.blks xs=some vs→p.sem vs=some r→∀ w:World,(execOp a.eval o).run P w=.ok (.value r) w:=by
 cases ho:o.op <;> rw [ho] at hr <;> simp only [stepO] at hr
 case binOp op t x y t2=>
  split at hr
  case h_2=>cases hr
  rename_i l m hl hm
  split at hr
  case h_2=>cases hr
  split at hr
  ·cases hr
  obtain ⟨rfl,rfl,rfl,rfl⟩:=pvS_eq hr
  refine ⟨rfl,rfl,fun vs r hd hs w=>?_⟩
  obtain ⟨u,q,rfl,h3,h4⟩:=dens_two hd
  obtain ⟨e1,_⟩:=hT.eval1 h1 hl
  obtain ⟨e2,_⟩:=hT.eval1 h1 hm
  rw [e1] at h3;injection h3 with h3;subst h3
  rw [e2] at h4;injection h4 with h4;subst h4
  simp only [PV.sem] at hs
  obtain ⟨h5,h6,h7,_⟩:=binV_run (P:=P) (t:=t) (w:=w) hs
  exact bin_exec ho (guard_plain _ _ _ _ _ h6 h7) h5
 case unOp op t x=>
  split at hr
  case h_2=>cases hr
  rename_i l hl
  split at hr
  ·cases hr
  obtain ⟨rfl,rfl,rfl,rfl⟩:=pvS_eq hr
  refine ⟨rfl,rfl,fun vs r hd hs w=>?_⟩
  obtain ⟨u,rfl,h3⟩:=dens1 hd
  obtain ⟨e1,_⟩:=hT.eval1 h1 hl
  rw [e1] at h3;injection h3 with h3
  simp only [PV.sem] at hs
  exact un_run ho h3 hs
 case nilCheck x=>
  split at hr
  ·cases hr
  ·rename_i n hl
   obtain ⟨rfl,rfl,rfl,rfl⟩:=pvS_eq hr
   refine ⟨rfl,rfl,fun vs r hd hs w=>?_⟩
   obtain ⟨u,rfl,h3⟩:=dens1 hd
   obtain ⟨e1,_⟩:=hT.eval1 h1 hl
   rw [e1] at h3;injection h3 with h3
   simp only [PV.sem] at hs
   unfold nilcV at hs
   split at hs
   ·injection hs with hs
    subst hs
    unfold execOp
    rw [ho]
    simp [h3]
   ·cases hs
  ·cases hr
 case fieldAddr t x i=>
  split at hr
  case h_2=>cases hr
  rename_i f l hf hl
  split at hr
  case h_2=>cases hr
  rename_i z hz
  split at hr
  ·cases hr
  ·rename_i n
   obtain ⟨rfl,rfl,rfl,rfl⟩:=pvS_eq hr
   refine ⟨rfl,rfl,fun vs r hd hs w=>?_⟩
   obtain ⟨u,rfl,h3⟩:=dens1 hd
   obtain ⟨e1,_⟩:=hT.eval1 h1 hl
   rw [e1] at h3;injection h3 with h3
   simp only [PV.sem] at hs
   unfold faV at hs
   split at hs
   ·injection hs with hs
    subst hs
    obtain ⟨fs,hfs,hfi⟩:=fieldT_spec hf
    obtain ⟨inf,hi,hs⟩:=szT_info hz
    unfold execOp
    rw [ho]
    simp [h3,Instr.fieldAt,run_underlying hfs,hfi,Instr.sureAddr,fieldPlace,sizeOf,typeInfo,hi,hs,Addr.add_mid]
   ·cases hs
  ·cases hr
 case indexAddr t x i=>
  split at hr
  rotate_left
  ·repeat' (first | (cases hr;done) | split at hr)
  ·cases hr
  rename_i e n j he hl hj
  split at hr
  case h_2=>cases hr
  rename_i z hz
  obtain ⟨rfl,rfl,rfl,rfl⟩:=pvS_eq hr
  refine ⟨rfl,rfl,fun vs r hd hs w=>?_⟩
  obtain ⟨u,q,rfl,h3,h4⟩:=dens_two hd
  obtain ⟨e1,_⟩:=hT.eval1 h1 hl
  obtain ⟨e2,_⟩:=hT.eval1 h1 hj
  rw [e1] at h3;injection h3 with h3
  rw [e2] at h4;injection h4 with h4
  simp only [PV.sem] at hs
  unfold iaV at hs
  split at hs
  ·split at hs
   ·rename_i o' n' cap i' b hlt
    injection hs with hs
    subst hs
    have hlt:i'<n':=by simpa using hlt
    obtain ⟨inf,hi,hs⟩:=szT_info hz
    unfold execOp
    rw [ho]
    simp [h3,h4,Instr.indexAt,asIntOf,run_underlying (elemT_spec he),hlt,sizeOf,typeInfo,hi,hs,Addr.add_mid]
   ·cases hs
  ·cases hs
 case call c=>
  unfold callS at hr
  split at hr
  ·unfold callF at hr;repeat' (first | (cases hr;done) | split at hr)
  ·rename_i hc
   split at hr
   case h_2=>cases hr
   rename_i x t hargs hty
   split at hr
   case h_2=>cases hr
   rename_i e l he hl
   split at hr
   ·cases hr
   obtain ⟨rfl,rfl,rfl,rfl⟩:=pvS_eq hr
   refine ⟨rfl,rfl,fun vs r hd hs w=>?_⟩
   obtain ⟨u,rfl,h3⟩:=dens1 hd
   obtain ⟨e1,_⟩:=hT.eval1 h1 hl
   rw [e1] at h3;injection h3 with h3
   simp only [PV.sem] at hs
   unfold lenV at hs
   split at hs
   ·injection hs with hs
    subst hs
    have hm:c.args.map a.eval=#[a.eval x]:=by
     apply Array.ext'
     simp [hargs]
    have hm2:c.argTypes=#[t]:=by
     apply Array.ext'
     simp [hty]
    unfold execOp
    rw [ho]
    simp [resolve,hc,invoke,builtin,hm,hm2,Builtin.len_,run_underlying (elemT_spec he),h3]
    rfl
   ·cases hs
  ·split at hr
   ·unfold appS at hr
    repeat' (first | (cases hr;done) | split at hr)
   ·cases hr
  ·cases hr
 case move x=>split at hr <;> cases hr
 case assign x=>split at hr <;> cases hr
 case pick c x y=>repeat' (first | (cases hr;done) | split at hr)
 case alloc t=>
  split at hr
  ·unfold newB at hr;split at hr <;> cases hr
  ·cases hr
 case box t x=>
  split at hr
  ·unfold newB at hr;split at hr <;> cases hr
  ·cases hr
 case build t ps=>unfold buildS at hr;repeat' (first | (cases hr;done) | split at hr)
 case buildSlice t n ps=>unfold buildSliceS at hr;repeat' (first | (cases hr;done) | split at hr)
 case load t x=>unfold loadS at hr;repeat' (first | (cases hr;done) | split at hr)
 case store t x y=>unfold storeS at hr;repeat' (first | (cases hr;done) | split at hr)
 case field t x i=>repeat' (first | (cases hr;done) | split at hr)
 case extract x i=>repeat' (first | (cases hr;done) | split at hr)
 all_goals (cases hr;done)
end
end Go.Proofs.YtdmacgoeikjdbaaGreatDoor.Sx
namespace Go.Proofs.YtdmacgoeikjdbaaGreatDoor.Sx
open Go.RowKit
section
variable {S:Type} {P:Program} {E:Env S} {st st':St} {a:Act} {o:Oper} {cf:Cfg} {w:World}
theorem sv_one {l:L} {u:Value} (h:l.den E.vals E.blks=some u):(SV.el (.one l)).den E.vals E.blks=some u:=h
theorem sv_agg {ls:List L} {vs:List Value} (h:dens E.vals E.blks ls=some vs):(SV.el (.agg ls)).den E.vals E.blks=some (.agg vs.toArray):=by
 simp only [SV.den,T2.den,h]
theorem dens2_get {vals:List Value} {blks:List Nat}:∀ {l:List T2} {vs:List Value},dens2 vals blks l=some vs→∀ (i:Nat) x,l[i]?=some x→∃ v,vs[i]?=some v∧x.den vals blks=some v
 | [],_,_,i,x,hx=>by simp at hx
 | l :: ls,vs,hl,i,x,hx=>by
  simp only [dens2] at hl
  split at hl
  ·rename_i v vs' h1 h2
   injection hl with hl
   subst hl
   cases i with
   | zero=>
    simp at hx
    subst hx
    exact ⟨v,by simp,h1⟩
   | succ i=>simpa using dens2_get h2 i x (by simpa using hx)
  ·cases hl
theorem zeroL_info {t:TypeId} {ls:List L} (h:zeroL P t=some ls):∃ i v,P.info? t=some i∧i.zero=some v∧ls=v.cells.toList.map L.c:=by
 unfold zeroL at h
 split at h
 ·rename_i i hi
  split at h
  ·rename_i v hv
   injection h with h
   exact ⟨i,v,hi,hv,h.symm⟩
  ·cases h
 ·cases h
theorem dens_c (vals:List Value) (blks:List Nat):∀ cs:List Value,dens vals blks (cs.map L.c)=some cs
 | []=>rfl
 | c :: cs=>by simp only [List.map_cons,dens,L.den,dens_c vals blks cs]
theorem fold_splice (off:Nat) (M:List Value) (cs:Array Value) (h:off + M.length≤cs.size) :
  (M.zipIdx.foldl (fun cs (x:Value × Nat)=>cs.setIfInBounds (off + x.2) x.1) cs)=(cs.toList.take off ++ M ++ cs.toList.drop (off + M.length)).toArray:=by
 obtain ⟨h1,h2⟩:=Great.foldl_set off M 0 cs
 apply Array.ext'
 apply List.ext_getElem?
 intro k
 rw [Array.getElem?_toList,h2 k]
 simp only [Nat.add_zero]
 by_cases hk:off≤k∧k<off + M.length
 ·rw [if_pos ⟨hk.1,hk.2,by omega⟩,List.append_assoc,List.getElem?_append_right (by simp;omega),List.getElem?_append_left (by simp;omega)]
  congr 1
  simp
  omega
 ·rw [if_neg (by omega)]
  by_cases hlt:k<off
  ·rw [List.append_assoc,List.getElem?_append_left (by simp;omega),List.getElem?_take_of_lt hlt,Array.getElem?_toList]
  ·rw [List.getElem?_append_right (by simp;omega),List.getElem?_drop,← Array.getElem?_toList]
   congr 1
   simp
   omega
theorem fill_run (hT:Tms E st a) (h1:∀ v ∈ E.vals,v.oneCell'=true) (pl:List (Nat × Nat)):∀ (ps:List (Nat × Operand)) (z cs:List L) (cells:List Value),fillS st pl ps z=some cs →
  dens E.vals E.blks z=some cells→∃ r:List Value,Instr.fill (pl.toArray[·]?) cells.toArray (ps.map fun x=>(x.1,a.eval x.2))=some r.toArray∧dens E.vals E.blks cs=some r
 | [],z,cs,cells,hf,hz=>by
  simp only [fillS,Option.some.injEq] at hf
  subst hf
  exact ⟨cells,rfl,hz⟩
 | (i,x) :: ps,z,cs,cells,hf,hz=>by
  simp only [fillS] at hf
  split at hf
  case h_2=>cases hf
  rename_i off size vs hpi hvs
  split at hf
  case h_2=>cases hf
  rename_i hc
  simp only [Bool.and_eq_true,Nat.beq_eq,Nat.ble_eq] at hc
  obtain ⟨_,hd⟩:=hT.evalC h1 hvs
  have hl1:=dens_length hd
  have hl2:=dens_length hz
  simp only [Array.length_toList] at hl1
  have hfit:off + (a.eval x).cells.toList.length≤cells.toArray.size:=by
   simp only [Array.length_toList,List.size_toArray]
   omega
  have hs:=dens_app (dens_app (dens_take off hz) hd) (dens_drop (off + vs.length) hz)
  obtain ⟨r,h2,h3⟩:=fill_run hT h1 pl ps (spliceL off vs z) cs (cells.take off ++ (a.eval x).cells.toList ++ cells.drop (off + vs.length)) hf hs
  refine ⟨r,?_,h3⟩
  rw [← h2]
  simp only [List.map_cons,Instr.fill]
  have hpi':pl.toArray[i]?=some (off,size):=by simpa using hpi
  simp only [hpi']
  rw [if_neg (by simp only [Bool.or_eq_true,decide_eq_true_eq];simp only [Array.length_toList,List.size_toArray] at hfit;simp only [List.size_toArray];omega)]
  congr 1
  have:=fold_splice off (a.eval x).cells.toList cells.toArray hfit
  rw [show (a.eval x).cells.toList.length=vs.length by simpa using hl1] at this
  simp only [] at this
  rw [← this]
  simp
  have hsz:(a.eval x).cells.size=(a.eval x).cells.zipIdx.size:=by simp
  rw [hsz,← Array.foldl_toList,Array.toList_zipIdx]
theorem notSt_of {op:Op} (h:pureO cf op=true):notSt op=true:=by
 cases op <;> first | rfl | (cases h;done)
theorem pure_val (hT:Tms E st a) (h1:∀ v ∈ E.vals,v.oneCell'=true) (hkn:∀ x ∈ st.kn,E.vals[x.1]?=some (.bool x.2)) (hp:notSt o.op=true) {v:SV} (hM0:∃ w:World,MemR E st.mem w) (hr:stepO P cf st o.op=some (.val v st')) :
  st'=st∧∃ u,v.den E.vals E.blks=some u∧∀ w:World,MemR E st.mem w→(execOp a.eval o).run P w=.ok (.value u) w:=by
 cases ho:o.op <;> rw [ho] at hr hp <;> simp only [stepO] at hr
 case move x=>
  split at hr
  case h_2=>cases hr
  rename_i sv hsv
  simp only [Option.some.injEq,SR.val.injEq] at hr
  obtain ⟨rfl,rfl⟩:=hr
  exact ⟨rfl,_,hT.eval hsv,fun w _=>by unfold execOp;rw [ho];rfl⟩
 case assign x=>
  split at hr
  case h_2=>cases hr
  rename_i sv hsv
  simp only [Option.some.injEq,SR.val.injEq] at hr
  obtain ⟨rfl,rfl⟩:=hr
  exact ⟨rfl,_,hT.eval hsv,fun w _=>by unfold execOp;rw [ho];rfl⟩
 case pick c x y=>
  split at hr
  case h_2=>cases hr
  rename_i l hl
  obtain ⟨e1,_⟩:=hT.eval1 h1 hl
  have hb:∀ b,boolOf st l=some b→a.eval c=.bool b:=fun b hb=>by
   cases l with
   | v n=>
    simp only [boolOf] at hb
    have:∀ (m:List (Nat × Bool)),lookN n m=some b→(n,b) ∈ m:=fun m=>by
     induction m with
     | nil=>intro h;cases h
     | cons x m ih=>
      obtain ⟨i,q⟩:=x
      intro h
      simp only [lookN] at h
      split at h
      ·rename_i he
       injection h with h
       have he:i=n:=by simpa using he
       subst h he
       exact List.mem_cons_self
      ·exact List.mem_cons_of_mem _ (ih h)
    have h2:=hkn _ (this _ hb)
    have e2:E.vals[n]?=some (a.eval c):=e1
    rw [h2] at e2
    injection e2 with e2
    exact e2.symm
   | c q=>
    simp only [L.den,Option.some.injEq] at e1
    rw [← e1]
    cases q <;> simp only [boolOf] at hb <;> first | (cases hb;done) | (injection hb with hb;rw [hb])
   | p q r=>cases hb
   | s q r=>cases hb
  split at hr
  ·rename_i hbt
   have hb:=hb _ hbt
   split at hr
   case h_2=>cases hr
   rename_i sv hsv
   simp only [Option.some.injEq,SR.val.injEq] at hr
   obtain ⟨rfl,rfl⟩:=hr
   exact ⟨rfl,_,hT.eval hsv,fun w _=>by unfold execOp;rw [ho];simp [hb,asBool]⟩
  ·rename_i hbt
   have hb:=hb _ hbt
   split at hr
   case h_2=>cases hr
   rename_i sv hsv
   simp only [Option.some.injEq,SR.val.injEq] at hr
   obtain ⟨rfl,rfl⟩:=hr
   exact ⟨rfl,_,hT.eval hsv,fun w _=>by unfold execOp;rw [ho];simp [hb,asBool]⟩
  ·cases hr
 case build t ps=>
  unfold buildS at hr
  split at hr
  case h_2=>cases hr
  rename_i fs z hu hz
  split at hr
  case h_2=>cases hr
  rename_i pl hpl
  split at hr
  case h_2=>cases hr
  rename_i cs hz1 hcs
  simp only [Option.some.injEq,SR.val.injEq] at hr
  obtain ⟨rfl,rfl⟩:=hr
  obtain ⟨i,zv,hi,hzv,rfl⟩:=zeroL_info hz
  obtain ⟨r,hf,hd⟩:=fill_run hT h1 pl ps.toList _ cs _ hcs (dens_c _ _ _)
  refine ⟨rfl,.agg r.toArray,sv_agg hd,fun w _=>?_⟩
  have hb:P.built t (ps.map fun (i,x)=>(i,a.eval x)).toList=some r.toArray:=by
   unfold Program.built
   simp only [hi,hu,hzv]
   unfold fieldsT at hpl
   rw [hpl]
   simp only [Array.toArray_toList] at hf
   rw [← hf,Array.toList_map]
  unfold execOp
  rw [ho]
  simp only [Sem.run_bind,run_build w t _ r.toArray hb,Result.andThen_ok,Sem.run_pure]
 case nilCheck x=>
  split at hr
  ·rename_i b off hl
   simp only [Option.some.injEq,SR.val.injEq] at hr
   obtain ⟨rfl,rfl⟩:=hr
   obtain ⟨e1,_⟩:=hT.eval1 h1 hl
   refine ⟨rfl,_,sv_one e1,fun w _=>?_⟩
   simp only [L.den] at e1
   split at e1
   ·injection e1 with e1
    unfold execOp
    rw [ho]
    simp [← e1]
   ·cases e1
  ·cases hr
  ·cases hr
 case fieldAddr t x i=>
  split at hr
  case h_2=>cases hr
  rename_i f l hf hl
  split at hr
  case h_2=>cases hr
  rename_i z hz
  split at hr
  ·rename_i b off
   simp only [Option.some.injEq,SR.val.injEq] at hr
   obtain ⟨rfl,rfl⟩:=hr
   obtain ⟨e1,_⟩:=hT.eval1 h1 hl
   simp only [L.den] at e1
   split at e1
   ·rename_i g hg
    injection e1 with e1
    refine ⟨rfl,.pointer (some ⟨g,off + f.offset,none⟩),sv_one (by simp only [L.den,hg]),fun w _=>?_⟩
    obtain ⟨fs,hfs,hfi⟩:=fieldT_spec hf
    obtain ⟨inf,hi,hs⟩:=szT_info hz
    unfold execOp
    rw [ho]
    simp [← e1,Instr.fieldAt,run_underlying hfs,hfi,Instr.sureAddr,fieldPlace,sizeOf,typeInfo,hi,hs,Addr.add_mid]
   ·cases e1
  ·cases hr
  ·cases hr
 case field t x i=>
  split at hr
  case h_2=>cases hr
  rename_i f ls hf hl
  have e1:=hT.eval2 hl
  simp only [T2.den] at e1
  split at e1
  case h_2=>cases e1
  rename_i vs hvs
  injection e1 with e1
  obtain ⟨fs,hfs,hfi⟩:=fieldT_spec hf
  split at hr
  ·rename_i hrow
   obtain ⟨d,hd,hrw⟩:∃ d,P.underlying f.type=some d∧d.isRow=false:=by
    rcases rowT_cases hrow with ⟨k,inf,d,hc,_⟩ | ⟨_,d,hd,hrw⟩
    ·cases hc
    ·exact ⟨d,hd,hrw⟩
   split at hr
   case h_2=>cases hr
   rename_i l hll
   simp only [Option.some.injEq,SR.val.injEq] at hr
   obtain ⟨rfl,rfl⟩:=hr
   obtain ⟨u,h2,h3⟩:=dens_get hvs f.offset l hll
   refine ⟨rfl,u,sv_one h3,fun w _=>?_⟩
   unfold execOp
   rw [ho]
   simp [← e1,Instr.field,run_underlying hfs,hfi,asAgg,part,run_isAgg hd,hrw,h2]
  ·rename_i k hrow
   obtain ⟨inf,d,hd,hrw,hi,hs⟩:∃ inf d,P.underlying f.type=some d∧d.isRow=true∧P.info? f.type=some inf∧inf.size=k:=by
    rcases rowT_cases hrow with ⟨k',inf,d,hk,hd,hrw,hi,hs⟩ | ⟨hc,_⟩
    ·injection hk with hk
     subst hk
     exact ⟨inf,d,hd,hrw,hi,hs⟩
    ·cases hc
   split at hr
   case h_2=>cases hr
   simp only [Option.some.injEq,SR.val.injEq] at hr
   obtain ⟨rfl,rfl⟩:=hr
   refine ⟨rfl,_,sv_agg (dens_take k (dens_drop f.offset hvs)),fun w _=>?_⟩
   unfold execOp
   rw [ho]
   simp [← e1,Instr.field,run_underlying hfs,hfi,asAgg,part,run_isAgg hd,hrw,sizeOf,typeInfo,hi,hs]
  ·cases hr
 case extract x i=>
  split at hr
  case h_2=>cases hr
  rename_i l hl
  split at hr
  case h_2=>cases hr
  rename_i t ht
  simp only [Option.some.injEq,SR.val.injEq] at hr
  obtain ⟨rfl,rfl⟩:=hr
  have e1:=hT.eval hl
  simp only [SV.den] at e1
  split at e1
  case h_2=>cases e1
  rename_i vs hvs
  injection e1 with e1
  obtain ⟨u,h2,h3⟩:=dens2_get hvs i t ht
  refine ⟨rfl,u,h3,fun w _=>?_⟩
  unfold execOp
  rw [ho]
  simp [← e1,Instr.extract,h2]
 case load t x=>
  unfold loadS at hr
  obtain ⟨w0,hw0⟩:=hM0
  split at hr
  ·rename_i b off hx hrow
   split at hr
   case h_2=>cases hr
   rename_i B hB
   split at hr
   case h_2=>cases hr
   rename_i l hl
   simp only [Option.some.injEq,SR.val.injEq] at hr
   obtain ⟨rfl,rfl⟩:=hr
   obtain ⟨hBm,rfl⟩:=memOf_spec hB
   obtain ⟨g,cs,h2,h3,_⟩:=hw0 B hBm
   obtain ⟨u,h4,h5⟩:=dens_get h3 off l hl
   refine ⟨rfl,u,sv_one h5,fun w hw=>?_⟩
   obtain ⟨g',cs',i2,i3,i4,_⟩:=hw B hBm
   rw [h2] at i2;injection i2 with i2;subst i2
   rw [h3] at i3;injection i3 with i3;subst i3
   have e:=hT.eval2 hx
   simp only [T2.den,L.den,h2,Option.some.injEq] at e
   refine exec_load ho e.symm (load_one hrow ?_)
   rw [i4.cell]
   simpa using h4
  ·rename_i b off k hx hrow
   split at hr
   case h_2=>cases hr
   rename_i B hB
   split at hr
   case h_2=>cases hr
   rename_i hle
   have hle:off + k≤B.cs.length:=by simpa using hle
   simp only [Option.some.injEq,SR.val.injEq] at hr
   obtain ⟨rfl,rfl⟩:=hr
   obtain ⟨hBm,rfl⟩:=memOf_spec hB
   obtain ⟨g,cs,h2,h3,_⟩:=hw0 B hBm
   have hl3:=dens_length h3
   refine ⟨rfl,_,sv_agg (dens_take k (dens_drop off h3)),fun w hw=>?_⟩
   obtain ⟨g',cs',i2,i3,i4,_⟩:=hw B hBm
   rw [h2] at i2;injection i2 with i2;subst i2
   rw [h3] at i3;injection i3 with i3;subst i3
   have e:=hT.eval2 hx
   simp only [T2.den,L.den,h2,Option.some.injEq] at e
   refine exec_load ho e.symm (load_row hrow (range_of i4 fun j u hj=>?_) (by simp;omega))
   rw [List.getElem?_take] at hj
   split at hj
   ·simpa using hj
   ·cases hj
  ·cases hr
  ·cases hr
  ·cases hr
 case store t x y=>cases hp
 case alloc t=>
  split at hr
  ·unfold newB at hr;split at hr <;> cases hr
  ·cases hr
 case box t x=>
  split at hr
  ·unfold newB at hr;split at hr <;> cases hr
  ·cases hr
 case buildSlice t n ps=>unfold buildSliceS at hr;repeat' (first | (cases hr;done) | split at hr)
 case binOp op t x y t2=>
  split at hr
  case h_2=>cases hr
  rename_i l m hl hm
  split at hr
  case h_2=>cases hr
  split at hr
  ·rename_i r hf
   simp only [Option.some.injEq,SR.val.injEq] at hr
   obtain ⟨rfl,rfl⟩:=hr
   obtain ⟨e1,_⟩:=hT.eval1 h1 hl
   obtain ⟨e2,_⟩:=hT.eval1 h1 hm
   cases l <;> cases m <;> simp only [foldB] at hf <;> first | (cases hf;done) | skip
   simp only [L.den,Option.some.injEq] at e1 e2
   subst e1 e2
   refine ⟨rfl,r,rfl,fun w _=>?_⟩
   obtain ⟨h5,h6,h7,_⟩:=binV_run (P:=P) (t:=t) (w:=w) hf
   exact bin_exec ho (guard_plain _ _ _ _ _ h6 h7) h5
  ·cases hr
 case unOp op t x=>
  split at hr
  case h_2=>cases hr
  rename_i l hl
  split at hr
  ·rename_i r hf
   simp only [Option.some.injEq,SR.val.injEq] at hr
   obtain ⟨rfl,rfl⟩:=hr
   obtain ⟨e1,_⟩:=hT.eval1 h1 hl
   cases l <;> simp only [foldU] at hf <;> first | (cases hf;done) | skip
   simp only [L.den,Option.some.injEq] at e1
   exact ⟨rfl,r,rfl,fun w _=>un_run ho e1.symm hf⟩
  ·cases hr
 case indexAddr t x i=>
  split at hr
  ·unfold pvS at hr;repeat' (first | (cases hr;done) | split at hr)
  ·rename_i e b n j he hl hj
   split at hr
   case h_2=>cases hr
   rename_i z hz hlt
   have hlt:j<n:=by simpa using hlt
   simp only [Option.some.injEq,SR.val.injEq] at hr
   obtain ⟨rfl,rfl⟩:=hr
   obtain ⟨e1,_⟩:=hT.eval1 h1 hl
   obtain ⟨e2,_⟩:=hT.eval1 h1 hj
   simp only [L.den,Option.some.injEq] at e1 e2
   split at e1
   case h_2=>cases e1
   rename_i g hg
   injection e1 with e1
   obtain ⟨inf,hi,hs⟩:=szT_info hz
   refine ⟨rfl,.pointer (some ⟨g,j * z,none⟩),sv_one (by simp only [L.den,hg]),fun w _=>?_⟩
   have hadd:(⟨g,0,none⟩:Addr).add (j * z)=⟨g,j * z,none⟩:=by
    unfold Addr.add
    split
    ·rename_i h0;rw [h0]
    ·simp
   unfold execOp
   rw [ho]
   simp [← e1,← e2,Instr.indexAt,asIntOf,run_underlying (elemT_spec he),hlt,sizeOf,typeInfo,hi,hs,hadd]
  ·cases hr
 case call c=>
  unfold callS at hr
  split at hr
  ·unfold callF at hr;repeat' (first | (cases hr;done) | split at hr)
  ·rename_i hc
   split at hr
   case h_2=>cases hr
   rename_i x t hargs hty
   split at hr
   case h_2=>cases hr
   rename_i e l he hl
   split at hr
   ·rename_i b n
    simp only [Option.some.injEq,SR.val.injEq] at hr
    obtain ⟨rfl,rfl⟩:=hr
    obtain ⟨e1,_⟩:=hT.eval1 h1 hl
    simp only [L.den] at e1
    split at e1
    case h_2=>cases e1
    injection e1 with e1
    refine ⟨rfl,.int .i64 n,rfl,fun w _=>?_⟩
    have hm:c.args.map a.eval=#[a.eval x]:=by
     apply Array.ext'
     simp [hargs]
    have hm2:c.argTypes=#[t]:=by
     apply Array.ext'
     simp [hty]
    unfold execOp
    rw [ho]
    simp [resolve,hc,invoke,builtin,hm,hm2,Builtin.len_,run_underlying (elemT_spec he),← e1]
    rfl
   ·unfold pvS at hr;cases hr
  ·unfold appS at hr;repeat' (first | (cases hr;done) | split at hr)
  ·cases hr
 all_goals (cases hr;done)
end
end Go.Proofs.YtdmacgoeikjdbaaGreatDoor.Sx

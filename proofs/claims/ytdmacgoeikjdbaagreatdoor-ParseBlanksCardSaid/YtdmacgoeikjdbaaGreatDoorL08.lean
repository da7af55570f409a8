/- Symbolic execution: what is handed on as data; new blocks, stores, loa -/
import Derived.Test.YtdmacgoeikjdbaaGreatDoorL07
set_option linter.unusedSimpArgs false
set_option linter.unusedVariables false
namespace Go.Proofs.YtdmacgoeikjdbaaGreatDoor.Sx
open Go.RowKit
section
variable {S:Type} {P:Program} {R:S→World→Prop} {C:Ctx R} {E:Env S} {st st':St} {a:Act} {o:Oper} {cf:Cfg} {w:World}
theorem leaf_rep {ok:Nat→Prop} {v:Value} {d:D} (h:leafD v=some d):Rep w ok d [v]:=by
 cases v <;> simp only [leafD] at h <;> first | (cases h;done) | (injection h with h;subst h;unfold Rep;rfl)
theorem factOf_spec {n:Nat} {f:Fc}:∀ {fs:List Fc},factOf n fs=some f→f ∈ fs∧f.l=n
 | [],h=>by cases h
 | g :: fs,h=>by
  simp only [factOf] at h
  split at h
  ·rename_i hb
   injection h with h
   subst h
   exact ⟨List.mem_cons_self,by simpa using hb⟩
  ·obtain ⟨h1,h2⟩:=factOf_spec h
   exact ⟨List.mem_cons_of_mem _ h1,h2⟩
theorem shut_mem {ls:List (L × CD)} {fs:List Fc} {f':Fc} (h:f' ∈ shut ls fs):∃ f ∈ fs,f'.l=f.l∧f'.d=f.d∧(((f'.own=none∧∃ x ∈ ls,x.1=L.v f.l)∧f'={ f with own:=none }) ∨ (f'=f∧∀ x ∈ ls,x.1 ≠ L.v f.l)):=by
 unfold shut at h
 obtain ⟨f,hf,he⟩:=List.mem_map.1 h
 split at he
 ·rename_i hany
  subst he
  refine ⟨f,hf,rfl,rfl,.inl ⟨⟨rfl,?_⟩,rfl⟩⟩
  obtain ⟨x,hx,he⟩:=List.any_eq_true.1 hany
  refine ⟨x,hx,?_⟩
  split at he
  ·rename_i n hn
   rw [hn]
   simpa using he
  ·cases he
 ·rename_i hn
  subst he
  refine ⟨f,hf,rfl,rfl,.inr ⟨rfl,fun x hx e=>?_⟩⟩
  have:=List.any_eq_false.1 hn x hx
  rw [e] at this
  simp at this
theorem shut_own {ls:List (L × CD)} {fs:List Fc} {f':Fc} (h:f' ∈ shut ls fs) {k:Nat} (ho:ownAt E f' k):f' ∈ fs∧∀ x ∈ ls,x.1 ≠ L.v f'.l:=by
 obtain ⟨f,hf,_,_,h1 | h1⟩:=shut_mem h
 ·have:=ho.1
  rw [h1.1.1] at this
  cases this
 ·obtain ⟨rfl,h2⟩:=h1
  exact ⟨hf,h2⟩
theorem okE_shut {ls:List (L × CD)} {fs:List Fc} {k:Nat} (h:okE C E fs k):okE C E (shut ls fs) k:=
 ⟨h.1,h.2.1,fun f hf ho=>h.2.2 f (shut_own hf ho).1 ho⟩
theorem Mm.own_ok (h:Mm C E st w) {ls:List (L × CD)} {f:Fc} (hf:f ∈ st.fs) {x:L × CD} (hx:x ∈ ls) (he:x.1=.v f.l) {k:Nat} (ho:ownAt E f k):okE C E (shut ls st.fs) k:=by
 refine ⟨C.hb k (h.own_lt hf ho).1,h.own f hf k ho,fun f' hf' ho'=>?_⟩
 obtain ⟨h1,h2⟩:=shut_own hf' ho'
 exact h2 x hx (by rw [he,h.ownd f hf f' h1 k ho ho'])
theorem Mm.rep_cd (h:Mm C E st w) {ls:List (L × CD)} {nz:List (Nat × Nat)} {k:Nat} {l:L} (hm:(l,cdOf st nz k l) ∈ ls) {v:Value} {d:D} (hv:l.den E.vals E.blks=some v) (hd:(cdOf st nz k l).den E.dats v=some d):Rep w (okE C E (shut ls st.fs)) d [v]:=by
 cases l with
 | v n=>
  simp only [cdOf] at hd hm
  split at hd
  ·rename_i f hf
   obtain ⟨h1,h2⟩:=factOf_spec hf
   subst h2
   obtain ⟨v',d',h3,h4,h5⟩:=h.fs f h1
   have hsh:=(h.fs f h1).shut (fs':=shut ls st.fs) (fun k hk=>okE_shut hk) (fun k hk=>h.own_ok h1 hm rfl hk)
   obtain ⟨v2,d2,i1,i2,i3⟩:=hsh
   have hv':E.vals[f.l]?=some v:=hv
   rw [i1] at hv'
   injection hv' with hv'
   subst hv'
   have hd':E.dats[f.d]?=some d:=hd
   rw [i2] at hd'
   injection hd' with hd'
   subst hd'
   exact i3
  ·exact leaf_rep hd
 | c x=>
  simp only [L.den,Option.some.injEq] at hv
  subst hv
  have hno:∀ {ok:Nat→Prop},CD.den E.dats x (cdOf st nz k (.c x))=some d→Rep w ok d [x]:=fun {ok} hd=>by
   by_cases hx:x=.slice none 0 0
   ·subst hx
    simp only [cdOf] at hd
    split at hd
    ·simp only [CD.den,Option.some.injEq] at hd
     subst hd
     unfold Rep
     exact ⟨none,0,rfl,Nat.le_refl _,Nat.zero_le _,fun h=>absurd h (by simp)⟩
    ·cases hd
   ·have:cdOf st nz k (.c x)=.leaf:=by
     unfold cdOf
     split
     ·rename_i he;cases he
     ·rename_i he;injection he with he;exact absurd he hx
     ·rfl
    rw [this] at hd
    exact leaf_rep hd
  exact hno hd
 | p b off=>exact leaf_rep hd
 | s b off=>exact leaf_rep hd
theorem run_newRow' (t:TypeId) (cs:Array Value) (w:World):(newRow t cs).run P w=.ok ⟨w.heap.size,0,none⟩ (w.alloc (.cells cs t)):=rfl
theorem inOrder_map (f:Operand→Value):∀ (l:List (Nat × Operand)) (k:Nat),inOrder k l=true→(l.map fun x=>(x.1,f x.2))=((l.map fun x=>f x.2).zipIdx k).map fun x=>(x.2,x.1)
 | [],_,_=>rfl
 | (i,x) :: l,k,h=>by
  simp only [inOrder,Bool.and_eq_true,Nat.beq_eq] at h
  obtain ⟨rfl,h⟩:=h
  simp only [List.map_cons,List.zipIdx_cons]
  rw [inOrder_map f l (i + 1) h]
theorem cells_spec (hT:Tms E st a) (h1:∀ v ∈ E.vals,v.oneCell'=true) {z:Nat}:∀ {ps:List (Nat × Operand)} {ls:List L},cellsS st z ps=some ls →
  dens E.vals E.blks ls=some ((ps.map fun x=>a.eval x.2).flatMap fun v=>v.cells.toList)∧(∀ v ∈ ps.map fun x=>a.eval x.2,v.cells.size=z)∧ls.all okL=true
 | [],ls,h=>by
  simp only [cellsS,Option.some.injEq] at h
  subst h
  exact ⟨rfl,fun v hv=>absurd hv List.not_mem_nil,rfl⟩
 | (i,x) :: ps,ls,h=>by
  simp only [cellsS] at h
  split at h
  case h_2=>cases h
  rename_i vs r hvs hr
  split at h
  case h_2=>cases h
  rename_i hz
  have hz:vs.length=z:=by simpa using hz
  injection h with h
  subst h
  obtain ⟨i1,i2,i3⟩:=cells_spec hT h1 hr
  obtain ⟨j1,j2⟩:=hT.evalC h1 hvs
  have hl:=dens_length j2
  simp only [Array.length_toList] at hl
  refine ⟨by simp only [List.map_cons,List.flatMap_cons];exact dens_app j2 i1,fun v hv=>?_,by rw [List.all_append,j1,i3];rfl⟩
  simp only [List.map_cons] at hv
  rcases List.mem_cons.1 hv with rfl | hv
  ·omega
  ·exact i2 v hv
theorem new_ok (hT:Tms E st a) (h:Mm C E st w) {v:SV} (hr:stepO P cf st o.op=some (.nd .new v st')) {K:Act→World→Prop} {Q:Exit→Act→World→Prop} {K2:Env S→Prop} (hK2:∀ g,K2 { E with blks:=E.blks ++ [g] })
  (hK:∀ E' u w',Le E E'→K2 E'→v.den E'.vals E'.blks=some u→Mm C E' st' w'→K (a.put o.dst u) w'):o.wp P a w K Q:=by
 have key:∀ (t:TypeId) (ls:List L) (cs:List Value),newB st t ls=some (.nd .new v st')→dens E.vals E.blks ls=some cs→(execOp a.eval o).run P w=.ok (.value (.pointer (some ⟨w.heap.size,0,none⟩))) (w.alloc (.cells cs.toArray t))→o.wp P a w K Q:=by
  intro t ls cs hn hd hrun
  unfold newB at hn
  split at hn
  case h_2=>cases hn
  rename_i hok
  simp only [Option.some.injEq,SR.nd.injEq,true_and] at hn
  obtain ⟨rfl,rfl⟩:=hn
  have h1:=okLs_one h.one hok hd
  refine wp_val hrun (hK _ _ _ (Le.push E [] [w.heap.size] [] E.st |> fun h=>by simpa using h) (by simpa using hK2 w.heap.size) ?_ (h.alloc t ls cs hd h1))
  show (L.p st.nb 0).den E.vals (E.blks ++ [w.heap.size])=_
  simp only [L.den]
  rw [List.getElem?_append_right (by rw [h.nb];exact Nat.le_refl _),h.nb]
  simp
 cases ho:o.op <;> rw [ho] at hr <;> simp only [stepO] at hr
 case alloc t=>
  split at hr
  case h_2=>cases hr
  rename_i ls hls
  obtain ⟨i,zv,hi,hzv,rfl⟩:=zeroL_info hls
  refine key t _ _ hr (dens_c _ _ _) ?_
  unfold execOp
  rw [ho]
  simp [Instr.alloc,zeroValue,typeInfo,hi,hzv,newVar,run_newRow']
 case box t x=>
  split at hr
  case h_2=>cases hr
  rename_i ls hls
  refine key t _ _ hr (hT.evalC h.one hls).2 ?_
  unfold execOp
  rw [ho]
  simp [Instr.box,newVar,run_newRow']
 case move x=>repeat' (first | (cases hr;done) | split at hr)
 case assign x=>repeat' (first | (cases hr;done) | split at hr)
 case pick c x y=>repeat' (first | (cases hr;done) | split at hr)
 case build t ps=>unfold buildS at hr;repeat' (first | (cases hr;done) | split at hr)
 case buildSlice t n ps=>
  unfold buildSliceS at hr
  split at hr
  case h_2=>cases hr
  rename_i e he
  split at hr
  case h_2=>cases hr
  rename_i z r zl hz hrow hzl
  split at hr
  case h_2=>repeat' (first | (cases hr;done) | split at hr)
  split at hr
  case h_2=>cases hr
  rename_i ls hls hc
  simp only [Option.some.injEq,SR.nd.injEq,true_and] at hr
  obtain ⟨rfl,rfl⟩:=hr
  simp only [Bool.and_eq_true,Nat.beq_eq,Nat.ble_eq,Nat.blt_eq] at hc
  obtain ⟨⟨⟨hn,hin⟩,hsmall⟩,hpos⟩:=hc
  obtain ⟨i1,i2,i3⟩:=cells_spec hT h.one hls
  obtain ⟨i,hi,hs⟩:=szT_info hz
  obtain ⟨i',zv,hi',hzv,_⟩:=zeroL_info hzl
  rw [hi] at hi'
  injection hi' with hi'
  subst hi'
  have hz0:0<z:=by
   rcases Nat.eq_zero_or_pos z with h0 | h0
   ·rw [h0,Nat.mul_zero] at hpos;omega
   ·exact h0
  have hf:=Great.fill_whole (s:=i.size) (by omega) (ps.toList.map fun x=>a.eval x.2) ((Array.range (n * i.size)).map (zv.cells[· % zv.cells.size]!)) (by rw [hs];exact i2) (by simp [← hn])
  have hbs:=run_buildSlice (P:=P) w t e n (ps.map fun (i,x)=>(i,a.eval x)) _ i zv (elemT_spec he) hi hzv (by rw [hs];omega) (by rw [hs];omega) (by
   rw [← hf]
   congr 1
   rw [Array.toList_map]
   exact inOrder_map a.eval ps.toList 0 hin)
  refine wp_val (v:=.slice (some ⟨w.heap.size,0,none⟩) n n) ?_ (hK { E with blks:=E.blks ++ [w.heap.size] } _ _ (Le.push E [] [w.heap.size] [] E.st |> fun h=>by simpa using h) (by simpa using hK2 w.heap.size) ?_ (h.alloc e ls _ i1 (okLs_one h.one i3 i1)))
  ·unfold execOp
   rw [ho]
   simp only [Sem.run_bind,hbs,Result.andThen_ok,Sem.run_pure]
  ·show (L.s st.nb n).den E.vals (E.blks ++ [w.heap.size])=_
   simp only [L.den]
   rw [List.getElem?_append_right (by rw [h.nb];exact Nat.le_refl _),h.nb]
   simp
 case load t x=>unfold loadS at hr;repeat' (first | (cases hr;done) | split at hr)
 case store t x y=>unfold storeS at hr;repeat' (first | (cases hr;done) | split at hr)
 case nilCheck x=>unfold pvS at hr;repeat' (first | (cases hr;done) | split at hr)
 case binOp op t x y t2=>unfold pvS at hr;repeat' (first | (cases hr;done) | split at hr)
 case unOp op t x=>unfold pvS at hr;repeat' (first | (cases hr;done) | split at hr)
 case fieldAddr t x i=>unfold pvS at hr;repeat' (first | (cases hr;done) | split at hr)
 case field t x i=>repeat' (first | (cases hr;done) | split at hr)
 case extract x i=>repeat' (first | (cases hr;done) | split at hr)
 case indexAddr t x i=>unfold pvS at hr;repeat' (first | (cases hr;done) | split at hr)
 case call c=>unfold callS callF appS pvS at hr;repeat' (first | (cases hr;done) | split at hr)
 all_goals (cases hr;done)
theorem store_ok (hT:Tms E st a) (h:Mm C E st w) {v:SV} {t:TypeId} {x y:Operand} (ho:o.op=.store t x y) (hr:storeS P st t x y=some (.val v st')) {K:Act→World→Prop} {Q:Exit→Act→World→Prop}
  (hK:∀ w',v.den E.vals E.blks=some undef→Mm C E st' w'→K (a.put o.dst undef) w'):o.wp P a w K Q:=by
 unfold storeS at hr
 split at hr
 case h_2=>cases hr
 rename_i b off ls z hx hy hz
 split at hr
 case h_2=>cases hr
 rename_i hbz
 split at hr
 case h_2=>cases hr
 rename_i B m hB hm
 simp only [Option.some.injEq,SR.val.injEq] at hr
 obtain ⟨rfl,rfl⟩:=hr
 obtain ⟨hBm,hBb⟩:=memOf_spec hB
 obtain ⟨g,cs,h2,h3,h4,h5⟩:=h.mem B hBm
 obtain ⟨hok,hd⟩:=hT.evalC h.one hy
 have hfit:=(putB_spec hm).2 B hBm hBb
 have hl3:=dens_length h3
 have hld:=dens_length hd
 rw [hBb] at h2
 have e:=hT.eval2 hx
 simp only [T2.den,L.den,h2,Option.some.injEq] at e
 obtain ⟨i,hi,hs⟩:=szT_info hz
 have h1:=okLs_one h.one hok hd
 have hst:=run_storeCells_at P g off B.t (a.eval y).cells.toList 0 cs.toArray w h4 (by simp only [List.size_toArray];omega) h1
 simp only [Nat.add_zero] at hst
 have hbz:ls.length=z:=by simpa using hbz
 have hsz:(a.eval y).cells.size=i.size:=by simp only [Array.length_toList] at hld;omega
 refine wp_skip ?_ (hK _ rfl (h.store hm hd h1 h2 h4 (by omega)))
 unfold execOp
 rw [ho]
 simp [← e,Instr.storeAt,Instr.sureAddr,storeVar,sizeOf,typeInfo,hi,hsz,hst]
theorem ld_ok (hT:Tms E st a) (h:Mm C E st w) {v:SV} {t:TypeId} {x:Operand} {l:L} {n:Nat} (ho:o.op=.load t x) (hr:loadS P st t x=some (.nd (.ld l n) v st')) {K:Act→World→Prop} {Q:Exit→Act→World→Prop}
  (hK:∀ vs:List Value,vs.length=n→(∀ u ∈ vs,u.oneCell'=true)→(∃ p,l.den E.vals E.blks=some p∧LoadsAt w p vs)→∀ u,v.den (E.vals ++ vs) E.blks=some u→st'={ st with nv:=st.nv + n }→K (a.put o.dst u) w)
  (hvs:∃ p vs,l.den E.vals E.blks=some p∧vs.length=n∧(∀ u ∈ vs,u.oneCell'=true)∧LoadsAt w p vs):o.wp P a w K Q:=by
 obtain ⟨p,vs,hp,hl,h1,hld⟩:=hvs
 obtain ⟨g,off,rfl,hra⟩:=hld
 unfold loadS at hr
 split at hr
 ·repeat' (first | (cases hr;done) | split at hr)
 ·repeat' (first | (cases hr;done) | split at hr)
 ·rename_i q hx hrow
  simp only [Option.some.injEq,SR.nd.injEq,Nd.ld.injEq] at hr
  obtain ⟨⟨rfl,rfl⟩,rfl,rfl⟩:=hr
  have e:=hT.eval2 hx
  have e:(L.v q).den E.vals E.blks=some (a.eval x):=e
  rw [hp] at e
  injection e with e
  obtain ⟨u,rfl⟩:=List.length_eq_one_iff.1 hl
  refine wp_val (exec_load ho e.symm (load_one hrow (hra 0 u rfl))) (hK [u] rfl h1 ⟨_,hp,g,off,rfl,hra⟩ u ?_ rfl)
  show (E.vals ++ [u])[st.nv]?=_
  rw [← h.nv]
  simp
 ·rename_i q k hx hrow
  simp only [Option.some.injEq,SR.nd.injEq,Nd.ld.injEq] at hr
  obtain ⟨⟨rfl,rfl⟩,rfl,rfl⟩:=hr
  have e:=hT.eval2 hx
  have e:(L.v q).den E.vals E.blks=some (a.eval x):=e
  rw [hp] at e
  injection e with e
  refine wp_val (exec_load ho e.symm (load_row hrow hra hl)) (hK vs hl h1 ⟨_,hp,g,off,rfl,hra⟩ _ ?_ rfl)
  have:=dens_vs (vals:=E.vals ++ vs) (blks:=E.blks) k st.nv vs (fun i hi=>by
   rw [← h.nv,List.getElem?_append_right (by omega)]
   congr 1
   omega) hl
  simp only [SV.den,T2.den,this]
 ·cases hr
theorem ld_exec (hT:Tms E st a) (hnv:E.vals.length=st.nv) {v:SV} {t:TypeId} {x:Operand} {l:L} {n:Nat} (ho:o.op=.load t x) (hr:loadS P st t x=some (.nd (.ld l n) v st')) {p:Value} {vs:List Value} (hp:l.den E.vals E.blks=some p) (hl:vs.length=n) :
  ∃ u,v.den (E.vals ++ vs) E.blks=some u∧st'={ st with nv:=st.nv + n }∧∀ W:World,LoadsAt W p vs→(execOp a.eval o).run P W=.ok (.value u) W:=by
 unfold loadS at hr
 split at hr
 ·repeat' (first | (cases hr;done) | split at hr)
 ·repeat' (first | (cases hr;done) | split at hr)
 ·rename_i q hx hrow
  simp only [Option.some.injEq,SR.nd.injEq,Nd.ld.injEq] at hr
  obtain ⟨⟨rfl,rfl⟩,rfl,rfl⟩:=hr
  have e:=hT.eval2 hx
  have e:(L.v q).den E.vals E.blks=some (a.eval x):=e
  rw [hp] at e
  injection e with e
  obtain ⟨u,rfl⟩:=List.length_eq_one_iff.1 hl
  refine ⟨u,?_,rfl,fun W hW=>?_⟩
  ·show (E.vals ++ [u])[st.nv]?=_
   rw [← hnv]
   simp
  ·obtain ⟨g,off,rfl,hra⟩:=hW
   exact exec_load ho e.symm (load_one hrow (hra 0 u rfl))
 ·rename_i q k hx hrow
  simp only [Option.some.injEq,SR.nd.injEq,Nd.ld.injEq] at hr
  obtain ⟨⟨rfl,rfl⟩,rfl,rfl⟩:=hr
  have e:=hT.eval2 hx
  have e:(L.v q).den E.vals E.blks=some (a.eval x):=e
  rw [hp] at e
  injection e with e
  refine ⟨.agg vs.toArray,?_,rfl,fun W hW=>?_⟩
  ·have:=dens_vs (vals:=E.vals ++ vs) (blks:=E.blks) k st.nv vs (fun i hi=>by
    rw [← hnv,List.getElem?_append_right (by omega)]
    congr 1
    omega) hl
   simp only [SV.den,T2.den,this]
  ·obtain ⟨g,off,rfl,hra⟩:=hW
   exact exec_load ho e.symm (load_row hrow hra hl)
 ·cases hr
end
end Go.Proofs.YtdmacgoeikjdbaaGreatDoor.Sx

/- Symbolic execution: slices laid out, and appended to. -/
import Derived.Test.YtdmacgoeikjdbaaGreatDoorL09
set_option linter.unusedSimpArgs false
set_option linter.unusedVariables false
namespace Go.Proofs.YtdmacgoeikjdbaaGreatDoor.Sx
open Go.RowKit
section
variable {S:Type} {P:Program} {R:S→World→Prop} {C:Ctx R} {E:Env S} {st st':St} {a:Act} {o:Oper} {cf:Cfg} {w:World}
theorem cds_rep (h:Mm C E st w) {nz:List (Nat × Nat)} {ls:List (L × CD)}:∀ {vs:List L} {k:Nat} {ds:List D} {us:List Value},(∀ x ∈ cdsOf st nz k vs,x ∈ ls)→dens E.vals E.blks vs=some us→ldens E (cdsOf st nz k vs)=some ds →
  ds.length=us.length∧∀ (i:Nat) u d,us[i]?=some u→ds[i]?=some d→Rep w (okE C E (shut ls st.fs)) d [u]
 | [],k,ds,us,_,hu,hd=>by
  simp only [dens,Option.some.injEq] at hu
  simp only [cdsOf,ldens,Option.some.injEq] at hd
  subst hu hd
  exact ⟨rfl,fun i u d h=>by simp at h⟩
 | l :: vs,k,ds,us,hm,hu,hd=>by
  simp only [dens] at hu
  split at hu
  case h_2=>cases hu
  rename_i u us' h1 h2
  injection hu with hu
  subst hu
  simp only [cdsOf,ldens,h1] at hd
  split at hd
  case h_2=>cases hd
  rename_i d ds' hd1 hd2
  injection hd with hd
  subst hd
  obtain ⟨h3,h4⟩:=cds_rep h (fun x hx=>hm x (by simp only [cdsOf];exact List.mem_cons_of_mem _ hx)) h2 hd2
  refine ⟨by simp [h3],fun i q e hq he=>?_⟩
  cases i with
  | zero=>
   simp at hq he
   subst hq he
   exact h.rep_cd (hm _ (by simp [cdsOf])) h1 hd1
  | succ i=>exact h4 i q e (by simpa using hq) (by simpa using he)
theorem repAll_of {ok:Nat→Prop}:∀ {ds:List D} {us:List Value},ds.length=us.length→(∀ (i:Nat) u d,us[i]?=some u→ds[i]?=some d→Rep w ok d [u])→RepAll w ok ds us
 | [],us,hl,_=>by
  have:us=[]:=List.eq_nil_of_length_eq_zero hl.symm
  subst this
  unfold RepAll
  rfl
 | d :: ds,[],hl,_=>by cases hl
 | d :: ds,u :: us,hl,h=>by
  unfold RepAll
  exact ⟨[u],us,rfl,h 0 u d rfl rfl,repAll_of (by simpa using hl) fun i q e hq he=>h (i + 1) q e (by simpa using hq) (by simpa using he)⟩
theorem rows_cells (hT:Tms E st a) (h:Mm C E st w) {row:Bool} {nz:List (Nat × Nat)} {base z:Nat} {ls:List (L × CD)}:∀ {ps:List (Nat × Operand)} {rows:List (List (L × CD))} {ds:List D},(∀ x ∈ rows.flatten,x ∈ ls)→rowsS st nz base z ps=some rows→rowsD E row rows=some ds →
  Cells w (okE C E (shut ls st.fs)) z ds ((ps.map fun x=>a.eval x.2).flatMap fun v=>v.cells.toList)∧(∀ v ∈ ps.map fun x=>a.eval x.2,v.cells.size=z)∧ds.length=ps.length
 | [],rows,ds,_,hr,hd=>by
  simp only [rowsS,Option.some.injEq] at hr
  subst hr
  simp only [rowsD,Option.some.injEq] at hd
  subst hd
  exact ⟨rfl,fun v hv=>absurd hv List.not_mem_nil,rfl⟩
 | (i,x) :: ps,rows,ds,hm,hr,hd=>by
  simp only [rowsS] at hr
  split at hr
  case h_2=>cases hr
  rename_i vs r hvs hrr
  split at hr
  case h_2=>cases hr
  rename_i hz
  have hz:vs.length=z:=by simpa using hz
  injection hr with hr
  subst hr
  simp only [rowsD] at hd
  split at hd
  case h_2=>cases hd
  rename_i dr hdr
  split at hd
  case h_2=>cases hd
  rename_i d m hd1 hd2
  injection hd with hd
  subst hd
  obtain ⟨i1,i2,i3⟩:=rows_cells hT h (fun x hx=>hm x (by simp only [List.flatten_cons];exact List.mem_append_right _ hx)) hrr hd2
  obtain ⟨_,hc⟩:=hT.evalC h.one hvs
  obtain ⟨j1,j2⟩:=cds_rep h (fun x hx=>hm x (by simp only [List.flatten_cons];exact List.mem_append_left _ hx)) hc hdr
  have hsz:=dens_length hc
  simp only [Array.length_toList] at hsz
  refine ⟨?_,fun v hv=>?_,by simp [i3]⟩
  ·simp only [List.map_cons,List.flatMap_cons]
   refine ⟨_,_,rfl,by simp only [Array.length_toList];omega,?_,i1⟩
   unfold rowD at hd1
   split at hd1
   ·injection hd1 with hd1
    subst hd1
    unfold Rep
    exact repAll_of j1 j2
   ·split at hd1
    ·rename_i d'
     injection hd1 with hd1
     subst hd1
     obtain ⟨u,hu⟩:=List.length_eq_one_iff.1 (j1.symm.trans rfl:(a.eval x).cells.toList.length=1)
     rw [hu]
     exact j2 0 u d' (by rw [hu];rfl) rfl
    ·cases hd1
  ·simp only [List.map_cons] at hv
   rcases List.mem_cons.1 hv with rfl | hv
   ·omega
   ·exact i2 v hv
theorem Mm.laid (h:Mm C E st w) {ls:List (L × CD)} {e:TypeId} {z n:Nat} {ds:List D} {cs:List Value} (hc:Cells w (okE C E (shut ls st.fs)) z ds cs) (hn:n=ds.length) (hm:ds.length≤maxLen) :
  Mm C { E with vals:=E.vals ++ [.slice (some ⟨w.heap.size,0,none⟩) n n],dats:=E.dats ++ [.lst z ds] } { st with nv:=st.nv + 1,nd:=st.nd + 1,fs:=⟨st.nv,st.nd,some (e,z)⟩ :: shut ls st.fs } (w.alloc (.cells cs.toArray e)):=by
 have hl:Le E { E with vals:=E.vals ++ [.slice (some ⟨w.heap.size,0,none⟩) n n],dats:=E.dats ++ [.lst z ds] }:=⟨fun _ _ h=>app_get h,fun _ _ h=>h,fun _ _ h=>app_get h⟩
 have hb:=below_alloc w (.cells cs.toArray e)
 have hnew:(E.vals ++ [Value.slice (some ⟨w.heap.size,0,none⟩) n n])[st.nv]?=some (.slice (some ⟨w.heap.size,0,none⟩) n n):=by rw [← h.nv];simp
 have hoa:∀ f' ∈ (⟨st.nv,st.nd,some (e,z)⟩:Fc) :: shut ls st.fs,∀ k,ownAt { E with vals:=E.vals ++ [.slice (some ⟨w.heap.size,0,none⟩) n n],dats:=E.dats ++ [.lst z ds] } f' k→(f'.l=st.nv∧k=w.heap.size) ∨ (f' ∈ st.fs∧ownAt E f' k∧f' ∈ shut ls st.fs):=fun f' hf' k ho=>by
  rcases List.mem_cons.1 hf' with rfl | hf'
  ·obtain ⟨_,v,hv,hvk⟩:=ho
   have hv:(E.vals ++ [Value.slice (some ⟨w.heap.size,0,none⟩) n n])[st.nv]?=some v:=hv
   rw [hnew] at hv
   injection hv with hv
   subst hv
   refine .inl ⟨rfl,?_⟩
   have:some w.heap.size=some k:=hvk
   injection this with this
   exact this.symm
  ·obtain ⟨h2,h3⟩:=shut_own hf' ho
   exact .inr ⟨h2,own_le hl (h.fv h2) ho,hf'⟩
 have hok:∀ k,okE C E (shut ls st.fs) k→k<w.heap.size→okE C { E with vals:=E.vals ++ [.slice (some ⟨w.heap.size,0,none⟩) n n],dats:=E.dats ++ [.lst z ds] } ((⟨st.nv,st.nd,some (e,z)⟩:Fc) :: shut ls st.fs) k:=fun k hk hlt=>by
  refine ⟨hk.1,hk.2.1,fun f' hf' ho=>?_⟩
  rcases hoa f' hf' k ho with ⟨_,i2⟩ | ⟨i1,i2,i3⟩
  ·omega
  ·exact hk.2.2 f' i3 i2
 refine ⟨by simp [h.nv],h.nb,by simp [h.nd],fun v hv=>?_,h.dis,fun g hg=>⟨(h.lt g hg).1,Nat.lt_of_lt_of_le (h.lt g hg).2 hb.size⟩,fun B hB=>?_,fun f' hf'=>?_,fun f' hf' k ho=>?_,fun f' hf' f2 hf2 k ho ho2=>?_,?_,h.keep.alloc _,fun x hx=>hl.v _ _ (h.kn x hx),h.io⟩
 ·rcases List.mem_append.1 hv with hv | hv
  ·exact h.one v hv
  ·simp at hv
   subst hv
   rfl
 ·obtain ⟨g,cs',h2,h3,h4,h5⟩:=h.mem B hB
  exact ⟨g,cs',h2,dens_le hl h3,h4.alloc _,h5⟩
 ·rcases List.mem_cons.1 hf' with rfl | hf'
  ·refine ⟨_,.lst z ds,hnew,?_,ds,rfl,?_,fun k hk=>?_⟩
   ·show (E.dats ++ [D.lst z ds])[st.nd]?=_
    rw [← h.nd]
    simp
   ·have ho:=Own.fresh (e:=e) (B:=0) hc (Nat.zero_le _) hm (g:=w.heap.size) (n:=n) rfl hn
    refine ⟨cs,?_,?_⟩
    ·obtain ⟨xs,h2,_⟩:=ho
     have:xs=cs:=by
      rcases h2.2 with ⟨h3,_⟩ | ⟨g,cap,cur,h3,_,h4,_,_,_,h5⟩
      ·cases h3
      ·injection h3 with h3 h6
       injection h3 with h3
       injection h3 with h3
       subst h3
       have h7:(w.alloc (.cells cs.toArray e)).heap[w.heap.size]?=some (.cells cs.toArray e (0,0)):=heap_alloc_new w _
       rw [h7] at h4
       injection h4 with h4
       injection h4 with h4
       subst h4
       have hlen:=hc.length
       rw [← h5]
       simp only [List.take_of_length_le (Nat.le_of_eq hlen)]
     subst this
     exact h2
    ·refine Cells.keep (fun k hk hlt=>⟨hok k hk hlt,fun e=>?_⟩) (fun k _ hlt=>hb.block k hlt) hc
     have:k=w.heap.size:=by simpa [Value.ownBlock] using e
     omega
   ·have:some w.heap.size=some k:=hk
    injection this with this
    exact .inr (this ▸ h.keep.size)
  ·obtain ⟨f,hf,_,_,h2 | h2⟩:=shut_mem hf'
   ·rw [h2.2]
    obtain ⟨x,hx1,hx2⟩:=h2.1.2
    have hsh:=(h.fs f hf).shut (fs':=shut ls st.fs) (fun k hk=>okE_shut hk) (fun k hko=>h.own_ok hf hx1 hx2 hko)
    exact hsh.keep hl (fun k hk hlt=>hok k hk hlt) (fun k _ hlt=>hb.block k hlt) (fun k hko=>by cases hko.1)
   ·rw [h2.1]
    exact (h.fs f hf).keep hl (fun k hk hlt=>hok k (okE_shut hk) hlt) (fun k _ hlt=>hb.block k hlt) (fun k hko=>hb.block k (h.own_lt hf hko).2)
 ·rcases hoa f' hf' k ho with ⟨_,i2⟩ | ⟨i1,i2,i3⟩
  ·intro hm
   have:=(h.lt k hm).2
   omega
  ·exact h.own f' i1 k i2
 ·rcases hoa f' hf' k ho with ⟨i1,i2⟩ | ⟨i1,i2,_⟩
  ·rcases hoa f2 hf2 k ho2 with ⟨j1,j2⟩ | ⟨j1,j2,_⟩
   ·rw [i1,j1]
   ·have:=(h.own_lt j1 j2).2
    omega
  ·rcases hoa f2 hf2 k ho2 with ⟨j1,j2⟩ | ⟨j1,j2,_⟩
   ·have:=(h.own_lt i1 i2).2
    omega
   ·exact h.ownd f' i1 f2 j1 k i2 j2
 ·exact C.hR _ _ _ h.rs hb.size fun k hk=>hb.block k (Nat.lt_of_le_of_lt hk h.G)
theorem bs_ok (hT:Tms E st a) (h:Mm C E st w) {v:SV} {t:TypeId} {n0 z n:Nat} {ps:Array (Nat × Operand)} {row:Bool} {rows:List (List (L × CD))} (ho:o.op=.buildSlice t n0 ps) (hr:buildSliceS P cf st t n0 ps.toList=some (.nd (.bs z n row rows) v st'))
  {K:Act→World→Prop} {Q:Exit→Act→World→Prop} {K2:Env S→Prop} {ds:List D} (hds:rowsD E row rows=some ds) (hK2:∀ g,K2 { E with vals:=E.vals ++ [.slice (some ⟨g,0,none⟩) n n],dats:=E.dats ++ [.lst z ds] })
  (hK:∀ E' u w',Le E E'→K2 E'→v.den E'.vals E'.blks=some u→Mm C E' st' w'→K (a.put o.dst u) w'):o.wp P a w K Q:=by
 unfold buildSliceS at hr
 split at hr
 case h_2=>cases hr
 rename_i e he
 split at hr
 case h_2=>cases hr
 rename_i z' r zl hz hrow hzl
 split at hr
 ·repeat' (first | (cases hr;done) | split at hr)
 split at hr
 case h_2=>cases hr
 rename_i rows' hrows hc
 simp only [Option.some.injEq,SR.nd.injEq,Nd.bs.injEq] at hr
 obtain ⟨⟨rfl,rfl,rfl,rfl⟩,rfl,rfl⟩:=hr
 simp only [Bool.and_eq_true,Nat.beq_eq,Nat.ble_eq,Nat.blt_eq] at hc
 obtain ⟨⟨⟨hn,hin⟩,hsmall⟩,hpos⟩:=hc
 obtain ⟨i1,i2,i3⟩:=rows_cells hT h (ls:=rows'.flatten) (fun x hx=>hx) hrows hds
 obtain ⟨i,hi,hs⟩:=szT_info hz
 obtain ⟨i',zv,hi',hzv,_⟩:=zeroL_info hzl
 rw [hi] at hi'
 injection hi' with hi'
 subst hi'
 have hz0:0<z':=Nat.pos_of_mul_pos_left hpos |> fun h=>by
  rcases Nat.eq_zero_or_pos z' with h0 | h0
  ·rw [h0,Nat.mul_zero] at hpos;omega
  ·exact h0
 have hf:=Great.fill_whole (s:=i.size) (by omega) (ps.toList.map fun x=>a.eval x.2) ((Array.range (n0 * i.size)).map (zv.cells[· % zv.cells.size]!)) (by rw [hs];exact i2) (by simp [← hn])
 have hbs:=run_buildSlice (P:=P) w t e n0 (ps.map fun (i,x)=>(i,a.eval x)) _ i zv (elemT_spec he) hi hzv (by rw [hs];omega) (by rw [hs];omega) (by
  rw [← hf]
  congr 1
  rw [Array.toList_map]
  exact inOrder_map a.eval ps.toList 0 hin)
 have hn0:n0=ds.length:=by rw [i3];exact hn
 have hle:n0≤n0 * z':=Nat.le_mul_of_pos_right _ hz0
 refine wp_val (v:=.slice (some ⟨w.heap.size,0,none⟩) n0 n0) ?_ (hK { E with vals:=E.vals ++ [.slice (some ⟨w.heap.size,0,none⟩) n0 n0],dats:=E.dats ++ [.lst z' ds] } _ _ ⟨fun _ _ h=>app_get h,fun _ _ h=>h,fun _ _ h=>app_get h⟩ (hK2 w.heap.size) ?_ (h.laid (e:=e) i1 hn0 (by unfold maxLen;omega)))
 ·unfold execOp
  rw [ho]
  simp only [Sem.run_bind,hbs,Result.andThen_ok,Sem.run_pure]
 ·show (E.vals ++ [_])[st.nv]?=_
  rw [← h.nv]
  simp
theorem append_run {c:Call} {s x:Operand} {T e:TypeId} {z:Nat} (ho:o.op=.call c) (hc:c.callee=.builtin .append) (hargs:c.args.toList=[s,x]) (hty:c.argTypes.toList=[T,T])
  (hT:P.underlying T=some (.slice e)) {i0:TypeInfo} (hi0:P.info? e=some i0) {zero:Value} (hz0:i0.zero=some zero) (hz1:i0.size=z) (hzs:zero.cells.size=z) (hsz:0<z) (hb:i0.bytes≤1000)
  (B:Nat) (ok:Nat→Prop) (v v2:Value) (ds es:List D) (hs:a.eval s=v) (hx:a.eval x=v2) (hown:Own w B ok e z v ds) (hsrc:Own w B ok e z v2 es) (hex:∀ k,ok k→some k ≠ v.ownBlock)
  (hlen:ds.length + es.length≤1000000000) (hB:B≤w.heap.size) :
  ∃ A cp w',(execOp a.eval o).run P w=.ok (.value (.slice A (ds.length + es.length) cp)) w'∧(∀ ok':Nat→Prop,(∀ k,ok k→k<w.heap.size→ok' k)→Own w' B ok' e z (.slice A (ds.length + es.length) cp) (ds ++ es))∧Below B w w'∧w.heap.size≤w'.heap.size ∧
   (∀ k,some k ≠ v.ownBlock→k<w.heap.size→w'.heap[k]?=w.heap[k]?)∧((Value.slice A (ds.length + es.length) cp).ownBlock=v.ownBlock ∨ (Value.slice A (ds.length + es.length) cp).ownBlock=some w.heap.size):=by
 have hm:c.args.map a.eval=#[v,v2]:=by
  apply Array.ext'
  simp [hargs,hs,hx]
 have hm2:c.argTypes=#[T,T]:=by
  apply Array.ext'
  simp [hty]
 obtain ⟨xs,hrow,hcells⟩:=hown
 obtain ⟨ys,hrow2,hcells2⟩:=hsrc
 have hform:∀ {W:World} {u:Value} {n:Nat} {zs:List Value},W.ownsRow B e z u n zs→∃ A cp,u=.slice A n cp:=fun {W u n zs} h=>by
  rcases h.2 with ⟨rfl,rfl⟩ | ⟨g,cap,cur,rfl,_⟩
  ·exact ⟨none,0,rfl⟩
  ·exact ⟨_,_,rfl⟩
 rcases hrow2.2 with ⟨hv2,hn2⟩ | ⟨g2,cap2,cur2,hv2,_,hh2,hc2,_,hs2,ht2⟩
 ·have hes:es=[]:=List.eq_nil_of_length_eq_zero hn2
  subst hes
  have hrun:(Builtin.append_ #[T,T] o.type #[v,.slice none 0 0]).run P w=.ok v w:=by
   rcases hrow.2 with ⟨rfl,_⟩ | ⟨g,cap,cur,rfl,_,_,hnc,_⟩
   ·simp [Builtin.append_,run_underlying hT,sizeOf,typeInfo,hi0,Builtin.lenOf,Builtin.firstCells]
   ·simp [Builtin.append_,run_underlying hT,sizeOf,typeInfo,hi0,Builtin.lenOf,Builtin.firstCells,hnc,storeCells]
  obtain ⟨A,cp,rfl⟩:=hform hrow
  refine ⟨A,cp,w,?_,fun ok' hok=>⟨xs,by simpa using hrow,by simpa using Cells.keep (fun k hk hlt=>⟨hok k hk.1 hlt,hk.2⟩) (fun _ _ _=>rfl) hcells⟩,Below.refl _ _,Nat.le_refl _,fun _ _ _=>rfl,.inl rfl⟩
  unfold execOp
  rw [ho]
  simp only [resolve,hc,hm,hm2,invoke,builtin,Sem.run_bind,Sem.run_pure,Result.andThen_ok,hv2,hrun]
  rfl
 ·have hmul:(ds.length + es.length) * i0.bytes≤140737488355328:=by
   have:=Nat.mul_le_mul hlen hb
   omega
  have hnews:∀ j u,ys[j]?=some u→w.cell? ((⟨g2,0,none⟩:Addr).add j)=some u:=by
   intro j u hu
   have e1:(⟨g2,0,none⟩:Addr).add j=⟨g2,j,none⟩:=by
    unfold Addr.add
    split
    ·rename_i h0;rw [h0]
    ·simp
   rw [e1,cell_of_row w g2 j cur2 e (0,0) hh2]
   have h1:j<ys.length:=(List.getElem?_eq_some_iff.1 hu).1
   rw [← ht2] at hu h1
   rw [List.getElem?_take] at hu
   split at hu
   ·simpa using hu
   ·cases hu
  obtain ⟨v',w',hrun,h2,h3,_,h5⟩:=run_append_own_at (P:=P) w B T o.type e i0 zero z i0.bytes hT hi0 hz0 hz1 rfl hzs hsz v ds.length xs hrow ⟨g2,0,none⟩ es.length cap2 ys hrow2.1 hnews (Cells.one hcells2) (by unfold maxLen;omega) hmul hB
  obtain ⟨A,cp,rfl⟩:=hform h2
  have hkeep:∀ k,some k ≠ v.ownBlock→k<w.heap.size→w'.heap[k]?=w.heap[k]?:=fun k hk hlt=>h3.block k hlt hk
  refine ⟨A,cp,w',?_,fun ok' hok'=>?_,(Below.refl _ _).grown h3 hB (own_block_ge hrow),((Below.refl B w).grown h3 hB (own_block_ge hrow)).size,hkeep,h5⟩
  ·unfold execOp
   rw [ho]
   simp only [resolve,hc,hm,hm2,invoke,builtin,Sem.run_bind,Sem.run_pure,Result.andThen_ok,hv2,hrun]
  ·have hok:∀ k,ok k→k<w.heap.size→ok' k∧some k ≠ (Value.slice A (ds.length + es.length) cp).ownBlock:=by
    intro k hk hlt
    refine ⟨hok' k hk hlt,?_⟩
    rcases h5 with h5 | h5
    ·rw [h5];exact hex k hk
    ·rw [h5];intro e;injection e with e;omega
   refine ⟨xs ++ ys,by rw [List.length_append];exact h2,?_⟩
   exact Cells.append (Cells.keep (fun k hk hlt=>hok k hk.1 hlt) (fun k hk hlt=>hkeep k (hex k hk.1) hlt) hcells2) (Cells.keep (fun k hk hlt=>hok k hk.1 hlt) (fun k hk hlt=>hkeep k hk.2 hlt) hcells)
theorem Mm.appended (h:Mm C E st w) {fs0:List Fc} {v0 v':Value} {e:TypeId} {z:Nat} {ds:List D} {w':World} (h0:∀ f ∈ fs0,f ∈ st.fs) (hne:∀ f ∈ fs0,∀ k,ownAt E f k→some k ≠ v0.ownBlock) (hex:∀ k,okE C E st.fs k→some k ≠ v0.ownBlock)
  (hv0:∀ k,v0.ownBlock=some k→C.nw k∧k<w.heap.size∧k ∉ E.blks)
  (ho:∀ ok':Nat→Prop,(∀ k,okE C E st.fs k→k<w.heap.size→ok' k)→Own w' 0 ok' e z v' ds) (h1:v'.oneCell'=true) (hsz:w.heap.size≤w'.heap.size) (hk:Below 0 w w')
  (hblk:∀ k,some k ≠ v0.ownBlock→k<w.heap.size→w'.heap[k]?=w.heap[k]?) (hv':v'.ownBlock=v0.ownBlock ∨ v'.ownBlock=some w.heap.size) :
  Mm C { E with vals:=E.vals ++ [v'],dats:=E.dats ++ [.lst z ds] } { st with nv:=st.nv + 1,nd:=st.nd + 1,fs:=⟨st.nv,st.nd,some (e,z)⟩ :: fs0 } w':=by
 have hl:Le E { E with vals:=E.vals ++ [v'],dats:=E.dats ++ [.lst z ds] }:=⟨fun _ _ h=>app_get h,fun _ _ h=>h,fun _ _ h=>app_get h⟩
 have hnew:(E.vals ++ [v'])[st.nv]?=some v':=by rw [← h.nv];simp
 have hoa:∀ f' ∈ (⟨st.nv,st.nd,some (e,z)⟩:Fc) :: fs0,∀ k,ownAt { E with vals:=E.vals ++ [v'],dats:=E.dats ++ [.lst z ds] } f' k→(f'.l=st.nv∧v'.ownBlock=some k) ∨ (f' ∈ fs0∧ownAt E f' k):=fun f' hf' k ho=>by
  rcases List.mem_cons.1 hf' with rfl | hf'
  ·obtain ⟨_,v,hv,hvk⟩:=ho
   have hv:(E.vals ++ [v'])[st.nv]?=some v:=hv
   rw [hnew] at hv
   injection hv with hv
   subst hv
   exact .inl ⟨rfl,hvk⟩
  ·exact .inr ⟨hf',own_le hl (h.fv (h0 f' hf')) ho⟩
 have hok:∀ k,okE C E st.fs k→k<w.heap.size→okE C { E with vals:=E.vals ++ [v'],dats:=E.dats ++ [.lst z ds] } ((⟨st.nv,st.nd,some (e,z)⟩:Fc) :: fs0) k:=fun k hk2 hlt=>by
  refine ⟨hk2.1,hk2.2.1,fun f' hf' ho'=>?_⟩
  rcases hoa f' hf' k ho' with ⟨_,i2⟩ | ⟨i1,i2⟩
  ·rcases hv' with hv' | hv'
   ·rw [i2] at hv'
    exact hex k hk2 hv'
   ·rw [i2] at hv'
    injection hv' with hv'
    omega
  ·exact hk2.2.2 f' (h0 f' i1) i2
 refine ⟨by simp [h.nv],h.nb,by simp [h.nd],fun v hv=>?_,h.dis,fun g hg=>⟨(h.lt g hg).1,Nat.lt_of_lt_of_le (h.lt g hg).2 hsz⟩,fun B hB=>?_,fun f' hf'=>?_,fun f' hf' k ho'=>?_,fun f' hf' f2 hf2 k ho1 ho2=>?_,?_,?_,fun x hx=>hl.v _ _ (h.kn x hx),h.io⟩
 ·rcases List.mem_append.1 hv with hv | hv
  ·exact h.one v hv
  ·simp at hv
   subst hv
   exact h1
 ·obtain ⟨g,cs',h2,h3,h4,h5⟩:=h.mem B hB
  refine ⟨g,cs',h2,dens_le hl h3,(hblk g (fun e=>?_) h4.lt).trans h4,h5⟩
  exact (hv0 g e.symm).2.2 (List.mem_of_getElem? h2)
 ·rcases List.mem_cons.1 hf' with rfl | hf'
  ·refine ⟨v',.lst z ds,hnew,?_,ds,rfl,ho _ hok,fun k hk3=>hv'.elim (fun e=>(hv0 k (e ▸ hk3)).1) (fun e=>by rw [e] at hk3;injection hk3 with hk3;exact .inr (hk3 ▸ h.keep.size))⟩
   show (E.dats ++ [D.lst z ds])[st.nd]?=_
   rw [← h.nd]
   simp
  ·exact (h.fs f' (h0 f' hf')).keep hl (fun k hk2 hlt=>hok k hk2 hlt) (fun k hk2 hlt=>hblk k (hex k hk2) hlt) (fun k hko=>hblk k (hne f' hf' k hko) (h.own_lt (h0 f' hf') hko).2)
 ·rcases hoa f' hf' k ho' with ⟨_,i2⟩ | ⟨i1,i2⟩
  ·intro hm
   rcases hv' with hv' | hv'
   ·rw [i2] at hv'
    exact (hv0 k hv'.symm).2.2 hm
   ·rw [i2] at hv'
    injection hv' with hv'
    have:=(h.lt k hm).2
    omega
  ·exact h.own f' (h0 f' i1) k i2
 ·have hmix:∀ f ∈ fs0,v'.ownBlock=some k→ownAt E f k→False:=fun f hf hk1 hk2=>by
   rcases hv' with hv' | hv'
   ·rw [hk1] at hv'
    exact hne f hf k hk2 hv'
   ·rw [hk1] at hv'
    injection hv' with hv'
    have:=(h.own_lt (h0 f hf) hk2).2
    omega
  rcases hoa f' hf' k ho1 with ⟨i1,i2⟩ | ⟨i1,i2⟩
  ·rcases hoa f2 hf2 k ho2 with ⟨j1,j2⟩ | ⟨j1,j2⟩
   ·rw [i1,j1]
   ·exact (hmix f2 j1 i2 j2).elim
  ·rcases hoa f2 hf2 k ho2 with ⟨j1,j2⟩ | ⟨j1,j2⟩
   ·exact (hmix f' i1 j2 i2).elim
   ·exact h.ownd f' (h0 f' i1) f2 (h0 f2 j1) k i2 j2
 ·refine C.hR _ _ _ h.rs hsz fun k hk2=>hblk k (fun e=>?_) (Nat.lt_of_le_of_lt hk2 h.G)
  have:=C.nw_lt (hv0 k e.symm).1
  omega
 ·refine ⟨hk.os.trans h.keep.os,hk.tape.trans h.keep.tape,hk.output.trans h.keep.output,Nat.le_trans h.keep.size hsz,fun k hk2 hlt=>(hblk k (fun e=>?_) (Nat.lt_of_lt_of_le hlt h.keep.size)).trans (h.keep.block k hk2 hlt)⟩
  rcases (hv0 k e.symm).1 with h9 | h9
  ·exact hk2 (.inr h9)
  ·omega
theorem smallE_spec {e:TypeId} {z:Nat} (h:smallE P e z=true):∃ i v,P.info? e=some i∧i.zero=some v∧i.size=z∧v.cells.size=z∧0<z∧i.bytes≤1000:=by
 unfold smallE at h
 split at h
 ·rename_i i hi
  split at h
  ·rename_i v hv
   simp only [Bool.and_eq_true,Nat.ble_eq,Nat.beq_eq,Nat.blt_eq] at h
   exact ⟨i,v,hi,hv,h.1.1.2,h.1.2,h.2,h.1.1.1⟩
  ·cases h
 ·cases h
theorem app_ok (hT:Tms E st a) (h:Mm C E st w) {v:SV} {c:Call} {s x:Operand} {t u:TypeId} {z d:Nat} {cd:CD} (ho:o.op=.call c) (hc:c.callee=.builtin .append) (hargs:c.args.toList=[s,x]) (hty:c.argTypes.toList=[t,u])
  (hr:appS P st t u s x=some (.nd (.app z cd d) v st')) {K:Act→World→Prop} {Q:Exit→Act→World→Prop} {K2:Env S→Prop} {T:List (Con P R C.G)} (hw:wpN T (.app z cd d) E K2)
  (hK:∀ E' u w',Le E E'→K2 E'→v.den E'.vals E'.blks=some u→Mm C E' st' w'→K (a.put o.dst u) w'):o.wp P a w K Q:=by
 unfold appS at hr
 split at hr
 case h_2=>cases hr
 rename_i e sl m he htu hs hx
 have htu:t=u:=by simpa using htu
 subst htu
 split at hr
 case h_2=>cases hr
 rename_i z' hz
 split at hr
 case h_2=>cases hr
 rename_i cd' n d' n2 ho1 ho2 hsm
 obtain ⟨e1,_⟩:=hT.eval1 h.one hs
 obtain ⟨e2,_⟩:=hT.eval1 h.one hx
 obtain ⟨fx,hfx,hfxl,hfxd,hfxo⟩:∃ f,f ∈ st.fs∧f.l=m∧f.d=d'∧f.own=some (e,z'):=by
  rcases ownOf_spec ho2 with ⟨h1,_⟩ | ⟨m',f,h1,_,h3,h4,h5,h6⟩
  ·cases h1
  ·injection h1 with h1
   injection h5 with h5
   exact ⟨f,h3,by rw [h4,h1],h5.symm,h6⟩
 simp only [wpN] at hw
 have key:∀ (fs0:List Fc) (v0:Value) (ds1 ds2:List D),v0=a.eval s→E.dats[d']?=some (.lst z' ds2)→Own w 0 (okE C E st.fs) e z' v0 ds1→ds1.length + ds2.length≤1000000000→(∀ f ∈ fs0,f ∈ st.fs) →
   (∀ f ∈ fs0,∀ k,ownAt E f k→some k ≠ v0.ownBlock)→(∀ k,okE C E st.fs k→some k ≠ v0.ownBlock)→(∀ k,v0.ownBlock=some k→C.nw k∧k<w.heap.size∧k ∉ E.blks) →
   (∀ A c,K2 { E with vals:=E.vals ++ [.slice A (ds1.length + ds2.length) c],dats:=E.dats ++ [.lst z' (ds1 ++ ds2)] }) →
   v=.el (.one (.v st.nv))→st'={ st with nv:=st.nv + 1,nd:=st.nd + 1,fs:=⟨st.nv,st.nd,some (e,z')⟩ :: fs0 }→z=z'→o.wp P a w K Q:=by
  intro fs0 v0 ds1 ds2 hv0 hd2 hown1 hlen hsub hne hex hvv hK2 hv hst hzz
  subst hzz
  obtain ⟨i0,zero,hi0,hz0,hz1,hzs,hpos,hby⟩:=smallE_spec hsm
  obtain ⟨v2,dx,g1,g2,g3⟩:=h.fs fx hfx
  rw [hfxo] at g3
  obtain ⟨es,g4,hown2,_⟩:=g3
  rw [hfxd,hd2] at g2
  injection g2 with g2
  rw [← g2] at g4
  injection g4 with _ g4
  subst g4
  have e2':E.vals[m]?=some (a.eval x):=e2
  rw [← hfxl,g1] at e2'
  injection e2' with e2'
  obtain ⟨A,cp,w',r1,r2,r3,r4,r5,r6⟩:=append_run ho hc hargs hty (elemT_spec he) hi0 hz0 hz1 hzs hpos hby 0 (okE C E st.fs) v0 v2 ds1 ds2 hv0.symm e2'.symm hown1 hown2 hex hlen (Nat.zero_le _)
  refine wp_val r1 (hK { E with vals:=E.vals ++ [.slice A (ds1.length + ds2.length) cp],dats:=E.dats ++ [.lst z (ds1 ++ ds2)] } _ w' ⟨fun _ _ h=>app_get h,fun _ _ h=>h,fun _ _ h=>app_get h⟩ (hK2 A cp) ?_ ?_)
  ·subst hv
   show (E.vals ++ [_])[st.nv]?=_
   rw [← h.nv]
   simp
  ·subst hst
   exact h.appended hsub hne hex hvv r2 rfl r4 r3 r5 r6
 rcases ownOf_spec ho1 with ⟨rfl,rfl,rfl⟩ | ⟨m',f,rfl,rfl,hf,hfl,rfl,hfo⟩
 ·simp only [Option.some.injEq,SR.nd.injEq,Nd.app.injEq] at hr
  obtain ⟨⟨rfl,rfl,rfl⟩,rfl,rfl⟩:=hr
  obtain ⟨ds1,ds2,h1,h2,h3,h4⟩:=hw
  simp only at h1
  subst h1
  simp only [L.den,Option.some.injEq] at e1
  exact key (dropF m st.fs) (.slice none 0 0) [] ds2 e1 h2 (Own.nil _ _ _ _ _) h3 (fun f hf=>(dropF_mem hf).1) (fun f _ k _ e=>by cases e) (fun k _ e=>by cases e) (fun k e=>by cases e) h4 rfl rfl rfl
 ·simp only at hr
  split at hr
  case h_2=>cases hr
  rename_i hnm
  have hnm:m' ≠ m:=Nat.ne_of_beq_eq_false hnm
  simp only [Option.some.injEq,SR.nd.injEq,Nd.app.injEq] at hr
  obtain ⟨⟨rfl,rfl,rfl⟩,rfl,rfl⟩:=hr
  obtain ⟨ds1,ds2,h1,h2,h3,h4⟩:=hw
  simp only at h1
  obtain ⟨v0,d0,g1,g2,g3⟩:=h.fs f hf
  rw [hfo] at g3
  obtain ⟨ds,g4,hown,_⟩:=g3
  rw [h1] at g2
  injection g2 with g2
  rw [← g2] at g4
  injection g4 with _ g4
  subst g4
  have e1':E.vals[m']?=some (a.eval s):=e1
  rw [← hfl,g1] at e1'
  injection e1' with e1'
  have hoo:∀ k,v0.ownBlock=some k→ownAt E f k:=fun k hk=>⟨by rw [hfo];rfl,v0,g1,hk⟩
  refine key (dropF m (dropF m' st.fs)) v0 ds1 ds2 e1' h2 hown h3 (fun f hf=>(dropF_mem (dropF_mem hf).1).1) (fun f' hf' k hk e=>?_) (fun k hk e=>hk.2.2 f hf (hoo k e.symm)) (fun k e=>⟨(h.own_lt hf (hoo k e)).1,(h.own_lt hf (hoo k e)).2,h.own f hf k (hoo k e)⟩) h4 rfl rfl rfl
  obtain ⟨i1,_⟩:=dropF_mem hf'
  obtain ⟨i2,i3⟩:=dropF_mem i1
  exact i3 (by rw [← hfl];exact h.ownd f' i2 f hf k hk (hoo k e.symm))
end
end Go.Proofs.YtdmacgoeikjdbaaGreatDoor.Sx

/- Lists copied: by the shape of the code, whatever the types; the copy's -/
import Derived.Test.YtdmacgoeikjdbaaGreatDoorL35
set_option linter.unusedSimpArgs false
set_option linter.unusedVariables false
set_option maxHeartbeats 2000000
namespace Go.Proofs.YtdmacgoeikjdbaaGreatDoor
open Go.RowKit
theorem SepRow.snoc {w:World} {q z:Nat} {d:D} {c:List Value} {s a1 m b:Nat} (h1:s≤a1) (h2:a1≤m) (h3:m≤b) (hq:q<a1 ∨ m≤q) (hl:c.length=z) (hd:Sep w a1 m d c):∀ (ds:List D) (a:Nat) (xs:List Value),a≤s→xs.length=ds.length * z→SepRow w q a s z ds xs→SepRow w q a b z (ds ++ [d]) (xs ++ c)
 | [],a,xs,ha,hx,_=>by
  have:xs=[]:=List.eq_nil_of_length_eq_zero (by simpa using hx)
  subst this
  unfold SepRow
  exact ⟨a1,m,c,[],by omega,h2,h3,hq,by simp,hl,hd,by unfold SepRow;trivial⟩
 | d0 :: ds,a,xs,ha,hx,h=>by
  unfold SepRow at h
  obtain ⟨a0,m0,c1,c2,i1,i2,i3,ig,rfl,il,i4,i5⟩:=h
  rw [List.cons_append]
  unfold SepRow
  refine ⟨a0,m0,c1,c2 ++ c,i1,i2,by omega,ig,by simp,il,i4,SepRow.snoc h1 h2 h3 hq hl hd ds m0 c2 i3 ?_ i5⟩
  simp only [List.length_append,List.length_cons,Nat.add_mul] at hx
  omega
theorem SepRow.app {w:World} {q z:Nat} (r:List Value):∀ (ds:List D) (a b:Nat) (xs:List Value),SepRow w q a b z ds xs→SepRow w q a b z ds (xs ++ r)
 | [],_,_,_,_=>by unfold SepRow;trivial
 | d0 :: ds,a,b,xs,h=>by
  unfold SepRow at h ⊢
  obtain ⟨a0,m0,c1,c2,i1,i2,i3,ig,rfl,il,i4,i5⟩:=h
  exact ⟨a0,m0,c1,c2 ++ r,i1,i2,i3,ig,by simp,il,i4,SepRow.app r ds m0 b c2 i5⟩
theorem SepRow.other {w:World} {q q' z:Nat}:∀ (ds:List D) (a b:Nat) (xs:List Value),b≤q'→SepRow w q a b z ds xs→SepRow w q' a b z ds xs
 | [],_,_,_,_,_=>by unfold SepRow;trivial
 | d0 :: ds,a,b,xs,hq,h=>by
  unfold SepRow at h ⊢
  obtain ⟨a0,m0,c1,c2,i1,i2,i3,ig,hx,il,i4,i5⟩:=h
  exact ⟨a0,m0,c1,c2,i1,i2,i3,.inr (by omega),hx,il,i4,SepRow.other ds m0 b c2 hq i5⟩
def SepOwn (w:World) (B S:Nat) (e:TypeId) (z:Nat) (v:Value) (ds:List D):Prop:=
 ∃ xs:List Value,w.ownsRow B e z v ds.length xs∧xs.length=ds.length * z∧∀ q,v.ownBlock=some q→B≤q∧q<S∧SepRow w q B S z ds xs
theorem SepOwn.nil (w:World) (B S:Nat) (e:TypeId) (z:Nat):SepOwn w B S e z (.slice none 0 0) []:=⟨[],⟨by simp,.inl ⟨rfl,rfl⟩⟩,by simp,fun q h=>by cases h⟩
theorem SepOwn.keep {w w':World} {B S S':Nat} {e:TypeId} {z:Nat} {v:Value} {ds:List D} (h:SepOwn w B S e z v ds) (hS:S≤S') (hb:∀ q,B≤q→q<S→w'.heap[q]?=w.heap[q]?):SepOwn w' B S' e z v ds:=by
 obtain ⟨xs,h1,h2,h3⟩:=h
 refine ⟨xs,⟨h1.1,?_⟩,h2,fun q hq=>?_⟩
 ·rcases h1.2 with h4 | ⟨g,cap,cur,hv,hB,hh,hr⟩
  ·exact .inl h4
  ·obtain ⟨i1,i2,_⟩:=h3 g (by rw [hv];rfl)
   exact .inr ⟨g,cap,cur,hv,hB,(hb g i1 i2).trans hh,hr⟩
 ·obtain ⟨i1,i2,i3⟩:=h3 q hq
  exact ⟨i1,by omega,SepRow.mono z ds B S B S' _ (Nat.le_refl _) hS (SepRow.keep z ds B S _ (fun q h4 h5 _=>hb q h4 h5) i3)⟩
theorem SepOwn.sep {w:World} {B S:Nat} {e:TypeId} {z:Nat} {v:Value} {ds:List D} (h:SepOwn w B S e z v ds):Sep w B S (.lst z ds) [v]:=by
 obtain ⟨xs,h1,h2,h3⟩:=h
 unfold Sep
 rcases h1.2 with ⟨hv,hn⟩ | ⟨g,cap,cur,hv,hb,hh,hc,hm,hsz,ht⟩
 ·exact ⟨none,0,by rw [hv,hn],by omega,by simp,fun h=>absurd h (by omega)⟩
 ·refine ⟨some ⟨g,0,none⟩,cap,by rw [hv],hc,hm,fun _=>?_⟩
  obtain ⟨i1,i2,i3⟩:=h3 g (by rw [hv];rfl)
  refine ⟨g,cur,e,rfl,i1,i2,hh,?_⟩
  have h4:cur.toList=xs ++ cur.toList.drop (ds.length * z):=by
   rw [← ht,List.take_append_drop]
  rw [h4]
  exact SepRow.app _ ds B S xs i3
theorem append_sep {P:Program} {ops:Array Oper} {rest:List Oper} {o:Oper} {a:Act} {Q:Exit→Act→World→Prop} {w:World} (hgd:o.guard=none) (s x:Operand) (T e:TypeId) (z bytes:Nat) (zero:Value)
  (ho:o.op=.call { callee:=.builtin .append,args:=#[s,x],argTypes:=#[T,T] })
  (hT:P.underlying T=some (.slice e)) (hi:(P.info? e).map (fun i=>(i.zero,i.size,i.bytes))=some (some zero,z,bytes)) (hzs:zero.cells.size=z) (hsz:0<z) (hb:bytes≤1000)
  (B S S1:Nat) (v:Value) (ds:List D) (hs:a.eval s=v) (g:Nat) (hx:a.eval x=.slice (some ⟨g,0,none⟩) 1 1)
  (hown:SepOwn w B S e z v ds) (cs:List Value) (d:D) (hnew:BlkIs w g e cs.toArray) (hl:cs.length=z) (h1:∀ u ∈ cs,u.oneCell'=true)
  (hd:Sep w S S1 d cs) (hSS:S≤S1) (hS1:S1≤w.heap.size) (hlen:ds.length≤1000000000) (hB:B≤S)
  (h:∀ v' w',SepOwn w' B w'.heap.size e z v' (ds ++ [d])→Below B w w'→wpList P ops Q rest (a.put o.dst v') w') :
  wpList P ops Q (o :: rest) a w:=by
 obtain ⟨i0,hi0,hz0,hz1,hz2⟩:=info_parts hi
 obtain ⟨xs,hrow,hxl,hsep⟩:=hown
 have hmul:(ds.length + 1) * bytes≤140737488355328:=by
  have:=Nat.mul_le_mul (show ds.length + 1≤1000000001 by omega) hb
  omega
 obtain ⟨v',w',hrun,h2,h3,_,h5⟩:=run_append_own_at (P:=P) w B T o.type e i0 zero z bytes hT hi0 hz0 hz1 hz2 hzs hsz v ds.length xs hrow ⟨g,0,none⟩ 1 1 cs (by rw [hl];omega) (hnew.cells (by simp)) h1 (by unfold maxLen;omega) hmul (by omega)
 refine wpList_plain hgd fun _ hK=>?_
 unfold Oper.wp execOp
 simp only [ho,resolve,invoke,builtin,Sem.run_bind,Sem.run_pure,Result.andThen_ok,List.map_toArray,List.map_cons,List.map_nil,hs,hx,hrun]
 have hbl:Below B w w':=(Below.refl _ _).grown h3 (by omega) (own_block_ge hrow)
 have hkeep:∀ k,some k ≠ v.ownBlock→k<w.heap.size→w'.heap[k]?=w.heap[k]?:=fun k hk hlt=>h3.block k hlt hk
 refine hK _ _ (h v' w' ⟨xs ++ cs,by rw [List.length_append];exact h2,by rw [List.length_append,List.length_append,hxl,hl,Nat.add_mul];simp,fun q hq=>?_⟩ hbl)
 have hlt:q<w'.heap.size:=by
  rcases h2.2 with ⟨hv,_⟩ | ⟨g',cap,cur,hv,_,hh,_⟩
  ·rw [hv] at hq;cases hq
  ·rw [hv] at hq
   injection hq with hq
   subst hq
   exact lt_of_block hh
 have hBq:B≤q:=own_block_ge h2 q hq
 refine ⟨hBq,hlt,?_⟩
 have hnew2:Sep w' S S1 d cs:=Sep.keep d S S1 cs (fun k h6 h7=>hkeep k (fun e=>by have:=(hsep k e.symm).2.1;omega) (by omega)) hd
 have hfin:SepRow w' q B S z ds xs→(q<S ∨ S1≤q)→SepRow w' q B w'.heap.size z (ds ++ [d]) (xs ++ cs):=fun hr hq2=>SepRow.snoc (Nat.le_refl S) hSS (Nat.le_trans hS1 hbl.size) hq2 hl hnew2 ds B xs hB hxl hr
 by_cases hv:∃ p,v.ownBlock=some p
 ·obtain ⟨p,hp⟩:=hv
  obtain ⟨j1,j2,j3⟩:=hsep p hp
  have j4:SepRow w' p B S z ds xs:=SepRow.keep z ds B S xs (fun k h6 h7 h8=>hkeep k (fun e=>h8 (by rw [hp] at e;injection e)) (by omega)) j3
  rcases h5 with h5 | h5
  ·rw [h5,hp] at hq
   injection hq with hq
   subst hq
   exact hfin j4 (.inl j2)
  ·rw [h5] at hq
   injection hq with hq
   subst hq
   exact hfin (SepRow.other ds B S xs (by omega) j4) (.inr hS1)
 ·have hds:ds=[]:=by
   rcases hrow.2 with ⟨_,hn⟩ | ⟨g',cap,cur,hv',_⟩
   ·exact List.eq_nil_of_length_eq_zero hn
   ·exact absurd ⟨g',by rw [hv'];rfl⟩ hv
  subst hds
  rcases h5 with h5 | h5
  ·rw [h5] at hq
   exact absurd ⟨q,hq⟩ hv
  ·rw [h5] at hq
   injection hq with hq
   subst hq
   exact hfin (by unfold SepRow;trivial) (.inr hS1)
def copysCode (T E I:TypeId) (cal:FuncId) (p:Nat→String):Code:=
 ((Code.region 0 #[
   { dst:=some 2,op:=Op.assign (Operand.const (Value.slice none 0 0)),type:=T,pos:=p 0,after:=#[],guard:=none }] false).seq
  ((Code.region 1 #[
   { dst:=some 3,op:=Op.assign (Operand.const (Value.slice none 0 0)),type:=T,pos:=p 1,after:=#[],guard:=none }] false).seq
  (((Code.region 2 #[
   { dst:=some 4,op:=Op.assign (Operand.const (Value.int IntKind.i64 0)),type:=I,pos:=p 2,after:=#[],guard:=none }] false).seq
  (Code.block 0 (((Code.region 3 #[
   { dst:=some 5,op:=Op.move (Operand.tmp 4),type:=I,pos:=p 2,after:=#[],guard:=none },
   { dst:=some 6,op:=Op.move (Operand.tmp 0),type:=T,pos:=p 2,after:=#[],guard:=none },
   { dst:=some 7,op:=Op.call { callee:=Callee.builtin Builtin.len,args:=#[Operand.tmp 6],argTypes:=#[T] },type:=I,pos:=p 2,after:=#[{ on:=1,ground:=Ground.data }],guard:=none },
   { dst:=some 8,op:=Op.binOp BinOp.lss I (Operand.tmp 5) (Operand.tmp 7) I,type:=4,pos:=p 2,after:=#[{ on:=0,ground:=Ground.data },{ on:=2,ground:=Ground.data }],guard:=none }] false).seq
  (Code.cond (Operand.tmp 8) Code.skip (Code.exit 0))).seq
  ((Code.block 1 (Code.region 5 #[
   { dst:=some 11,op:=Op.move (Operand.tmp 3),type:=T,pos:=p 3,after:=#[],guard:=none },
   { dst:=some 12,op:=Op.move (Operand.tmp 0),type:=T,pos:=p 3,after:=#[],guard:=none },
   { dst:=some 13,op:=Op.move (Operand.tmp 4),type:=I,pos:=p 3,after:=#[],guard:=none },
   { dst:=some 14,op:=Op.indexAddr T (Operand.tmp 12) (Operand.tmp 13),type:=0,pos:=p 3,after:=#[{ on:=1,ground:=Ground.data },{ on:=2,ground:=Ground.data }],guard:=none },
   { dst:=some 15,op:=Op.load E (Operand.tmp 14),type:=E,pos:=p 3,after:=#[{ on:=3,ground:=Ground.data }],guard:=none },
   { dst:=some 16,op:=Op.call { callee:=Callee.value (Operand.func cal),args:=#[Operand.tmp 15],argTypes:=#[E] },type:=E,pos:=p 3,after:=#[{ on:=4,ground:=Ground.data }],guard:=none },
   { dst:=some 17,op:=Op.buildSlice T 1 #[(0,Operand.tmp 16)],type:=T,pos:=p 3,after:=#[{ on:=5,ground:=Ground.data }],guard:=none },
   { dst:=some 18,op:=Op.call { callee:=Callee.builtin Builtin.append,args:=#[Operand.tmp 11,Operand.tmp 17],argTypes:=#[T,T] },type:=T,pos:=p 3,after:=#[{ on:=0,ground:=Ground.data },{ on:=6,ground:=Ground.data },{ on:=5,ground:=Ground.chain }],guard:=none },
   { dst:=some 3,op:=Op.assign (Operand.tmp 18),type:=T,pos:=p 3,after:=#[{ on:=7,ground:=Ground.data },{ on:=7,ground:=Ground.chain },{ on:=0,ground:=Ground.phase },{ on:=1,ground:=Ground.phase },{ on:=2,ground:=Ground.phase },{ on:=3,ground:=Ground.phase },{ on:=4,ground:=Ground.phase },{ on:=5,ground:=Ground.phase },{ on:=6,ground:=Ground.phase },{ on:=7,ground:=Ground.phase }],guard:=none }] false)).seq
  (Code.region 4 #[
   { dst:=some 9,op:=Op.move (Operand.tmp 4),type:=I,pos:=p 2,after:=#[],guard:=none },
   { dst:=some 10,op:=Op.binOp BinOp.add I (Operand.tmp 9) (Operand.const (Value.int IntKind.i64 1)) I,type:=I,pos:=p 2,after:=#[{ on:=0,ground:=Ground.data }],guard:=none },
   { dst:=some 4,op:=Op.assign (Operand.tmp 10),type:=I,pos:=p 2,after:=#[{ on:=1,ground:=Ground.data },{ on:=0,ground:=Ground.phase },{ on:=1,ground:=Ground.phase }],guard:=none }] false))).loop)).seq
  ((Code.region 6 #[
   { dst:=some 19,op:=Op.move (Operand.tmp 3),type:=T,pos:=p 4,after:=#[],guard:=none },
   { dst:=some 2,op:=Op.assign (Operand.tmp 19),type:=T,pos:=p 4,after:=#[{ on:=0,ground:=Ground.data },{ on:=0,ground:=Ground.phase }],guard:=none }] false).seq Code.ret))))
def copylCode (T E I:TypeId) (p:Nat→String):Code:=
 ((Code.region 0 #[
   { dst:=some 2,op:=Op.assign (Operand.const (Value.slice none 0 0)),type:=T,pos:=p 0,after:=#[],guard:=none }] false).seq
  ((Code.region 1 #[
   { dst:=some 3,op:=Op.assign (Operand.const (Value.slice none 0 0)),type:=T,pos:=p 1,after:=#[],guard:=none }] false).seq
  (((Code.region 2 #[
   { dst:=some 4,op:=Op.assign (Operand.const (Value.int IntKind.i64 0)),type:=I,pos:=p 2,after:=#[],guard:=none }] false).seq
  (Code.block 0 (((Code.region 3 #[
   { dst:=some 5,op:=Op.move (Operand.tmp 4),type:=I,pos:=p 2,after:=#[],guard:=none },
   { dst:=some 6,op:=Op.move (Operand.tmp 0),type:=T,pos:=p 2,after:=#[],guard:=none },
   { dst:=some 7,op:=Op.call { callee:=Callee.builtin Builtin.len,args:=#[Operand.tmp 6],argTypes:=#[T] },type:=I,pos:=p 2,after:=#[{ on:=1,ground:=Ground.data }],guard:=none },
   { dst:=some 8,op:=Op.binOp BinOp.lss I (Operand.tmp 5) (Operand.tmp 7) I,type:=4,pos:=p 2,after:=#[{ on:=0,ground:=Ground.data },{ on:=2,ground:=Ground.data }],guard:=none }] false).seq
  (Code.cond (Operand.tmp 8) Code.skip (Code.exit 0))).seq
  ((Code.block 1 (Code.region 5 #[
   { dst:=some 11,op:=Op.move (Operand.tmp 3),type:=T,pos:=p 3,after:=#[],guard:=none },
   { dst:=some 12,op:=Op.move (Operand.tmp 0),type:=T,pos:=p 3,after:=#[],guard:=none },
   { dst:=some 13,op:=Op.move (Operand.tmp 4),type:=I,pos:=p 3,after:=#[],guard:=none },
   { dst:=some 14,op:=Op.indexAddr T (Operand.tmp 12) (Operand.tmp 13),type:=0,pos:=p 3,after:=#[{ on:=1,ground:=Ground.data },{ on:=2,ground:=Ground.data }],guard:=none },
   { dst:=some 15,op:=Op.load E (Operand.tmp 14),type:=E,pos:=p 3,after:=#[{ on:=3,ground:=Ground.data }],guard:=none },
   { dst:=some 16,op:=Op.buildSlice T 1 #[(0,Operand.tmp 15)],type:=T,pos:=p 3,after:=#[{ on:=4,ground:=Ground.data }],guard:=none },
   { dst:=some 17,op:=Op.call { callee:=Callee.builtin Builtin.append,args:=#[Operand.tmp 11,Operand.tmp 16],argTypes:=#[T,T] },type:=T,pos:=p 3,after:=#[{ on:=0,ground:=Ground.data },{ on:=5,ground:=Ground.data }],guard:=none },
   { dst:=some 3,op:=Op.assign (Operand.tmp 17),type:=T,pos:=p 3,after:=#[{ on:=6,ground:=Ground.data },{ on:=6,ground:=Ground.chain },{ on:=0,ground:=Ground.phase },{ on:=1,ground:=Ground.phase },{ on:=2,ground:=Ground.phase },{ on:=3,ground:=Ground.phase },{ on:=4,ground:=Ground.phase },{ on:=5,ground:=Ground.phase },{ on:=6,ground:=Ground.phase }],guard:=none }] false)).seq
  (Code.region 4 #[
   { dst:=some 9,op:=Op.move (Operand.tmp 4),type:=I,pos:=p 2,after:=#[],guard:=none },
   { dst:=some 10,op:=Op.binOp BinOp.add I (Operand.tmp 9) (Operand.const (Value.int IntKind.i64 1)) I,type:=I,pos:=p 2,after:=#[{ on:=0,ground:=Ground.data }],guard:=none },
   { dst:=some 4,op:=Op.assign (Operand.tmp 10),type:=I,pos:=p 2,after:=#[{ on:=1,ground:=Ground.data },{ on:=0,ground:=Ground.phase },{ on:=1,ground:=Ground.phase }],guard:=none }] false))).loop)).seq
  ((Code.region 6 #[
   { dst:=some 18,op:=Op.move (Operand.tmp 3),type:=T,pos:=p 4,after:=#[],guard:=none },
   { dst:=some 2,op:=Op.assign (Operand.tmp 18),type:=T,pos:=p 4,after:=#[{ on:=0,ground:=Ground.data },{ on:=0,ground:=Ground.phase }],guard:=none }] false).seq Code.ret))))
theorem wpList_build_one {P:Program} {ops:Array Oper} {rest:List Oper} {o:Oper} {a:Act} {w:World} {Q:Exit→Act→World→Prop} (hg:o.guard=none) (T e:TypeId) (x:Operand) (ho:o.op=.buildSlice T 1 #[(0,x)]) {z bytes:Nat} {zero:Value} (hT:P.underlying T=some (.slice e)) (hi:(P.info? e).map (fun i=>(i.zero,i.size,i.bytes))=some (some zero,z,bytes)) (hz:0<z) (hz2:z≤1000)
  (v:Value) (hx:a.eval x=v) (hv:v.cells.size=z) (h:wpList P ops Q rest (a.put o.dst (.slice (some ⟨w.heap.size,0,none⟩) 1 1)) (w.alloc (.cells v.cells e))):wpList P ops Q (o :: rest) a w:=by
 obtain ⟨i0,hi0,hz0,hz1,_⟩:=info_parts hi
 have h8:1 * i0.size≤1000:=by rw [hz1];omega
 refine wpList_buildSlice hg T e 1 #[(0,x)] ho v.cells i0 zero hT hi0 hz0 (by omega) (by rw [hz1];omega) ?_ h
 have e1:((#[(0,x)]:Array (Nat × Operand)).map fun (i,x)=>(i,a.eval x)).toList=(([v]:List Value).zipIdx 0).map fun x=>(x.2,x.1):=by simp [hx]
 rw [e1,hz1,Great.fill_whole hz [v] _ (fun u hu=>by simp only [List.mem_singleton] at hu;rw [hu];exact hv) (by simp)]
 simp
def CopyRet (w:World) (d:D) (e:Ending) (w':World):Prop:=∃ cs,e=.returned (.agg cs.toArray)∧Sep w' w.heap.size w'.heap.size d cs∧Below w.heap.size w w'
def CopyRets (w:World) (z:Nat) (ds:List D) (e:Ending) (w':World):Prop:=∃ A c,e=.returned (.slice A ds.length c)∧Sep w' w.heap.size w'.heap.size (.lst z ds) [.slice A ds.length c]∧Below w.heap.size w w'
mutual
theorem Sep.one {w:World}:∀ (d:D) (a b:Nat) (cs:List Value),Sep w a b d cs→∀ u ∈ cs,u.oneCell'=true
 | .int _ _,_,_,_,h=>by unfold Sep at h;subst h;simp [Value.oneCell']
 | .bool _,_,_,_,h=>by unfold Sep at h;subst h;simp [Value.oneCell']
 | .str _,_,_,_,h=>by unfold Sep at h;subst h;simp [Value.oneCell']
 | .st fs,a,b,cs,h=>by unfold Sep at h;exact SepAll.one fs a b cs h
 | .lst _ _,_,_,_,h=>by
  unfold Sep at h
  obtain ⟨A,c,rfl,_⟩:=h
  simp [Value.oneCell']
theorem SepAll.one {w:World}:∀ (ds:List D) (a b:Nat) (cs:List Value),SepAll w a b ds cs→∀ u ∈ cs,u.oneCell'=true
 | [],_,_,_,h=>by unfold SepAll at h;subst h;simp
 | d :: ds,a,b,cs,h=>by
  unfold SepAll at h
  obtain ⟨m,c1,c2,_,_,rfl,h3,h4⟩:=h
  intro u hu
  rcases List.mem_append.1 hu with hu | hu
  ·exact Sep.one d a m _ h3 u hu
  ·exact SepAll.one ds m b _ h4 u hu
end
theorem copys_any {P:Program} {f cal:FuncId} {fn:Func} {T E I:TypeId} {p:Nat→String} {z bytes:Nat} {zero:Value} {fs:Array Field}
  (hf:P.funcs[f]?=some fn) (hb:fn.body=some (copysCode T E I cal p)) (hn:fn.ntmps=20) (hr:fn.results=#[.tmp 2]) (hI:P.underlying I=some (.int .i64)) (hT:P.underlying T=some (.slice E)) (hE:P.underlying E=some (.struct fs)) (hi:(P.info? E).map (fun i=>(i.zero,i.size,i.bytes))=some (some zero,z,bytes)) (hzs:zero.cells.size=z) (hz:0<z) (hz2:z≤1000) (hby:bytes≤1000)
  (hcf:∀ vs W,Sem.run P (callFunc cal vs) W=.ok (.enter cal vs) W) (ds:List D) (hlen:ds.length≤1000000000) (hc:∀ i (h:i<ds.length) cs W,RepT W ds[i] cs→Calls P cal #[.agg cs.toArray] W (CopyRet W ds[i]))
  (hzl:∀ i (h:i<ds.length) W a b cs,Sep W a b ds[i] cs→cs.length=z)
  (A:Option Addr) (c:Nat) (w:World) (hp:RepT w (.lst z ds) [.slice A ds.length c]):Calls P f #[.slice A ds.length c] w (CopyRets w z ds):=by
 refine calls_of_wp hf hb ?_
 simp only [hn,List.size_toArray,List.length_cons,List.length_nil,Nat.reduceAdd,Nat.reduceSub,Array.replicate_succ,
   Array.replicate_zero,List.push_toArray,List.append_toArray,List.nil_append,List.cons_append]
 unfold copysCode
 have hsz:(P.info? E).map (·.size)=some z:=by
  cases hq:P.info? E with
  | none=>rw [hq] at hi;cases hi
  | some i=>rw [hq] at hi;injection hi with hi;injection hi with _ hi;injection hi with hi _;simp [hi]
 obtain ⟨i0,hi0,hz0⟩:=Option.map_eq_some_iff.1 hsz
 have hso:∀ W:World,Sem.run P (sizeOf E) W=.ok z W:=fun W=>by simp [sizeOf,typeInfo,hi0,hz0]
 obtain ⟨n,hn⟩:∃ n,Hid (ds.length=n):=⟨_,Lib.hid rfl⟩
 have hp:=Lib.hid hp
 have hi:=Lib.hid hi
 rw [hn.out] at hlen ⊢
 go_wp2_with fail
 go_loopw [3,4] (fun v i wr=>∃ k:Nat,k≤n∧i=.int .i64 k∧SepOwn wr w.heap.size wr.heap.size E z v (ds.take k)∧Below w.heap.size w wr) (fun _ i _=>n - (intOf i).toNat)
 case atStart=>exact ⟨0,by omega,rfl,SepOwn.nil _ _ _ _ _,Below.refl _ _⟩
 case round=>
  obtain ⟨k,hk,rfl,hown,hbw⟩:=hrel
  by_cases hlt:k<n
  ·have hkl:k<ds.length:=by rw [hn.out];exact hlt
   have hp':=Rep.below hp.out hbw
   rw [hn.out] at hp'
   obtain ⟨g,off,a,rfl,hg,hal,hra,hrg⟩:=Rep.range hp' k hkl
   have hc:=hc k hkl
   have hzl:=hzl k hkl
   have hts:ds.take (k + 1)=ds.take k ++ [ds[k]]:=(List.take_append_getElem hkl).symm
   have hts:=Lib.hid hts
   obtain ⟨d,hd⟩:∃ d,Hid (ds[k]=d):=⟨_,Lib.hid rfl⟩
   rw [hd.out] at hra hc hzl hts
   have HO:=Lib.hid hown
   have HB:=Lib.hid hbw
   have HR:=Lib.hid hrg
   have HA:=Lib.hid hra
   have HC:=Lib.hid hc
   clear hown hbw hrg hra hp' hc
   go_upto_region 5 with fail
   go_step
   iterate 4 (go_step;go_step;go_step)
   refine wpList_load_mid ?_ E (.tmp 14) ?_ g (off + k * z) ?_ a _ HR.out hE ?_ ?_ ?_
   ·rfl
   ·rfl
   ·rfl
   ·rfl
   ·rw [hsz,hal]
   simp only [Act.put,List.setIfInBounds_toArray,List.set_cons_zero,List.set_cons_succ]
   go_step
   refine wp_go_call cal _ _ rfl #[.agg a.toArray] rfl (hcf _) (HC.out _ _ HA.out) ?_
   rintro e w3 ⟨cs,rfl,hs3,hb3⟩
   refine ⟨_,rfl,?_⟩
   have hz3:=hb3.size
   have hbz:=HB.out.size
   have hl3:cs.length=z:=hzl _ _ _ _ hs3
   have ho3:=Sep.one _ _ _ _ hs3
   have HS3:=Lib.hid hs3
   have HO3:=Lib.hid (HO.out.keep (S':=wr.heap.size) (Nat.le_refl _) fun q _ h2=>hb3.block q h2)
   have HB3:=Lib.hid (HB.out.trans (hb3.mono hbz))
   clear HO HB HR HA HC hs3 hb3
   go_step
   refine wpList_build_one rfl T E (.tmp 16) rfl hT hi.out hz hz2 (.agg cs.toArray) rfl (by show cs.toArray.size=z;simpa using hl3) ?_
   simp only [Act.put,List.setIfInBounds_toArray,List.set_cons_zero,List.set_cons_succ]
   refine append_sep rfl (.tmp 11) (.tmp 17) T E z bytes zero rfl hT hi.out hzs hz hby w.heap.size wr.heap.size w3.heap.size _ (ds.take k) rfl w3.heap.size rfl (HO3.out.keep (Nat.le_refl _) fun q _ h2=>Below.heap_alloc _ _ _ (by omega)) cs d (BlkIs.fresh _ _ _) hl3 ho3 (Sep.keep _ _ _ _ (fun q _ h2=>Below.heap_alloc _ _ _ h2) HS3.out) hz3 (by simp) (by simp;omega) hbz (fun v' w' hS hB=>?_)
   have HS:=Lib.hid hS
   have HBf:=Lib.hid ((HB3.out.alloc (by omega) _).trans hB)
   clear hS hB HO3 HB3 HS3
   simp only [Act.put,List.setIfInBounds_toArray,List.set_cons_zero,List.set_cons_succ]
   go_wp2_with fail
   go_roundw
   case rel=>exact ⟨k + 1,by omega,by go_num,by rw [hts.out];exact HS.out,HBf.out⟩
   case measure=>simp [intOf];omega
  ·obtain rfl:k=n:=by omega
   go_wp2_with fail
   refine bodyPost_ret (results_tmp hr _ _ _) rfl ?_
   have h1:ds.take k=ds:=List.take_of_length_le (by rw [hn.out];omega)
   rw [h1] at hown
   have hs:=hown.sep
   obtain ⟨A',c',rfl,_⟩:=hs.len
   exact ⟨A',c',rfl,hs,hbw⟩
theorem copyInts_any {P:Program} {f:FuncId} {fn:Func} {T E I:TypeId} {p:Nat→String} {bytes:Nat} {zero:Value} {kd:IntKind}
  (hf:P.funcs[f]?=some fn) (hb:fn.body=some (copylCode T E I p)) (hn:fn.ntmps=19) (hr:fn.results=#[.tmp 2]) (hI:P.underlying I=some (.int .i64)) (hT:P.underlying T=some (.slice E)) (hE:P.underlying E=some (.int kd)) (hi:(P.info? E).map (fun i=>(i.zero,i.size,i.bytes))=some (some zero,1,bytes)) (hzs:zero.cells.size=1) (hby:bytes≤1000)
  (l:List Int) (hlen:l.length≤1000000000)
  (A:Option Addr) (c:Nat) (w:World) (hp:RepT w (.lst 1 (l.map (.int kd))) [.slice A l.length c]):Calls P f #[.slice A l.length c] w (CopyRets w 1 (l.map (.int kd))):=by
 refine calls_of_wp hf hb ?_
 simp only [hn,List.size_toArray,List.length_cons,List.length_nil,Nat.reduceAdd,Nat.reduceSub,Array.replicate_succ,
   Array.replicate_zero,List.push_toArray,List.append_toArray,List.nil_append,List.cons_append]
 unfold copylCode
 have hsz:(P.info? E).map (·.size)=some 1:=by
  cases hq:P.info? E with
  | none=>rw [hq] at hi;cases hi
  | some i=>rw [hq] at hi;injection hi with hi;injection hi with _ hi;injection hi with hi _;simp [hi]
 obtain ⟨i0,hi0,hz0⟩:=Option.map_eq_some_iff.1 hsz
 have hso:∀ W:World,Sem.run P (sizeOf E) W=.ok 1 W:=fun W=>by simp [sizeOf,typeInfo,hi0,hz0]
 have hag:∀ W:World,Sem.run P (isAgg E) W=.ok false W:=fun W=>by simp [isAgg,run_underlying hE]
 obtain ⟨n,hn⟩:∃ n,Hid (l.length=n):=⟨_,Lib.hid rfl⟩
 have hp:=Lib.hid hp
 have hi:=Lib.hid hi
 rw [hn.out] at hlen ⊢
 go_wp2_with fail
 go_loopw [3,4] (fun v i wr=>∃ k:Nat,k≤n∧i=.int .i64 k∧SepOwn wr w.heap.size wr.heap.size E 1 v ((l.take k).map (.int kd))∧Below w.heap.size w wr) (fun _ i _=>n - (intOf i).toNat)
 case atStart=>exact ⟨0,by omega,rfl,SepOwn.nil _ _ _ _ _,Below.refl _ _⟩
 case round=>
  obtain ⟨k,hk,rfl,hown,hbw⟩:=hrel
  by_cases hlt:k<n
  ·have hkl:k<l.length:=by rw [hn.out];exact hlt
   have hp':=Rep.below hp.out hbw
   rw [hn.out] at hp'
   obtain ⟨g,off,a,rfl,hg,hal,hra,hrg⟩:=Rep.range hp' k (by simpa using hkl)
   rw [List.getElem_map] at hra
   obtain rfl:=rep_intE hra
   have hts:(l.take (k + 1)).map (D.int kd)=(l.take k).map (D.int kd) ++ [.int kd l[k]]:=by
    rw [← List.take_append_getElem hkl,List.map_append]
    rfl
   have hts:=Lib.hid hts
   obtain ⟨m,hd⟩:∃ d,Hid (l[k]=d):=⟨_,Lib.hid rfl⟩
   rw [hd.out] at hrg hts
   have hck:=hrg 0 _ rfl
   simp only [Nat.mul_one,Nat.add_zero] at hck
   have HO:=Lib.hid hown
   have HB:=Lib.hid hbw
   have hbz:=hbw.size
   clear hown hbw hrg hra hp'
   go_upto_region 5 with fail
   go_step
   iterate 5 (go_step;go_step;go_step)
   refine wpList_build_one rfl T E (.tmp 15) rfl hT hi.out (by decide) (by decide) (.int kd m) rfl rfl ?_
   simp only [Act.put,List.setIfInBounds_toArray,List.set_cons_zero,List.set_cons_succ]
   refine append_sep rfl (.tmp 11) (.tmp 16) T E 1 bytes zero rfl hT hi.out hzs (by decide) hby w.heap.size _ _ _ ((l.take k).map (.int kd)) rfl _ rfl (HO.out.keep (Nat.le_refl _) fun q _ h2=>Below.heap_alloc _ _ _ h2) [.int kd m] (.int kd m) (BlkIs.fresh _ _ _) rfl (by simp [Value.oneCell']) (by unfold Sep;rfl) (Nat.le_refl _) (by simp) (by simp;omega) hbz (fun v' w' hS hB=>?_)
   have HS:=Lib.hid hS
   have HBf:=Lib.hid ((HB.out.alloc (by omega) _).trans hB)
   clear hS hB HO HB
   simp only [Act.put,List.setIfInBounds_toArray,List.set_cons_zero,List.set_cons_succ]
   go_wp2_with fail
   go_roundw
   case rel=>exact ⟨k + 1,by omega,by go_num,by rw [hts.out];exact HS.out,HBf.out⟩
   case measure=>simp [intOf];omega
  ·obtain rfl:k=n:=by omega
   go_wp2_with fail
   refine bodyPost_ret (results_tmp hr _ _ _) rfl ?_
   have h1:l.take k=l:=List.take_of_length_le (by rw [hn.out];omega)
   rw [h1] at hown
   have hs:=hown.sep
   obtain ⟨A',c',rfl,_⟩:=hs.len
   exact ⟨A',c',rfl,hs,hbw⟩
end Go.Proofs.YtdmacgoeikjdbaaGreatDoor

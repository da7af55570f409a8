/- Lists that are told alike: by the shape of the code, whatever the type -/
import Derived.Test.YtdmacgoeikjdbaaGreatDoorL03
import Derived.Test.YtdmacgoeikjdbaaGreatDoorL02
import Derived.BigQuiet
import Derived.Deep.QuietTactic
import Derived.Deep.CutBlock
import Derived.Outline
set_option linter.unusedSimpArgs false
set_option linter.unusedVariables false
set_option maxHeartbeats 2000000
namespace Go.Proofs.YtdmacgoeikjdbaaGreatDoor
open Go.RowKit
def TrueBelow (w:World) (e:Ending) (w':World):Prop:=e=.returned (.bool true)∧Below w.heap.size w w'
abbrev RepT (w:World) (d:D) (cs:List Value):Prop:=Rep w (fun _=>True) d cs
theorem Rep.range {w:World} {ok:Nat→Prop} {z:Nat} {xs:List D} {A:Option Addr} {n c:Nat} (h:Rep w ok (.lst z xs) [.slice A n c]) (k:Nat) (hk:k<xs.length) :
  ∃ (g off:Nat) (a:List Value),A=some ⟨g,off,none⟩∧g<w.heap.size∧a.length=z∧Rep w ok xs[k] a∧w.rangeAt g (off + k * z) a:=by
 obtain ⟨g,off,a,h1,_,h3,h4,h5,h6⟩:=h.at_ k hk
 refine ⟨g,off,a,h1,h3,h4,h5,fun j u hj=>?_⟩
 have hl:=(List.getElem?_eq_some_iff.1 hj).1
 rw [← hj,← h6 j (by omega)]
 congr 2
 omega
def eqsCode (T E I B:TypeId) (cal:FuncId) (p:Nat→String):Code:=
 ((Code.region 0 #[
   { dst:=some 4,op:=Op.assign (Operand.const (Value.bool false)),type:=B,pos:=p 0,after:=#[],guard:=none }] false).seq
  (((Code.region 1 #[
   { dst:=some 6,op:=Op.move (Operand.tmp 0),type:=T,pos:=p 1,after:=#[],guard:=none },
   { dst:=some 7,op:=Op.call { callee:=Callee.builtin Builtin.len,args:=#[Operand.tmp 6],argTypes:=#[T] },type:=I,pos:=p 1,after:=#[{ on:=0,ground:=Ground.data }],guard:=none },
   { dst:=some 8,op:=Op.move (Operand.tmp 1),type:=T,pos:=p 1,after:=#[],guard:=none },
   { dst:=some 9,op:=Op.call { callee:=Callee.builtin Builtin.len,args:=#[Operand.tmp 8],argTypes:=#[T] },type:=I,pos:=p 1,after:=#[{ on:=2,ground:=Ground.data }],guard:=none },
   { dst:=some 10,op:=Op.binOp BinOp.neq I (Operand.tmp 7) (Operand.tmp 9) I,type:=B,pos:=p 1,after:=#[{ on:=1,ground:=Ground.data },{ on:=3,ground:=Ground.data }],guard:=none }] false).seq
  (Code.cond (Operand.tmp 10) ((Code.region 2 #[
   { dst:=some 4,op:=Op.assign (Operand.const (Value.bool false)),type:=B,pos:=p 2,after:=#[],guard:=none }] false).seq Code.ret) Code.skip)).seq
  (((Code.region 3 #[
   { dst:=some 5,op:=Op.assign (Operand.const (Value.int IntKind.i64 0)),type:=I,pos:=p 3,after:=#[],guard:=none }] false).seq
  (Code.block 0 (((Code.region 4 #[
   { dst:=some 11,op:=Op.move (Operand.tmp 5),type:=I,pos:=p 3,after:=#[],guard:=none },
   { dst:=some 12,op:=Op.move (Operand.tmp 0),type:=T,pos:=p 3,after:=#[],guard:=none },
   { dst:=some 13,op:=Op.call { callee:=Callee.builtin Builtin.len,args:=#[Operand.tmp 12],argTypes:=#[T] },type:=I,pos:=p 3,after:=#[{ on:=1,ground:=Ground.data }],guard:=none },
   { dst:=some 14,op:=Op.binOp BinOp.lss I (Operand.tmp 11) (Operand.tmp 13) I,type:=B,pos:=p 3,after:=#[{ on:=0,ground:=Ground.data },{ on:=2,ground:=Ground.data }],guard:=none }] false).seq
  (Code.cond (Operand.tmp 14) Code.skip (Code.exit 0))).seq
  ((Code.block 1 ((Code.region 6 #[
   { dst:=some 17,op:=Op.move (Operand.tmp 0),type:=T,pos:=p 4,after:=#[],guard:=none },
   { dst:=some 18,op:=Op.move (Operand.tmp 5),type:=I,pos:=p 4,after:=#[],guard:=none },
   { dst:=some 19,op:=Op.indexAddr T (Operand.tmp 17) (Operand.tmp 18),type:=0,pos:=p 4,after:=#[{ on:=0,ground:=Ground.data },{ on:=1,ground:=Ground.data }],guard:=none },
   { dst:=some 20,op:=Op.load E (Operand.tmp 19),type:=E,pos:=p 4,after:=#[{ on:=2,ground:=Ground.data }],guard:=none },
   { dst:=some 21,op:=Op.move (Operand.tmp 1),type:=T,pos:=p 4,after:=#[],guard:=none },
   { dst:=some 22,op:=Op.move (Operand.tmp 5),type:=I,pos:=p 4,after:=#[],guard:=none },
   { dst:=some 23,op:=Op.indexAddr T (Operand.tmp 21) (Operand.tmp 22),type:=0,pos:=p 4,after:=#[{ on:=4,ground:=Ground.data },{ on:=5,ground:=Ground.data }],guard:=none },
   { dst:=some 24,op:=Op.load E (Operand.tmp 23),type:=E,pos:=p 4,after:=#[{ on:=6,ground:=Ground.data }],guard:=none },
   { dst:=some 25,op:=Op.call { callee:=Callee.value (Operand.func cal),args:=#[Operand.tmp 20,Operand.tmp 24],argTypes:=#[E,E] },type:=B,pos:=p 4,after:=#[{ on:=3,ground:=Ground.data },{ on:=7,ground:=Ground.data }],guard:=none },
   { dst:=some 26,op:=Op.unOp UnOp.not B (Operand.tmp 25),type:=B,pos:=p 4,after:=#[{ on:=8,ground:=Ground.data }],guard:=none }] true).seq
  (Code.cond (Operand.tmp 26) ((Code.region 7 #[
   { dst:=some 4,op:=Op.assign (Operand.const (Value.bool false)),type:=B,pos:=p 5,after:=#[],guard:=none }] false).seq Code.ret) Code.skip))).seq
  (Code.region 5 #[
   { dst:=some 15,op:=Op.move (Operand.tmp 5),type:=I,pos:=p 3,after:=#[],guard:=none },
   { dst:=some 16,op:=Op.binOp BinOp.add I (Operand.tmp 15) (Operand.const (Value.int IntKind.i64 1)) I,type:=I,pos:=p 3,after:=#[{ on:=0,ground:=Ground.data }],guard:=none },
   { dst:=some 5,op:=Op.assign (Operand.tmp 16),type:=I,pos:=p 3,after:=#[{ on:=1,ground:=Ground.data },{ on:=0,ground:=Ground.phase },{ on:=1,ground:=Ground.phase }],guard:=none }] false))).loop)).seq
  ((Code.region 8 #[
   { dst:=some 4,op:=Op.assign (Operand.const (Value.bool true)),type:=B,pos:=p 6,after:=#[],guard:=none }] false).seq Code.ret))))
theorem rep_le {w:World} {ok:Nat→Prop} {z:Nat} {xs:List D} {v:Value} (h:Rep w ok (.lst z xs) [v]):xs.length≤9223372036854775807:=by
 obtain ⟨A,c,_,h1,h2⟩:=h.len
 unfold maxLen at h2
 omega
theorem rangeAt.below {w w':World} {g off:Nat} {a:List Value} (h:w.rangeAt g off a) (hg:g<w.heap.size) (hb:Below w.heap.size w w'):w'.rangeAt g off a:=fun j u hj=>by
 rw [← h j u hj]
 exact World.cell?_of_block (w:=w) (hb.block g hg)
def TwoS (w:World) (g:Nat) (o:Nat) (a:List Value) (g':Nat) (o':Nat) (a':List Value) (d:D) (W:World):Prop:=W.rangeAt g o a∧RepT W d a∧W.rangeAt g' o' a'∧RepT W d a'∧Below w.heap.size w W∧g<W.heap.size∧g'<W.heap.size
theorem eqs_any {P:Program} {f cal:FuncId} {fn:Func} {T E I B:TypeId} {p:Nat→String} {z:Nat} {fs:Array Field} (hm:P.follows .mixedOrders=true)
  (hf:P.funcs[f]?=some fn) (hb:fn.body=some (eqsCode T E I B cal p)) (hn:fn.ntmps=27) (hr:fn.results=#[.tmp 4]) (hI:P.underlying I=some (.int .i64)) (hB:P.underlying B=some .bool) (hT:P.underlying T=some (.slice E)) (hE:P.underlying E=some (.struct fs)) (hsz:(P.info? E).map (·.size)=some z)
  (hcf:∀ vs W,Sem.run P (callFunc cal vs) W=.ok (.enter cal vs) W) (ds:List D) (hc:∀ i (h:i<ds.length) cs cs' W,RepT W ds[i] cs→RepT W ds[i] cs'→Calls P cal #[.agg cs.toArray,.agg cs'.toArray] W (TrueBelow W))
  (A A':Option Addr) (c c':Nat) (w:World) (hp:RepT w (.lst z ds) [.slice A ds.length c]) (hq:RepT w (.lst z ds) [.slice A' ds.length c']) :
  Calls P f #[.slice A ds.length c,.slice A' ds.length c'] w (TrueBelow w):=by
 refine calls_of_wp hf hb ?_
 simp only [hn,List.size_toArray,List.length_cons,List.length_nil,Nat.reduceAdd,Nat.reduceSub,Array.replicate_succ,
   Array.replicate_zero,List.push_toArray,List.append_toArray,List.nil_append,List.cons_append]
 have hlen:ds.length≤9223372036854775807:=rep_le hp
 unfold eqsCode
 obtain ⟨i0,hi,hz⟩:=Option.map_eq_some_iff.1 hsz
 obtain ⟨n,hn⟩:∃ n,Hid (ds.length=n):=⟨_,Lib.hid rfl⟩
 rw [hn.out] at hp hq hlen ⊢
 have hp:=Lib.hid hp
 have hq:=Lib.hid hq
 go_wp2_with fail
 go_loopw [5] (fun i wr=>∃ k:Nat,k≤n∧i=.int .i64 k∧Below w.heap.size w wr) (fun i _=>n - (intOf i).toNat)
 case atStart=>exact ⟨0,by omega,rfl,Below.refl _ _⟩
 case round=>
  obtain ⟨k,hk,rfl,hbw⟩:=hrel
  by_cases hlt:k<n
  ·have hkl:k<ds.length:=by rw [hn.out];exact hlt
   obtain ⟨g,off,a,rfl,hg,hal,hra,hrg⟩:=Rep.range (Rep.below hp.out hbw) k hkl
   obtain ⟨g',off',a',rfl,hg',hal',hra',hrg'⟩:=Rep.range (Rep.below hq.out hbw) k hkl
   have hc:=hc k hkl
   obtain ⟨d,hd⟩:∃ d,Hid (ds[k]=d):=⟨_,Lib.hid rfl⟩
   rw [hd.out] at hra hra' hc
   have HS:TwoS w g (off + k * z) a g' (off' + k * z) a' d wr:=⟨hrg,hra,hrg',hra',hbw,hg,hg'⟩
   have hso:∀ W:World,Sem.run P (sizeOf E) W=.ok z W:=fun W=>by simp [sizeOf,typeInfo,hi,hz]
   clear hrg hra hrg' hra'
   go_upto_region 6 with fail
   refine beginH (TwoS w g (off + k * z) a g' (off' + k * z) a' d) hm ?_ (fun HS=>?_)
   ·exact ⟨HS.1,Rep.drew HS.2.1,HS.2.2.1,Rep.drew HS.2.2.2.1,HS.2.2.2.2.1.drew,HS.2.2.2.2.2⟩
   refine takeH (i:=0) (d:=some 17) (v:=.slice (some ⟨g,off,none⟩) n c) (by kernel_rfl) rfl rfl rfl (fun _ _ _ h=>h) HS (fun W _=>by go_simp) ?_
   simp only [Act.put,List.setIfInBounds_toArray,List.set_cons_zero,List.set_cons_succ]
   refine takeH (i:=1) (d:=some 18) (v:=.int .i64 k) (by kernel_rfl) rfl rfl rfl (fun _ _ _ h=>h) HS (fun W _=>by go_simp) ?_
   simp only [Act.put,List.setIfInBounds_toArray,List.set_cons_zero,List.set_cons_succ]
   refine takeH (i:=2) (d:=some 19) (v:=.pointer (some ⟨g,off + k * z,none⟩)) (by kernel_rfl) rfl rfl rfl (fun _ _ _ h=>h) HS (fun W _=>by go_simp) ?_
   simp only [Act.put,List.setIfInBounds_toArray,List.set_cons_zero,List.set_cons_succ]
   refine takeH (i:=3) (d:=some 20) (v:=.agg a.toArray) (by kernel_rfl) rfl rfl rfl (fun _ _ _ h=>h) HS (fun W hS=>exec_load_mid rfl rfl hS.1 hE rfl (by rw [hsz,hal])) ?_
   simp only [Act.put,List.setIfInBounds_toArray,List.set_cons_zero,List.set_cons_succ]
   refine takeH (i:=4) (d:=some 21) (v:=.slice (some ⟨g',off',none⟩) n c') (by kernel_rfl) rfl rfl rfl (fun _ _ _ h=>h) HS (fun W _=>by go_simp) ?_
   simp only [Act.put,List.setIfInBounds_toArray,List.set_cons_zero,List.set_cons_succ]
   refine takeH (i:=5) (d:=some 22) (v:=.int .i64 k) (by kernel_rfl) rfl rfl rfl (fun _ _ _ h=>h) HS (fun W _=>by go_simp) ?_
   simp only [Act.put,List.setIfInBounds_toArray,List.set_cons_zero,List.set_cons_succ]
   refine takeH (i:=6) (d:=some 23) (v:=.pointer (some ⟨g',off' + k * z,none⟩)) (by kernel_rfl) rfl rfl rfl (fun _ _ _ h=>h) HS (fun W _=>by go_simp) ?_
   simp only [Act.put,List.setIfInBounds_toArray,List.set_cons_zero,List.set_cons_succ]
   refine takeH (i:=7) (d:=some 24) (v:=.agg a'.toArray) (by kernel_rfl) rfl rfl rfl (fun _ _ _ h=>h) HS (fun W hS=>exec_load_mid rfl rfl hS.2.2.1 hE rfl (by rw [hsz,hal'])) ?_
   simp only [Act.put,List.setIfInBounds_toArray,List.set_cons_zero,List.set_cons_succ]
   refine onlyH (i:=8) (d:=some 25) (by kernel_rfl) rfl rfl rfl (fun K' hK=>?_)
   refine wp_go_call cal _ _ rfl #[.agg a.toArray,.agg a'.toArray] rfl (hcf _) (hc _ _ _ HS.2.1 HS.2.2.2.1) ?_
   rintro e w3 ⟨rfl,hb3⟩
   have HS3:TwoS w g (off + k * z) a g' (off' + k * z) a' d w3:=by
    obtain ⟨h1,h2,h3,h4,h5,h6,h7⟩:=HS
    exact ⟨rangeAt.below h1 h6 hb3,Rep.below h2 hb3,rangeAt.below h3 h7 hb3,Rep.below h4 hb3,h5.trans (hb3.mono h5.size),Nat.lt_of_lt_of_le h6 hb3.size,Nat.lt_of_lt_of_le h7 hb3.size⟩
   refine ⟨_,rfl,hK.out _ _ HS3 (fun HS3=>?_)⟩
   simp only [Act.put,List.setIfInBounds_toArray,List.set_cons_zero,List.set_cons_succ]
   refine onlyH (i:=9) (d:=some 26) (by kernel_rfl) rfl rfl rfl (fun K' hK=>?_)
   refine wp_val (w':=w3) (v:=.bool false) (by go_simp) (hK.out _ _ HS3 (fun HS3=>?_))
   simp only [Act.put,List.setIfInBounds_toArray,List.set_cons_zero,List.set_cons_succ]
   refine wpAnyH_done (by kernel_rfl) ?_ _
   have hb4:=HS3.2.2.2.2.1
   clear HS HS3 hK hb3
   go_wp2_with fail
   go_roundw
   case rel=>exact ⟨k + 1,by omega,by go_num,hb4⟩
   case measure=>simp [intOf];omega
  ·obtain rfl:k=n:=by omega
   go_wp2_with fail
   refine bodyPost_ret (results_tmp hr _ _ _) rfl ?_
   exact ⟨rfl,hbw⟩
def eqlCode (T E I B:TypeId) (p:Nat→String):Code:=
 ((Code.region 0 #[
   { dst:=some 4,op:=Op.assign (Operand.const (Value.bool false)),type:=B,pos:=p 0,after:=#[],guard:=none }] false).seq
  (((Code.region 1 #[
   { dst:=some 6,op:=Op.move (Operand.tmp 0),type:=T,pos:=p 1,after:=#[],guard:=none },
   { dst:=some 7,op:=Op.call { callee:=Callee.builtin Builtin.len,args:=#[Operand.tmp 6],argTypes:=#[T] },type:=I,pos:=p 1,after:=#[{ on:=0,ground:=Ground.data }],guard:=none },
   { dst:=some 8,op:=Op.move (Operand.tmp 1),type:=T,pos:=p 1,after:=#[],guard:=none },
   { dst:=some 9,op:=Op.call { callee:=Callee.builtin Builtin.len,args:=#[Operand.tmp 8],argTypes:=#[T] },type:=I,pos:=p 1,after:=#[{ on:=2,ground:=Ground.data }],guard:=none },
   { dst:=some 10,op:=Op.binOp BinOp.neq I (Operand.tmp 7) (Operand.tmp 9) I,type:=B,pos:=p 1,after:=#[{ on:=1,ground:=Ground.data },{ on:=3,ground:=Ground.data }],guard:=none }] false).seq
  (Code.cond (Operand.tmp 10) ((Code.region 2 #[
   { dst:=some 4,op:=Op.assign (Operand.const (Value.bool false)),type:=B,pos:=p 2,after:=#[],guard:=none }] false).seq Code.ret) Code.skip)).seq
  (((Code.region 3 #[
   { dst:=some 5,op:=Op.assign (Operand.const (Value.int IntKind.i64 0)),type:=I,pos:=p 3,after:=#[],guard:=none }] false).seq
  (Code.block 0 (((Code.region 4 #[
   { dst:=some 11,op:=Op.move (Operand.tmp 5),type:=I,pos:=p 3,after:=#[],guard:=none },
   { dst:=some 12,op:=Op.move (Operand.tmp 0),type:=T,pos:=p 3,after:=#[],guard:=none },
   { dst:=some 13,op:=Op.call { callee:=Callee.builtin Builtin.len,args:=#[Operand.tmp 12],argTypes:=#[T] },type:=I,pos:=p 3,after:=#[{ on:=1,ground:=Ground.data }],guard:=none },
   { dst:=some 14,op:=Op.binOp BinOp.lss I (Operand.tmp 11) (Operand.tmp 13) I,type:=B,pos:=p 3,after:=#[{ on:=0,ground:=Ground.data },{ on:=2,ground:=Ground.data }],guard:=none }] false).seq
  (Code.cond (Operand.tmp 14) Code.skip (Code.exit 0))).seq
  ((Code.block 1 ((Code.region 6 #[
   { dst:=some 17,op:=Op.move (Operand.tmp 0),type:=T,pos:=p 4,after:=#[],guard:=none },
   { dst:=some 18,op:=Op.move (Operand.tmp 5),type:=I,pos:=p 4,after:=#[],guard:=none },
   { dst:=some 19,op:=Op.indexAddr T (Operand.tmp 17) (Operand.tmp 18),type:=0,pos:=p 4,after:=#[{ on:=0,ground:=Ground.data },{ on:=1,ground:=Ground.data }],guard:=none },
   { dst:=some 20,op:=Op.load E (Operand.tmp 19),type:=E,pos:=p 4,after:=#[{ on:=2,ground:=Ground.data }],guard:=none },
   { dst:=some 21,op:=Op.move (Operand.tmp 1),type:=T,pos:=p 4,after:=#[],guard:=none },
   { dst:=some 22,op:=Op.move (Operand.tmp 5),type:=I,pos:=p 4,after:=#[],guard:=none },
   { dst:=some 23,op:=Op.indexAddr T (Operand.tmp 21) (Operand.tmp 22),type:=0,pos:=p 4,after:=#[{ on:=4,ground:=Ground.data },{ on:=5,ground:=Ground.data }],guard:=none },
   { dst:=some 24,op:=Op.load E (Operand.tmp 23),type:=E,pos:=p 4,after:=#[{ on:=6,ground:=Ground.data }],guard:=none },
   { dst:=some 25,op:=Op.binOp BinOp.neq E (Operand.tmp 20) (Operand.tmp 24) E,type:=B,pos:=p 4,after:=#[{ on:=3,ground:=Ground.data },{ on:=7,ground:=Ground.data }],guard:=none }] true).seq
  (Code.cond (Operand.tmp 25) ((Code.region 7 #[
   { dst:=some 4,op:=Op.assign (Operand.const (Value.bool false)),type:=B,pos:=p 5,after:=#[],guard:=none }] false).seq Code.ret) Code.skip))).seq
  (Code.region 5 #[
   { dst:=some 15,op:=Op.move (Operand.tmp 5),type:=I,pos:=p 3,after:=#[],guard:=none },
   { dst:=some 16,op:=Op.binOp BinOp.add I (Operand.tmp 15) (Operand.const (Value.int IntKind.i64 1)) I,type:=I,pos:=p 3,after:=#[{ on:=0,ground:=Ground.data }],guard:=none },
   { dst:=some 5,op:=Op.assign (Operand.tmp 16),type:=I,pos:=p 3,after:=#[{ on:=1,ground:=Ground.data },{ on:=0,ground:=Ground.phase },{ on:=1,ground:=Ground.phase }],guard:=none }] false))).loop)).seq
  ((Code.region 8 #[
   { dst:=some 4,op:=Op.assign (Operand.const (Value.bool true)),type:=B,pos:=p 6,after:=#[],guard:=none }] false).seq Code.ret))))
theorem rep_intE {w:World} {ok:Nat→Prop} {k:IntKind} {n:Int} {a:List Value} (h:Rep w ok (.int k n) a):a=[.int k n]:=by unfold Rep at h;exact h
theorem eqInts_any {P:Program} {f:FuncId} {fn:Func} {T E I B:TypeId} {p:Nat→String} {kd:IntKind} (hm:P.follows .mixedOrders=true)
  (hf:P.funcs[f]?=some fn) (hb:fn.body=some (eqlCode T E I B p)) (hn:fn.ntmps=26) (hr:fn.results=#[.tmp 4]) (hI:P.underlying I=some (.int .i64)) (hT:P.underlying T=some (.slice E)) (hE:P.underlying E=some (.int kd)) (hsz:(P.info? E).map (·.size)=some 1)
  (l:List Int)
  (A A':Option Addr) (c c':Nat) (w:World) (hp:RepT w (.lst 1 (l.map (.int kd))) [.slice A l.length c]) (hq:RepT w (.lst 1 (l.map (.int kd))) [.slice A' l.length c']) :
  Calls P f #[.slice A l.length c,.slice A' l.length c'] w (TrueBelow w):=by
 refine calls_of_wp hf hb ?_
 simp only [hn,List.size_toArray,List.length_cons,List.length_nil,Nat.reduceAdd,Nat.reduceSub,Array.replicate_succ,
   Array.replicate_zero,List.push_toArray,List.append_toArray,List.nil_append,List.cons_append]
 have hlen:l.length≤9223372036854775807:=by simpa using rep_le (xs:=l.map (.int kd)) (by simpa using hp)
 unfold eqlCode
 obtain ⟨i0,hi,hz⟩:=Option.map_eq_some_iff.1 hsz
 obtain ⟨n,hn⟩:∃ n,Hid (l.length=n):=⟨_,Lib.hid rfl⟩
 rw [hn.out] at hp hq hlen ⊢
 have hp:=Lib.hid hp
 have hq:=Lib.hid hq
 have hso:∀ W:World,Sem.run P (sizeOf E) W=.ok 1 W:=fun W=>by simp [sizeOf,typeInfo,hi,hz]
 have hag:∀ W:World,Sem.run P (isAgg E) W=.ok false W:=fun W=>by simp [isAgg,run_underlying hE]
 go_wp2_with fail
 go_loopw [5] (fun i wr=>∃ k:Nat,k≤n∧i=.int .i64 k∧Below w.heap.size w wr) (fun i _=>n - (intOf i).toNat)
 case atStart=>exact ⟨0,by omega,rfl,Below.refl _ _⟩
 case round=>
  obtain ⟨k,hk,rfl,hbw⟩:=hrel
  by_cases hlt:k<n
  ·have hkl:k<l.length:=by rw [hn.out];exact hlt
   obtain ⟨g,off,a,rfl,hg,hal,hra,hrg⟩:=Rep.range (Rep.below hp.out hbw) k (by simpa using hkl)
   obtain ⟨g',off',a',rfl,hg',hal',hra',hrg'⟩:=Rep.range (Rep.below hq.out hbw) k (by simpa using hkl)
   rw [List.getElem_map] at hra hra'
   obtain rfl:=rep_intE hra
   obtain rfl:=rep_intE hra'
   obtain ⟨m,hd⟩:∃ d,Hid (l[k]=d):=⟨_,Lib.hid rfl⟩
   rw [hd.out] at hrg hrg'
   have HS:wr.cell? ⟨g,off + k,none⟩=some (.int kd m)∧wr.cell? ⟨g',off' + k,none⟩=some (.int kd m):=by
    have e1:=hrg 0 _ rfl
    have e2:=hrg' 0 _ rfl
    simp only [Nat.mul_one,Nat.add_zero] at e1 e2
    exact ⟨e1,e2⟩
   clear hrg hra hrg' hra'
   go_upto_region 6 with fail
   refine beginH (fun W=>W.cell? ⟨g,off + k,none⟩=some (.int kd m)∧W.cell? ⟨g',off' + k,none⟩=some (.int kd m)) hm HS (fun HS=>?_)
   refine takeH (i:=0) (d:=some 17) (v:=.slice (some ⟨g,off,none⟩) n c) (by kernel_rfl) rfl rfl rfl (fun _ _ _ h=>h) HS (fun W _=>by go_simp) ?_
   simp only [Act.put,List.setIfInBounds_toArray,List.set_cons_zero,List.set_cons_succ]
   refine takeH (i:=1) (d:=some 18) (v:=.int .i64 k) (by kernel_rfl) rfl rfl rfl (fun _ _ _ h=>h) HS (fun W _=>by go_simp) ?_
   simp only [Act.put,List.setIfInBounds_toArray,List.set_cons_zero,List.set_cons_succ]
   refine takeH (i:=2) (d:=some 19) (v:=.pointer (some ⟨g,off + k,none⟩)) (by kernel_rfl) rfl rfl rfl (fun _ _ _ h=>h) HS (fun W _=>by go_simp) ?_
   simp only [Act.put,List.setIfInBounds_toArray,List.set_cons_zero,List.set_cons_succ]
   refine takeH (i:=3) (d:=some 20) (v:=.int kd m) (by kernel_rfl) rfl rfl rfl (fun _ _ _ h=>h) HS (fun W hS=>by have h1:=hS.1;go_simp) ?_
   simp only [Act.put,List.setIfInBounds_toArray,List.set_cons_zero,List.set_cons_succ]
   refine takeH (i:=4) (d:=some 21) (v:=.slice (some ⟨g',off',none⟩) n c') (by kernel_rfl) rfl rfl rfl (fun _ _ _ h=>h) HS (fun W _=>by go_simp) ?_
   simp only [Act.put,List.setIfInBounds_toArray,List.set_cons_zero,List.set_cons_succ]
   refine takeH (i:=5) (d:=some 22) (v:=.int .i64 k) (by kernel_rfl) rfl rfl rfl (fun _ _ _ h=>h) HS (fun W _=>by go_simp) ?_
   simp only [Act.put,List.setIfInBounds_toArray,List.set_cons_zero,List.set_cons_succ]
   refine takeH (i:=6) (d:=some 23) (v:=.pointer (some ⟨g',off' + k,none⟩)) (by kernel_rfl) rfl rfl rfl (fun _ _ _ h=>h) HS (fun W _=>by go_simp) ?_
   simp only [Act.put,List.setIfInBounds_toArray,List.set_cons_zero,List.set_cons_succ]
   refine takeH (i:=7) (d:=some 24) (v:=.int kd m) (by kernel_rfl) rfl rfl rfl (fun _ _ _ h=>h) HS (fun W hS=>by have h1:=hS.2;go_simp) ?_
   simp only [Act.put,List.setIfInBounds_toArray,List.set_cons_zero,List.set_cons_succ]
   refine takeH (i:=8) (d:=some 25) (v:=.bool false) (by kernel_rfl) rfl rfl rfl (fun _ _ _ h=>h) HS (fun W hS=>by go_simp) ?_
   simp only [Act.put,List.setIfInBounds_toArray,List.set_cons_zero,List.set_cons_succ]
   refine wpAnyH_done (by kernel_rfl) ?_ _
   clear HS
   go_wp2_with fail
   go_roundw
   case rel=>exact ⟨k + 1,by omega,by go_num,hbw.drew⟩
   case measure=>simp [intOf];omega
  ·obtain rfl:k=n:=by omega
   go_wp2_with fail
   refine bodyPost_ret (results_tmp hr _ _ _) rfl ?_
   exact ⟨rfl,hbw⟩
end Go.Proofs.YtdmacgoeikjdbaaGreatDoor
